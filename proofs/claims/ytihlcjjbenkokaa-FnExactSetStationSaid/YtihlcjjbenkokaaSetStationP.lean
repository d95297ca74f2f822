import Derived.Test.YtihlcjjbenkokaaB
set_option linter.unusedVariables false
set_option linter.unusedSimpArgs false
set_option maxRecDepth 100000
set_option maxHeartbeats 4000000
namespace Go.Rf
open Go
noncomputable def zdq {R : Type} (a : Nat) (b : Nat) (k_ : Bool → Option R) : Option R := (br (fcmp BinOp.neq FloatKind.f64 a a) (br (fcmp BinOp.neq FloatKind.f64 a a) (k_ (fcmp BinOp.neq FloatKind.f64 b b)) (k_ Bool.false)) (br (fcmp BinOp.neq FloatKind.f64 b b) (br (fcmp BinOp.neq FloatKind.f64 a a) (k_ (fcmp BinOp.neq FloatKind.f64 b b)) (k_ Bool.false)) (br (fcmp BinOp.eql FloatKind.f64 a 0) (br (fcmp BinOp.eql FloatKind.f64 b 0) (k_ (beqB (fcmp BinOp.gtr FloatKind.f64 (fop BinOp.quo FloatKind.f64 4607182418800017408 a) 0) (fcmp BinOp.gtr FloatKind.f64 (fop BinOp.quo FloatKind.f64 4607182418800017408 b) 0))) (k_ (fcmp BinOp.eql FloatKind.f64 a b))) (k_ (fcmp BinOp.eql FloatKind.f64 a b)))))
noncomputable def zdy (a : Nat) (b : Nat) : Option (Bool) := zdq a b (fun c0_ => some c0_)
theorem zpn {R R' : Type} (o : Option R → Option R') (h0 : o none = none) (a : Nat) (b : Nat) (k_ : Bool → Option R) : zdq a b (fun c0_ => o (k_ c0_)) = o (zdq a b k_) := by
  unfold zdq
  repeat (first | refine grd_out h0 ?_ | refine br_out ?_ ?_ | rfl | exact h0.symm)
noncomputable def z9c (a : Nat) (b : Nat) : Bool := (zdy a b).isSome
noncomputable def z92 (a : Nat) (b : Nat) : Bool := ((zdy a b).getD default)
theorem z9v {a : Nat} {b : Nat} {r : Bool} (h : zdy a b = some r) : z9c a b = true ∧ z92 a b = r := by
  unfold z9c z92
  rw [h]
  exact ⟨rfl, rfl⟩
noncomputable def zfe {R : Type} (q2q : Nat) (q2x : Nat) (q2y : Nat) (k_ : Unit → Option R) : Option R := (k_ ())
noncomputable def znu (q2q : Nat) (q2x : Nat) (q2y : Nat) : Option (Unit) := zfe q2q q2x q2y (fun _ => some ())
theorem zpy {R R' : Type} (o : Option R → Option R') (h0 : o none = none) (q2q : Nat) (q2x : Nat) (q2y : Nat) (k_ : Unit → Option R) : zfe q2q q2x q2y (fun _ => o (k_ ())) = o (zfe q2q q2x q2y k_) := by
  unfold zfe
  repeat (first | refine grd_out h0 ?_ | refine br_out ?_ ?_ | rfl | exact h0.symm)
noncomputable def zdw (q2q : Nat) (q2x : Nat) (q2y : Nat) : Bool := (znu q2q q2x q2y).isSome
noncomputable def zdh {R : Type} (a_n : Nat) (a : List Nat) (q2l : Int) (k_ : Int → Option R) : Option R := (br (ltI (subI IntKind.i64 q2l (Int.ofNat a_n)) 0) (k_ (Int.negSucc 0)) (k_ (subI IntKind.i64 q2l (Int.ofNat a_n))))
noncomputable def zcz (a_n : Nat) (a : List Nat) (q2l : Int) : Option (Int) := zdh a_n a q2l (fun c0_ => some c0_)
theorem zph {R R' : Type} (o : Option R → Option R') (h0 : o none = none) (a_n : Nat) (a : List Nat) (q2l : Int) (k_ : Int → Option R) : zdh a_n a q2l (fun c0_ => o (k_ c0_)) = o (zdh a_n a q2l k_) := by
  unfold zdh
  repeat (first | refine grd_out h0 ?_ | refine br_out ?_ ?_ | rfl | exact h0.symm)
noncomputable def zd7 (a_n : Nat) (a : List Nat) (q2l : Int) : Bool := (zcz a_n a q2l).isSome
noncomputable def z5m (a_n : Nat) (a : List Nat) (q2l : Int) : Int := ((zcz a_n a q2l).getD default)
theorem zlo {a_n : Nat} {a : List Nat} {q2l : Int} {r : Int} (h : zcz a_n a q2l = some r) : zd7 a_n a q2l = true ∧ z5m a_n a q2l = r := by
  unfold zd7 z5m
  rw [h]
  exact ⟨rfl, rfl⟩
noncomputable def zh0 {R : Type} (x : Nat) (k_ : Bool → Option R) : Option R := (k_ (fcmp BinOp.eql FloatKind.f32 (fop BinOp.sub FloatKind.f32 x x) 0))
noncomputable def zhd (x : Nat) : Option (Bool) := zh0 x (fun c0_ => some c0_)
theorem zqg {R R' : Type} (o : Option R → Option R') (h0 : o none = none) (x : Nat) (k_ : Bool → Option R) : zh0 x (fun c0_ => o (k_ c0_)) = o (zh0 x k_) := by
  unfold zh0
  repeat (first | refine grd_out h0 ?_ | refine br_out ?_ ?_ | rfl | exact h0.symm)
noncomputable def z9x (x : Nat) : Bool := (zhd x).isSome
noncomputable def z9e (x : Nat) : Bool := ((zhd x).getD default)
theorem zfb {x : Nat} {r : Bool} (h : zhd x = some r) : z9x x = true ∧ z9e x = r := by
  unfold z9x z9e
  rw [h]
  exact ⟨rfl, rfl⟩
noncomputable def zfg {R : Type} (x : Nat) (k_ : Bool → Option R) : Option R := (k_ (fcmp BinOp.eql FloatKind.f32 (fop BinOp.sub FloatKind.f32 x x) 0))
noncomputable def zfd (x : Nat) : Option (Bool) := zfg x (fun c0_ => some c0_)
theorem zq8 {R R' : Type} (o : Option R → Option R') (h0 : o none = none) (x : Nat) (k_ : Bool → Option R) : zfg x (fun c0_ => o (k_ c0_)) = o (zfg x k_) := by
  unfold zfg
  repeat (first | refine grd_out h0 ?_ | refine br_out ?_ ?_ | rfl | exact h0.symm)
noncomputable def z7y (x : Nat) : Bool := (zfd x).isSome
noncomputable def z7n (x : Nat) : Bool := ((zfd x).getD default)
theorem zel {x : Nat} {r : Bool} (h : zfd x = some r) : z7y x = true ∧ z7n x = r := by
  unfold z7y z7n
  rw [h]
  exact ⟨rfl, rfl⟩
noncomputable def zkb {R : Type} (n_ : Int) (low : Int) (q34 : Int) (k_ : Bool → Option R) : Option R := (br (leI low n_) (k_ (leI n_ q34)) (k_ Bool.false))
noncomputable def zk5 (n_ : Int) (low : Int) (q34 : Int) : Option (Bool) := zkb n_ low q34 (fun c0_ => some c0_)
theorem zs7 {R R' : Type} (o : Option R → Option R') (h0 : o none = none) (n_ : Int) (low : Int) (q34 : Int) (k_ : Bool → Option R) : zkb n_ low q34 (fun c0_ => o (k_ c0_)) = o (zkb n_ low q34 k_) := by
  unfold zkb
  repeat (first | refine grd_out h0 ?_ | refine br_out ?_ ?_ | rfl | exact h0.symm)
noncomputable def zll (n_ : Int) (low : Int) (q34 : Int) : Bool := (zk5 n_ low q34).isSome
noncomputable def zl4 (n_ : Int) (low : Int) (q34 : Int) : Bool := ((zk5 n_ low q34).getD default)
theorem zqc {n_ : Int} {low : Int} {q34 : Int} {r : Bool} (h : zk5 n_ low q34 = some r) : zll n_ low q34 = true ∧ zl4 n_ low q34 = r := by
  unfold zll zl4
  rw [h]
  exact ⟨rfl, rfl⟩
noncomputable def zgl {R : Type} (q15 : Nat) (q1r : List Nat) (q1h : Nat) (q29 : List Nat) (q1g : Nat) (q28 : List Nat) (k_ : Nat → Nat → Nat → (List Nat) → (List Nat) → (List Nat) → Option R) : Option R := (grd (okA2 0 q15 4 (nF (pF q1r 0 (muN q15 1))) (nF []) 1) (grd (okA2 0 q1h 4 (nF (pF q29 0 (muN q1h 1))) (nF []) 1) (grd (okA2 0 q1g 4 (nF (pF q28 0 (muN q1g 1))) (nF []) 1) (k_ (adN 0 q15) (adN 0 q1h) (adN 0 q1g) (aF [] (pF q1r 0 (muN q15 1))) (aF [] (pF q29 0 (muN q1h 1))) (aF [] (pF q28 0 (muN q1g 1)))))))
noncomputable def z9k (q15 : Nat) (q1r : List Nat) (q1h : Nat) (q29 : List Nat) (q1g : Nat) (q28 : List Nat) : Option (Nat × Nat × Nat × (List Nat) × (List Nat) × (List Nat)) := zgl q15 q1r q1h q29 q1g q28 (fun c0_ c1_ c2_ c3_ c4_ c5_ => some (c0_, c1_, c2_, c3_, c4_, c5_))
theorem zrh {R R' : Type} (o : Option R → Option R') (h0 : o none = none) (q15 : Nat) (q1r : List Nat) (q1h : Nat) (q29 : List Nat) (q1g : Nat) (q28 : List Nat) (k_ : Nat → Nat → Nat → (List Nat) → (List Nat) → (List Nat) → Option R) : zgl q15 q1r q1h q29 q1g q28 (fun c0_ c1_ c2_ c3_ c4_ c5_ => o (k_ c0_ c1_ c2_ c3_ c4_ c5_)) = o (zgl q15 q1r q1h q29 q1g q28 k_) := by
  unfold zgl
  repeat (first | refine grd_out h0 ?_ | refine br_out ?_ ?_ | rfl | exact h0.symm)
noncomputable def zm8 (q15 : Nat) (q1r : List Nat) (q1h : Nat) (q29 : List Nat) (q1g : Nat) (q28 : List Nat) : Bool := (z9k q15 q1r q1h q29 q1g q28).isSome
noncomputable def zm1 (q15 : Nat) (q1r : List Nat) (q1h : Nat) (q29 : List Nat) (q1g : Nat) (q28 : List Nat) : Nat := ((z9k q15 q1r q1h q29 q1g q28).getD default).1
noncomputable def zly (q15 : Nat) (q1r : List Nat) (q1h : Nat) (q29 : List Nat) (q1g : Nat) (q28 : List Nat) : Nat := ((z9k q15 q1r q1h q29 q1g q28).getD default).2.1
noncomputable def zm0 (q15 : Nat) (q1r : List Nat) (q1h : Nat) (q29 : List Nat) (q1g : Nat) (q28 : List Nat) : Nat := ((z9k q15 q1r q1h q29 q1g q28).getD default).2.2.1
noncomputable def zlw (q15 : Nat) (q1r : List Nat) (q1h : Nat) (q29 : List Nat) (q1g : Nat) (q28 : List Nat) : List Nat := ((z9k q15 q1r q1h q29 q1g q28).getD default).2.2.2.1
noncomputable def zlx (q15 : Nat) (q1r : List Nat) (q1h : Nat) (q29 : List Nat) (q1g : Nat) (q28 : List Nat) : List Nat := ((z9k q15 q1r q1h q29 q1g q28).getD default).2.2.2.2.1
noncomputable def zlz (q15 : Nat) (q1r : List Nat) (q1h : Nat) (q29 : List Nat) (q1g : Nat) (q28 : List Nat) : List Nat := ((z9k q15 q1r q1h q29 q1g q28).getD default).2.2.2.2.2
theorem zsy {q15 : Nat} {q1r : List Nat} {q1h : Nat} {q29 : List Nat} {q1g : Nat} {q28 : List Nat} {r : Nat × Nat × Nat × (List Nat) × (List Nat) × (List Nat)} (h : z9k q15 q1r q1h q29 q1g q28 = some r) : zm8 q15 q1r q1h q29 q1g q28 = true ∧ zm1 q15 q1r q1h q29 q1g q28 = r.1 ∧ zly q15 q1r q1h q29 q1g q28 = r.2.1 ∧ zm0 q15 q1r q1h q29 q1g q28 = r.2.2.1 ∧ zlw q15 q1r q1h q29 q1g q28 = r.2.2.2.1 ∧ zlx q15 q1r q1h q29 q1g q28 = r.2.2.2.2.1 ∧ zlz q15 q1r q1h q29 q1g q28 = r.2.2.2.2.2 := by
  unfold zm8 zm1 zly zm0 zlw zlx zlz
  rw [h]
  exact ⟨rfl, rfl, rfl, rfl, rfl, rfl, rfl⟩
noncomputable def zgn {R : Type} (n_ : Int) (low : Int) (q34 : Int) (k_ : Bool → Option R) : Option R := (br (leI low n_) (k_ (leI n_ q34)) (k_ Bool.false))
noncomputable def zgo (n_ : Int) (low : Int) (q34 : Int) : Option (Bool) := zgn n_ low q34 (fun c0_ => some c0_)
theorem zrw {R R' : Type} (o : Option R → Option R') (h0 : o none = none) (n_ : Int) (low : Int) (q34 : Int) (k_ : Bool → Option R) : zgn n_ low q34 (fun c0_ => o (k_ c0_)) = o (zgn n_ low q34 k_) := by
  unfold zgn
  repeat (first | refine grd_out h0 ?_ | refine br_out ?_ ?_ | rfl | exact h0.symm)
noncomputable def zl6 (n_ : Int) (low : Int) (q34 : Int) : Bool := (zgo n_ low q34).isSome
noncomputable def zjv (n_ : Int) (low : Int) (q34 : Int) : Bool := ((zgo n_ low q34).getD default)
theorem zpf {n_ : Int} {low : Int} {q34 : Int} {r : Bool} (h : zgo n_ low q34 = some r) : zl6 n_ low q34 = true ∧ zjv n_ low q34 = r := by
  unfold zl6 zjv
  rw [h]
  exact ⟨rfl, rfl⟩
noncomputable def zd5 {R : Type} (a_n : Nat) (a : List Nat) (q2l : Int) (k_ : Int → Option R) : Option R := (br (ltI (subI IntKind.i64 q2l (Int.ofNat a_n)) 0) (k_ (Int.negSucc 0)) (k_ (subI IntKind.i64 q2l (Int.ofNat a_n))))
noncomputable def zde (a_n : Nat) (a : List Nat) (q2l : Int) : Option (Int) := zd5 a_n a q2l (fun c0_ => some c0_)
theorem zoy {R R' : Type} (o : Option R → Option R') (h0 : o none = none) (a_n : Nat) (a : List Nat) (q2l : Int) (k_ : Int → Option R) : zd5 a_n a q2l (fun c0_ => o (k_ c0_)) = o (zd5 a_n a q2l k_) := by
  unfold zd5
  repeat (first | refine grd_out h0 ?_ | refine br_out ?_ ?_ | rfl | exact h0.symm)
noncomputable def zjc (a_n : Nat) (a : List Nat) (q2l : Int) : Bool := (zde a_n a q2l).isSome
noncomputable def ze8 (a_n : Nat) (a : List Nat) (q2l : Int) : Int := ((zde a_n a q2l).getD default)
theorem zr1 {a_n : Nat} {a : List Nat} {q2l : Int} {r : Int} (h : zde a_n a q2l = some r) : zjc a_n a q2l = true ∧ ze8 a_n a q2l = r := by
  unfold zjc ze8
  rw [h]
  exact ⟨rfl, rfl⟩
noncomputable def zei {R : Type} (x : Nat) (low : Nat) (q34 : Nat) (k_ : Bool → Option R) : Option R := (br (fcmp BinOp.geq FloatKind.f32 x low) (k_ (fcmp BinOp.leq FloatKind.f32 x q34)) (k_ Bool.false))
noncomputable def zeh (x : Nat) (low : Nat) (q34 : Nat) : Option (Bool) := zei x low q34 (fun c0_ => some c0_)
theorem zqn {R R' : Type} (o : Option R → Option R') (h0 : o none = none) (x : Nat) (low : Nat) (q34 : Nat) (k_ : Bool → Option R) : zei x low q34 (fun c0_ => o (k_ c0_)) = o (zei x low q34 k_) := by
  unfold zei
  repeat (first | refine grd_out h0 ?_ | refine br_out ?_ ?_ | rfl | exact h0.symm)
noncomputable def zle (x : Nat) (low : Nat) (q34 : Nat) : Bool := (zeh x low q34).isSome
noncomputable def zl2 (x : Nat) (low : Nat) (q34 : Nat) : Bool := ((zeh x low q34).getD default)
theorem zs3 {x : Nat} {low : Nat} {q34 : Nat} {r : Bool} (h : zeh x low q34 = some r) : zle x low q34 = true ∧ zl2 x low q34 = r := by
  unfold zle zl2
  rw [h]
  exact ⟨rfl, rfl⟩
noncomputable def z9b {R : Type} (s_n : Nat) (s : List Nat) (k_ : Nat → (List Nat) → Option R) : Option R := (unk (okZ s_n) (k_ 0 []) (grd (okA2 0 s_n 4 (nF (pF s 0 (muN s_n 1))) (nF []) 1) (k_ (adN 0 s_n) (aF [] (pF s 0 (muN s_n 1))))))
noncomputable def z8b (s_n : Nat) (s : List Nat) : Option (Nat × (List Nat)) := z9b s_n s (fun c0_ c1_ => some (c0_, c1_))
theorem zmp {R R' : Type} (o : Option R → Option R') (h0 : o none = none) (hi : ∀ a b, o a = o b → a = b) (s_n : Nat) (s : List Nat) (k_ : Nat → (List Nat) → Option R) : z9b s_n s (fun c0_ c1_ => o (k_ c0_ c1_)) = o (z9b s_n s k_) := by
  unfold z9b
  repeat (first | refine unk_out h0 hi ?_ ?_ | refine grd_out h0 ?_ | refine br_out ?_ ?_ | rfl | exact h0.symm)
noncomputable def z9a (s_n : Nat) (s : List Nat) : Bool := (z8b s_n s).isSome
noncomputable def z95 (s_n : Nat) (s : List Nat) : Nat := ((z8b s_n s).getD default).1
noncomputable def z96 (s_n : Nat) (s : List Nat) : List Nat := ((z8b s_n s).getD default).2
theorem zf9 {s_n : Nat} {s : List Nat} {r : Nat × (List Nat)} (h : z8b s_n s = some r) : z9a s_n s = true ∧ z95 s_n s = r.1 ∧ z96 s_n s = r.2 := by
  unfold z9a z95 z96
  rw [h]
  exact ⟨rfl, rfl, rfl⟩
noncomputable def z5n {R : Type} (s_n : Nat) (s : List Nat) (k_ : Nat → (List Nat) → Option R) : Option R := (unk (okZ s_n) (k_ 0 []) (grd (okA2 0 s_n 12 (nF (pF s 0 (muN s_n 3))) (nF []) 3) (k_ (adN 0 s_n) (aF [] (pF s 0 (muN s_n 3))))))
noncomputable def z55 (s_n : Nat) (s : List Nat) : Option (Nat × (List Nat)) := z5n s_n s (fun c0_ c1_ => some (c0_, c1_))
theorem zhn {R R' : Type} (o : Option R → Option R') (h0 : o none = none) (hi : ∀ a b, o a = o b → a = b) (s_n : Nat) (s : List Nat) (k_ : Nat → (List Nat) → Option R) : z5n s_n s (fun c0_ c1_ => o (k_ c0_ c1_)) = o (z5n s_n s k_) := by
  unfold z5n
  repeat (first | refine unk_out h0 hi ?_ ?_ | refine grd_out h0 ?_ | refine br_out ?_ ?_ | rfl | exact h0.symm)
noncomputable def z7i (s_n : Nat) (s : List Nat) : Bool := (z55 s_n s).isSome
noncomputable def z7a (s_n : Nat) (s : List Nat) : Nat := ((z55 s_n s).getD default).1
noncomputable def z7f (s_n : Nat) (s : List Nat) : List Nat := ((z55 s_n s).getD default).2
theorem zk3 {s_n : Nat} {s : List Nat} {r : Nat × (List Nat)} (h : z55 s_n s = some r) : z7i s_n s = true ∧ z7a s_n s = r.1 ∧ z7f s_n s = r.2 := by
  unfold z7i z7a z7f
  rw [h]
  exact ⟨rfl, rfl, rfl⟩
noncomputable def zdt {R : Type} (q0w : Nat) (q10 : List Nat) (q0y : Nat) (q18 : List Nat) (q0z : Nat) (q1a : List Nat) (q2l : Int) (k_ : Int → Option R) : Option R := (grd (zd7 q0w (pF q10 0 (muN q0w 1)) q2l) (br (ltI (z5m q0w (pF q10 0 (muN q0w 1)) q2l) 0) (k_ (Int.negSucc 0)) (grd (zd7 q0y (pF q18 0 (muN q0y 1)) (z5m q0w (pF q10 0 (muN q0w 1)) q2l)) (br (ltI (z5m q0y (pF q18 0 (muN q0y 1)) (z5m q0w (pF q10 0 (muN q0w 1)) q2l)) 0) (k_ (Int.negSucc 0)) (grd (zd7 q0z (pF q1a 0 (muN q0z 1)) (z5m q0y (pF q18 0 (muN q0y 1)) (z5m q0w (pF q10 0 (muN q0w 1)) q2l))) (br (ltI (z5m q0z (pF q1a 0 (muN q0z 1)) (z5m q0y (pF q18 0 (muN q0y 1)) (z5m q0w (pF q10 0 (muN q0w 1)) q2l))) 0) (k_ (Int.negSucc 0)) (k_ (z5m q0z (pF q1a 0 (muN q0z 1)) (z5m q0y (pF q18 0 (muN q0y 1)) (z5m q0w (pF q10 0 (muN q0w 1)) q2l))))))))))
noncomputable def zdu (q0w : Nat) (q10 : List Nat) (q0y : Nat) (q18 : List Nat) (q0z : Nat) (q1a : List Nat) (q2l : Int) : Option (Int) := zdt q0w q10 q0y q18 q0z q1a q2l (fun c0_ => some c0_)
theorem zpm {R R' : Type} (o : Option R → Option R') (h0 : o none = none) (q0w : Nat) (q10 : List Nat) (q0y : Nat) (q18 : List Nat) (q0z : Nat) (q1a : List Nat) (q2l : Int) (k_ : Int → Option R) : zdt q0w q10 q0y q18 q0z q1a q2l (fun c0_ => o (k_ c0_)) = o (zdt q0w q10 q0y q18 q0z q1a q2l k_) := by
  unfold zdt
  repeat (first | refine grd_out h0 ?_ | refine br_out ?_ ?_ | rfl | exact h0.symm)
noncomputable def zks (q0w : Nat) (q10 : List Nat) (q0y : Nat) (q18 : List Nat) (q0z : Nat) (q1a : List Nat) (q2l : Int) : Bool := (zdu q0w q10 q0y q18 q0z q1a q2l).isSome
noncomputable def zaj (q0w : Nat) (q10 : List Nat) (q0y : Nat) (q18 : List Nat) (q0z : Nat) (q1a : List Nat) (q2l : Int) : Int := ((zdu q0w q10 q0y q18 q0z q1a q2l).getD default)
theorem zrv {q0w : Nat} {q10 : List Nat} {q0y : Nat} {q18 : List Nat} {q0z : Nat} {q1a : List Nat} {q2l : Int} {r : Int} (h : zdu q0w q10 q0y q18 q0z q1a q2l = some r) : zks q0w q10 q0y q18 q0z q1a q2l = true ∧ zaj q0w q10 q0y q18 q0z q1a q2l = r := by
  unfold zks zaj
  rw [h]
  exact ⟨rfl, rfl⟩
noncomputable def zc1 {R : Type} (q15 : Nat) (q1r : List Nat) (q1h : Nat) (q29 : List Nat) (q1g : Nat) (q28 : List Nat) (k_ : Nat → Nat → Nat → (List Nat) → (List Nat) → (List Nat) → Option R) : Option R := (grd (z9a q15 (pF q1r 0 (muN q15 1))) (grd (z9a q1h (pF q29 0 (muN q1h 1))) (grd (z9a q1g (pF q28 0 (muN q1g 1))) (k_ (z95 q15 (pF q1r 0 (muN q15 1))) (z95 q1h (pF q29 0 (muN q1h 1))) (z95 q1g (pF q28 0 (muN q1g 1))) (z96 q15 (pF q1r 0 (muN q15 1))) (z96 q1h (pF q29 0 (muN q1h 1))) (z96 q1g (pF q28 0 (muN q1g 1)))))))
noncomputable def z6w (q15 : Nat) (q1r : List Nat) (q1h : Nat) (q29 : List Nat) (q1g : Nat) (q28 : List Nat) : Option (Nat × Nat × Nat × (List Nat) × (List Nat) × (List Nat)) := zc1 q15 q1r q1h q29 q1g q28 (fun c0_ c1_ c2_ c3_ c4_ c5_ => some (c0_, c1_, c2_, c3_, c4_, c5_))
theorem zoe {R R' : Type} (o : Option R → Option R') (h0 : o none = none) (q15 : Nat) (q1r : List Nat) (q1h : Nat) (q29 : List Nat) (q1g : Nat) (q28 : List Nat) (k_ : Nat → Nat → Nat → (List Nat) → (List Nat) → (List Nat) → Option R) : zc1 q15 q1r q1h q29 q1g q28 (fun c0_ c1_ c2_ c3_ c4_ c5_ => o (k_ c0_ c1_ c2_ c3_ c4_ c5_)) = o (zc1 q15 q1r q1h q29 q1g q28 k_) := by
  unfold zc1
  repeat (first | refine grd_out h0 ?_ | refine br_out ?_ ?_ | rfl | exact h0.symm)
noncomputable def zi1 (q15 : Nat) (q1r : List Nat) (q1h : Nat) (q29 : List Nat) (q1g : Nat) (q28 : List Nat) : Bool := (z6w q15 q1r q1h q29 q1g q28).isSome
noncomputable def zfu (q15 : Nat) (q1r : List Nat) (q1h : Nat) (q29 : List Nat) (q1g : Nat) (q28 : List Nat) : Nat := ((z6w q15 q1r q1h q29 q1g q28).getD default).1
noncomputable def zfq (q15 : Nat) (q1r : List Nat) (q1h : Nat) (q29 : List Nat) (q1g : Nat) (q28 : List Nat) : Nat := ((z6w q15 q1r q1h q29 q1g q28).getD default).2.1
noncomputable def zfs (q15 : Nat) (q1r : List Nat) (q1h : Nat) (q29 : List Nat) (q1g : Nat) (q28 : List Nat) : Nat := ((z6w q15 q1r q1h q29 q1g q28).getD default).2.2.1
noncomputable def zfw (q15 : Nat) (q1r : List Nat) (q1h : Nat) (q29 : List Nat) (q1g : Nat) (q28 : List Nat) : List Nat := ((z6w q15 q1r q1h q29 q1g q28).getD default).2.2.2.1
noncomputable def zfo (q15 : Nat) (q1r : List Nat) (q1h : Nat) (q29 : List Nat) (q1g : Nat) (q28 : List Nat) : List Nat := ((z6w q15 q1r q1h q29 q1g q28).getD default).2.2.2.2.1
noncomputable def zfp (q15 : Nat) (q1r : List Nat) (q1h : Nat) (q29 : List Nat) (q1g : Nat) (q28 : List Nat) : List Nat := ((z6w q15 q1r q1h q29 q1g q28).getD default).2.2.2.2.2
theorem zqh {q15 : Nat} {q1r : List Nat} {q1h : Nat} {q29 : List Nat} {q1g : Nat} {q28 : List Nat} {r : Nat × Nat × Nat × (List Nat) × (List Nat) × (List Nat)} (h : z6w q15 q1r q1h q29 q1g q28 = some r) : zi1 q15 q1r q1h q29 q1g q28 = true ∧ zfu q15 q1r q1h q29 q1g q28 = r.1 ∧ zfq q15 q1r q1h q29 q1g q28 = r.2.1 ∧ zfs q15 q1r q1h q29 q1g q28 = r.2.2.1 ∧ zfw q15 q1r q1h q29 q1g q28 = r.2.2.2.1 ∧ zfo q15 q1r q1h q29 q1g q28 = r.2.2.2.2.1 ∧ zfp q15 q1r q1h q29 q1g q28 = r.2.2.2.2.2 := by
  unfold zi1 zfu zfq zfs zfw zfo zfp
  rw [h]
  exact ⟨rfl, rfl, rfl, rfl, rfl, rfl, rfl⟩
noncomputable def z9r {R : Type} (q08 : Nat) (q0e : List Nat) (q09 : Nat) (q0g : List Nat) (q0a : Nat) (q0f : List Nat) (q0h : Nat) (q0l : List Nat) (q0p : Int) (q0u : Nat) (q0t : Nat) (i : Int) (k_ : Bool → Option R) : Option R := (grd (zl6 i 0 (subI IntKind.i64 (Int.ofNat q0h) 1)) (k_ (zjv i 0 (subI IntKind.i64 (Int.ofNat q0h) 1))))
noncomputable def z9q (q08 : Nat) (q0e : List Nat) (q09 : Nat) (q0g : List Nat) (q0a : Nat) (q0f : List Nat) (q0h : Nat) (q0l : List Nat) (q0p : Int) (q0u : Nat) (q0t : Nat) (i : Int) : Option (Bool) := z9r q08 q0e q09 q0g q0a q0f q0h q0l q0p q0u q0t i (fun c0_ => some c0_)
theorem zmt {R R' : Type} (o : Option R → Option R') (h0 : o none = none) (q08 : Nat) (q0e : List Nat) (q09 : Nat) (q0g : List Nat) (q0a : Nat) (q0f : List Nat) (q0h : Nat) (q0l : List Nat) (q0p : Int) (q0u : Nat) (q0t : Nat) (i : Int) (k_ : Bool → Option R) : z9r q08 q0e q09 q0g q0a q0f q0h q0l q0p q0u q0t i (fun c0_ => o (k_ c0_)) = o (z9r q08 q0e q09 q0g q0a q0f q0h q0l q0p q0u q0t i k_) := by
  unfold z9r
  repeat (first | refine grd_out h0 ?_ | refine br_out ?_ ?_ | rfl | exact h0.symm)
noncomputable def ze6 (q08 : Nat) (q0e : List Nat) (q09 : Nat) (q0g : List Nat) (q0a : Nat) (q0f : List Nat) (q0h : Nat) (q0l : List Nat) (q0p : Int) (q0u : Nat) (q0t : Nat) (i : Int) : Bool := (z9q q08 q0e q09 q0g q0a q0f q0h q0l q0p q0u q0t i).isSome
noncomputable def zdl (q08 : Nat) (q0e : List Nat) (q09 : Nat) (q0g : List Nat) (q0a : Nat) (q0f : List Nat) (q0h : Nat) (q0l : List Nat) (q0p : Int) (q0u : Nat) (q0t : Nat) (i : Int) : Bool := ((z9q q08 q0e q09 q0g q0a q0f q0h q0l q0p q0u q0t i).getD default)
theorem zo3 {q08 : Nat} {q0e : List Nat} {q09 : Nat} {q0g : List Nat} {q0a : Nat} {q0f : List Nat} {q0h : Nat} {q0l : List Nat} {q0p : Int} {q0u : Nat} {q0t : Nat} {i : Int} {r : Bool} (h : z9q q08 q0e q09 q0g q0a q0f q0h q0l q0p q0u q0t i = some r) : ze6 q08 q0e q09 q0g q0a q0f q0h q0l q0p q0u q0t i = true ∧ zdl q08 q0e q09 q0g q0a q0f q0h q0l q0p q0u q0t i = r := by
  unfold ze6 zdl
  rw [h]
  exact ⟨rfl, rfl⟩
noncomputable def zgm {R : Type} (q08 : Nat) (q0e : List Nat) (q09 : Nat) (q0g : List Nat) (q0a : Nat) (q0f : List Nat) (q0h : Nat) (q0l : List Nat) (q0p : Int) (q0u : Nat) (q0t : Nat) (k_ : Nat → Nat → Nat → Nat → (List Nat) → (List Nat) → (List Nat) → (List Nat) → Option R) : Option R := (grd (zm8 q08 (pF q0e 0 (muN q08 1)) q09 (pF q0g 0 (muN q09 1)) q0a (pF q0f 0 (muN q0a 1))) (grd (okA2 0 q0h 12 (nF (pF q0l 0 (muN q0h 3))) (nF []) 3) (k_ (zm1 q08 (pF q0e 0 (muN q08 1)) q09 (pF q0g 0 (muN q09 1)) q0a (pF q0f 0 (muN q0a 1))) (zly q08 (pF q0e 0 (muN q08 1)) q09 (pF q0g 0 (muN q09 1)) q0a (pF q0f 0 (muN q0a 1))) (zm0 q08 (pF q0e 0 (muN q08 1)) q09 (pF q0g 0 (muN q09 1)) q0a (pF q0f 0 (muN q0a 1))) (adN 0 q0h) (zlw q08 (pF q0e 0 (muN q08 1)) q09 (pF q0g 0 (muN q09 1)) q0a (pF q0f 0 (muN q0a 1))) (zlx q08 (pF q0e 0 (muN q08 1)) q09 (pF q0g 0 (muN q09 1)) q0a (pF q0f 0 (muN q0a 1))) (zlz q08 (pF q0e 0 (muN q08 1)) q09 (pF q0g 0 (muN q09 1)) q0a (pF q0f 0 (muN q0a 1))) (aF [] (pF q0l 0 (muN q0h 3))))))
noncomputable def z8o (q08 : Nat) (q0e : List Nat) (q09 : Nat) (q0g : List Nat) (q0a : Nat) (q0f : List Nat) (q0h : Nat) (q0l : List Nat) (q0p : Int) (q0u : Nat) (q0t : Nat) : Option (Nat × Nat × Nat × Nat × (List Nat) × (List Nat) × (List Nat) × (List Nat)) := zgm q08 q0e q09 q0g q0a q0f q0h q0l q0p q0u q0t (fun c0_ c1_ c2_ c3_ c4_ c5_ c6_ c7_ => some (c0_, c1_, c2_, c3_, c4_, c5_, c6_, c7_))
theorem zru {R R' : Type} (o : Option R → Option R') (h0 : o none = none) (q08 : Nat) (q0e : List Nat) (q09 : Nat) (q0g : List Nat) (q0a : Nat) (q0f : List Nat) (q0h : Nat) (q0l : List Nat) (q0p : Int) (q0u : Nat) (q0t : Nat) (k_ : Nat → Nat → Nat → Nat → (List Nat) → (List Nat) → (List Nat) → (List Nat) → Option R) : zgm q08 q0e q09 q0g q0a q0f q0h q0l q0p q0u q0t (fun c0_ c1_ c2_ c3_ c4_ c5_ c6_ c7_ => o (k_ c0_ c1_ c2_ c3_ c4_ c5_ c6_ c7_)) = o (zgm q08 q0e q09 q0g q0a q0f q0h q0l q0p q0u q0t k_) := by
  unfold zgm
  repeat (first | refine grd_out h0 ?_ | refine br_out ?_ ?_ | rfl | exact h0.symm)
noncomputable def zma (q08 : Nat) (q0e : List Nat) (q09 : Nat) (q0g : List Nat) (q0a : Nat) (q0f : List Nat) (q0h : Nat) (q0l : List Nat) (q0p : Int) (q0u : Nat) (q0t : Nat) : Bool := (z8o q08 q0e q09 q0g q0a q0f q0h q0l q0p q0u q0t).isSome
noncomputable def zcd (q08 : Nat) (q0e : List Nat) (q09 : Nat) (q0g : List Nat) (q0a : Nat) (q0f : List Nat) (q0h : Nat) (q0l : List Nat) (q0p : Int) (q0u : Nat) (q0t : Nat) : Nat := ((z8o q08 q0e q09 q0g q0a q0f q0h q0l q0p q0u q0t).getD default).1
noncomputable def zc8 (q08 : Nat) (q0e : List Nat) (q09 : Nat) (q0g : List Nat) (q0a : Nat) (q0f : List Nat) (q0h : Nat) (q0l : List Nat) (q0p : Int) (q0u : Nat) (q0t : Nat) : Nat := ((z8o q08 q0e q09 q0g q0a q0f q0h q0l q0p q0u q0t).getD default).2.1
noncomputable def zc3 (q08 : Nat) (q0e : List Nat) (q09 : Nat) (q0g : List Nat) (q0a : Nat) (q0f : List Nat) (q0h : Nat) (q0l : List Nat) (q0p : Int) (q0u : Nat) (q0t : Nat) : Nat := ((z8o q08 q0e q09 q0g q0a q0f q0h q0l q0p q0u q0t).getD default).2.2.1
noncomputable def zab (q08 : Nat) (q0e : List Nat) (q09 : Nat) (q0g : List Nat) (q0a : Nat) (q0f : List Nat) (q0h : Nat) (q0l : List Nat) (q0p : Int) (q0u : Nat) (q0t : Nat) : Nat := ((z8o q08 q0e q09 q0g q0a q0f q0h q0l q0p q0u q0t).getD default).2.2.2.1
noncomputable def zez (q08 : Nat) (q0e : List Nat) (q09 : Nat) (q0g : List Nat) (q0a : Nat) (q0f : List Nat) (q0h : Nat) (q0l : List Nat) (q0p : Int) (q0u : Nat) (q0t : Nat) : List Nat := ((z8o q08 q0e q09 q0g q0a q0f q0h q0l q0p q0u q0t).getD default).2.2.2.2.1
noncomputable def zf2 (q08 : Nat) (q0e : List Nat) (q09 : Nat) (q0g : List Nat) (q0a : Nat) (q0f : List Nat) (q0h : Nat) (q0l : List Nat) (q0p : Int) (q0u : Nat) (q0t : Nat) : List Nat := ((z8o q08 q0e q09 q0g q0a q0f q0h q0l q0p q0u q0t).getD default).2.2.2.2.2.1
noncomputable def zf5 (q08 : Nat) (q0e : List Nat) (q09 : Nat) (q0g : List Nat) (q0a : Nat) (q0f : List Nat) (q0h : Nat) (q0l : List Nat) (q0p : Int) (q0u : Nat) (q0t : Nat) : List Nat := ((z8o q08 q0e q09 q0g q0a q0f q0h q0l q0p q0u q0t).getD default).2.2.2.2.2.2.1
noncomputable def zf7 (q08 : Nat) (q0e : List Nat) (q09 : Nat) (q0g : List Nat) (q0a : Nat) (q0f : List Nat) (q0h : Nat) (q0l : List Nat) (q0p : Int) (q0u : Nat) (q0t : Nat) : List Nat := ((z8o q08 q0e q09 q0g q0a q0f q0h q0l q0p q0u q0t).getD default).2.2.2.2.2.2.2
theorem zsx {q08 : Nat} {q0e : List Nat} {q09 : Nat} {q0g : List Nat} {q0a : Nat} {q0f : List Nat} {q0h : Nat} {q0l : List Nat} {q0p : Int} {q0u : Nat} {q0t : Nat} {r : Nat × Nat × Nat × Nat × (List Nat) × (List Nat) × (List Nat) × (List Nat)} (h : z8o q08 q0e q09 q0g q0a q0f q0h q0l q0p q0u q0t = some r) : zma q08 q0e q09 q0g q0a q0f q0h q0l q0p q0u q0t = true ∧ zcd q08 q0e q09 q0g q0a q0f q0h q0l q0p q0u q0t = r.1 ∧ zc8 q08 q0e q09 q0g q0a q0f q0h q0l q0p q0u q0t = r.2.1 ∧ zc3 q08 q0e q09 q0g q0a q0f q0h q0l q0p q0u q0t = r.2.2.1 ∧ zab q08 q0e q09 q0g q0a q0f q0h q0l q0p q0u q0t = r.2.2.2.1 ∧ zez q08 q0e q09 q0g q0a q0f q0h q0l q0p q0u q0t = r.2.2.2.2.1 ∧ zf2 q08 q0e q09 q0g q0a q0f q0h q0l q0p q0u q0t = r.2.2.2.2.2.1 ∧ zf5 q08 q0e q09 q0g q0a q0f q0h q0l q0p q0u q0t = r.2.2.2.2.2.2.1 ∧ zf7 q08 q0e q09 q0g q0a q0f q0h q0l q0p q0u q0t = r.2.2.2.2.2.2.2 := by
  unfold zma zcd zc8 zc3 zab zez zf2 zf5 zf7
  rw [h]
  exact ⟨rfl, rfl, rfl, rfl, rfl, rfl, rfl, rfl, rfl⟩
noncomputable def zef {R : Type} (x : Nat) (k_ : Bool → Option R) : Option R := (grd (z7y x) (br (z7n x) (k_ (fcmp BinOp.geq FloatKind.f32 x 0)) (k_ Bool.false)))
noncomputable def zec (x : Nat) : Option (Bool) := zef x (fun c0_ => some c0_)
theorem zqf {R R' : Type} (o : Option R → Option R') (h0 : o none = none) (x : Nat) (k_ : Bool → Option R) : zef x (fun c0_ => o (k_ c0_)) = o (zef x k_) := by
  unfold zef
  repeat (first | refine grd_out h0 ?_ | refine br_out ?_ ?_ | rfl | exact h0.symm)
noncomputable def zas (x : Nat) : Bool := (zec x).isSome
noncomputable def za6 (x : Nat) : Bool := ((zec x).getD default)
theorem znw {x : Nat} {r : Bool} (h : zec x = some r) : zas x = true ∧ za6 x = r := by
  unfold zas za6
  rw [h]
  exact ⟨rfl, rfl⟩
noncomputable def ze1 {R : Type} (q2q : Nat) (q2x : Nat) (q2y : Nat) (q3g : Nat) (q3k : Nat) (q3j : Nat) (k_ : Bool → Option R) : Option R := (grd (z9c (fcvV FloatKind.f32 FloatKind.f64 q2q) (fcvV FloatKind.f32 FloatKind.f64 q3g)) (br (bnot (z92 (fcvV FloatKind.f32 FloatKind.f64 q2q) (fcvV FloatKind.f32 FloatKind.f64 q3g))) (k_ Bool.false) (grd (z9c (fcvV FloatKind.f32 FloatKind.f64 q2x) (fcvV FloatKind.f32 FloatKind.f64 q3k)) (br (bnot (z92 (fcvV FloatKind.f32 FloatKind.f64 q2x) (fcvV FloatKind.f32 FloatKind.f64 q3k))) (k_ Bool.false) (grd (z9c (fcvV FloatKind.f32 FloatKind.f64 q2y) (fcvV FloatKind.f32 FloatKind.f64 q3j)) (br (bnot (z92 (fcvV FloatKind.f32 FloatKind.f64 q2y) (fcvV FloatKind.f32 FloatKind.f64 q3j))) (k_ Bool.false) (k_ Bool.true)))))))
noncomputable def ze3 (q2q : Nat) (q2x : Nat) (q2y : Nat) (q3g : Nat) (q3k : Nat) (q3j : Nat) : Option (Bool) := ze1 q2q q2x q2y q3g q3k q3j (fun c0_ => some c0_)
theorem zq6 {R R' : Type} (o : Option R → Option R') (h0 : o none = none) (q2q : Nat) (q2x : Nat) (q2y : Nat) (q3g : Nat) (q3k : Nat) (q3j : Nat) (k_ : Bool → Option R) : ze1 q2q q2x q2y q3g q3k q3j (fun c0_ => o (k_ c0_)) = o (ze1 q2q q2x q2y q3g q3k q3j k_) := by
  unfold ze1
  repeat (first | refine grd_out h0 ?_ | refine br_out ?_ ?_ | rfl | exact h0.symm)
noncomputable def zl1 (q2q : Nat) (q2x : Nat) (q2y : Nat) (q3g : Nat) (q3k : Nat) (q3j : Nat) : Bool := (ze3 q2q q2x q2y q3g q3k q3j).isSome
noncomputable def zjp (q2q : Nat) (q2x : Nat) (q2y : Nat) (q3g : Nat) (q3k : Nat) (q3j : Nat) : Bool := ((ze3 q2q q2x q2y q3g q3k q3j).getD default)
theorem zrb {q2q : Nat} {q2x : Nat} {q2y : Nat} {q3g : Nat} {q3k : Nat} {q3j : Nat} {r : Bool} (h : ze3 q2q q2x q2y q3g q3k q3j = some r) : zl1 q2q q2x q2y q3g q3k q3j = true ∧ zjp q2q q2x q2y q3g q3k q3j = r := by
  unfold zl1 zjp
  rw [h]
  exact ⟨rfl, rfl⟩
noncomputable def zf4 {R : Type} (x : Nat) (k_ : Bool → Option R) : Option R := (grd (z9x x) (br (z9e x) (k_ (fcmp BinOp.geq FloatKind.f32 x 0)) (k_ Bool.false)))
noncomputable def zf1 (x : Nat) : Option (Bool) := zf4 x (fun c0_ => some c0_)
theorem zqu {R R' : Type} (o : Option R → Option R') (h0 : o none = none) (x : Nat) (k_ : Bool → Option R) : zf4 x (fun c0_ => o (k_ c0_)) = o (zf4 x k_) := by
  unfold zf4
  repeat (first | refine grd_out h0 ?_ | refine br_out ?_ ?_ | rfl | exact h0.symm)
noncomputable def zjy (x : Nat) : Bool := (zf1 x).isSome
noncomputable def zh3 (x : Nat) : Bool := ((zf1 x).getD default)
theorem zo6 {x : Nat} {r : Bool} (h : zf1 x = some r) : zjy x = true ∧ zh3 x = r := by
  unfold zjy zh3
  rw [h]
  exact ⟨rfl, rfl⟩
noncomputable def zeg {R : Type} (x : Nat) (k_ : Bool → Option R) : Option R := (grd (z7y x) (br (z7n x) (k_ (fcmp BinOp.gtr FloatKind.f32 x 0)) (k_ Bool.false)))
noncomputable def zea (x : Nat) : Option (Bool) := zeg x (fun c0_ => some c0_)
theorem zqo {R R' : Type} (o : Option R → Option R') (h0 : o none = none) (x : Nat) (k_ : Bool → Option R) : zeg x (fun c0_ => o (k_ c0_)) = o (zeg x k_) := by
  unfold zeg
  repeat (first | refine grd_out h0 ?_ | refine br_out ?_ ?_ | rfl | exact h0.symm)
noncomputable def zlc (x : Nat) : Bool := (zea x).isSome
noncomputable def zl0 (x : Nat) : Bool := ((zea x).getD default)
theorem zs8 {x : Nat} {r : Bool} (h : zea x = some r) : zlc x = true ∧ zl0 x = r := by
  unfold zlc zl0
  rw [h]
  exact ⟨rfl, rfl⟩
noncomputable def zcf {R : Type} (x : Nat) (k_ : Bool → Option R) : Option R := (grd (z9x x) (k_ (bnot (z9e x))))
noncomputable def zc2 (x : Nat) : Option (Bool) := zcf x (fun c0_ => some c0_)
theorem zoh {R R' : Type} (o : Option R → Option R') (h0 : o none = none) (x : Nat) (k_ : Bool → Option R) : zcf x (fun c0_ => o (k_ c0_)) = o (zcf x k_) := by
  unfold zcf
  repeat (first | refine grd_out h0 ?_ | refine br_out ?_ ?_ | rfl | exact h0.symm)
noncomputable def zgu (x : Nat) : Bool := (zc2 x).isSome
noncomputable def zfy (x : Nat) : Bool := ((zc2 x).getD default)
theorem zqi {x : Nat} {r : Bool} (h : zc2 x = some r) : zgu x = true ∧ zfy x = r := by
  unfold zgu zfy
  rw [h]
  exact ⟨rfl, rfl⟩
noncomputable def zaa {R : Type} (x : Nat) (k_ : Bool → Option R) : Option R := (grd (z9x x) (br (bnot (z9e x)) (k_ Bool.true) (k_ (fcmp BinOp.leq FloatKind.f32 x 0))))
noncomputable def zac (x : Nat) : Option (Bool) := zaa x (fun c0_ => some c0_)
theorem zns {R R' : Type} (o : Option R → Option R') (h0 : o none = none) (x : Nat) (k_ : Bool → Option R) : zaa x (fun c0_ => o (k_ c0_)) = o (zaa x k_) := by
  unfold zaa
  repeat (first | refine grd_out h0 ?_ | refine br_out ?_ ?_ | rfl | exact h0.symm)
noncomputable def zet (x : Nat) : Bool := (zac x).isSome
noncomputable def zee (x : Nat) : Bool := ((zac x).getD default)
theorem zpd {x : Nat} {r : Bool} (h : zac x = some r) : zet x = true ∧ zee x = r := by
  unfold zet zee
  rw [h]
  exact ⟨rfl, rfl⟩
noncomputable def z7s {R : Type} (an : Nat) (q2u : Nat) (b0 : List Nat) (i : Int) (b1 : List Nat) (kn_ : Int → (List Nat) → Option R) (k0_ : Int → Bool → (List Nat) → Option R) : Option R := (br (ltI i (Int.ofNat an)) (grd (okIx i an) (grd (okIx i q2u) (kn_ (addI IntKind.i64 i 1) (sF b1 (ixO 0 i 1) (gF b0 (ixO 0 i 1)))))) (k0_ i (ltI i (Int.ofNat an)) b1))
theorem znd {R R' : Type} (o : Option R → Option R') (h0 : o none = none) (an : Nat) (q2u : Nat) (b0 : List Nat) (i : Int) (b1 : List Nat) (kn_ : Int → (List Nat) → Option R) (k0_ : Int → Bool → (List Nat) → Option R) : z7s an q2u b0 i b1 (fun i' b1' => o (kn_ i' b1')) (fun c0_ c1_ c2_ => o (k0_ c0_ c1_ c2_)) = o (z7s an q2u b0 i b1 kn_ k0_) := by
  unfold z7s
  repeat (first | refine grd_out h0 ?_ | refine br_out ?_ ?_ | rfl | exact h0.symm)
noncomputable def z64 (an : Nat) (q2u : Nat) (b0 : List Nat) : Nat → Int → (List Nat) → Option ((Int × Bool × (List Nat)))
  | 0, _, _ => none
  | n + 1, i, b1 => z7s an q2u b0  i b1  (fun i' b1' => z64 an q2u b0 n i' b1') (fun c0_ c1_ c2_ => some (c0_, c1_, c2_))
theorem zlf (an : Nat) (q2u : Nat) (b0 : List Nat) (n : Nat) (i : Int) (b1 : List Nat) : z64 an q2u b0 (n + 1) i b1 = z7s an q2u b0  i b1  (fun i' b1' => z64 an q2u b0 n i' b1') (fun c0_ c1_ c2_ => some (c0_, c1_, c2_)) := rfl
noncomputable def zcm (an : Nat) (q2u : Nat) (b0 : List Nat) (i : Int) (b1 : List Nat) : Bool := (z64 an q2u b0 big i b1).isSome
noncomputable def zgh (an : Nat) (q2u : Nat) (b0 : List Nat) (i : Int) (b1 : List Nat) : Int := ((z64 an q2u b0 big i b1).getD default).1
noncomputable def zgf (an : Nat) (q2u : Nat) (b0 : List Nat) (i : Int) (b1 : List Nat) : Bool := ((z64 an q2u b0 big i b1).getD default).2.1
noncomputable def zah (an : Nat) (q2u : Nat) (b0 : List Nat) (i : Int) (b1 : List Nat) : List Nat := ((z64 an q2u b0 big i b1).getD default).2.2
theorem zod {an : Nat} {q2u : Nat} {b0 : List Nat} {i : Int} {b1 : List Nat} {m : Nat} {r : Int × Bool × (List Nat)} (hm : m = big) (h : z64 an q2u b0 m i b1 = some r) : zcm an q2u b0 i b1 = true ∧ zgh an q2u b0 i b1 = r.1 ∧ zgf an q2u b0 i b1 = r.2.1 ∧ zah an q2u b0 i b1 = r.2.2 := by
  subst hm
  unfold zcm zgh zgf zah
  rw [h]
  exact ⟨rfl, rfl, rfl, rfl⟩
noncomputable def z6q {R : Type} (an : Nat) (b0 : List Nat) (k : Int) (i : Int) (kn_ : Int → Int → Option R) (k0_ : Unit → Option R) (k1_ : Int → Int → Bool → Option R) : Option R := (br (ltI i (Int.ofNat an)) (grd (okIx i an) (br (fcmp BinOp.neq FloatKind.f32 (gF b0 (ixO 0 i 3)) (fOI FloatKind.f32 k)) (k0_ ()) (grd (okIx i an) (br (fcmp BinOp.neq FloatKind.f32 (gF b0 (Nat.succ (ixO 0 i 3))) (fOI FloatKind.f32 (addI IntKind.i64 k 1))) (k0_ ()) (grd (okIx i an) (br (fcmp BinOp.neq FloatKind.f32 (gF b0 (Nat.succ (Nat.succ (ixO 0 i 3)))) (fOI FloatKind.f32 (addI IntKind.i64 (addI IntKind.i64 k 1) 1))) (k0_ ()) (kn_ (addI IntKind.i64 (addI IntKind.i64 (addI IntKind.i64 k 1) 1) 1) (addI IntKind.i64 i 1)))))))) (k1_ k i (ltI i (Int.ofNat an))))
theorem zms {R R' : Type} (o : Option R → Option R') (h0 : o none = none) (an : Nat) (b0 : List Nat) (k : Int) (i : Int) (kn_ : Int → Int → Option R) (k0_ : Unit → Option R) (k1_ : Int → Int → Bool → Option R) : z6q an b0 k i (fun k' i' => o (kn_ k' i')) (fun _ => o (k0_ ())) (fun c0_ c1_ c2_ => o (k1_ c0_ c1_ c2_)) = o (z6q an b0 k i kn_ k0_ k1_) := by
  unfold z6q
  repeat (first | refine grd_out h0 ?_ | refine br_out ?_ ?_ | rfl | exact h0.symm)
noncomputable def z4u (an : Nat) (b0 : List Nat) : Nat → Int → Int → Option ((Unit) ⊕ (Int × Int × Bool))
  | 0, _, _ => none
  | n + 1, k, i => z6q an b0  k i  (fun k' i' => z4u an b0 n k' i') (fun _ => some (Sum.inl ())) (fun c0_ c1_ c2_ => some (Sum.inr (c0_, c1_, c2_)))
theorem zkp (an : Nat) (b0 : List Nat) (n : Nat) (k : Int) (i : Int) : z4u an b0 (n + 1) k i = z6q an b0  k i  (fun k' i' => z4u an b0 n k' i') (fun _ => some (Sum.inl ())) (fun c0_ c1_ c2_ => some (Sum.inr (c0_, c1_, c2_))) := rfl
noncomputable def ze4 (an : Nat) (b0 : List Nat) (k : Int) (i : Int) : Bool := (z4u an b0 big k i).isSome
noncomputable def zdk (an : Nat) (b0 : List Nat) (k : Int) (i : Int) : Bool := oL (z4u an b0 big k i)
noncomputable def zci (an : Nat) (b0 : List Nat) (k : Int) (i : Int) : Int := ((tR (z4u an b0 big k i)).getD default).1
noncomputable def zep (an : Nat) (b0 : List Nat) (k : Int) (i : Int) : Int := ((tR (z4u an b0 big k i)).getD default).2.1
noncomputable def zer (an : Nat) (b0 : List Nat) (k : Int) (i : Int) : Bool := ((tR (z4u an b0 big k i)).getD default).2.2
theorem znl {an : Nat} {b0 : List Nat} {k : Int} {i : Int} {m : Nat} {r : Int × Int × Bool} (hm : m = big) (h : z4u an b0 m k i = some (Sum.inr r)) : ze4 an b0 k i = true ∧ zdk an b0 k i = false ∧ zci an b0 k i = r.1 ∧ zep an b0 k i = r.2.1 ∧ zer an b0 k i = r.2.2 := by
  subst hm
  unfold ze4 zdk zci zep zer
  rw [h]
  exact ⟨rfl, rfl, rfl, rfl, rfl⟩
noncomputable def z6t {R : Type} (an : Nat) (b0 : List Nat) (k : Int) (i : Int) (kn_ : Int → Int → Option R) (k0_ : Unit → Option R) (k1_ : Int → Int → Bool → Option R) : Option R := (br (ltI i (Int.ofNat an)) (grd (okIx i an) (br (fcmp BinOp.neq FloatKind.f32 (gF b0 (ixO 0 i 1)) (fOI FloatKind.f32 k)) (k0_ ()) (kn_ (addI IntKind.i64 k 1) (addI IntKind.i64 i 1)))) (k1_ k i (ltI i (Int.ofNat an))))
theorem zmq {R R' : Type} (o : Option R → Option R') (h0 : o none = none) (an : Nat) (b0 : List Nat) (k : Int) (i : Int) (kn_ : Int → Int → Option R) (k0_ : Unit → Option R) (k1_ : Int → Int → Bool → Option R) : z6t an b0 k i (fun k' i' => o (kn_ k' i')) (fun _ => o (k0_ ())) (fun c0_ c1_ c2_ => o (k1_ c0_ c1_ c2_)) = o (z6t an b0 k i kn_ k0_ k1_) := by
  unfold z6t
  repeat (first | refine grd_out h0 ?_ | refine br_out ?_ ?_ | rfl | exact h0.symm)
noncomputable def z4w (an : Nat) (b0 : List Nat) : Nat → Int → Int → Option ((Unit) ⊕ (Int × Int × Bool))
  | 0, _, _ => none
  | n + 1, k, i => z6t an b0  k i  (fun k' i' => z4w an b0 n k' i') (fun _ => some (Sum.inl ())) (fun c0_ c1_ c2_ => some (Sum.inr (c0_, c1_, c2_)))
theorem zkq (an : Nat) (b0 : List Nat) (n : Nat) (k : Int) (i : Int) : z4w an b0 (n + 1) k i = z6t an b0  k i  (fun k' i' => z4w an b0 n k' i') (fun _ => some (Sum.inl ())) (fun c0_ c1_ c2_ => some (Sum.inr (c0_, c1_, c2_))) := rfl
noncomputable def ze5 (an : Nat) (b0 : List Nat) (k : Int) (i : Int) : Bool := (z4w an b0 big k i).isSome
noncomputable def zdj (an : Nat) (b0 : List Nat) (k : Int) (i : Int) : Bool := oL (z4w an b0 big k i)
noncomputable def zch (an : Nat) (b0 : List Nat) (k : Int) (i : Int) : Int := ((tR (z4w an b0 big k i)).getD default).1
noncomputable def zev (an : Nat) (b0 : List Nat) (k : Int) (i : Int) : Int := ((tR (z4w an b0 big k i)).getD default).2.1
noncomputable def zen (an : Nat) (b0 : List Nat) (k : Int) (i : Int) : Bool := ((tR (z4w an b0 big k i)).getD default).2.2
theorem znf {an : Nat} {b0 : List Nat} {k : Int} {i : Int} {m : Nat} {r : Int × Int × Bool} (hm : m = big) (h : z4w an b0 m k i = some (Sum.inr r)) : ze5 an b0 k i = true ∧ zdj an b0 k i = false ∧ zch an b0 k i = r.1 ∧ zev an b0 k i = r.2.1 ∧ zen an b0 k i = r.2.2 := by
  subst hm
  unfold ze5 zdj zch zev zen
  rw [h]
  exact ⟨rfl, rfl, rfl, rfl, rfl⟩
noncomputable def zf8 {R : Type} (q0m : Nat) (q0q : List Nat) (q0o : Nat) (q0s : List Nat) (q0n : Nat) (q0r : List Nat) (q0v : Nat) (q0x : List Nat) (q19 : Int) (q26 : Nat) (q27 : Nat) (q2l : Int) (k_ : Int → Option R) : Option R := (grd (zks q0m (pF q0q 0 (muN q0m 1)) q0o (pF q0s 0 (muN q0o 1)) q0n (pF q0r 0 (muN q0n 1)) q2l) (br (ltI (zaj q0m (pF q0q 0 (muN q0m 1)) q0o (pF q0s 0 (muN q0o 1)) q0n (pF q0r 0 (muN q0n 1)) q2l) 0) (k_ (Int.negSucc 0)) (grd (zjc q0v (pF q0x 0 (muN q0v 3)) (zaj q0m (pF q0q 0 (muN q0m 1)) q0o (pF q0s 0 (muN q0o 1)) q0n (pF q0r 0 (muN q0n 1)) q2l)) (br (ltI (ze8 q0v (pF q0x 0 (muN q0v 3)) (zaj q0m (pF q0q 0 (muN q0m 1)) q0o (pF q0s 0 (muN q0o 1)) q0n (pF q0r 0 (muN q0n 1)) q2l)) 0) (k_ (Int.negSucc 0)) (k_ (ze8 q0v (pF q0x 0 (muN q0v 3)) (zaj q0m (pF q0q 0 (muN q0m 1)) q0o (pF q0s 0 (muN q0o 1)) q0n (pF q0r 0 (muN q0n 1)) q2l)))))))
noncomputable def zf0 (q0m : Nat) (q0q : List Nat) (q0o : Nat) (q0s : List Nat) (q0n : Nat) (q0r : List Nat) (q0v : Nat) (q0x : List Nat) (q19 : Int) (q26 : Nat) (q27 : Nat) (q2l : Int) : Option (Int) := zf8 q0m q0q q0o q0s q0n q0r q0v q0x q19 q26 q27 q2l (fun c0_ => some c0_)
theorem zr3 {R R' : Type} (o : Option R → Option R') (h0 : o none = none) (q0m : Nat) (q0q : List Nat) (q0o : Nat) (q0s : List Nat) (q0n : Nat) (q0r : List Nat) (q0v : Nat) (q0x : List Nat) (q19 : Int) (q26 : Nat) (q27 : Nat) (q2l : Int) (k_ : Int → Option R) : zf8 q0m q0q q0o q0s q0n q0r q0v q0x q19 q26 q27 q2l (fun c0_ => o (k_ c0_)) = o (zf8 q0m q0q q0o q0s q0n q0r q0v q0x q19 q26 q27 q2l k_) := by
  unfold zf8
  repeat (first | refine grd_out h0 ?_ | refine br_out ?_ ?_ | rfl | exact h0.symm)
noncomputable def zjz (q0m : Nat) (q0q : List Nat) (q0o : Nat) (q0s : List Nat) (q0n : Nat) (q0r : List Nat) (q0v : Nat) (q0x : List Nat) (q19 : Int) (q26 : Nat) (q27 : Nat) (q2l : Int) : Bool := (zf0 q0m q0q q0o q0s q0n q0r q0v q0x q19 q26 q27 q2l).isSome
noncomputable def zhq (q0m : Nat) (q0q : List Nat) (q0o : Nat) (q0s : List Nat) (q0n : Nat) (q0r : List Nat) (q0v : Nat) (q0x : List Nat) (q19 : Int) (q26 : Nat) (q27 : Nat) (q2l : Int) : Int := ((zf0 q0m q0q q0o q0s q0n q0r q0v q0x q19 q26 q27 q2l).getD default)
theorem zsi {q0m : Nat} {q0q : List Nat} {q0o : Nat} {q0s : List Nat} {q0n : Nat} {q0r : List Nat} {q0v : Nat} {q0x : List Nat} {q19 : Int} {q26 : Nat} {q27 : Nat} {q2l : Int} {r : Int} (h : zf0 q0m q0q q0o q0s q0n q0r q0v q0x q19 q26 q27 q2l = some r) : zjz q0m q0q q0o q0s q0n q0r q0v q0x q19 q26 q27 q2l = true ∧ zhq q0m q0q q0o q0s q0n q0r q0v q0x q19 q26 q27 q2l = r := by
  unfold zjz zhq
  rw [h]
  exact ⟨rfl, rfl⟩
noncomputable def zdf {R : Type} (a_n : Nat) (a : List Nat) (k_ : Nat → (List Nat) → Option R) : Option R := (grd (okMk (Int.ofNat a_n) (Int.ofNat a_n) 4) (grd (zcm a_n (toN (Int.ofNat a_n)) a 0 (rF (muN (toN (Int.ofNat a_n)) 1))) (k_ (toN (Int.ofNat a_n)) (zah a_n (toN (Int.ofNat a_n)) a 0 (rF (muN (toN (Int.ofNat a_n)) 1))))))
noncomputable def zak (a_n : Nat) (a : List Nat) : Option (Nat × (List Nat)) := zdf a_n a (fun c0_ c1_ => some (c0_, c1_))
theorem zp3 {R R' : Type} (o : Option R → Option R') (h0 : o none = none) (a_n : Nat) (a : List Nat) (k_ : Nat → (List Nat) → Option R) : zdf a_n a (fun c0_ c1_ => o (k_ c0_ c1_)) = o (zdf a_n a k_) := by
  unfold zdf
  repeat (first | refine grd_out h0 ?_ | refine br_out ?_ ?_ | rfl | exact h0.symm)
noncomputable def zd2 (a_n : Nat) (a : List Nat) : Bool := (zak a_n a).isSome
noncomputable def zc5 (a_n : Nat) (a : List Nat) : Nat := ((zak a_n a).getD default).1
noncomputable def zc7 (a_n : Nat) (a : List Nat) : List Nat := ((zak a_n a).getD default).2
theorem zlu {a_n : Nat} {a : List Nat} {r : Nat × (List Nat)} (h : zak a_n a = some r) : zd2 a_n a = true ∧ zc5 a_n a = r.1 ∧ zc7 a_n a = r.2 := by
  unfold zd2 zc5 zc7
  rw [h]
  exact ⟨rfl, rfl, rfl⟩
noncomputable def zav {R : Type} (a_n : Nat) (a : List Nat) (k : Int) (k_ : Int → Option R) : Option R := (grd (ze4 a_n a k 0) (br (zdk a_n a k 0) (k_ (Int.negSucc 0)) (k_ (zci a_n a k 0))))
noncomputable def zay (a_n : Nat) (a : List Nat) (k : Int) : Option (Int) := zav a_n a k (fun c0_ => some c0_)
theorem zo1 {R R' : Type} (o : Option R → Option R') (h0 : o none = none) (a_n : Nat) (a : List Nat) (k : Int) (k_ : Int → Option R) : zav a_n a k (fun c0_ => o (k_ c0_)) = o (zav a_n a k k_) := by
  unfold zav
  repeat (first | refine grd_out h0 ?_ | refine br_out ?_ ?_ | rfl | exact h0.symm)
noncomputable def zfr (a_n : Nat) (a : List Nat) (k : Int) : Bool := (zay a_n a k).isSome
noncomputable def zcs (a_n : Nat) (a : List Nat) (k : Int) : Int := ((zay a_n a k).getD default)
theorem zpl {a_n : Nat} {a : List Nat} {k : Int} {r : Int} (h : zay a_n a k = some r) : zfr a_n a k = true ∧ zcs a_n a k = r := by
  unfold zfr zcs
  rw [h]
  exact ⟨rfl, rfl⟩
noncomputable def zb0 {R : Type} (a_n : Nat) (a : List Nat) (k : Int) (k_ : Int → Option R) : Option R := (grd (ze5 a_n a k 0) (br (zdj a_n a k 0) (k_ (Int.negSucc 0)) (k_ (zch a_n a k 0))))
noncomputable def zax (a_n : Nat) (a : List Nat) (k : Int) : Option (Int) := zb0 a_n a k (fun c0_ => some c0_)
theorem znz {R R' : Type} (o : Option R → Option R') (h0 : o none = none) (a_n : Nat) (a : List Nat) (k : Int) (k_ : Int → Option R) : zb0 a_n a k (fun c0_ => o (k_ c0_)) = o (zb0 a_n a k k_) := by
  unfold zb0
  repeat (first | refine grd_out h0 ?_ | refine br_out ?_ ?_ | rfl | exact h0.symm)
noncomputable def zaw (a_n : Nat) (a : List Nat) (k : Int) : Bool := (zax a_n a k).isSome
noncomputable def z59 (a_n : Nat) (a : List Nat) (k : Int) : Int := ((zax a_n a k).getD default)
theorem zl3 {a_n : Nat} {a : List Nat} {k : Int} {r : Int} (h : zax a_n a k = some r) : zaw a_n a k = true ∧ z59 a_n a k = r := by
  unfold zaw z59
  rw [h]
  exact ⟨rfl, rfl⟩
noncomputable def zdo {R : Type} (q08 : Nat) (q0e : List Nat) (q09 : Nat) (q0g : List Nat) (q0a : Nat) (q0f : List Nat) (q0h : Nat) (q0l : List Nat) (q0p : Int) (q0u : Nat) (q0t : Nat) (k_ : Nat → Nat → Nat → Nat → (List Nat) → (List Nat) → (List Nat) → (List Nat) → Option R) : Option R := (grd (zi1 q08 (pF q0e 0 (muN q08 1)) q09 (pF q0g 0 (muN q09 1)) q0a (pF q0f 0 (muN q0a 1))) (grd (z7i q0h (pF q0l 0 (muN q0h 3))) (k_ (zfu q08 (pF q0e 0 (muN q08 1)) q09 (pF q0g 0 (muN q09 1)) q0a (pF q0f 0 (muN q0a 1))) (zfq q08 (pF q0e 0 (muN q08 1)) q09 (pF q0g 0 (muN q09 1)) q0a (pF q0f 0 (muN q0a 1))) (zfs q08 (pF q0e 0 (muN q08 1)) q09 (pF q0g 0 (muN q09 1)) q0a (pF q0f 0 (muN q0a 1))) (z7a q0h (pF q0l 0 (muN q0h 3))) (zfw q08 (pF q0e 0 (muN q08 1)) q09 (pF q0g 0 (muN q09 1)) q0a (pF q0f 0 (muN q0a 1))) (zfo q08 (pF q0e 0 (muN q08 1)) q09 (pF q0g 0 (muN q09 1)) q0a (pF q0f 0 (muN q0a 1))) (zfp q08 (pF q0e 0 (muN q08 1)) q09 (pF q0g 0 (muN q09 1)) q0a (pF q0f 0 (muN q0a 1))) (z7f q0h (pF q0l 0 (muN q0h 3))))))
noncomputable def z6o (q08 : Nat) (q0e : List Nat) (q09 : Nat) (q0g : List Nat) (q0a : Nat) (q0f : List Nat) (q0h : Nat) (q0l : List Nat) (q0p : Int) (q0u : Nat) (q0t : Nat) : Option (Nat × Nat × Nat × Nat × (List Nat) × (List Nat) × (List Nat) × (List Nat)) := zdo q08 q0e q09 q0g q0a q0f q0h q0l q0p q0u q0t (fun c0_ c1_ c2_ c3_ c4_ c5_ c6_ c7_ => some (c0_, c1_, c2_, c3_, c4_, c5_, c6_, c7_))
theorem zq2 {R R' : Type} (o : Option R → Option R') (h0 : o none = none) (q08 : Nat) (q0e : List Nat) (q09 : Nat) (q0g : List Nat) (q0a : Nat) (q0f : List Nat) (q0h : Nat) (q0l : List Nat) (q0p : Int) (q0u : Nat) (q0t : Nat) (k_ : Nat → Nat → Nat → Nat → (List Nat) → (List Nat) → (List Nat) → (List Nat) → Option R) : zdo q08 q0e q09 q0g q0a q0f q0h q0l q0p q0u q0t (fun c0_ c1_ c2_ c3_ c4_ c5_ c6_ c7_ => o (k_ c0_ c1_ c2_ c3_ c4_ c5_ c6_ c7_)) = o (zdo q08 q0e q09 q0g q0a q0f q0h q0l q0p q0u q0t k_) := by
  unfold zdo
  repeat (first | refine grd_out h0 ?_ | refine br_out ?_ ?_ | rfl | exact h0.symm)
noncomputable def zkz (q08 : Nat) (q0e : List Nat) (q09 : Nat) (q0g : List Nat) (q0a : Nat) (q0f : List Nat) (q0h : Nat) (q0l : List Nat) (q0p : Int) (q0u : Nat) (q0t : Nat) : Bool := (z6o q08 q0e q09 q0g q0a q0f q0h q0l q0p q0u q0t).isSome
noncomputable def z9t (q08 : Nat) (q0e : List Nat) (q09 : Nat) (q0g : List Nat) (q0a : Nat) (q0f : List Nat) (q0h : Nat) (q0l : List Nat) (q0p : Int) (q0u : Nat) (q0t : Nat) : Nat := ((z6o q08 q0e q09 q0g q0a q0f q0h q0l q0p q0u q0t).getD default).1
noncomputable def z9u (q08 : Nat) (q0e : List Nat) (q09 : Nat) (q0g : List Nat) (q0a : Nat) (q0f : List Nat) (q0h : Nat) (q0l : List Nat) (q0p : Int) (q0u : Nat) (q0t : Nat) : Nat := ((z6o q08 q0e q09 q0g q0a q0f q0h q0l q0p q0u q0t).getD default).2.1
noncomputable def z9s (q08 : Nat) (q0e : List Nat) (q09 : Nat) (q0g : List Nat) (q0a : Nat) (q0f : List Nat) (q0h : Nat) (q0l : List Nat) (q0p : Int) (q0u : Nat) (q0t : Nat) : Nat := ((z6o q08 q0e q09 q0g q0a q0f q0h q0l q0p q0u q0t).getD default).2.2.1
noncomputable def z93 (q08 : Nat) (q0e : List Nat) (q09 : Nat) (q0g : List Nat) (q0a : Nat) (q0f : List Nat) (q0h : Nat) (q0l : List Nat) (q0p : Int) (q0u : Nat) (q0t : Nat) : Nat := ((z6o q08 q0e q09 q0g q0a q0f q0h q0l q0p q0u q0t).getD default).2.2.2.1
noncomputable def zd0 (q08 : Nat) (q0e : List Nat) (q09 : Nat) (q0g : List Nat) (q0a : Nat) (q0f : List Nat) (q0h : Nat) (q0l : List Nat) (q0p : Int) (q0u : Nat) (q0t : Nat) : List Nat := ((z6o q08 q0e q09 q0g q0a q0f q0h q0l q0p q0u q0t).getD default).2.2.2.2.1
noncomputable def zd9 (q08 : Nat) (q0e : List Nat) (q09 : Nat) (q0g : List Nat) (q0a : Nat) (q0f : List Nat) (q0h : Nat) (q0l : List Nat) (q0p : Int) (q0u : Nat) (q0t : Nat) : List Nat := ((z6o q08 q0e q09 q0g q0a q0f q0h q0l q0p q0u q0t).getD default).2.2.2.2.2.1
noncomputable def zdb (q08 : Nat) (q0e : List Nat) (q09 : Nat) (q0g : List Nat) (q0a : Nat) (q0f : List Nat) (q0h : Nat) (q0l : List Nat) (q0p : Int) (q0u : Nat) (q0t : Nat) : List Nat := ((z6o q08 q0e q09 q0g q0a q0f q0h q0l q0p q0u q0t).getD default).2.2.2.2.2.2.1
noncomputable def zcy (q08 : Nat) (q0e : List Nat) (q09 : Nat) (q0g : List Nat) (q0a : Nat) (q0f : List Nat) (q0h : Nat) (q0l : List Nat) (q0p : Int) (q0u : Nat) (q0t : Nat) : List Nat := ((z6o q08 q0e q09 q0g q0a q0f q0h q0l q0p q0u q0t).getD default).2.2.2.2.2.2.2
theorem zrm {q08 : Nat} {q0e : List Nat} {q09 : Nat} {q0g : List Nat} {q0a : Nat} {q0f : List Nat} {q0h : Nat} {q0l : List Nat} {q0p : Int} {q0u : Nat} {q0t : Nat} {r : Nat × Nat × Nat × Nat × (List Nat) × (List Nat) × (List Nat) × (List Nat)} (h : z6o q08 q0e q09 q0g q0a q0f q0h q0l q0p q0u q0t = some r) : zkz q08 q0e q09 q0g q0a q0f q0h q0l q0p q0u q0t = true ∧ z9t q08 q0e q09 q0g q0a q0f q0h q0l q0p q0u q0t = r.1 ∧ z9u q08 q0e q09 q0g q0a q0f q0h q0l q0p q0u q0t = r.2.1 ∧ z9s q08 q0e q09 q0g q0a q0f q0h q0l q0p q0u q0t = r.2.2.1 ∧ z93 q08 q0e q09 q0g q0a q0f q0h q0l q0p q0u q0t = r.2.2.2.1 ∧ zd0 q08 q0e q09 q0g q0a q0f q0h q0l q0p q0u q0t = r.2.2.2.2.1 ∧ zd9 q08 q0e q09 q0g q0a q0f q0h q0l q0p q0u q0t = r.2.2.2.2.2.1 ∧ zdb q08 q0e q09 q0g q0a q0f q0h q0l q0p q0u q0t = r.2.2.2.2.2.2.1 ∧ zcy q08 q0e q09 q0g q0a q0f q0h q0l q0p q0u q0t = r.2.2.2.2.2.2.2 := by
  unfold zkz z9t z9u z9s z93 zd0 zd9 zdb zcy
  rw [h]
  exact ⟨rfl, rfl, rfl, rfl, rfl, rfl, rfl, rfl, rfl⟩
noncomputable def zda {R : Type} (x : Nat) (k_ : Bool → Option R) : Option R := (grd (zjy x) (k_ (bnot (zh3 x))))
noncomputable def zd8 (x : Nat) : Option (Bool) := zda x (fun c0_ => some c0_)
theorem zp0 {R R' : Type} (o : Option R → Option R') (h0 : o none = none) (x : Nat) (k_ : Bool → Option R) : zda x (fun c0_ => o (k_ c0_)) = o (zda x k_) := by
  unfold zda
  repeat (first | refine grd_out h0 ?_ | refine br_out ?_ ?_ | rfl | exact h0.symm)
noncomputable def zjd (x : Nat) : Bool := (zd8 x).isSome
noncomputable def zhr (x : Nat) : Bool := ((zd8 x).getD default)
theorem zqz {x : Nat} {r : Bool} (h : zd8 x = some r) : zjd x = true ∧ zhr x = r := by
  unfold zjd zhr
  rw [h]
  exact ⟨rfl, rfl⟩
noncomputable def z7o {R : Type} (an : Nat) (bn : Nat) (b0 : List Nat) (b1 : List Nat) (i : Int) (kn_ : Int → Option R) (k0_ : Unit → Option R) (k1_ : Int → Bool → Option R) : Option R := (br (ltI i (Int.ofNat an)) (grd (okIx i an) (grd (okIx i bn) (grd (z9c (fcvV FloatKind.f32 FloatKind.f64 (gF b0 (ixO 0 i 1))) (fcvV FloatKind.f32 FloatKind.f64 (gF b1 (ixO 0 i 1)))) (br (bnot (z92 (fcvV FloatKind.f32 FloatKind.f64 (gF b0 (ixO 0 i 1))) (fcvV FloatKind.f32 FloatKind.f64 (gF b1 (ixO 0 i 1))))) (k0_ ()) (kn_ (addI IntKind.i64 i 1)))))) (k1_ i (ltI i (Int.ofNat an))))
theorem znn {R R' : Type} (o : Option R → Option R') (h0 : o none = none) (an : Nat) (bn : Nat) (b0 : List Nat) (b1 : List Nat) (i : Int) (kn_ : Int → Option R) (k0_ : Unit → Option R) (k1_ : Int → Bool → Option R) : z7o an bn b0 b1 i (fun i' => o (kn_ i')) (fun _ => o (k0_ ())) (fun c0_ c1_ => o (k1_ c0_ c1_)) = o (z7o an bn b0 b1 i kn_ k0_ k1_) := by
  unfold z7o
  repeat (first | refine grd_out h0 ?_ | refine br_out ?_ ?_ | rfl | exact h0.symm)
noncomputable def z63 (an : Nat) (bn : Nat) (b0 : List Nat) (b1 : List Nat) : Nat → Int → Option ((Unit) ⊕ (Int × Bool))
  | 0, _ => none
  | n + 1, i => z7o an bn b0 b1  i  (fun i' => z63 an bn b0 b1 n i') (fun _ => some (Sum.inl ())) (fun c0_ c1_ => some (Sum.inr (c0_, c1_)))
theorem zlh (an : Nat) (bn : Nat) (b0 : List Nat) (b1 : List Nat) (n : Nat) (i : Int) : z63 an bn b0 b1 (n + 1) i = z7o an bn b0 b1  i  (fun i' => z63 an bn b0 b1 n i') (fun _ => some (Sum.inl ())) (fun c0_ c1_ => some (Sum.inr (c0_, c1_))) := rfl
noncomputable def zeq (an : Nat) (bn : Nat) (b0 : List Nat) (b1 : List Nat) (i : Int) : Bool := (z63 an bn b0 b1 big i).isSome
noncomputable def zeb (an : Nat) (bn : Nat) (b0 : List Nat) (b1 : List Nat) (i : Int) : Bool := oL (z63 an bn b0 b1 big i)
noncomputable def zgk (an : Nat) (bn : Nat) (b0 : List Nat) (b1 : List Nat) (i : Int) : Int := ((tR (z63 an bn b0 b1 big i)).getD default).1
noncomputable def zg9 (an : Nat) (bn : Nat) (b0 : List Nat) (b1 : List Nat) (i : Int) : Bool := ((tR (z63 an bn b0 b1 big i)).getD default).2
theorem zoq {an : Nat} {bn : Nat} {b0 : List Nat} {b1 : List Nat} {i : Int} {m : Nat} {r : Int × Bool} (hm : m = big) (h : z63 an bn b0 b1 m i = some (Sum.inr r)) : zeq an bn b0 b1 i = true ∧ zeb an bn b0 b1 i = false ∧ zgk an bn b0 b1 i = r.1 ∧ zg9 an bn b0 b1 i = r.2 := by
  subst hm
  unfold zeq zeb zgk zg9
  rw [h]
  exact ⟨rfl, rfl, rfl, rfl⟩
noncomputable def z7t {R : Type} (an : Nat) (q2u : Nat) (b0 : List Nat) (i : Int) (b1 : List Nat) (kn_ : Int → (List Nat) → Option R) (k0_ : Int → Bool → (List Nat) → Option R) : Option R := (br (ltI i (Int.ofNat an)) (grd (okIx i an) (grd (zdw (gF b0 (ixO 0 i 3)) (gF b0 (Nat.succ (ixO 0 i 3))) (gF b0 (Nat.succ (Nat.succ (ixO 0 i 3))))) (grd (okIx i q2u) (kn_ (addI IntKind.i64 i 1) (sF (sF (sF b1 (ixO 0 i 3) (gF b0 (ixO 0 i 3))) (Nat.succ (ixO 0 i 3)) (gF b0 (Nat.succ (ixO 0 i 3)))) (Nat.succ (Nat.succ (ixO 0 i 3))) (gF b0 (Nat.succ (Nat.succ (ixO 0 i 3))))))))) (k0_ i (ltI i (Int.ofNat an)) b1))
theorem zng {R R' : Type} (o : Option R → Option R') (h0 : o none = none) (an : Nat) (q2u : Nat) (b0 : List Nat) (i : Int) (b1 : List Nat) (kn_ : Int → (List Nat) → Option R) (k0_ : Int → Bool → (List Nat) → Option R) : z7t an q2u b0 i b1 (fun i' b1' => o (kn_ i' b1')) (fun c0_ c1_ c2_ => o (k0_ c0_ c1_ c2_)) = o (z7t an q2u b0 i b1 kn_ k0_) := by
  unfold z7t
  repeat (first | refine grd_out h0 ?_ | refine br_out ?_ ?_ | rfl | exact h0.symm)
noncomputable def z58 (an : Nat) (q2u : Nat) (b0 : List Nat) : Nat → Int → (List Nat) → Option ((Int × Bool × (List Nat)))
  | 0, _, _ => none
  | n + 1, i, b1 => z7t an q2u b0  i b1  (fun i' b1' => z58 an q2u b0 n i' b1') (fun c0_ c1_ c2_ => some (c0_, c1_, c2_))
theorem zla (an : Nat) (q2u : Nat) (b0 : List Nat) (n : Nat) (i : Int) (b1 : List Nat) : z58 an q2u b0 (n + 1) i b1 = z7t an q2u b0  i b1  (fun i' b1' => z58 an q2u b0 n i' b1') (fun c0_ c1_ c2_ => some (c0_, c1_, c2_)) := rfl
noncomputable def zcn (an : Nat) (q2u : Nat) (b0 : List Nat) (i : Int) (b1 : List Nat) : Bool := (z58 an q2u b0 big i b1).isSome
noncomputable def zgi (an : Nat) (q2u : Nat) (b0 : List Nat) (i : Int) (b1 : List Nat) : Int := ((z58 an q2u b0 big i b1).getD default).1
noncomputable def zgc (an : Nat) (q2u : Nat) (b0 : List Nat) (i : Int) (b1 : List Nat) : Bool := ((z58 an q2u b0 big i b1).getD default).2.1
noncomputable def zag (an : Nat) (q2u : Nat) (b0 : List Nat) (i : Int) (b1 : List Nat) : List Nat := ((z58 an q2u b0 big i b1).getD default).2.2
theorem zou {an : Nat} {q2u : Nat} {b0 : List Nat} {i : Int} {b1 : List Nat} {m : Nat} {r : Int × Bool × (List Nat)} (hm : m = big) (h : z58 an q2u b0 m i b1 = some r) : zcn an q2u b0 i b1 = true ∧ zgi an q2u b0 i b1 = r.1 ∧ zgc an q2u b0 i b1 = r.2.1 ∧ zag an q2u b0 i b1 = r.2.2 := by
  subst hm
  unfold zcn zgi zgc zag
  rw [h]
  exact ⟨rfl, rfl, rfl, rfl⟩
noncomputable def ze0 {R : Type} (q0w : Nat) (q10 : List Nat) (q0y : Nat) (q18 : List Nat) (q0z : Nat) (q1a : List Nat) (k_ : Nat → Nat → Nat → (List Nat) → (List Nat) → (List Nat) → Option R) : Option R := (grd (zd2 q0w (pF q10 0 (muN q0w 1))) (grd (zd2 q0y (pF q18 0 (muN q0y 1))) (grd (zd2 q0z (pF q1a 0 (muN q0z 1))) (k_ (zc5 q0w (pF q10 0 (muN q0w 1))) (zc5 q0y (pF q18 0 (muN q0y 1))) (zc5 q0z (pF q1a 0 (muN q0z 1))) (zc7 q0w (pF q10 0 (muN q0w 1))) (zc7 q0y (pF q18 0 (muN q0y 1))) (zc7 q0z (pF q1a 0 (muN q0z 1)))))))
noncomputable def z7x (q0w : Nat) (q10 : List Nat) (q0y : Nat) (q18 : List Nat) (q0z : Nat) (q1a : List Nat) : Option (Nat × Nat × Nat × (List Nat) × (List Nat) × (List Nat)) := ze0 q0w q10 q0y q18 q0z q1a (fun c0_ c1_ c2_ c3_ c4_ c5_ => some (c0_, c1_, c2_, c3_, c4_, c5_))
theorem zq5 {R R' : Type} (o : Option R → Option R') (h0 : o none = none) (q0w : Nat) (q10 : List Nat) (q0y : Nat) (q18 : List Nat) (q0z : Nat) (q1a : List Nat) (k_ : Nat → Nat → Nat → (List Nat) → (List Nat) → (List Nat) → Option R) : ze0 q0w q10 q0y q18 q0z q1a (fun c0_ c1_ c2_ c3_ c4_ c5_ => o (k_ c0_ c1_ c2_ c3_ c4_ c5_)) = o (ze0 q0w q10 q0y q18 q0z q1a k_) := by
  unfold ze0
  repeat (first | refine grd_out h0 ?_ | refine br_out ?_ ?_ | rfl | exact h0.symm)
noncomputable def zky (q0w : Nat) (q10 : List Nat) (q0y : Nat) (q18 : List Nat) (q0z : Nat) (q1a : List Nat) : Bool := (z7x q0w q10 q0y q18 q0z q1a).isSome
noncomputable def zjj (q0w : Nat) (q10 : List Nat) (q0y : Nat) (q18 : List Nat) (q0z : Nat) (q1a : List Nat) : Nat := ((z7x q0w q10 q0y q18 q0z q1a).getD default).1
noncomputable def zjl (q0w : Nat) (q10 : List Nat) (q0y : Nat) (q18 : List Nat) (q0z : Nat) (q1a : List Nat) : Nat := ((z7x q0w q10 q0y q18 q0z q1a).getD default).2.1
noncomputable def zjb (q0w : Nat) (q10 : List Nat) (q0y : Nat) (q18 : List Nat) (q0z : Nat) (q1a : List Nat) : Nat := ((z7x q0w q10 q0y q18 q0z q1a).getD default).2.2.1
noncomputable def zjk (q0w : Nat) (q10 : List Nat) (q0y : Nat) (q18 : List Nat) (q0z : Nat) (q1a : List Nat) : List Nat := ((z7x q0w q10 q0y q18 q0z q1a).getD default).2.2.2.1
noncomputable def zjr (q0w : Nat) (q10 : List Nat) (q0y : Nat) (q18 : List Nat) (q0z : Nat) (q1a : List Nat) : List Nat := ((z7x q0w q10 q0y q18 q0z q1a).getD default).2.2.2.2.1
noncomputable def zjn (q0w : Nat) (q10 : List Nat) (q0y : Nat) (q18 : List Nat) (q0z : Nat) (q1a : List Nat) : List Nat := ((z7x q0w q10 q0y q18 q0z q1a).getD default).2.2.2.2.2
theorem zra {q0w : Nat} {q10 : List Nat} {q0y : Nat} {q18 : List Nat} {q0z : Nat} {q1a : List Nat} {r : Nat × Nat × Nat × (List Nat) × (List Nat) × (List Nat)} (h : z7x q0w q10 q0y q18 q0z q1a = some r) : zky q0w q10 q0y q18 q0z q1a = true ∧ zjj q0w q10 q0y q18 q0z q1a = r.1 ∧ zjl q0w q10 q0y q18 q0z q1a = r.2.1 ∧ zjb q0w q10 q0y q18 q0z q1a = r.2.2.1 ∧ zjk q0w q10 q0y q18 q0z q1a = r.2.2.2.1 ∧ zjr q0w q10 q0y q18 q0z q1a = r.2.2.2.2.1 ∧ zjn q0w q10 q0y q18 q0z q1a = r.2.2.2.2.2 := by
  unfold zky zjj zjl zjb zjk zjr zjn
  rw [h]
  exact ⟨rfl, rfl, rfl, rfl, rfl, rfl, rfl⟩
noncomputable def zc4 {R : Type} (q0w : Nat) (q10 : List Nat) (q0y : Nat) (q18 : List Nat) (q0z : Nat) (q1a : List Nat) (k : Int) (k_ : Int → Option R) : Option R := (grd (zaw q0w (pF q10 0 (muN q0w 1)) k) (br (ltI (z59 q0w (pF q10 0 (muN q0w 1)) k) 0) (k_ (Int.negSucc 0)) (grd (zaw q0y (pF q18 0 (muN q0y 1)) (z59 q0w (pF q10 0 (muN q0w 1)) k)) (br (ltI (z59 q0y (pF q18 0 (muN q0y 1)) (z59 q0w (pF q10 0 (muN q0w 1)) k)) 0) (k_ (Int.negSucc 0)) (grd (zaw q0z (pF q1a 0 (muN q0z 1)) (z59 q0y (pF q18 0 (muN q0y 1)) (z59 q0w (pF q10 0 (muN q0w 1)) k))) (br (ltI (z59 q0z (pF q1a 0 (muN q0z 1)) (z59 q0y (pF q18 0 (muN q0y 1)) (z59 q0w (pF q10 0 (muN q0w 1)) k))) 0) (k_ (Int.negSucc 0)) (k_ (z59 q0z (pF q1a 0 (muN q0z 1)) (z59 q0y (pF q18 0 (muN q0y 1)) (z59 q0w (pF q10 0 (muN q0w 1)) k))))))))))
noncomputable def zca (q0w : Nat) (q10 : List Nat) (q0y : Nat) (q18 : List Nat) (q0z : Nat) (q1a : List Nat) (k : Int) : Option (Int) := zc4 q0w q10 q0y q18 q0z q1a k (fun c0_ => some c0_)
theorem zos {R R' : Type} (o : Option R → Option R') (h0 : o none = none) (q0w : Nat) (q10 : List Nat) (q0y : Nat) (q18 : List Nat) (q0z : Nat) (q1a : List Nat) (k : Int) (k_ : Int → Option R) : zc4 q0w q10 q0y q18 q0z q1a k (fun c0_ => o (k_ c0_)) = o (zc4 q0w q10 q0y q18 q0z q1a k k_) := by
  unfold zc4
  repeat (first | refine grd_out h0 ?_ | refine br_out ?_ ?_ | rfl | exact h0.symm)
noncomputable def zgy (q0w : Nat) (q10 : List Nat) (q0y : Nat) (q18 : List Nat) (q0z : Nat) (q1a : List Nat) (k : Int) : Bool := (zca q0w q10 q0y q18 q0z q1a k).isSome
noncomputable def z9w (q0w : Nat) (q10 : List Nat) (q0y : Nat) (q18 : List Nat) (q0z : Nat) (q1a : List Nat) (k : Int) : Int := ((zca q0w q10 q0y q18 q0z q1a k).getD default)
theorem zql {q0w : Nat} {q10 : List Nat} {q0y : Nat} {q18 : List Nat} {q0z : Nat} {q1a : List Nat} {k : Int} {r : Int} (h : zca q0w q10 q0y q18 q0z q1a k = some r) : zgy q0w q10 q0y q18 q0z q1a k = true ∧ z9w q0w q10 q0y q18 q0z q1a k = r := by
  unfold zgy z9w
  rw [h]
  exact ⟨rfl, rfl⟩
noncomputable def zd3 {R : Type} (a_n : Nat) (a : List Nat) (b_n : Nat) (b : List Nat) (k_ : Bool → Option R) : Option R := (br (neI (Int.ofNat a_n) (Int.ofNat b_n)) (k_ Bool.false) (grd (zeq a_n b_n a b 0) (br (zeb a_n b_n a b 0) (k_ Bool.false) (k_ Bool.true))))
noncomputable def zcw (a_n : Nat) (a : List Nat) (b_n : Nat) (b : List Nat) : Option (Bool) := zd3 a_n a b_n b (fun c0_ => some c0_)
theorem zp9 {R R' : Type} (o : Option R → Option R') (h0 : o none = none) (a_n : Nat) (a : List Nat) (b_n : Nat) (b : List Nat) (k_ : Bool → Option R) : zd3 a_n a b_n b (fun c0_ => o (k_ c0_)) = o (zd3 a_n a b_n b k_) := by
  unfold zd3
  repeat (first | refine grd_out h0 ?_ | refine br_out ?_ ?_ | rfl | exact h0.symm)
noncomputable def zcx (a_n : Nat) (a : List Nat) (b_n : Nat) (b : List Nat) : Bool := (zcw a_n a b_n b).isSome
noncomputable def zc6 (a_n : Nat) (a : List Nat) (b_n : Nat) (b : List Nat) : Bool := ((zcw a_n a b_n b).getD default)
theorem zlr {a_n : Nat} {a : List Nat} {b_n : Nat} {b : List Nat} {r : Bool} (h : zcw a_n a b_n b = some r) : zcx a_n a b_n b = true ∧ zc6 a_n a b_n b = r := by
  unfold zcx zc6
  rw [h]
  exact ⟨rfl, rfl⟩
noncomputable def zdd {R : Type} (a_n : Nat) (a : List Nat) (k_ : Nat → (List Nat) → Option R) : Option R := (grd (okMk (Int.ofNat a_n) (Int.ofNat a_n) 12) (grd (zcn a_n (toN (Int.ofNat a_n)) a 0 (rF (muN (toN (Int.ofNat a_n)) 3))) (k_ (toN (Int.ofNat a_n)) (zag a_n (toN (Int.ofNat a_n)) a 0 (rF (muN (toN (Int.ofNat a_n)) 3))))))
noncomputable def zal (a_n : Nat) (a : List Nat) : Option (Nat × (List Nat)) := zdd a_n a (fun c0_ c1_ => some (c0_, c1_))
theorem zp4 {R R' : Type} (o : Option R → Option R') (h0 : o none = none) (a_n : Nat) (a : List Nat) (k_ : Nat → (List Nat) → Option R) : zdd a_n a (fun c0_ c1_ => o (k_ c0_ c1_)) = o (zdd a_n a k_) := by
  unfold zdd
  repeat (first | refine grd_out h0 ?_ | refine br_out ?_ ?_ | rfl | exact h0.symm)
noncomputable def zjm (a_n : Nat) (a : List Nat) : Bool := (zal a_n a).isSome
noncomputable def zh4 (a_n : Nat) (a : List Nat) : Nat := ((zal a_n a).getD default).1
noncomputable def zgx (a_n : Nat) (a : List Nat) : List Nat := ((zal a_n a).getD default).2
theorem zr2 {a_n : Nat} {a : List Nat} {r : Nat × (List Nat)} (h : zal a_n a = some r) : zjm a_n a = true ∧ zh4 a_n a = r.1 ∧ zgx a_n a = r.2 := by
  unfold zjm zh4 zgx
  rw [h]
  exact ⟨rfl, rfl, rfl⟩
noncomputable def za1 {R : Type} (t3 : Int) (b0 : List Nat) (b1 : List Nat) (b2 : List Nat) (q2a : Nat) (q2v : Nat) (q2w : Nat) (t4 : Int) (kn_ : Int → Option R) (k0_ : Unit → Option R) (k1_ : Int → Bool → Option R) : Option R := (br (ltI t4 t3) (grd (okIx t4 q2a) (br (fcmp BinOp.geq FloatKind.f32 (gF b0 (ixO 0 t4 1)) 3204448256) (grd (okIx t4 q2a) (br (bnot (fcmp BinOp.leq FloatKind.f32 (gF b0 (ixO 0 t4 1)) 1056964608)) (k0_ ()) (br (ltI 0 t4) (grd (okIx t4 q2a) (grd (okIx (subI IntKind.i64 t4 1) q2a) (br (fcmp BinOp.leq FloatKind.f32 (gF b0 (ixO 0 t4 1)) (gF b0 (ixO 0 (subI IntKind.i64 t4 1) 1))) (k0_ ()) (grd (okIx t4 q2v) (grd (z7y (gF b1 (ixO 0 t4 1))) (br (bnot (z7n (gF b1 (ixO 0 t4 1)))) (k0_ ()) (grd (okIx t4 q2w) (grd (zas (gF b2 (ixO 0 t4 1))) (br (bnot (za6 (gF b2 (ixO 0 t4 1)))) (k0_ ()) (kn_ (addI IntKind.i64 t4 1))))))))))) (grd (okIx t4 q2v) (grd (z7y (gF b1 (ixO 0 t4 1))) (br (bnot (z7n (gF b1 (ixO 0 t4 1)))) (k0_ ()) (grd (okIx t4 q2w) (grd (zas (gF b2 (ixO 0 t4 1))) (br (bnot (za6 (gF b2 (ixO 0 t4 1)))) (k0_ ()) (kn_ (addI IntKind.i64 t4 1))))))))))) (br (bnot Bool.false) (k0_ ()) (br (ltI 0 t4) (grd (okIx t4 q2a) (grd (okIx (subI IntKind.i64 t4 1) q2a) (br (fcmp BinOp.leq FloatKind.f32 (gF b0 (ixO 0 t4 1)) (gF b0 (ixO 0 (subI IntKind.i64 t4 1) 1))) (k0_ ()) (grd (okIx t4 q2v) (grd (z7y (gF b1 (ixO 0 t4 1))) (br (bnot (z7n (gF b1 (ixO 0 t4 1)))) (k0_ ()) (grd (okIx t4 q2w) (grd (zas (gF b2 (ixO 0 t4 1))) (br (bnot (za6 (gF b2 (ixO 0 t4 1)))) (k0_ ()) (kn_ (addI IntKind.i64 t4 1))))))))))) (grd (okIx t4 q2v) (grd (z7y (gF b1 (ixO 0 t4 1))) (br (bnot (z7n (gF b1 (ixO 0 t4 1)))) (k0_ ()) (grd (okIx t4 q2w) (grd (zas (gF b2 (ixO 0 t4 1))) (br (bnot (za6 (gF b2 (ixO 0 t4 1)))) (k0_ ()) (kn_ (addI IntKind.i64 t4 1)))))))))))) (k1_ t4 (ltI t4 t3)))
theorem zqs {R R' : Type} (o : Option R → Option R') (h0 : o none = none) (t3 : Int) (b0 : List Nat) (b1 : List Nat) (b2 : List Nat) (q2a : Nat) (q2v : Nat) (q2w : Nat) (t4 : Int) (kn_ : Int → Option R) (k0_ : Unit → Option R) (k1_ : Int → Bool → Option R) : za1 t3 b0 b1 b2 q2a q2v q2w t4 (fun t4' => o (kn_ t4')) (fun _ => o (k0_ ())) (fun c0_ c1_ => o (k1_ c0_ c1_)) = o (za1 t3 b0 b1 b2 q2a q2v q2w t4 kn_ k0_ k1_) := by
  unfold za1
  repeat (first | refine grd_out h0 ?_ | refine br_out ?_ ?_ | rfl | exact h0.symm)
noncomputable def z7c (t3 : Int) (b0 : List Nat) (b1 : List Nat) (b2 : List Nat) (q2a : Nat) (q2v : Nat) (q2w : Nat) : Nat → Int → Option ((Unit) ⊕ (Int × Bool))
  | 0, _ => none
  | n + 1, t4 => za1 t3 b0 b1 b2 q2a q2v q2w  t4  (fun t4' => z7c t3 b0 b1 b2 q2a q2v q2w n t4') (fun _ => some (Sum.inl ())) (fun c0_ c1_ => some (Sum.inr (c0_, c1_)))
theorem zme (t3 : Int) (b0 : List Nat) (b1 : List Nat) (b2 : List Nat) (q2a : Nat) (q2v : Nat) (q2w : Nat) (n : Nat) (t4 : Int) : z7c t3 b0 b1 b2 q2a q2v q2w (n + 1) t4 = za1 t3 b0 b1 b2 q2a q2v q2w  t4  (fun t4' => z7c t3 b0 b1 b2 q2a q2v q2w n t4') (fun _ => some (Sum.inl ())) (fun c0_ c1_ => some (Sum.inr (c0_, c1_))) := rfl
noncomputable def zam (t3 : Int) (b0 : List Nat) (b1 : List Nat) (b2 : List Nat) (q2a : Nat) (q2v : Nat) (q2w : Nat) (t4 : Int) : Bool := (z7c t3 b0 b1 b2 q2a q2v q2w big t4).isSome
noncomputable def za7 (t3 : Int) (b0 : List Nat) (b1 : List Nat) (b2 : List Nat) (q2a : Nat) (q2v : Nat) (q2w : Nat) (t4 : Int) : Bool := oL (z7c t3 b0 b1 b2 q2a q2v q2w big t4)
noncomputable def zlq (t3 : Int) (b0 : List Nat) (b1 : List Nat) (b2 : List Nat) (q2a : Nat) (q2v : Nat) (q2w : Nat) (t4 : Int) : Int := ((tR (z7c t3 b0 b1 b2 q2a q2v q2w big t4)).getD default).1
noncomputable def zlm (t3 : Int) (b0 : List Nat) (b1 : List Nat) (b2 : List Nat) (q2a : Nat) (q2v : Nat) (q2w : Nat) (t4 : Int) : Bool := ((tR (z7c t3 b0 b1 b2 q2a q2v q2w big t4)).getD default).2
theorem zro {t3 : Int} {b0 : List Nat} {b1 : List Nat} {b2 : List Nat} {q2a : Nat} {q2v : Nat} {q2w : Nat} {t4 : Int} {m : Nat} {r : Unit} (hm : m = big) (h : z7c t3 b0 b1 b2 q2a q2v q2w m t4 = some (Sum.inl r)) : zam t3 b0 b1 b2 q2a q2v q2w t4 = true ∧ za7 t3 b0 b1 b2 q2a q2v q2w t4 = true := by
  subst hm
  unfold zam za7
  rw [h]
  exact ⟨rfl, rfl⟩
theorem zrc {t3 : Int} {b0 : List Nat} {b1 : List Nat} {b2 : List Nat} {q2a : Nat} {q2v : Nat} {q2w : Nat} {t4 : Int} {m : Nat} {r : Int × Bool} (hm : m = big) (h : z7c t3 b0 b1 b2 q2a q2v q2w m t4 = some (Sum.inr r)) : zam t3 b0 b1 b2 q2a q2v q2w t4 = true ∧ za7 t3 b0 b1 b2 q2a q2v q2w t4 = false ∧ zlq t3 b0 b1 b2 q2a q2v q2w t4 = r.1 ∧ zlm t3 b0 b1 b2 q2a q2v q2w t4 = r.2 := by
  subst hm
  unfold zam za7 zlq zlm
  rw [h]
  exact ⟨rfl, rfl, rfl, rfl⟩
noncomputable def z7q {R : Type} (an : Nat) (bn : Nat) (b0 : List Nat) (b1 : List Nat) (i : Int) (kn_ : Int → Option R) (k0_ : Unit → Option R) (k1_ : Int → Bool → Option R) : Option R := (br (ltI i (Int.ofNat an)) (grd (okIx i an) (grd (okIx i bn) (grd (zl1 (gF b0 (ixO 0 i 3)) (gF b0 (Nat.succ (ixO 0 i 3))) (gF b0 (Nat.succ (Nat.succ (ixO 0 i 3)))) (gF b1 (ixO 0 i 3)) (gF b1 (Nat.succ (ixO 0 i 3))) (gF b1 (Nat.succ (Nat.succ (ixO 0 i 3))))) (br (bnot (zjp (gF b0 (ixO 0 i 3)) (gF b0 (Nat.succ (ixO 0 i 3))) (gF b0 (Nat.succ (Nat.succ (ixO 0 i 3)))) (gF b1 (ixO 0 i 3)) (gF b1 (Nat.succ (ixO 0 i 3))) (gF b1 (Nat.succ (Nat.succ (ixO 0 i 3)))))) (k0_ ()) (kn_ (addI IntKind.i64 i 1)))))) (k1_ i (ltI i (Int.ofNat an))))
theorem znt {R R' : Type} (o : Option R → Option R') (h0 : o none = none) (an : Nat) (bn : Nat) (b0 : List Nat) (b1 : List Nat) (i : Int) (kn_ : Int → Option R) (k0_ : Unit → Option R) (k1_ : Int → Bool → Option R) : z7q an bn b0 b1 i (fun i' => o (kn_ i')) (fun _ => o (k0_ ())) (fun c0_ c1_ => o (k1_ c0_ c1_)) = o (z7q an bn b0 b1 i kn_ k0_ k1_) := by
  unfold z7q
  repeat (first | refine grd_out h0 ?_ | refine br_out ?_ ?_ | rfl | exact h0.symm)
noncomputable def z65 (an : Nat) (bn : Nat) (b0 : List Nat) (b1 : List Nat) : Nat → Int → Option ((Unit) ⊕ (Int × Bool))
  | 0, _ => none
  | n + 1, i => z7q an bn b0 b1  i  (fun i' => z65 an bn b0 b1 n i') (fun _ => some (Sum.inl ())) (fun c0_ c1_ => some (Sum.inr (c0_, c1_)))
theorem zlg (an : Nat) (bn : Nat) (b0 : List Nat) (b1 : List Nat) (n : Nat) (i : Int) : z65 an bn b0 b1 (n + 1) i = z7q an bn b0 b1  i  (fun i' => z65 an bn b0 b1 n i') (fun _ => some (Sum.inl ())) (fun c0_ c1_ => some (Sum.inr (c0_, c1_))) := rfl
noncomputable def zco (an : Nat) (bn : Nat) (b0 : List Nat) (b1 : List Nat) (i : Int) : Bool := (z65 an bn b0 b1 big i).isSome
noncomputable def zc9 (an : Nat) (bn : Nat) (b0 : List Nat) (b1 : List Nat) (i : Int) : Bool := oL (z65 an bn b0 b1 big i)
noncomputable def zgb (an : Nat) (bn : Nat) (b0 : List Nat) (b1 : List Nat) (i : Int) : Int := ((tR (z65 an bn b0 b1 big i)).getD default).1
noncomputable def zgg (an : Nat) (bn : Nat) (b0 : List Nat) (b1 : List Nat) (i : Int) : Bool := ((tR (z65 an bn b0 b1 big i)).getD default).2
theorem zot {an : Nat} {bn : Nat} {b0 : List Nat} {b1 : List Nat} {i : Int} {m : Nat} {r : Int × Bool} (hm : m = big) (h : z65 an bn b0 b1 m i = some (Sum.inr r)) : zco an bn b0 b1 i = true ∧ zc9 an bn b0 b1 i = false ∧ zgb an bn b0 b1 i = r.1 ∧ zgg an bn b0 b1 i = r.2 := by
  subst hm
  unfold zco zc9 zgb zgg
  rw [h]
  exact ⟨rfl, rfl, rfl, rfl⟩
noncomputable def z4p {R : Type} (sn : Nat) (t7 : Int) (b0 : List Nat) (t8 : Int) (kn_ : Int → Option R) (k0_ : Int → Option R) (k1_ : Int → Bool → Option R) : Option R := (br (ltI t8 t7) (grd (okIx t8 sn) (grd (zgu (gF b0 (ixO 0 t8 1))) (br (zfy (gF b0 (ixO 0 t8 1))) (k0_ t8) (kn_ (addI IntKind.i64 t8 1))))) (k1_ t8 (ltI t8 t7)))
theorem zg8 {R R' : Type} (o : Option R → Option R') (h0 : o none = none) (sn : Nat) (t7 : Int) (b0 : List Nat) (t8 : Int) (kn_ : Int → Option R) (k0_ : Int → Option R) (k1_ : Int → Bool → Option R) : z4p sn t7 b0 t8 (fun t8' => o (kn_ t8')) (fun c0_ => o (k0_ c0_)) (fun c0_ c1_ => o (k1_ c0_ c1_)) = o (z4p sn t7 b0 t8 kn_ k0_ k1_) := by
  unfold z4p
  repeat (first | refine grd_out h0 ?_ | refine br_out ?_ ?_ | rfl | exact h0.symm)
noncomputable def z2f (sn : Nat) (t7 : Int) (b0 : List Nat) : Nat → Int → Option ((Int) ⊕ (Int × Bool))
  | 0, _ => none
  | n + 1, t8 => z4p sn t7 b0  t8  (fun t8' => z2f sn t7 b0 n t8') (fun c0_ => some (Sum.inl c0_)) (fun c0_ c1_ => some (Sum.inr (c0_, c1_)))
theorem za9 (sn : Nat) (t7 : Int) (b0 : List Nat) (n : Nat) (t8 : Int) : z2f sn t7 b0 (n + 1) t8 = z4p sn t7 b0  t8  (fun t8' => z2f sn t7 b0 n t8') (fun c0_ => some (Sum.inl c0_)) (fun c0_ c1_ => some (Sum.inr (c0_, c1_))) := rfl
noncomputable def z5l (sn : Nat) (t7 : Int) (b0 : List Nat) (t8 : Int) : Bool := (z2f sn t7 b0 big t8).isSome
noncomputable def z5h (sn : Nat) (t7 : Int) (b0 : List Nat) (t8 : Int) : Bool := oL (z2f sn t7 b0 big t8)
noncomputable def z6m (sn : Nat) (t7 : Int) (b0 : List Nat) (t8 : Int) : Int := ((tL (z2f sn t7 b0 big t8)).getD default)
noncomputable def z8r (sn : Nat) (t7 : Int) (b0 : List Nat) (t8 : Int) : Int := ((tR (z2f sn t7 b0 big t8)).getD default).1
noncomputable def z8q (sn : Nat) (t7 : Int) (b0 : List Nat) (t8 : Int) : Bool := ((tR (z2f sn t7 b0 big t8)).getD default).2
theorem zia {sn : Nat} {t7 : Int} {b0 : List Nat} {t8 : Int} {m : Nat} {r : Int} (hm : m = big) (h : z2f sn t7 b0 m t8 = some (Sum.inl r)) : z5l sn t7 b0 t8 = true ∧ z5h sn t7 b0 t8 = true ∧ z6m sn t7 b0 t8 = r := by
  subst hm
  unfold z5l z5h z6m
  rw [h]
  exact ⟨rfl, rfl, rfl⟩
theorem zih {sn : Nat} {t7 : Int} {b0 : List Nat} {t8 : Int} {m : Nat} {r : Int × Bool} (hm : m = big) (h : z2f sn t7 b0 m t8 = some (Sum.inr r)) : z5l sn t7 b0 t8 = true ∧ z5h sn t7 b0 t8 = false ∧ z8r sn t7 b0 t8 = r.1 ∧ z8q sn t7 b0 t8 = r.2 := by
  subst hm
  unfold z5l z5h z8r z8q
  rw [h]
  exact ⟨rfl, rfl, rfl, rfl⟩
noncomputable def z4j {R : Type} (sn : Nat) (t7 : Int) (b0 : List Nat) (t8 : Int) (kn_ : Int → Option R) (k0_ : Int → Option R) (k1_ : Int → Bool → Option R) : Option R := (br (ltI t8 t7) (grd (okIx t8 sn) (grd (zet (gF b0 (ixO 0 t8 1))) (br (zee (gF b0 (ixO 0 t8 1))) (k0_ t8) (kn_ (addI IntKind.i64 t8 1))))) (k1_ t8 (ltI t8 t7)))
theorem zff {R R' : Type} (o : Option R → Option R') (h0 : o none = none) (sn : Nat) (t7 : Int) (b0 : List Nat) (t8 : Int) (kn_ : Int → Option R) (k0_ : Int → Option R) (k1_ : Int → Bool → Option R) : z4j sn t7 b0 t8 (fun t8' => o (kn_ t8')) (fun c0_ => o (k0_ c0_)) (fun c0_ c1_ => o (k1_ c0_ c1_)) = o (z4j sn t7 b0 t8 kn_ k0_ k1_) := by
  unfold z4j
  repeat (first | refine grd_out h0 ?_ | refine br_out ?_ ?_ | rfl | exact h0.symm)
noncomputable def z27 (sn : Nat) (t7 : Int) (b0 : List Nat) : Nat → Int → Option ((Int) ⊕ (Int × Bool))
  | 0, _ => none
  | n + 1, t8 => z4j sn t7 b0  t8  (fun t8' => z27 sn t7 b0 n t8') (fun c0_ => some (Sum.inl c0_)) (fun c0_ c1_ => some (Sum.inr (c0_, c1_)))
theorem za4 (sn : Nat) (t7 : Int) (b0 : List Nat) (n : Nat) (t8 : Int) : z27 sn t7 b0 (n + 1) t8 = z4j sn t7 b0  t8  (fun t8' => z27 sn t7 b0 n t8') (fun c0_ => some (Sum.inl c0_)) (fun c0_ c1_ => some (Sum.inr (c0_, c1_))) := rfl
noncomputable def z5d (sn : Nat) (t7 : Int) (b0 : List Nat) (t8 : Int) : Bool := (z27 sn t7 b0 big t8).isSome
noncomputable def z5a (sn : Nat) (t7 : Int) (b0 : List Nat) (t8 : Int) : Bool := oL (z27 sn t7 b0 big t8)
noncomputable def z6a (sn : Nat) (t7 : Int) (b0 : List Nat) (t8 : Int) : Int := ((tL (z27 sn t7 b0 big t8)).getD default)
noncomputable def z81 (sn : Nat) (t7 : Int) (b0 : List Nat) (t8 : Int) : Int := ((tR (z27 sn t7 b0 big t8)).getD default).1
noncomputable def z80 (sn : Nat) (t7 : Int) (b0 : List Nat) (t8 : Int) : Bool := ((tR (z27 sn t7 b0 big t8)).getD default).2
theorem zge {sn : Nat} {t7 : Int} {b0 : List Nat} {t8 : Int} {m : Nat} {r : Int} (hm : m = big) (h : z27 sn t7 b0 m t8 = some (Sum.inl r)) : z5d sn t7 b0 t8 = true ∧ z5a sn t7 b0 t8 = true ∧ z6a sn t7 b0 t8 = r := by
  subst hm
  unfold z5d z5a z6a
  rw [h]
  exact ⟨rfl, rfl, rfl⟩
theorem zgd {sn : Nat} {t7 : Int} {b0 : List Nat} {t8 : Int} {m : Nat} {r : Int × Bool} (hm : m = big) (h : z27 sn t7 b0 m t8 = some (Sum.inr r)) : z5d sn t7 b0 t8 = true ∧ z5a sn t7 b0 t8 = false ∧ z81 sn t7 b0 t8 = r.1 ∧ z80 sn t7 b0 t8 = r.2 := by
  subst hm
  unfold z5d z5a z81 z80
  rw [h]
  exact ⟨rfl, rfl, rfl, rfl⟩
noncomputable def zds {R : Type} (q0w : Nat) (q10 : List Nat) (q0y : Nat) (q18 : List Nat) (q0z : Nat) (q1a : List Nat) (q3b : Nat) (q3h : List Nat) (q3e : Nat) (q3l : List Nat) (q3d : Nat) (q3m : List Nat) (k_ : Bool → Option R) : Option R := (grd (zcx q0w (pF q10 0 (muN q0w 1)) q3b (pF q3h 0 (muN q3b 1))) (br (bnot (zc6 q0w (pF q10 0 (muN q0w 1)) q3b (pF q3h 0 (muN q3b 1)))) (k_ Bool.false) (grd (zcx q0y (pF q18 0 (muN q0y 1)) q3e (pF q3l 0 (muN q3e 1))) (br (bnot (zc6 q0y (pF q18 0 (muN q0y 1)) q3e (pF q3l 0 (muN q3e 1)))) (k_ Bool.false) (grd (zcx q0z (pF q1a 0 (muN q0z 1)) q3d (pF q3m 0 (muN q3d 1))) (br (bnot (zc6 q0z (pF q1a 0 (muN q0z 1)) q3d (pF q3m 0 (muN q3d 1)))) (k_ Bool.false) (k_ Bool.true)))))))
noncomputable def zdp (q0w : Nat) (q10 : List Nat) (q0y : Nat) (q18 : List Nat) (q0z : Nat) (q1a : List Nat) (q3b : Nat) (q3h : List Nat) (q3e : Nat) (q3l : List Nat) (q3d : Nat) (q3m : List Nat) : Option (Bool) := zds q0w q10 q0y q18 q0z q1a q3b q3h q3e q3l q3d q3m (fun c0_ => some c0_)
theorem zq0 {R R' : Type} (o : Option R → Option R') (h0 : o none = none) (q0w : Nat) (q10 : List Nat) (q0y : Nat) (q18 : List Nat) (q0z : Nat) (q1a : List Nat) (q3b : Nat) (q3h : List Nat) (q3e : Nat) (q3l : List Nat) (q3d : Nat) (q3m : List Nat) (k_ : Bool → Option R) : zds q0w q10 q0y q18 q0z q1a q3b q3h q3e q3l q3d q3m (fun c0_ => o (k_ c0_)) = o (zds q0w q10 q0y q18 q0z q1a q3b q3h q3e q3l q3d q3m k_) := by
  unfold zds
  repeat (first | refine grd_out h0 ?_ | refine br_out ?_ ?_ | rfl | exact h0.symm)
noncomputable def zkw (q0w : Nat) (q10 : List Nat) (q0y : Nat) (q18 : List Nat) (q0z : Nat) (q1a : List Nat) (q3b : Nat) (q3h : List Nat) (q3e : Nat) (q3l : List Nat) (q3d : Nat) (q3m : List Nat) : Bool := (zdp q0w q10 q0y q18 q0z q1a q3b q3h q3e q3l q3d q3m).isSome
noncomputable def zje (q0w : Nat) (q10 : List Nat) (q0y : Nat) (q18 : List Nat) (q0z : Nat) (q1a : List Nat) (q3b : Nat) (q3h : List Nat) (q3e : Nat) (q3l : List Nat) (q3d : Nat) (q3m : List Nat) : Bool := ((zdp q0w q10 q0y q18 q0z q1a q3b q3h q3e q3l q3d q3m).getD default)
theorem zmw {q0w : Nat} {q10 : List Nat} {q0y : Nat} {q18 : List Nat} {q0z : Nat} {q1a : List Nat} {q3b : Nat} {q3h : List Nat} {q3e : Nat} {q3l : List Nat} {q3d : Nat} {q3m : List Nat} {r : Bool} (h : zdp q0w q10 q0y q18 q0z q1a q3b q3h q3e q3l q3d q3m = some r) : zkw q0w q10 q0y q18 q0z q1a q3b q3h q3e q3l q3d q3m = true ∧ zje q0w q10 q0y q18 q0z q1a q3b q3h q3e q3l q3d q3m = r := by
  unfold zkw zje
  rw [h]
  exact ⟨rfl, rfl⟩
noncomputable def zdx {R : Type} (q0m : Nat) (q0q : List Nat) (q0o : Nat) (q0s : List Nat) (q0n : Nat) (q0r : List Nat) (q0v : Nat) (q0x : List Nat) (q19 : Int) (q26 : Nat) (q27 : Nat) (k : Int) (k_ : Int → Option R) : Option R := (grd (zgy q0m (pF q0q 0 (muN q0m 1)) q0o (pF q0s 0 (muN q0o 1)) q0n (pF q0r 0 (muN q0n 1)) k) (br (ltI (z9w q0m (pF q0q 0 (muN q0m 1)) q0o (pF q0s 0 (muN q0o 1)) q0n (pF q0r 0 (muN q0n 1)) k) 0) (k_ (Int.negSucc 0)) (grd (zfr q0v (pF q0x 0 (muN q0v 3)) (z9w q0m (pF q0q 0 (muN q0m 1)) q0o (pF q0s 0 (muN q0o 1)) q0n (pF q0r 0 (muN q0n 1)) k)) (br (ltI (zcs q0v (pF q0x 0 (muN q0v 3)) (z9w q0m (pF q0q 0 (muN q0m 1)) q0o (pF q0s 0 (muN q0o 1)) q0n (pF q0r 0 (muN q0n 1)) k)) 0) (k_ (Int.negSucc 0)) (k_ (zcs q0v (pF q0x 0 (muN q0v 3)) (z9w q0m (pF q0q 0 (muN q0m 1)) q0o (pF q0s 0 (muN q0o 1)) q0n (pF q0r 0 (muN q0n 1)) k)))))))
noncomputable def zdz (q0m : Nat) (q0q : List Nat) (q0o : Nat) (q0s : List Nat) (q0n : Nat) (q0r : List Nat) (q0v : Nat) (q0x : List Nat) (q19 : Int) (q26 : Nat) (q27 : Nat) (k : Int) : Option (Int) := zdx q0m q0q q0o q0s q0n q0r q0v q0x q19 q26 q27 k (fun c0_ => some c0_)
theorem zpo {R R' : Type} (o : Option R → Option R') (h0 : o none = none) (q0m : Nat) (q0q : List Nat) (q0o : Nat) (q0s : List Nat) (q0n : Nat) (q0r : List Nat) (q0v : Nat) (q0x : List Nat) (q19 : Int) (q26 : Nat) (q27 : Nat) (k : Int) (k_ : Int → Option R) : zdx q0m q0q q0o q0s q0n q0r q0v q0x q19 q26 q27 k (fun c0_ => o (k_ c0_)) = o (zdx q0m q0q q0o q0s q0n q0r q0v q0x q19 q26 q27 k k_) := by
  unfold zdx
  repeat (first | refine grd_out h0 ?_ | refine br_out ?_ ?_ | rfl | exact h0.symm)
noncomputable def zku (q0m : Nat) (q0q : List Nat) (q0o : Nat) (q0s : List Nat) (q0n : Nat) (q0r : List Nat) (q0v : Nat) (q0x : List Nat) (q19 : Int) (q26 : Nat) (q27 : Nat) (k : Int) : Bool := (zdz q0m q0q q0o q0s q0n q0r q0v q0x q19 q26 q27 k).isSome
noncomputable def zjo (q0m : Nat) (q0q : List Nat) (q0o : Nat) (q0s : List Nat) (q0n : Nat) (q0r : List Nat) (q0v : Nat) (q0x : List Nat) (q19 : Int) (q26 : Nat) (q27 : Nat) (k : Int) : Int := ((zdz q0m q0q q0o q0s q0n q0r q0v q0x q19 q26 q27 k).getD default)
theorem zrn {q0m : Nat} {q0q : List Nat} {q0o : Nat} {q0s : List Nat} {q0n : Nat} {q0r : List Nat} {q0v : Nat} {q0x : List Nat} {q19 : Int} {q26 : Nat} {q27 : Nat} {k : Int} {r : Int} (h : zdz q0m q0q q0o q0s q0n q0r q0v q0x q19 q26 q27 k = some r) : zku q0m q0q q0o q0s q0n q0r q0v q0x q19 q26 q27 k = true ∧ zjo q0m q0q q0o q0s q0n q0r q0v q0x q19 q26 q27 k = r := by
  unfold zku zjo
  rw [h]
  exact ⟨rfl, rfl⟩
noncomputable def zf3 {R : Type} (q0m : Nat) (q0q : List Nat) (q0o : Nat) (q0s : List Nat) (q0n : Nat) (q0r : List Nat) (q0v : Nat) (q0x : List Nat) (q19 : Int) (q26 : Nat) (q27 : Nat) (k_ : Nat → Nat → Nat → Nat → (List Nat) → (List Nat) → (List Nat) → (List Nat) → Option R) : Option R := (grd (zky q0m (pF q0q 0 (muN q0m 1)) q0o (pF q0s 0 (muN q0o 1)) q0n (pF q0r 0 (muN q0n 1))) (grd (zjm q0v (pF q0x 0 (muN q0v 3))) (k_ (zjj q0m (pF q0q 0 (muN q0m 1)) q0o (pF q0s 0 (muN q0o 1)) q0n (pF q0r 0 (muN q0n 1))) (zjl q0m (pF q0q 0 (muN q0m 1)) q0o (pF q0s 0 (muN q0o 1)) q0n (pF q0r 0 (muN q0n 1))) (zjb q0m (pF q0q 0 (muN q0m 1)) q0o (pF q0s 0 (muN q0o 1)) q0n (pF q0r 0 (muN q0n 1))) (zh4 q0v (pF q0x 0 (muN q0v 3))) (zjk q0m (pF q0q 0 (muN q0m 1)) q0o (pF q0s 0 (muN q0o 1)) q0n (pF q0r 0 (muN q0n 1))) (zjr q0m (pF q0q 0 (muN q0m 1)) q0o (pF q0s 0 (muN q0o 1)) q0n (pF q0r 0 (muN q0n 1))) (zjn q0m (pF q0q 0 (muN q0m 1)) q0o (pF q0s 0 (muN q0o 1)) q0n (pF q0r 0 (muN q0n 1))) (zgx q0v (pF q0x 0 (muN q0v 3))))))
noncomputable def z7u (q0m : Nat) (q0q : List Nat) (q0o : Nat) (q0s : List Nat) (q0n : Nat) (q0r : List Nat) (q0v : Nat) (q0x : List Nat) (q19 : Int) (q26 : Nat) (q27 : Nat) : Option (Nat × Nat × Nat × Nat × (List Nat) × (List Nat) × (List Nat) × (List Nat)) := zf3 q0m q0q q0o q0s q0n q0r q0v q0x q19 q26 q27 (fun c0_ c1_ c2_ c3_ c4_ c5_ c6_ c7_ => some (c0_, c1_, c2_, c3_, c4_, c5_, c6_, c7_))
theorem zr0 {R R' : Type} (o : Option R → Option R') (h0 : o none = none) (q0m : Nat) (q0q : List Nat) (q0o : Nat) (q0s : List Nat) (q0n : Nat) (q0r : List Nat) (q0v : Nat) (q0x : List Nat) (q19 : Int) (q26 : Nat) (q27 : Nat) (k_ : Nat → Nat → Nat → Nat → (List Nat) → (List Nat) → (List Nat) → (List Nat) → Option R) : zf3 q0m q0q q0o q0s q0n q0r q0v q0x q19 q26 q27 (fun c0_ c1_ c2_ c3_ c4_ c5_ c6_ c7_ => o (k_ c0_ c1_ c2_ c3_ c4_ c5_ c6_ c7_)) = o (zf3 q0m q0q q0o q0s q0n q0r q0v q0x q19 q26 q27 k_) := by
  unfold zf3
  repeat (first | refine grd_out h0 ?_ | refine br_out ?_ ?_ | rfl | exact h0.symm)
noncomputable def zka (q0m : Nat) (q0q : List Nat) (q0o : Nat) (q0s : List Nat) (q0n : Nat) (q0r : List Nat) (q0v : Nat) (q0x : List Nat) (q19 : Int) (q26 : Nat) (q27 : Nat) : Bool := (z7u q0m q0q q0o q0s q0n q0r q0v q0x q19 q26 q27).isSome
noncomputable def zhu (q0m : Nat) (q0q : List Nat) (q0o : Nat) (q0s : List Nat) (q0n : Nat) (q0r : List Nat) (q0v : Nat) (q0x : List Nat) (q19 : Int) (q26 : Nat) (q27 : Nat) : Nat := ((z7u q0m q0q q0o q0s q0n q0r q0v q0x q19 q26 q27).getD default).1
noncomputable def zgv (q0m : Nat) (q0q : List Nat) (q0o : Nat) (q0s : List Nat) (q0n : Nat) (q0r : List Nat) (q0v : Nat) (q0x : List Nat) (q19 : Int) (q26 : Nat) (q27 : Nat) : Nat := ((z7u q0m q0q q0o q0s q0n q0r q0v q0x q19 q26 q27).getD default).2.1
noncomputable def zhe (q0m : Nat) (q0q : List Nat) (q0o : Nat) (q0s : List Nat) (q0n : Nat) (q0r : List Nat) (q0v : Nat) (q0x : List Nat) (q19 : Int) (q26 : Nat) (q27 : Nat) : Nat := ((z7u q0m q0q q0o q0s q0n q0r q0v q0x q19 q26 q27).getD default).2.2.1
noncomputable def zgt (q0m : Nat) (q0q : List Nat) (q0o : Nat) (q0s : List Nat) (q0n : Nat) (q0r : List Nat) (q0v : Nat) (q0x : List Nat) (q19 : Int) (q26 : Nat) (q27 : Nat) : Nat := ((z7u q0m q0q q0o q0s q0n q0r q0v q0x q19 q26 q27).getD default).2.2.2.1
noncomputable def zi3 (q0m : Nat) (q0q : List Nat) (q0o : Nat) (q0s : List Nat) (q0n : Nat) (q0r : List Nat) (q0v : Nat) (q0x : List Nat) (q19 : Int) (q26 : Nat) (q27 : Nat) : List Nat := ((z7u q0m q0q q0o q0s q0n q0r q0v q0x q19 q26 q27).getD default).2.2.2.2.1
noncomputable def zi8 (q0m : Nat) (q0q : List Nat) (q0o : Nat) (q0s : List Nat) (q0n : Nat) (q0r : List Nat) (q0v : Nat) (q0x : List Nat) (q19 : Int) (q26 : Nat) (q27 : Nat) : List Nat := ((z7u q0m q0q q0o q0s q0n q0r q0v q0x q19 q26 q27).getD default).2.2.2.2.2.1
noncomputable def zho (q0m : Nat) (q0q : List Nat) (q0o : Nat) (q0s : List Nat) (q0n : Nat) (q0r : List Nat) (q0v : Nat) (q0x : List Nat) (q19 : Int) (q26 : Nat) (q27 : Nat) : List Nat := ((z7u q0m q0q q0o q0s q0n q0r q0v q0x q19 q26 q27).getD default).2.2.2.2.2.2.1
noncomputable def zh8 (q0m : Nat) (q0q : List Nat) (q0o : Nat) (q0s : List Nat) (q0n : Nat) (q0r : List Nat) (q0v : Nat) (q0x : List Nat) (q19 : Int) (q26 : Nat) (q27 : Nat) : List Nat := ((z7u q0m q0q q0o q0s q0n q0r q0v q0x q19 q26 q27).getD default).2.2.2.2.2.2.2
theorem zsl {q0m : Nat} {q0q : List Nat} {q0o : Nat} {q0s : List Nat} {q0n : Nat} {q0r : List Nat} {q0v : Nat} {q0x : List Nat} {q19 : Int} {q26 : Nat} {q27 : Nat} {r : Nat × Nat × Nat × Nat × (List Nat) × (List Nat) × (List Nat) × (List Nat)} (h : z7u q0m q0q q0o q0s q0n q0r q0v q0x q19 q26 q27 = some r) : zka q0m q0q q0o q0s q0n q0r q0v q0x q19 q26 q27 = true ∧ zhu q0m q0q q0o q0s q0n q0r q0v q0x q19 q26 q27 = r.1 ∧ zgv q0m q0q q0o q0s q0n q0r q0v q0x q19 q26 q27 = r.2.1 ∧ zhe q0m q0q q0o q0s q0n q0r q0v q0x q19 q26 q27 = r.2.2.1 ∧ zgt q0m q0q q0o q0s q0n q0r q0v q0x q19 q26 q27 = r.2.2.2.1 ∧ zi3 q0m q0q q0o q0s q0n q0r q0v q0x q19 q26 q27 = r.2.2.2.2.1 ∧ zi8 q0m q0q q0o q0s q0n q0r q0v q0x q19 q26 q27 = r.2.2.2.2.2.1 ∧ zho q0m q0q q0o q0s q0n q0r q0v q0x q19 q26 q27 = r.2.2.2.2.2.2.1 ∧ zh8 q0m q0q q0o q0s q0n q0r q0v q0x q19 q26 q27 = r.2.2.2.2.2.2.2 := by
  unfold zka zhu zgv zhe zgt zi3 zi8 zho zh8
  rw [h]
  exact ⟨rfl, rfl, rfl, rfl, rfl, rfl, rfl, rfl, rfl⟩
noncomputable def zjw {R : Type} (q11 : Nat) (q1q : List Nat) (q1b : Nat) (q1t : List Nat) (q1c : Nat) (q1s : List Nat) (k_ : Bool → Option R) : Option R := (br (ltI (Int.ofNat q11) 2) (k_ Bool.false) (br (ltI 24 (Int.ofNat q11)) (k_ Bool.false) (br (neI (Int.ofNat q1b) (Int.ofNat q11)) (k_ Bool.false) (br (neI (Int.ofNat q1c) (Int.ofNat q11)) (k_ Bool.false) (grd (zam (Int.ofNat q11) q1q q1t q1s q11 q1b q1c 0) (br (za7 (Int.ofNat q11) q1q q1t q1s q11 q1b q1c 0) (k_ Bool.false) (k_ Bool.true)))))))
noncomputable def zjx (q11 : Nat) (q1q : List Nat) (q1b : Nat) (q1t : List Nat) (q1c : Nat) (q1s : List Nat) : Option (Bool) := zjw q11 q1q q1b q1t q1c q1s (fun c0_ => some c0_)
theorem zsa {R R' : Type} (o : Option R → Option R') (h0 : o none = none) (q11 : Nat) (q1q : List Nat) (q1b : Nat) (q1t : List Nat) (q1c : Nat) (q1s : List Nat) (k_ : Bool → Option R) : zjw q11 q1q q1b q1t q1c q1s (fun c0_ => o (k_ c0_)) = o (zjw q11 q1q q1b q1t q1c q1s k_) := by
  unfold zjw
  repeat (first | refine grd_out h0 ?_ | refine br_out ?_ ?_ | rfl | exact h0.symm)
noncomputable def zmc (q11 : Nat) (q1q : List Nat) (q1b : Nat) (q1t : List Nat) (q1c : Nat) (q1s : List Nat) : Bool := (zjx q11 q1q q1b q1t q1c q1s).isSome
noncomputable def zm9 (q11 : Nat) (q1q : List Nat) (q1b : Nat) (q1t : List Nat) (q1c : Nat) (q1s : List Nat) : Bool := ((zjx q11 q1q q1b q1t q1c q1s).getD default)
theorem zsz {q11 : Nat} {q1q : List Nat} {q1b : Nat} {q1t : List Nat} {q1c : Nat} {q1s : List Nat} {r : Bool} (h : zjx q11 q1q q1b q1t q1c q1s = some r) : zmc q11 q1q q1b q1t q1c q1s = true ∧ zm9 q11 q1q q1b q1t q1c q1s = r := by
  unfold zmc zm9
  rw [h]
  exact ⟨rfl, rfl⟩
noncomputable def zdg {R : Type} (a_n : Nat) (a : List Nat) (b_n : Nat) (b : List Nat) (k_ : Bool → Option R) : Option R := (br (neI (Int.ofNat a_n) (Int.ofNat b_n)) (k_ Bool.false) (grd (zco a_n b_n a b 0) (br (zc9 a_n b_n a b 0) (k_ Bool.false) (k_ Bool.true))))
noncomputable def zcv (a_n : Nat) (a : List Nat) (b_n : Nat) (b : List Nat) : Option (Bool) := zdg a_n a b_n b (fun c0_ => some c0_)
theorem zp7 {R R' : Type} (o : Option R → Option R') (h0 : o none = none) (a_n : Nat) (a : List Nat) (b_n : Nat) (b : List Nat) (k_ : Bool → Option R) : zdg a_n a b_n b (fun c0_ => o (k_ c0_)) = o (zdg a_n a b_n b k_) := by
  unfold zdg
  repeat (first | refine grd_out h0 ?_ | refine br_out ?_ ?_ | rfl | exact h0.symm)
noncomputable def zjh (a_n : Nat) (a : List Nat) (b_n : Nat) (b : List Nat) : Bool := (zcv a_n a b_n b).isSome
noncomputable def zgp (a_n : Nat) (a : List Nat) (b_n : Nat) (b : List Nat) : Bool := ((zcv a_n a b_n b).getD default)
theorem zmn {a_n : Nat} {a : List Nat} {b_n : Nat} {b : List Nat} {r : Bool} (h : zcv a_n a b_n b = some r) : zjh a_n a b_n b = true ∧ zgp a_n a b_n b = r := by
  unfold zjh zgp
  rw [h]
  exact ⟨rfl, rfl⟩
noncomputable def z5y {R : Type} (s_n : Nat) (s : List Nat) (k_ : Int → Option R) : Option R := (grd (z5l s_n (Int.ofNat s_n) s 0) (br (z5h s_n (Int.ofNat s_n) s 0) (k_ (z6m s_n (Int.ofNat s_n) s 0)) (k_ (Int.negSucc 0))))
noncomputable def z5x (s_n : Nat) (s : List Nat) : Option (Int) := z5y s_n s (fun c0_ => some c0_)
theorem zj4 {R R' : Type} (o : Option R → Option R') (h0 : o none = none) (s_n : Nat) (s : List Nat) (k_ : Int → Option R) : z5y s_n s (fun c0_ => o (k_ c0_)) = o (z5y s_n s k_) := by
  unfold z5y
  repeat (first | refine grd_out h0 ?_ | refine br_out ?_ ?_ | rfl | exact h0.symm)
noncomputable def z7w (s_n : Nat) (s : List Nat) : Bool := (z5x s_n s).isSome
noncomputable def z7p (s_n : Nat) (s : List Nat) : Int := ((z5x s_n s).getD default)
theorem zkv {s_n : Nat} {s : List Nat} {r : Int} (h : z5x s_n s = some r) : z7w s_n s = true ∧ z7p s_n s = r := by
  unfold z7w z7p
  rw [h]
  exact ⟨rfl, rfl⟩
noncomputable def z5o {R : Type} (s_n : Nat) (s : List Nat) (k_ : Int → Option R) : Option R := (grd (z5d s_n (Int.ofNat s_n) s 0) (br (z5a s_n (Int.ofNat s_n) s 0) (k_ (z6a s_n (Int.ofNat s_n) s 0)) (k_ (Int.negSucc 0))))
noncomputable def z5q (s_n : Nat) (s : List Nat) : Option (Int) := z5o s_n s (fun c0_ => some c0_)
theorem zhp {R R' : Type} (o : Option R → Option R') (h0 : o none = none) (s_n : Nat) (s : List Nat) (k_ : Int → Option R) : z5o s_n s (fun c0_ => o (k_ c0_)) = o (z5o s_n s k_) := by
  unfold z5o
  repeat (first | refine grd_out h0 ?_ | refine br_out ?_ ?_ | rfl | exact h0.symm)
noncomputable def z7m (s_n : Nat) (s : List Nat) : Bool := (z5q s_n s).isSome
noncomputable def z7d (s_n : Nat) (s : List Nat) : Int := ((z5q s_n s).getD default)
theorem zk9 {s_n : Nat} {s : List Nat} {r : Int} (h : z5q s_n s = some r) : z7m s_n s = true ∧ z7d s_n s = r := by
  unfold z7m z7d
  rw [h]
  exact ⟨rfl, rfl⟩
noncomputable def z4s {R : Type} (sn : Nat) (t7 : Int) (b0 : List Nat) (t8 : Int) (kn_ : Int → Option R) (k0_ : Int → Option R) (k1_ : Int → Bool → Option R) : Option R := (br (ltI t8 t7) (grd (okIx t8 sn) (grd (zjd (gF b0 (ixO 0 t8 1))) (br (zhr (gF b0 (ixO 0 t8 1))) (k0_ t8) (kn_ (addI IntKind.i64 t8 1))))) (k1_ t8 (ltI t8 t7)))
theorem zhg {R R' : Type} (o : Option R → Option R') (h0 : o none = none) (sn : Nat) (t7 : Int) (b0 : List Nat) (t8 : Int) (kn_ : Int → Option R) (k0_ : Int → Option R) (k1_ : Int → Bool → Option R) : z4s sn t7 b0 t8 (fun t8' => o (kn_ t8')) (fun c0_ => o (k0_ c0_)) (fun c0_ c1_ => o (k1_ c0_ c1_)) = o (z4s sn t7 b0 t8 kn_ k0_ k1_) := by
  unfold z4s
  repeat (first | refine grd_out h0 ?_ | refine br_out ?_ ?_ | rfl | exact h0.symm)
noncomputable def z2m (sn : Nat) (t7 : Int) (b0 : List Nat) : Nat → Int → Option ((Int) ⊕ (Int × Bool))
  | 0, _ => none
  | n + 1, t8 => z4s sn t7 b0  t8  (fun t8' => z2m sn t7 b0 n t8') (fun c0_ => some (Sum.inl c0_)) (fun c0_ c1_ => some (Sum.inr (c0_, c1_)))
theorem zai (sn : Nat) (t7 : Int) (b0 : List Nat) (n : Nat) (t8 : Int) : z2m sn t7 b0 (n + 1) t8 = z4s sn t7 b0  t8  (fun t8' => z2m sn t7 b0 n t8') (fun c0_ => some (Sum.inl c0_)) (fun c0_ c1_ => some (Sum.inr (c0_, c1_))) := rfl
noncomputable def z5r (sn : Nat) (t7 : Int) (b0 : List Nat) (t8 : Int) : Bool := (z2m sn t7 b0 big t8).isSome
noncomputable def z5k (sn : Nat) (t7 : Int) (b0 : List Nat) (t8 : Int) : Bool := oL (z2m sn t7 b0 big t8)
noncomputable def z6s (sn : Nat) (t7 : Int) (b0 : List Nat) (t8 : Int) : Int := ((tL (z2m sn t7 b0 big t8)).getD default)
noncomputable def z8x (sn : Nat) (t7 : Int) (b0 : List Nat) (t8 : Int) : Int := ((tR (z2m sn t7 b0 big t8)).getD default).1
noncomputable def z8w (sn : Nat) (t7 : Int) (b0 : List Nat) (t8 : Int) : Bool := ((tR (z2m sn t7 b0 big t8)).getD default).2
theorem zis {sn : Nat} {t7 : Int} {b0 : List Nat} {t8 : Int} {m : Nat} {r : Int} (hm : m = big) (h : z2m sn t7 b0 m t8 = some (Sum.inl r)) : z5r sn t7 b0 t8 = true ∧ z5k sn t7 b0 t8 = true ∧ z6s sn t7 b0 t8 = r := by
  subst hm
  unfold z5r z5k z6s
  rw [h]
  exact ⟨rfl, rfl, rfl⟩
theorem ziw {sn : Nat} {t7 : Int} {b0 : List Nat} {t8 : Int} {m : Nat} {r : Int × Bool} (hm : m = big) (h : z2m sn t7 b0 m t8 = some (Sum.inr r)) : z5r sn t7 b0 t8 = true ∧ z5k sn t7 b0 t8 = false ∧ z8x sn t7 b0 t8 = r.1 ∧ z8w sn t7 b0 t8 = r.2 := by
  subst hm
  unfold z5r z5k z8x z8w
  rw [h]
  exact ⟨rfl, rfl, rfl, rfl⟩
noncomputable def ze2 {R : Type} (q0m : Nat) (q0q : List Nat) (q0o : Nat) (q0s : List Nat) (q0n : Nat) (q0r : List Nat) (q0v : Nat) (q0x : List Nat) (q19 : Int) (q26 : Nat) (q27 : Nat) (q2i : Nat) (q2m : List Nat) (q2k : Nat) (q2o : List Nat) (q2j : Nat) (q2n : List Nat) (q2z : Nat) (q3c : List Nat) (q3n : Int) (q3p : Nat) (q3o : Nat) (k_ : Bool → Option R) : Option R := (grd (zkw q0m (pF q0q 0 (muN q0m 1)) q0o (pF q0s 0 (muN q0o 1)) q0n (pF q0r 0 (muN q0n 1)) q2i (pF q2m 0 (muN q2i 1)) q2k (pF q2o 0 (muN q2k 1)) q2j (pF q2n 0 (muN q2j 1))) (br (bnot (zje q0m (pF q0q 0 (muN q0m 1)) q0o (pF q0s 0 (muN q0o 1)) q0n (pF q0r 0 (muN q0n 1)) q2i (pF q2m 0 (muN q2i 1)) q2k (pF q2o 0 (muN q2k 1)) q2j (pF q2n 0 (muN q2j 1)))) (k_ Bool.false) (grd (zjh q0v (pF q0x 0 (muN q0v 3)) q2z (pF q3c 0 (muN q2z 3))) (br (bnot (zgp q0v (pF q0x 0 (muN q0v 3)) q2z (pF q3c 0 (muN q2z 3)))) (k_ Bool.false) (br (neI q19 q3n) (k_ Bool.false) (grd (z9c (fcvV FloatKind.f32 FloatKind.f64 q26) (fcvV FloatKind.f32 FloatKind.f64 q3p)) (br (bnot (z92 (fcvV FloatKind.f32 FloatKind.f64 q26) (fcvV FloatKind.f32 FloatKind.f64 q3p))) (k_ Bool.false) (grd (z9c (fcvV FloatKind.f32 FloatKind.f64 q27) (fcvV FloatKind.f32 FloatKind.f64 q3o)) (br (bnot (z92 (fcvV FloatKind.f32 FloatKind.f64 q27) (fcvV FloatKind.f32 FloatKind.f64 q3o))) (k_ Bool.false) (k_ Bool.true))))))))))
noncomputable def zce (q0m : Nat) (q0q : List Nat) (q0o : Nat) (q0s : List Nat) (q0n : Nat) (q0r : List Nat) (q0v : Nat) (q0x : List Nat) (q19 : Int) (q26 : Nat) (q27 : Nat) (q2i : Nat) (q2m : List Nat) (q2k : Nat) (q2o : List Nat) (q2j : Nat) (q2n : List Nat) (q2z : Nat) (q3c : List Nat) (q3n : Int) (q3p : Nat) (q3o : Nat) : Option (Bool) := ze2 q0m q0q q0o q0s q0n q0r q0v q0x q19 q26 q27 q2i q2m q2k q2o q2j q2n q2z q3c q3n q3p q3o (fun c0_ => some c0_)
theorem zqv {R R' : Type} (o : Option R → Option R') (h0 : o none = none) (q0m : Nat) (q0q : List Nat) (q0o : Nat) (q0s : List Nat) (q0n : Nat) (q0r : List Nat) (q0v : Nat) (q0x : List Nat) (q19 : Int) (q26 : Nat) (q27 : Nat) (q2i : Nat) (q2m : List Nat) (q2k : Nat) (q2o : List Nat) (q2j : Nat) (q2n : List Nat) (q2z : Nat) (q3c : List Nat) (q3n : Int) (q3p : Nat) (q3o : Nat) (k_ : Bool → Option R) : ze2 q0m q0q q0o q0s q0n q0r q0v q0x q19 q26 q27 q2i q2m q2k q2o q2j q2n q2z q3c q3n q3p q3o (fun c0_ => o (k_ c0_)) = o (ze2 q0m q0q q0o q0s q0n q0r q0v q0x q19 q26 q27 q2i q2m q2k q2o q2j q2n q2z q3c q3n q3p q3o k_) := by
  unfold ze2
  repeat (first | refine grd_out h0 ?_ | refine br_out ?_ ?_ | rfl | exact h0.symm)
noncomputable def zf6 (q0m : Nat) (q0q : List Nat) (q0o : Nat) (q0s : List Nat) (q0n : Nat) (q0r : List Nat) (q0v : Nat) (q0x : List Nat) (q19 : Int) (q26 : Nat) (q27 : Nat) (q2i : Nat) (q2m : List Nat) (q2k : Nat) (q2o : List Nat) (q2j : Nat) (q2n : List Nat) (q2z : Nat) (q3c : List Nat) (q3n : Int) (q3p : Nat) (q3o : Nat) : Bool := (zce q0m q0q q0o q0s q0n q0r q0v q0x q19 q26 q27 q2i q2m q2k q2o q2j q2n q2z q3c q3n q3p q3o).isSome
noncomputable def zed (q0m : Nat) (q0q : List Nat) (q0o : Nat) (q0s : List Nat) (q0n : Nat) (q0r : List Nat) (q0v : Nat) (q0x : List Nat) (q19 : Int) (q26 : Nat) (q27 : Nat) (q2i : Nat) (q2m : List Nat) (q2k : Nat) (q2o : List Nat) (q2j : Nat) (q2n : List Nat) (q2z : Nat) (q3c : List Nat) (q3n : Int) (q3p : Nat) (q3o : Nat) : Bool := ((zce q0m q0q q0o q0s q0n q0r q0v q0x q19 q26 q27 q2i q2m q2k q2o q2j q2n q2z q3c q3n q3p q3o).getD default)
theorem zoa {q0m : Nat} {q0q : List Nat} {q0o : Nat} {q0s : List Nat} {q0n : Nat} {q0r : List Nat} {q0v : Nat} {q0x : List Nat} {q19 : Int} {q26 : Nat} {q27 : Nat} {q2i : Nat} {q2m : List Nat} {q2k : Nat} {q2o : List Nat} {q2j : Nat} {q2n : List Nat} {q2z : Nat} {q3c : List Nat} {q3n : Int} {q3p : Nat} {q3o : Nat} {r : Bool} (h : zce q0m q0q q0o q0s q0n q0r q0v q0x q19 q26 q27 q2i q2m q2k q2o q2j q2n q2z q3c q3n q3p q3o = some r) : zf6 q0m q0q q0o q0s q0n q0r q0v q0x q19 q26 q27 q2i q2m q2k q2o q2j q2n q2z q3c q3n q3p q3o = true ∧ zed q0m q0q q0o q0s q0n q0r q0v q0x q19 q26 q27 q2i q2m q2k q2o q2j q2n q2z q3c q3n q3p q3o = r := by
  unfold zf6 zed
  rw [h]
  exact ⟨rfl, rfl⟩
noncomputable def z61 {R : Type} (s_n : Nat) (s : List Nat) (k_ : Int → Option R) : Option R := (grd (z5r s_n (Int.ofNat s_n) s 0) (br (z5k s_n (Int.ofNat s_n) s 0) (k_ (z6s s_n (Int.ofNat s_n) s 0)) (k_ (Int.negSucc 0))))
noncomputable def z60 (s_n : Nat) (s : List Nat) : Option (Int) := z61 s_n s (fun c0_ => some c0_)
theorem zk2 {R R' : Type} (o : Option R → Option R') (h0 : o none = none) (s_n : Nat) (s : List Nat) (k_ : Int → Option R) : z61 s_n s (fun c0_ => o (k_ c0_)) = o (z61 s_n s k_) := by
  unfold z61
  repeat (first | refine grd_out h0 ?_ | refine br_out ?_ ?_ | rfl | exact h0.symm)
noncomputable def z7z (s_n : Nat) (s : List Nat) : Bool := (z60 s_n s).isSome
noncomputable def z7v (s_n : Nat) (s : List Nat) : Int := ((z60 s_n s).getD default)
theorem zl8 {s_n : Nat} {s : List Nat} {r : Int} (h : z60 s_n s = some r) : z7z s_n s = true ∧ z7v s_n s = r := by
  unfold z7z z7v
  rw [h]
  exact ⟨rfl, rfl⟩
noncomputable def z5i {R : Type} (s_n : Nat) (s : List Nat) (k_ : Bool → Option R) : Option R := (grd (z7w s_n (pF s 0 (muN s_n 1))) (k_ (leI 0 (z7p s_n (pF s 0 (muN s_n 1))))))
noncomputable def z5j (s_n : Nat) (s : List Nat) : Option (Bool) := z5i s_n s (fun c0_ => some c0_)
theorem zg6 {R R' : Type} (o : Option R → Option R') (h0 : o none = none) (s_n : Nat) (s : List Nat) (k_ : Bool → Option R) : z5i s_n s (fun c0_ => o (k_ c0_)) = o (z5i s_n s k_) := by
  unfold z5i
  repeat (first | refine grd_out h0 ?_ | refine br_out ?_ ?_ | rfl | exact h0.symm)
noncomputable def z7e (s_n : Nat) (s : List Nat) : Bool := (z5j s_n s).isSome
noncomputable def z77 (s_n : Nat) (s : List Nat) : Bool := ((z5j s_n s).getD default)
theorem zj8 {s_n : Nat} {s : List Nat} {r : Bool} (h : z5j s_n s = some r) : z7e s_n s = true ∧ z77 s_n s = r := by
  unfold z7e z77
  rw [h]
  exact ⟨rfl, rfl⟩
noncomputable def z5p {R : Type} (s_n : Nat) (s : List Nat) (k_ : Bool → Option R) : Option R := (grd (z7z s_n (pF s 0 (muN s_n 1))) (k_ (leI 0 (z7v s_n (pF s 0 (muN s_n 1))))))
noncomputable def z5s (s_n : Nat) (s : List Nat) : Option (Bool) := z5p s_n s (fun c0_ => some c0_)
theorem zhv {R R' : Type} (o : Option R → Option R') (h0 : o none = none) (s_n : Nat) (s : List Nat) (k_ : Bool → Option R) : z5p s_n s (fun c0_ => o (k_ c0_)) = o (z5p s_n s k_) := by
  unfold z5p
  repeat (first | refine grd_out h0 ?_ | refine br_out ?_ ?_ | rfl | exact h0.symm)
noncomputable def z7k (s_n : Nat) (s : List Nat) : Bool := (z5s s_n s).isSome
noncomputable def z7b (s_n : Nat) (s : List Nat) : Bool := ((z5s s_n s).getD default)
theorem zk4 {s_n : Nat} {s : List Nat} {r : Bool} (h : z5s s_n s = some r) : z7k s_n s = true ∧ z7b s_n s = r := by
  unfold z7k z7b
  rw [h]
  exact ⟨rfl, rfl⟩
noncomputable def z5b {R : Type} (s_n : Nat) (s : List Nat) (k_ : Bool → Option R) : Option R := (grd (z7m s_n (pF s 0 (muN s_n 1))) (k_ (leI 0 (z7d s_n (pF s 0 (muN s_n 1))))))
noncomputable def z5c (s_n : Nat) (s : List Nat) : Option (Bool) := z5b s_n s (fun c0_ => some c0_)
theorem zfa {R R' : Type} (o : Option R → Option R') (h0 : o none = none) (s_n : Nat) (s : List Nat) (k_ : Bool → Option R) : z5b s_n s (fun c0_ => o (k_ c0_)) = o (z5b s_n s k_) := by
  unfold z5b
  repeat (first | refine grd_out h0 ?_ | refine br_out ?_ ?_ | rfl | exact h0.symm)
noncomputable def z6p (s_n : Nat) (s : List Nat) : Bool := (z5c s_n s).isSome
noncomputable def z6n (s_n : Nat) (s : List Nat) : Bool := ((z5c s_n s).getD default)
theorem zhy {s_n : Nat} {s : List Nat} {r : Bool} (h : z5c s_n s = some r) : z6p s_n s = true ∧ z6n s_n s = r := by
  unfold z6p z6n
  rw [h]
  exact ⟨rfl, rfl⟩
noncomputable def za2 {R : Type} (t57 : Int) (b3 : List Nat) (q13 : Nat) (q14 : Nat) (t4 : Nat) (t58 : Int) (kn_ : Nat → Int → Option R) (k0_ : Unit → Option R) (k1_ : Nat → Int → Bool → Option R) : Option R := (br (ltI t58 t57) (grd (okIx t58 q13) (br (bnot (fcmp BinOp.gtr FloatKind.f32 (gF b3 (ixO 0 t58 3)) t4)) (k0_ ()) (br (bnot (fcmp BinOp.lss FloatKind.f32 (gF b3 (ixO 0 t58 3)) q14)) (k0_ ()) (grd (zlc (gF b3 (Nat.succ (ixO 0 t58 3)))) (br (bnot (zl0 (gF b3 (Nat.succ (ixO 0 t58 3))))) (k0_ ()) (grd (z7y (gF b3 (Nat.succ (Nat.succ (ixO 0 t58 3))))) (br (bnot (z7n (gF b3 (Nat.succ (Nat.succ (ixO 0 t58 3)))))) (k0_ ()) (kn_ (gF b3 (ixO 0 t58 3)) (addI IntKind.i64 t58 1))))))))) (k1_ t4 t58 (ltI t58 t57)))
theorem zqk {R R' : Type} (o : Option R → Option R') (h0 : o none = none) (t57 : Int) (b3 : List Nat) (q13 : Nat) (q14 : Nat) (t4 : Nat) (t58 : Int) (kn_ : Nat → Int → Option R) (k0_ : Unit → Option R) (k1_ : Nat → Int → Bool → Option R) : za2 t57 b3 q13 q14 t4 t58 (fun t4' t58' => o (kn_ t4' t58')) (fun _ => o (k0_ ())) (fun c0_ c1_ c2_ => o (k1_ c0_ c1_ c2_)) = o (za2 t57 b3 q13 q14 t4 t58 kn_ k0_ k1_) := by
  unfold za2
  repeat (first | refine grd_out h0 ?_ | refine br_out ?_ ?_ | rfl | exact h0.symm)
noncomputable def z5z (t57 : Int) (b3 : List Nat) (q13 : Nat) (q14 : Nat) : Nat → Nat → Int → Option ((Unit) ⊕ (Nat × Int × Bool))
  | 0, _, _ => none
  | n + 1, t4, t58 => za2 t57 b3 q13 q14  t4 t58  (fun t4' t58' => z5z t57 b3 q13 q14 n t4' t58') (fun _ => some (Sum.inl ())) (fun c0_ c1_ c2_ => some (Sum.inr (c0_, c1_, c2_)))
theorem zmd (t57 : Int) (b3 : List Nat) (q13 : Nat) (q14 : Nat) (n : Nat) (t4 : Nat) (t58 : Int) : z5z t57 b3 q13 q14 (n + 1) t4 t58 = za2 t57 b3 q13 q14  t4 t58  (fun t4' t58' => z5z t57 b3 q13 q14 n t4' t58') (fun _ => some (Sum.inl ())) (fun c0_ c1_ c2_ => some (Sum.inr (c0_, c1_, c2_))) := rfl
noncomputable def zcp (t57 : Int) (b3 : List Nat) (q13 : Nat) (q14 : Nat) (t4 : Nat) (t58 : Int) : Bool := (z5z t57 b3 q13 q14 big t4 t58).isSome
noncomputable def zc0 (t57 : Int) (b3 : List Nat) (q13 : Nat) (q14 : Nat) (t4 : Nat) (t58 : Int) : Bool := oL (z5z t57 b3 q13 q14 big t4 t58)
noncomputable def zlj (t57 : Int) (b3 : List Nat) (q13 : Nat) (q14 : Nat) (t4 : Nat) (t58 : Int) : Nat := ((tR (z5z t57 b3 q13 q14 big t4 t58)).getD default).1
noncomputable def zlk (t57 : Int) (b3 : List Nat) (q13 : Nat) (q14 : Nat) (t4 : Nat) (t58 : Int) : Int := ((tR (z5z t57 b3 q13 q14 big t4 t58)).getD default).2.1
noncomputable def zln (t57 : Int) (b3 : List Nat) (q13 : Nat) (q14 : Nat) (t4 : Nat) (t58 : Int) : Bool := ((tR (z5z t57 b3 q13 q14 big t4 t58)).getD default).2.2
theorem zrk {t57 : Int} {b3 : List Nat} {q13 : Nat} {q14 : Nat} {t4 : Nat} {t58 : Int} {m : Nat} {r : Unit} (hm : m = big) (h : z5z t57 b3 q13 q14 m t4 t58 = some (Sum.inl r)) : zcp t57 b3 q13 q14 t4 t58 = true ∧ zc0 t57 b3 q13 q14 t4 t58 = true := by
  subst hm
  unfold zcp zc0
  rw [h]
  exact ⟨rfl, rfl⟩
theorem zrs {t57 : Int} {b3 : List Nat} {q13 : Nat} {q14 : Nat} {t4 : Nat} {t58 : Int} {m : Nat} {r : Nat × Int × Bool} (hm : m = big) (h : z5z t57 b3 q13 q14 m t4 t58 = some (Sum.inr r)) : zcp t57 b3 q13 q14 t4 t58 = true ∧ zc0 t57 b3 q13 q14 t4 t58 = false ∧ zlj t57 b3 q13 q14 t4 t58 = r.1 ∧ zlk t57 b3 q13 q14 t4 t58 = r.2.1 ∧ zln t57 b3 q13 q14 t4 t58 = r.2.2 := by
  subst hm
  unfold zcp zc0 zlj zlk zln
  rw [h]
  exact ⟨rfl, rfl, rfl, rfl, rfl⟩
noncomputable def zk6 {R : Type} (q00 : Nat) (q03 : List Nat) (q02 : Nat) (q04 : List Nat) (q01 : Nat) (q05 : List Nat) (q06 : Nat) (q07 : List Nat) (q0b : Int) (q0c : Nat) (q0d : Nat) (k_ : Bool → Option R) : Option R := (grd (zmc q00 (pF q03 0 (muN q00 1)) q02 (pF q04 0 (muN q02 1)) q01 (pF q05 0 (muN q01 1))) (br (bnot (zm9 q00 (pF q03 0 (muN q00 1)) q02 (pF q04 0 (muN q02 1)) q01 (pF q05 0 (muN q01 1)))) (k_ Bool.false) (br (ltI (Int.ofNat q06) 2) (k_ Bool.false) (br (ltI 12 (Int.ofNat q06)) (k_ Bool.false) (grd (zll q0b 1 6) (br (bnot (zl4 q0b 1 6)) (k_ Bool.false) (grd (zas q0c) (br (bnot (za6 q0c)) (k_ Bool.false) (grd (z7y q0d) (br (bnot (z7n q0d)) (k_ Bool.false) (grd (zcp (Int.ofNat q06) q07 q06 q0d q0c 0) (br (zc0 (Int.ofNat q06) q07 q06 q0d q0c 0) (k_ Bool.false) (k_ Bool.true)))))))))))))
noncomputable def zk0 (q00 : Nat) (q03 : List Nat) (q02 : Nat) (q04 : List Nat) (q01 : Nat) (q05 : List Nat) (q06 : Nat) (q07 : List Nat) (q0b : Int) (q0c : Nat) (q0d : Nat) : Option (Bool) := zk6 q00 q03 q02 q04 q01 q05 q06 q07 q0b q0c q0d (fun c0_ => some c0_)
theorem zs0 {R R' : Type} (o : Option R → Option R') (h0 : o none = none) (q00 : Nat) (q03 : List Nat) (q02 : Nat) (q04 : List Nat) (q01 : Nat) (q05 : List Nat) (q06 : Nat) (q07 : List Nat) (q0b : Int) (q0c : Nat) (q0d : Nat) (k_ : Bool → Option R) : zk6 q00 q03 q02 q04 q01 q05 q06 q07 q0b q0c q0d (fun c0_ => o (k_ c0_)) = o (zk6 q00 q03 q02 q04 q01 q05 q06 q07 q0b q0c q0d k_) := by
  unfold zk6
  repeat (first | refine grd_out h0 ?_ | refine br_out ?_ ?_ | rfl | exact h0.symm)
noncomputable def zls (q00 : Nat) (q03 : List Nat) (q02 : Nat) (q04 : List Nat) (q01 : Nat) (q05 : List Nat) (q06 : Nat) (q07 : List Nat) (q0b : Int) (q0c : Nat) (q0d : Nat) : Bool := (zk0 q00 q03 q02 q04 q01 q05 q06 q07 q0b q0c q0d).isSome
noncomputable def zl5 (q00 : Nat) (q03 : List Nat) (q02 : Nat) (q04 : List Nat) (q01 : Nat) (q05 : List Nat) (q06 : Nat) (q07 : List Nat) (q0b : Int) (q0c : Nat) (q0d : Nat) : Bool := ((zk0 q00 q03 q02 q04 q01 q05 q06 q07 q0b q0c q0d).getD default)
theorem zqe {q00 : Nat} {q03 : List Nat} {q02 : Nat} {q04 : List Nat} {q01 : Nat} {q05 : List Nat} {q06 : Nat} {q07 : List Nat} {q0b : Int} {q0c : Nat} {q0d : Nat} {r : Bool} (h : zk0 q00 q03 q02 q04 q01 q05 q06 q07 q0b q0c q0d = some r) : zls q00 q03 q02 q04 q01 q05 q06 q07 q0b q0c q0d = true ∧ zl5 q00 q03 q02 q04 q01 q05 q06 q07 q0b q0c q0d = r := by
  unfold zls zl5
  rw [h]
  exact ⟨rfl, rfl⟩
noncomputable def zdr {R : Type} (q2h : Nat) (q33 : List Nat) (k_ : Bool → Option R) : Option R := (grd (z7e q2h (pF q33 0 (muN q2h 1))) (k_ (bnot (z77 q2h (pF q33 0 (muN q2h 1))))))
noncomputable def zdv (q2h : Nat) (q33 : List Nat) : Option (Bool) := zdr q2h q33 (fun c0_ => some c0_)
theorem zpi {R R' : Type} (o : Option R → Option R') (h0 : o none = none) (q2h : Nat) (q33 : List Nat) (k_ : Bool → Option R) : zdr q2h q33 (fun c0_ => o (k_ c0_)) = o (zdr q2h q33 k_) := by
  unfold zdr
  repeat (first | refine grd_out h0 ?_ | refine br_out ?_ ?_ | rfl | exact h0.symm)
noncomputable def zkx (q2h : Nat) (q33 : List Nat) : Bool := (zdv q2h q33).isSome
noncomputable def zjg (q2h : Nat) (q33 : List Nat) : Bool := ((zdv q2h q33).getD default)
theorem zrq {q2h : Nat} {q33 : List Nat} {r : Bool} (h : zdv q2h q33 = some r) : zkx q2h q33 = true ∧ zjg q2h q33 = r := by
  unfold zkx zjg
  rw [h]
  exact ⟨rfl, rfl⟩
noncomputable def zek {R : Type} (q2h : Nat) (q33 : List Nat) (k_ : Bool → Option R) : Option R := (grd (z7k q2h (pF q33 0 (muN q2h 1))) (k_ (bnot (z7b q2h (pF q33 0 (muN q2h 1))))))
noncomputable def zej (q2h : Nat) (q33 : List Nat) : Option (Bool) := zek q2h q33 (fun c0_ => some c0_)
theorem zqp {R R' : Type} (o : Option R → Option R') (h0 : o none = none) (q2h : Nat) (q33 : List Nat) (k_ : Bool → Option R) : zek q2h q33 (fun c0_ => o (k_ c0_)) = o (zek q2h q33 k_) := by
  unfold zek
  repeat (first | refine grd_out h0 ?_ | refine br_out ?_ ?_ | rfl | exact h0.symm)
noncomputable def zld (q2h : Nat) (q33 : List Nat) : Bool := (zej q2h q33).isSome
noncomputable def zkt (q2h : Nat) (q33 : List Nat) : Bool := ((zej q2h q33).getD default)
theorem zs6 {q2h : Nat} {q33 : List Nat} {r : Bool} (h : zej q2h q33 = some r) : zld q2h q33 = true ∧ zkt q2h q33 = r := by
  unfold zld zkt
  rw [h]
  exact ⟨rfl, rfl⟩
noncomputable def zcb {R : Type} (q2h : Nat) (q33 : List Nat) (k_ : Bool → Option R) : Option R := (grd (z6p q2h (pF q33 0 (muN q2h 1))) (k_ (bnot (z6n q2h (pF q33 0 (muN q2h 1))))))
noncomputable def za5 (q2h : Nat) (q33 : List Nat) : Option (Bool) := zcb q2h q33 (fun c0_ => some c0_)
theorem zor {R R' : Type} (o : Option R → Option R') (h0 : o none = none) (q2h : Nat) (q33 : List Nat) (k_ : Bool → Option R) : zcb q2h q33 (fun c0_ => o (k_ c0_)) = o (zcb q2h q33 k_) := by
  unfold zcb
  repeat (first | refine grd_out h0 ?_ | refine br_out ?_ ?_ | rfl | exact h0.symm)
noncomputable def ze7 (q2h : Nat) (q33 : List Nat) : Bool := (za5 q2h q33).isSome
noncomputable def zdm (q2h : Nat) (q33 : List Nat) : Bool := ((za5 q2h q33).getD default)
theorem zqm {q2h : Nat} {q33 : List Nat} {r : Bool} (h : za5 q2h q33 = some r) : ze7 q2h q33 = true ∧ zdm q2h q33 = r := by
  unfold ze7 zdm
  rw [h]
  exact ⟨rfl, rfl⟩
noncomputable def zcu {R : Type} (q08 : Nat) (q0e : List Nat) (q09 : Nat) (q0g : List Nat) (q0a : Nat) (q0f : List Nat) (q0h : Nat) (q0l : List Nat) (q0p : Int) (q0u : Nat) (q0t : Nat) (i : Int) (k_ : Bool → Option R) : Option R := (grd (zls q08 (pF q0e 0 (muN q08 1)) q09 (pF q0g 0 (muN q09 1)) q0a (pF q0f 0 (muN q0a 1)) q0h (pF q0l 0 (muN q0h 3)) q0p q0u q0t) (br (zl5 q08 (pF q0e 0 (muN q08 1)) q09 (pF q0g 0 (muN q09 1)) q0a (pF q0f 0 (muN q0a 1)) q0h (pF q0l 0 (muN q0h 3)) q0p q0u q0t) (grd (zll i 0 (subI IntKind.i64 (Int.ofNat q0h) 1)) (k_ (zl4 i 0 (subI IntKind.i64 (Int.ofNat q0h) 1)))) (k_ Bool.false)))
noncomputable def zd1 (q08 : Nat) (q0e : List Nat) (q09 : Nat) (q0g : List Nat) (q0a : Nat) (q0f : List Nat) (q0h : Nat) (q0l : List Nat) (q0p : Int) (q0u : Nat) (q0t : Nat) (i : Int) : Option (Bool) := zcu q08 q0e q09 q0g q0a q0f q0h q0l q0p q0u q0t i (fun c0_ => some c0_)
theorem zox {R R' : Type} (o : Option R → Option R') (h0 : o none = none) (q08 : Nat) (q0e : List Nat) (q09 : Nat) (q0g : List Nat) (q0a : Nat) (q0f : List Nat) (q0h : Nat) (q0l : List Nat) (q0p : Int) (q0u : Nat) (q0t : Nat) (i : Int) (k_ : Bool → Option R) : zcu q08 q0e q09 q0g q0a q0f q0h q0l q0p q0u q0t i (fun c0_ => o (k_ c0_)) = o (zcu q08 q0e q09 q0g q0a q0f q0h q0l q0p q0u q0t i k_) := by
  unfold zcu
  repeat (first | refine grd_out h0 ?_ | refine br_out ?_ ?_ | rfl | exact h0.symm)
noncomputable def zji (q08 : Nat) (q0e : List Nat) (q09 : Nat) (q0g : List Nat) (q0a : Nat) (q0f : List Nat) (q0h : Nat) (q0l : List Nat) (q0p : Int) (q0u : Nat) (q0t : Nat) (i : Int) : Bool := (zd1 q08 q0e q09 q0g q0a q0f q0h q0l q0p q0u q0t i).isSome
noncomputable def zgw (q08 : Nat) (q0e : List Nat) (q09 : Nat) (q0g : List Nat) (q0a : Nat) (q0f : List Nat) (q0h : Nat) (q0l : List Nat) (q0p : Int) (q0u : Nat) (q0t : Nat) (i : Int) : Bool := ((zd1 q08 q0e q09 q0g q0a q0f q0h q0l q0p q0u q0t i).getD default)
theorem zr5 {q08 : Nat} {q0e : List Nat} {q09 : Nat} {q0g : List Nat} {q0a : Nat} {q0f : List Nat} {q0h : Nat} {q0l : List Nat} {q0p : Int} {q0u : Nat} {q0t : Nat} {i : Int} {r : Bool} (h : zd1 q08 q0e q09 q0g q0a q0f q0h q0l q0p q0u q0t i = some r) : zji q08 q0e q09 q0g q0a q0f q0h q0l q0p q0u q0t i = true ∧ zgw q08 q0e q09 q0g q0a q0f q0h q0l q0p q0u q0t i = r := by
  unfold zji zgw
  rw [h]
  exact ⟨rfl, rfl⟩
noncomputable def zct {R : Type} (q08 : Nat) (q0e : List Nat) (q09 : Nat) (q0g : List Nat) (q0a : Nat) (q0f : List Nat) (q0h : Nat) (q0l : List Nat) (q0p : Int) (q0u : Nat) (q0t : Nat) (i : Int) (q12 : Nat) (q16 : Nat) (q17 : Nat) (k_ : Nat → Nat → Nat → Nat → Int → Nat → Nat → Bool → (List Nat) → (List Nat) → (List Nat) → (List Nat) → Option R) : Option R := (grd (zji q08 (pF q0e 0 (muN q08 1)) q09 (pF q0g 0 (muN q09 1)) q0a (pF q0f 0 (muN q0a 1)) q0h (pF q0l 0 (muN q0h 3)) q0p q0u q0t i) (br (bnot (zgw q08 (pF q0e 0 (muN q08 1)) q09 (pF q0g 0 (muN q09 1)) q0a (pF q0f 0 (muN q0a 1)) q0h (pF q0l 0 (muN q0h 3)) q0p q0u q0t i)) (k_ 0 0 0 0 0 0 0 Bool.false [] [] [] []) (grd (zma q08 (pF q0e 0 (muN q08 1)) q09 (pF q0g 0 (muN q09 1)) q0a (pF q0f 0 (muN q0a 1)) q0h (pF q0l 0 (muN q0h 3)) q0p q0u q0t) (grd (okIx i (zab q08 (pF q0e 0 (muN q08 1)) q09 (pF q0g 0 (muN q09 1)) q0a (pF q0f 0 (muN q0a 1)) q0h (pF q0l 0 (muN q0h 3)) q0p q0u q0t)) (grd (zls (zcd q08 (pF q0e 0 (muN q08 1)) q09 (pF q0g 0 (muN q09 1)) q0a (pF q0f 0 (muN q0a 1)) q0h (pF q0l 0 (muN q0h 3)) q0p q0u q0t) (pF (zez q08 (pF q0e 0 (muN q08 1)) q09 (pF q0g 0 (muN q09 1)) q0a (pF q0f 0 (muN q0a 1)) q0h (pF q0l 0 (muN q0h 3)) q0p q0u q0t) 0 (muN (zcd q08 (pF q0e 0 (muN q08 1)) q09 (pF q0g 0 (muN q09 1)) q0a (pF q0f 0 (muN q0a 1)) q0h (pF q0l 0 (muN q0h 3)) q0p q0u q0t) 1)) (zc8 q08 (pF q0e 0 (muN q08 1)) q09 (pF q0g 0 (muN q09 1)) q0a (pF q0f 0 (muN q0a 1)) q0h (pF q0l 0 (muN q0h 3)) q0p q0u q0t) (pF (zf2 q08 (pF q0e 0 (muN q08 1)) q09 (pF q0g 0 (muN q09 1)) q0a (pF q0f 0 (muN q0a 1)) q0h (pF q0l 0 (muN q0h 3)) q0p q0u q0t) 0 (muN (zc8 q08 (pF q0e 0 (muN q08 1)) q09 (pF q0g 0 (muN q09 1)) q0a (pF q0f 0 (muN q0a 1)) q0h (pF q0l 0 (muN q0h 3)) q0p q0u q0t) 1)) (zc3 q08 (pF q0e 0 (muN q08 1)) q09 (pF q0g 0 (muN q09 1)) q0a (pF q0f 0 (muN q0a 1)) q0h (pF q0l 0 (muN q0h 3)) q0p q0u q0t) (pF (zf5 q08 (pF q0e 0 (muN q08 1)) q09 (pF q0g 0 (muN q09 1)) q0a (pF q0f 0 (muN q0a 1)) q0h (pF q0l 0 (muN q0h 3)) q0p q0u q0t) 0 (muN (zc3 q08 (pF q0e 0 (muN q08 1)) q09 (pF q0g 0 (muN q09 1)) q0a (pF q0f 0 (muN q0a 1)) q0h (pF q0l 0 (muN q0h 3)) q0p q0u q0t) 1)) (zab q08 (pF q0e 0 (muN q08 1)) q09 (pF q0g 0 (muN q09 1)) q0a (pF q0f 0 (muN q0a 1)) q0h (pF q0l 0 (muN q0h 3)) q0p q0u q0t) (pF (sF (sF (sF (zf7 q08 (pF q0e 0 (muN q08 1)) q09 (pF q0g 0 (muN q09 1)) q0a (pF q0f 0 (muN q0a 1)) q0h (pF q0l 0 (muN q0h 3)) q0p q0u q0t) (ixO 0 i 3) q12) (Nat.succ (ixO 0 i 3)) q16) (Nat.succ (Nat.succ (ixO 0 i 3))) q17) 0 (muN (zab q08 (pF q0e 0 (muN q08 1)) q09 (pF q0g 0 (muN q09 1)) q0a (pF q0f 0 (muN q0a 1)) q0h (pF q0l 0 (muN q0h 3)) q0p q0u q0t) 3)) q0p q0u q0t) (br (bnot (zl5 (zcd q08 (pF q0e 0 (muN q08 1)) q09 (pF q0g 0 (muN q09 1)) q0a (pF q0f 0 (muN q0a 1)) q0h (pF q0l 0 (muN q0h 3)) q0p q0u q0t) (pF (zez q08 (pF q0e 0 (muN q08 1)) q09 (pF q0g 0 (muN q09 1)) q0a (pF q0f 0 (muN q0a 1)) q0h (pF q0l 0 (muN q0h 3)) q0p q0u q0t) 0 (muN (zcd q08 (pF q0e 0 (muN q08 1)) q09 (pF q0g 0 (muN q09 1)) q0a (pF q0f 0 (muN q0a 1)) q0h (pF q0l 0 (muN q0h 3)) q0p q0u q0t) 1)) (zc8 q08 (pF q0e 0 (muN q08 1)) q09 (pF q0g 0 (muN q09 1)) q0a (pF q0f 0 (muN q0a 1)) q0h (pF q0l 0 (muN q0h 3)) q0p q0u q0t) (pF (zf2 q08 (pF q0e 0 (muN q08 1)) q09 (pF q0g 0 (muN q09 1)) q0a (pF q0f 0 (muN q0a 1)) q0h (pF q0l 0 (muN q0h 3)) q0p q0u q0t) 0 (muN (zc8 q08 (pF q0e 0 (muN q08 1)) q09 (pF q0g 0 (muN q09 1)) q0a (pF q0f 0 (muN q0a 1)) q0h (pF q0l 0 (muN q0h 3)) q0p q0u q0t) 1)) (zc3 q08 (pF q0e 0 (muN q08 1)) q09 (pF q0g 0 (muN q09 1)) q0a (pF q0f 0 (muN q0a 1)) q0h (pF q0l 0 (muN q0h 3)) q0p q0u q0t) (pF (zf5 q08 (pF q0e 0 (muN q08 1)) q09 (pF q0g 0 (muN q09 1)) q0a (pF q0f 0 (muN q0a 1)) q0h (pF q0l 0 (muN q0h 3)) q0p q0u q0t) 0 (muN (zc3 q08 (pF q0e 0 (muN q08 1)) q09 (pF q0g 0 (muN q09 1)) q0a (pF q0f 0 (muN q0a 1)) q0h (pF q0l 0 (muN q0h 3)) q0p q0u q0t) 1)) (zab q08 (pF q0e 0 (muN q08 1)) q09 (pF q0g 0 (muN q09 1)) q0a (pF q0f 0 (muN q0a 1)) q0h (pF q0l 0 (muN q0h 3)) q0p q0u q0t) (pF (sF (sF (sF (zf7 q08 (pF q0e 0 (muN q08 1)) q09 (pF q0g 0 (muN q09 1)) q0a (pF q0f 0 (muN q0a 1)) q0h (pF q0l 0 (muN q0h 3)) q0p q0u q0t) (ixO 0 i 3) q12) (Nat.succ (ixO 0 i 3)) q16) (Nat.succ (Nat.succ (ixO 0 i 3))) q17) 0 (muN (zab q08 (pF q0e 0 (muN q08 1)) q09 (pF q0g 0 (muN q09 1)) q0a (pF q0f 0 (muN q0a 1)) q0h (pF q0l 0 (muN q0h 3)) q0p q0u q0t) 3)) q0p q0u q0t)) (k_ 0 0 0 0 0 0 0 Bool.false [] [] [] []) (k_ (zcd q08 (pF q0e 0 (muN q08 1)) q09 (pF q0g 0 (muN q09 1)) q0a (pF q0f 0 (muN q0a 1)) q0h (pF q0l 0 (muN q0h 3)) q0p q0u q0t) (zc8 q08 (pF q0e 0 (muN q08 1)) q09 (pF q0g 0 (muN q09 1)) q0a (pF q0f 0 (muN q0a 1)) q0h (pF q0l 0 (muN q0h 3)) q0p q0u q0t) (zc3 q08 (pF q0e 0 (muN q08 1)) q09 (pF q0g 0 (muN q09 1)) q0a (pF q0f 0 (muN q0a 1)) q0h (pF q0l 0 (muN q0h 3)) q0p q0u q0t) (zab q08 (pF q0e 0 (muN q08 1)) q09 (pF q0g 0 (muN q09 1)) q0a (pF q0f 0 (muN q0a 1)) q0h (pF q0l 0 (muN q0h 3)) q0p q0u q0t) q0p q0u q0t Bool.true (zez q08 (pF q0e 0 (muN q08 1)) q09 (pF q0g 0 (muN q09 1)) q0a (pF q0f 0 (muN q0a 1)) q0h (pF q0l 0 (muN q0h 3)) q0p q0u q0t) (zf2 q08 (pF q0e 0 (muN q08 1)) q09 (pF q0g 0 (muN q09 1)) q0a (pF q0f 0 (muN q0a 1)) q0h (pF q0l 0 (muN q0h 3)) q0p q0u q0t) (zf5 q08 (pF q0e 0 (muN q08 1)) q09 (pF q0g 0 (muN q09 1)) q0a (pF q0f 0 (muN q0a 1)) q0h (pF q0l 0 (muN q0h 3)) q0p q0u q0t) (sF (sF (sF (zf7 q08 (pF q0e 0 (muN q08 1)) q09 (pF q0g 0 (muN q09 1)) q0a (pF q0f 0 (muN q0a 1)) q0h (pF q0l 0 (muN q0h 3)) q0p q0u q0t) (ixO 0 i 3) q12) (Nat.succ (ixO 0 i 3)) q16) (Nat.succ (Nat.succ (ixO 0 i 3))) q17))))))))
noncomputable def z5g (q08 : Nat) (q0e : List Nat) (q09 : Nat) (q0g : List Nat) (q0a : Nat) (q0f : List Nat) (q0h : Nat) (q0l : List Nat) (q0p : Int) (q0u : Nat) (q0t : Nat) (i : Int) (q12 : Nat) (q16 : Nat) (q17 : Nat) : Option (Nat × Nat × Nat × Nat × Int × Nat × Nat × Bool × (List Nat) × (List Nat) × (List Nat) × (List Nat)) := zct q08 q0e q09 q0g q0a q0f q0h q0l q0p q0u q0t i q12 q16 q17 (fun c0_ c1_ c2_ c3_ c4_ c5_ c6_ c7_ c8_ c9_ c10_ c11_ => some (c0_, c1_, c2_, c3_, c4_, c5_, c6_, c7_, c8_, c9_, c10_, c11_))
theorem zp6 {R R' : Type} (o : Option R → Option R') (h0 : o none = none) (q08 : Nat) (q0e : List Nat) (q09 : Nat) (q0g : List Nat) (q0a : Nat) (q0f : List Nat) (q0h : Nat) (q0l : List Nat) (q0p : Int) (q0u : Nat) (q0t : Nat) (i : Int) (q12 : Nat) (q16 : Nat) (q17 : Nat) (k_ : Nat → Nat → Nat → Nat → Int → Nat → Nat → Bool → (List Nat) → (List Nat) → (List Nat) → (List Nat) → Option R) : zct q08 q0e q09 q0g q0a q0f q0h q0l q0p q0u q0t i q12 q16 q17 (fun c0_ c1_ c2_ c3_ c4_ c5_ c6_ c7_ c8_ c9_ c10_ c11_ => o (k_ c0_ c1_ c2_ c3_ c4_ c5_ c6_ c7_ c8_ c9_ c10_ c11_)) = o (zct q08 q0e q09 q0g q0a q0f q0h q0l q0p q0u q0t i q12 q16 q17 k_) := by
  unfold zct
  repeat (first | refine grd_out h0 ?_ | refine br_out ?_ ?_ | rfl | exact h0.symm)
noncomputable def zjf (q08 : Nat) (q0e : List Nat) (q09 : Nat) (q0g : List Nat) (q0a : Nat) (q0f : List Nat) (q0h : Nat) (q0l : List Nat) (q0p : Int) (q0u : Nat) (q0t : Nat) (i : Int) (q12 : Nat) (q16 : Nat) (q17 : Nat) : Bool := (z5g q08 q0e q09 q0g q0a q0f q0h q0l q0p q0u q0t i q12 q16 q17).isSome
noncomputable def zhj (q08 : Nat) (q0e : List Nat) (q09 : Nat) (q0g : List Nat) (q0a : Nat) (q0f : List Nat) (q0h : Nat) (q0l : List Nat) (q0p : Int) (q0u : Nat) (q0t : Nat) (i : Int) (q12 : Nat) (q16 : Nat) (q17 : Nat) : Nat := ((z5g q08 q0e q09 q0g q0a q0f q0h q0l q0p q0u q0t i q12 q16 q17).getD default).1
noncomputable def zi5 (q08 : Nat) (q0e : List Nat) (q09 : Nat) (q0g : List Nat) (q0a : Nat) (q0f : List Nat) (q0h : Nat) (q0l : List Nat) (q0p : Int) (q0u : Nat) (q0t : Nat) (i : Int) (q12 : Nat) (q16 : Nat) (q17 : Nat) : Nat := ((z5g q08 q0e q09 q0g q0a q0f q0h q0l q0p q0u q0t i q12 q16 q17).getD default).2.1
noncomputable def zi2 (q08 : Nat) (q0e : List Nat) (q09 : Nat) (q0g : List Nat) (q0a : Nat) (q0f : List Nat) (q0h : Nat) (q0l : List Nat) (q0p : Int) (q0u : Nat) (q0t : Nat) (i : Int) (q12 : Nat) (q16 : Nat) (q17 : Nat) : Nat := ((z5g q08 q0e q09 q0g q0a q0f q0h q0l q0p q0u q0t i q12 q16 q17).getD default).2.2.1
noncomputable def zi6 (q08 : Nat) (q0e : List Nat) (q09 : Nat) (q0g : List Nat) (q0a : Nat) (q0f : List Nat) (q0h : Nat) (q0l : List Nat) (q0p : Int) (q0u : Nat) (q0t : Nat) (i : Int) (q12 : Nat) (q16 : Nat) (q17 : Nat) : Nat := ((z5g q08 q0e q09 q0g q0a q0f q0h q0l q0p q0u q0t i q12 q16 q17).getD default).2.2.2.1
noncomputable def zht (q08 : Nat) (q0e : List Nat) (q09 : Nat) (q0g : List Nat) (q0a : Nat) (q0f : List Nat) (q0h : Nat) (q0l : List Nat) (q0p : Int) (q0u : Nat) (q0t : Nat) (i : Int) (q12 : Nat) (q16 : Nat) (q17 : Nat) : Int := ((z5g q08 q0e q09 q0g q0a q0f q0h q0l q0p q0u q0t i q12 q16 q17).getD default).2.2.2.2.1
noncomputable def zi0 (q08 : Nat) (q0e : List Nat) (q09 : Nat) (q0g : List Nat) (q0a : Nat) (q0f : List Nat) (q0h : Nat) (q0l : List Nat) (q0p : Int) (q0u : Nat) (q0t : Nat) (i : Int) (q12 : Nat) (q16 : Nat) (q17 : Nat) : Nat := ((z5g q08 q0e q09 q0g q0a q0f q0h q0l q0p q0u q0t i q12 q16 q17).getD default).2.2.2.2.2.1
noncomputable def zh5 (q08 : Nat) (q0e : List Nat) (q09 : Nat) (q0g : List Nat) (q0a : Nat) (q0f : List Nat) (q0h : Nat) (q0l : List Nat) (q0p : Int) (q0u : Nat) (q0t : Nat) (i : Int) (q12 : Nat) (q16 : Nat) (q17 : Nat) : Nat := ((z5g q08 q0e q09 q0g q0a q0f q0h q0l q0p q0u q0t i q12 q16 q17).getD default).2.2.2.2.2.2.1
noncomputable def zhw (q08 : Nat) (q0e : List Nat) (q09 : Nat) (q0g : List Nat) (q0a : Nat) (q0f : List Nat) (q0h : Nat) (q0l : List Nat) (q0p : Int) (q0u : Nat) (q0t : Nat) (i : Int) (q12 : Nat) (q16 : Nat) (q17 : Nat) : Bool := ((z5g q08 q0e q09 q0g q0a q0f q0h q0l q0p q0u q0t i q12 q16 q17).getD default).2.2.2.2.2.2.2.1
noncomputable def zhc (q08 : Nat) (q0e : List Nat) (q09 : Nat) (q0g : List Nat) (q0a : Nat) (q0f : List Nat) (q0h : Nat) (q0l : List Nat) (q0p : Int) (q0u : Nat) (q0t : Nat) (i : Int) (q12 : Nat) (q16 : Nat) (q17 : Nat) : List Nat := ((z5g q08 q0e q09 q0g q0a q0f q0h q0l q0p q0u q0t i q12 q16 q17).getD default).2.2.2.2.2.2.2.2.1
noncomputable def zhi (q08 : Nat) (q0e : List Nat) (q09 : Nat) (q0g : List Nat) (q0a : Nat) (q0f : List Nat) (q0h : Nat) (q0l : List Nat) (q0p : Int) (q0u : Nat) (q0t : Nat) (i : Int) (q12 : Nat) (q16 : Nat) (q17 : Nat) : List Nat := ((z5g q08 q0e q09 q0g q0a q0f q0h q0l q0p q0u q0t i q12 q16 q17).getD default).2.2.2.2.2.2.2.2.2.1
noncomputable def zfx (q08 : Nat) (q0e : List Nat) (q09 : Nat) (q0g : List Nat) (q0a : Nat) (q0f : List Nat) (q0h : Nat) (q0l : List Nat) (q0p : Int) (q0u : Nat) (q0t : Nat) (i : Int) (q12 : Nat) (q16 : Nat) (q17 : Nat) : List Nat := ((z5g q08 q0e q09 q0g q0a q0f q0h q0l q0p q0u q0t i q12 q16 q17).getD default).2.2.2.2.2.2.2.2.2.2.1
noncomputable def zft (q08 : Nat) (q0e : List Nat) (q09 : Nat) (q0g : List Nat) (q0a : Nat) (q0f : List Nat) (q0h : Nat) (q0l : List Nat) (q0p : Int) (q0u : Nat) (q0t : Nat) (i : Int) (q12 : Nat) (q16 : Nat) (q17 : Nat) : List Nat := ((z5g q08 q0e q09 q0g q0a q0f q0h q0l q0p q0u q0t i q12 q16 q17).getD default).2.2.2.2.2.2.2.2.2.2.2
theorem zqw {q08 : Nat} {q0e : List Nat} {q09 : Nat} {q0g : List Nat} {q0a : Nat} {q0f : List Nat} {q0h : Nat} {q0l : List Nat} {q0p : Int} {q0u : Nat} {q0t : Nat} {i : Int} {q12 : Nat} {q16 : Nat} {q17 : Nat} {r : Nat × Nat × Nat × Nat × Int × Nat × Nat × Bool × (List Nat) × (List Nat) × (List Nat) × (List Nat)} (h : z5g q08 q0e q09 q0g q0a q0f q0h q0l q0p q0u q0t i q12 q16 q17 = some r) : zjf q08 q0e q09 q0g q0a q0f q0h q0l q0p q0u q0t i q12 q16 q17 = true ∧ zhj q08 q0e q09 q0g q0a q0f q0h q0l q0p q0u q0t i q12 q16 q17 = r.1 ∧ zi5 q08 q0e q09 q0g q0a q0f q0h q0l q0p q0u q0t i q12 q16 q17 = r.2.1 ∧ zi2 q08 q0e q09 q0g q0a q0f q0h q0l q0p q0u q0t i q12 q16 q17 = r.2.2.1 ∧ zi6 q08 q0e q09 q0g q0a q0f q0h q0l q0p q0u q0t i q12 q16 q17 = r.2.2.2.1 ∧ zht q08 q0e q09 q0g q0a q0f q0h q0l q0p q0u q0t i q12 q16 q17 = r.2.2.2.2.1 ∧ zi0 q08 q0e q09 q0g q0a q0f q0h q0l q0p q0u q0t i q12 q16 q17 = r.2.2.2.2.2.1 ∧ zh5 q08 q0e q09 q0g q0a q0f q0h q0l q0p q0u q0t i q12 q16 q17 = r.2.2.2.2.2.2.1 ∧ zhw q08 q0e q09 q0g q0a q0f q0h q0l q0p q0u q0t i q12 q16 q17 = r.2.2.2.2.2.2.2.1 ∧ zhc q08 q0e q09 q0g q0a q0f q0h q0l q0p q0u q0t i q12 q16 q17 = r.2.2.2.2.2.2.2.2.1 ∧ zhi q08 q0e q09 q0g q0a q0f q0h q0l q0p q0u q0t i q12 q16 q17 = r.2.2.2.2.2.2.2.2.2.1 ∧ zfx q08 q0e q09 q0g q0a q0f q0h q0l q0p q0u q0t i q12 q16 q17 = r.2.2.2.2.2.2.2.2.2.2.1 ∧ zft q08 q0e q09 q0g q0a q0f q0h q0l q0p q0u q0t i q12 q16 q17 = r.2.2.2.2.2.2.2.2.2.2.2 := by
  unfold zjf zhj zi5 zi2 zi6 zht zi0 zh5 zhw zhc zhi zfx zft
  rw [h]
  exact ⟨rfl, rfl, rfl, rfl, rfl, rfl, rfl, rfl, rfl, rfl, rfl, rfl, rfl⟩
noncomputable def z6r {R : Type} (q3i : Nat) (t43 : Int) (b0 : List Nat) (q2a : Nat) (t44 : Int) (kn_ : Int → Option R) (k0_ : Unit → Option R) (k1_ : Int → Bool → Option R) : Option R := (br (ltI t44 t43) (grd (okIx t44 q3i) (grd (zle (gF b0 (ixO 0 t44 1)) 3204448256 1056964608) (br (bnot (zl2 (gF b0 (ixO 0 t44 1)) 3204448256 1056964608)) (k0_ ()) (br (ltI 0 t44) (grd (okIx (subI IntKind.i64 t44 1) q2a) (br (fcmp BinOp.geq FloatKind.f32 (gF b0 (ixO 0 (subI IntKind.i64 t44 1) 1)) (gF b0 (ixO 0 t44 1))) (k0_ ()) (kn_ (addI IntKind.i64 t44 1)))) (kn_ (addI IntKind.i64 t44 1)))))) (k1_ t44 (ltI t44 t43)))
theorem zmr {R R' : Type} (o : Option R → Option R') (h0 : o none = none) (q3i : Nat) (t43 : Int) (b0 : List Nat) (q2a : Nat) (t44 : Int) (kn_ : Int → Option R) (k0_ : Unit → Option R) (k1_ : Int → Bool → Option R) : z6r q3i t43 b0 q2a t44 (fun t44' => o (kn_ t44')) (fun _ => o (k0_ ())) (fun c0_ c1_ => o (k1_ c0_ c1_)) = o (z6r q3i t43 b0 q2a t44 kn_ k0_ k1_) := by
  unfold z6r
  repeat (first | refine grd_out h0 ?_ | refine br_out ?_ ?_ | rfl | exact h0.symm)
noncomputable def z5e (q3i : Nat) (t43 : Int) (b0 : List Nat) (q2a : Nat) : Nat → Int → Option ((Unit) ⊕ (Int × Bool))
  | 0, _ => none
  | n + 1, t44 => z6r q3i t43 b0 q2a  t44  (fun t44' => z5e q3i t43 b0 q2a n t44') (fun _ => some (Sum.inl ())) (fun c0_ c1_ => some (Sum.inr (c0_, c1_)))
theorem zkr (q3i : Nat) (t43 : Int) (b0 : List Nat) (q2a : Nat) (n : Nat) (t44 : Int) : z5e q3i t43 b0 q2a (n + 1) t44 = z6r q3i t43 b0 q2a  t44  (fun t44' => z5e q3i t43 b0 q2a n t44') (fun _ => some (Sum.inl ())) (fun c0_ c1_ => some (Sum.inr (c0_, c1_))) := rfl
noncomputable def z8v (q3i : Nat) (t43 : Int) (b0 : List Nat) (q2a : Nat) (t44 : Int) : Bool := (z5e q3i t43 b0 q2a big t44).isSome
noncomputable def z8c (q3i : Nat) (t43 : Int) (b0 : List Nat) (q2a : Nat) (t44 : Int) : Bool := oL (z5e q3i t43 b0 q2a big t44)
noncomputable def zes (q3i : Nat) (t43 : Int) (b0 : List Nat) (q2a : Nat) (t44 : Int) : Int := ((tR (z5e q3i t43 b0 q2a big t44)).getD default).1
noncomputable def zey (q3i : Nat) (t43 : Int) (b0 : List Nat) (q2a : Nat) (t44 : Int) : Bool := ((tR (z5e q3i t43 b0 q2a big t44)).getD default).2
theorem znq {q3i : Nat} {t43 : Int} {b0 : List Nat} {q2a : Nat} {t44 : Int} {m : Nat} {r : Unit} (hm : m = big) (h : z5e q3i t43 b0 q2a m t44 = some (Sum.inl r)) : z8v q3i t43 b0 q2a t44 = true ∧ z8c q3i t43 b0 q2a t44 = true := by
  subst hm
  unfold z8v z8c
  rw [h]
  exact ⟨rfl, rfl⟩
theorem zni {q3i : Nat} {t43 : Int} {b0 : List Nat} {q2a : Nat} {t44 : Int} {m : Nat} {r : Int × Bool} (hm : m = big) (h : z5e q3i t43 b0 q2a m t44 = some (Sum.inr r)) : z8v q3i t43 b0 q2a t44 = true ∧ z8c q3i t43 b0 q2a t44 = false ∧ zes q3i t43 b0 q2a t44 = r.1 ∧ zey q3i t43 b0 q2a t44 = r.2 := by
  subst hm
  unfold z8v z8c zes zey
  rw [h]
  exact ⟨rfl, rfl, rfl, rfl⟩
noncomputable def zaz {R : Type} (q11 : Nat) (q1q : List Nat) (q1b : Nat) (q1t : List Nat) (q1c : Nat) (q1s : List Nat) (k_ : Bool → Option R) : Option R := (br (ltI (Int.ofNat q11) 2) (k_ Bool.false) (br (ltI 24 (Int.ofNat q11)) (k_ Bool.false) (br (neI (Int.ofNat q1b) (Int.ofNat q11)) (k_ Bool.false) (br (neI (Int.ofNat q1c) (Int.ofNat q11)) (k_ Bool.false) (grd (zkx q1b (pF q1t 0 (muN q1b 1))) (br (bnot (zjg q1b (pF q1t 0 (muN q1b 1)))) (k_ Bool.false) (grd (zld q1c (pF q1s 0 (muN q1c 1))) (br (bnot (zkt q1c (pF q1s 0 (muN q1c 1)))) (k_ Bool.false) (grd (z8v q11 (Int.ofNat q11) q1q q11 0) (br (z8c q11 (Int.ofNat q11) q1q q11 0) (k_ Bool.false) (k_ Bool.true)))))))))))
noncomputable def zb1 (q11 : Nat) (q1q : List Nat) (q1b : Nat) (q1t : List Nat) (q1c : Nat) (q1s : List Nat) : Option (Bool) := zaz q11 q1q q1b q1t q1c q1s (fun c0_ => some c0_)
theorem zo0 {R R' : Type} (o : Option R → Option R') (h0 : o none = none) (q11 : Nat) (q1q : List Nat) (q1b : Nat) (q1t : List Nat) (q1c : Nat) (q1s : List Nat) (k_ : Bool → Option R) : zaz q11 q1q q1b q1t q1c q1s (fun c0_ => o (k_ c0_)) = o (zaz q11 q1q q1b q1t q1c q1s k_) := by
  unfold zaz
  repeat (first | refine grd_out h0 ?_ | refine br_out ?_ ?_ | rfl | exact h0.symm)
noncomputable def zfv (q11 : Nat) (q1q : List Nat) (q1b : Nat) (q1t : List Nat) (q1c : Nat) (q1s : List Nat) : Bool := (zb1 q11 q1q q1b q1t q1c q1s).isSome
noncomputable def zeu (q11 : Nat) (q1q : List Nat) (q1b : Nat) (q1t : List Nat) (q1c : Nat) (q1s : List Nat) : Bool := ((zb1 q11 q1q q1b q1t q1c q1s).getD default)
theorem zpv {q11 : Nat} {q1q : List Nat} {q1b : Nat} {q1t : List Nat} {q1c : Nat} {q1s : List Nat} {r : Bool} (h : zb1 q11 q1q q1b q1t q1c q1s = some r) : zfv q11 q1q q1b q1t q1c q1s = true ∧ zeu q11 q1q q1b q1t q1c q1s = r := by
  unfold zfv zeu
  rw [h]
  exact ⟨rfl, rfl⟩
noncomputable def z7r {R : Type} (q3f : Nat) (t44 : Int) (b3 : List Nat) (q14 : Nat) (t4 : Nat) (t45 : Int) (kn_ : Nat → Int → Option R) (k0_ : Unit → Option R) (k1_ : Nat → Int → Bool → Option R) : Option R := (br (ltI t45 t44) (grd (okIx t45 q3f) (br (fcmp BinOp.gtr FloatKind.f32 (gF b3 (ixO 0 t45 3)) t4) (br (bnot (fcmp BinOp.lss FloatKind.f32 (gF b3 (ixO 0 t45 3)) q14)) (k0_ ()) (grd (ze7 1 (pF [(gF b3 (Nat.succ (ixO 0 t45 3)))] 0 (muN 1 1))) (br (bnot (zdm 1 (pF [(gF b3 (Nat.succ (ixO 0 t45 3)))] 0 (muN 1 1)))) (k0_ ()) (grd (z9x (gF b3 (Nat.succ (Nat.succ (ixO 0 t45 3))))) (br (bnot (z9e (gF b3 (Nat.succ (Nat.succ (ixO 0 t45 3)))))) (k0_ ()) (kn_ (gF b3 (ixO 0 t45 3)) (addI IntKind.i64 t45 1))))))) (br (bnot Bool.false) (k0_ ()) (grd (ze7 1 (pF [(gF b3 (Nat.succ (ixO 0 t45 3)))] 0 (muN 1 1))) (br (bnot (zdm 1 (pF [(gF b3 (Nat.succ (ixO 0 t45 3)))] 0 (muN 1 1)))) (k0_ ()) (grd (z9x (gF b3 (Nat.succ (Nat.succ (ixO 0 t45 3))))) (br (bnot (z9e (gF b3 (Nat.succ (Nat.succ (ixO 0 t45 3)))))) (k0_ ()) (kn_ (gF b3 (ixO 0 t45 3)) (addI IntKind.i64 t45 1))))))))) (k1_ t4 t45 (ltI t45 t44)))
theorem znb {R R' : Type} (o : Option R → Option R') (h0 : o none = none) (q3f : Nat) (t44 : Int) (b3 : List Nat) (q14 : Nat) (t4 : Nat) (t45 : Int) (kn_ : Nat → Int → Option R) (k0_ : Unit → Option R) (k1_ : Nat → Int → Bool → Option R) : z7r q3f t44 b3 q14 t4 t45 (fun t4' t45' => o (kn_ t4' t45')) (fun _ => o (k0_ ())) (fun c0_ c1_ c2_ => o (k1_ c0_ c1_ c2_)) = o (z7r q3f t44 b3 q14 t4 t45 kn_ k0_ k1_) := by
  unfold z7r
  repeat (first | refine grd_out h0 ?_ | refine br_out ?_ ?_ | rfl | exact h0.symm)
noncomputable def z4y (q3f : Nat) (t44 : Int) (b3 : List Nat) (q14 : Nat) : Nat → Nat → Int → Option ((Unit) ⊕ (Nat × Int × Bool))
  | 0, _, _ => none
  | n + 1, t4, t45 => z7r q3f t44 b3 q14  t4 t45  (fun t4' t45' => z4y q3f t44 b3 q14 n t4' t45') (fun _ => some (Sum.inl ())) (fun c0_ c1_ c2_ => some (Sum.inr (c0_, c1_, c2_)))
theorem zlb (q3f : Nat) (t44 : Int) (b3 : List Nat) (q14 : Nat) (n : Nat) (t4 : Nat) (t45 : Int) : z4y q3f t44 b3 q14 (n + 1) t4 t45 = z7r q3f t44 b3 q14  t4 t45  (fun t4' t45' => z4y q3f t44 b3 q14 n t4' t45') (fun _ => some (Sum.inl ())) (fun c0_ c1_ c2_ => some (Sum.inr (c0_, c1_, c2_))) := rfl
noncomputable def z9d (q3f : Nat) (t44 : Int) (b3 : List Nat) (q14 : Nat) (t4 : Nat) (t45 : Int) : Bool := (z4y q3f t44 b3 q14 big t4 t45).isSome
noncomputable def z98 (q3f : Nat) (t44 : Int) (b3 : List Nat) (q14 : Nat) (t4 : Nat) (t45 : Int) : Bool := oL (z4y q3f t44 b3 q14 big t4 t45)
noncomputable def zg5 (q3f : Nat) (t44 : Int) (b3 : List Nat) (q14 : Nat) (t4 : Nat) (t45 : Int) : Nat := ((tR (z4y q3f t44 b3 q14 big t4 t45)).getD default).1
noncomputable def zg7 (q3f : Nat) (t44 : Int) (b3 : List Nat) (q14 : Nat) (t4 : Nat) (t45 : Int) : Int := ((tR (z4y q3f t44 b3 q14 big t4 t45)).getD default).2.1
noncomputable def zgj (q3f : Nat) (t44 : Int) (b3 : List Nat) (q14 : Nat) (t4 : Nat) (t45 : Int) : Bool := ((tR (z4y q3f t44 b3 q14 big t4 t45)).getD default).2.2
theorem zof {q3f : Nat} {t44 : Int} {b3 : List Nat} {q14 : Nat} {t4 : Nat} {t45 : Int} {m : Nat} {r : Unit} (hm : m = big) (h : z4y q3f t44 b3 q14 m t4 t45 = some (Sum.inl r)) : z9d q3f t44 b3 q14 t4 t45 = true ∧ z98 q3f t44 b3 q14 t4 t45 = true := by
  subst hm
  unfold z9d z98
  rw [h]
  exact ⟨rfl, rfl⟩
theorem zoi {q3f : Nat} {t44 : Int} {b3 : List Nat} {q14 : Nat} {t4 : Nat} {t45 : Int} {m : Nat} {r : Nat × Int × Bool} (hm : m = big) (h : z4y q3f t44 b3 q14 m t4 t45 = some (Sum.inr r)) : z9d q3f t44 b3 q14 t4 t45 = true ∧ z98 q3f t44 b3 q14 t4 t45 = false ∧ zg5 q3f t44 b3 q14 t4 t45 = r.1 ∧ zg7 q3f t44 b3 q14 t4 t45 = r.2.1 ∧ zgj q3f t44 b3 q14 t4 t45 = r.2.2 := by
  subst hm
  unfold z9d z98 zg5 zg7 zgj
  rw [h]
  exact ⟨rfl, rfl, rfl, rfl, rfl⟩
noncomputable def zdc {R : Type} (q00 : Nat) (q03 : List Nat) (q02 : Nat) (q04 : List Nat) (q01 : Nat) (q05 : List Nat) (q06 : Nat) (q07 : List Nat) (q0b : Int) (q0c : Nat) (q0d : Nat) (k_ : Bool → Option R) : Option R := (grd (zfv q00 (pF q03 0 (muN q00 1)) q02 (pF q04 0 (muN q02 1)) q01 (pF q05 0 (muN q01 1))) (br (bnot (zeu q00 (pF q03 0 (muN q00 1)) q02 (pF q04 0 (muN q02 1)) q01 (pF q05 0 (muN q01 1)))) (k_ Bool.false) (grd (zl6 q0b 1 6) (br (bnot (zjv q0b 1 6)) (k_ Bool.false) (br (ltI (Int.ofNat q06) 2) (k_ Bool.false) (br (ltI 12 (Int.ofNat q06)) (k_ Bool.false) (grd (zjy q0c) (br (bnot (zh3 q0c)) (k_ Bool.false) (grd (z9x q0d) (br (bnot (z9e q0d)) (k_ Bool.false) (grd (z9d q06 (Int.ofNat q06) q07 q0d q0c 0) (br (z98 q06 (Int.ofNat q06) q07 q0d q0c 0) (k_ Bool.false) (k_ Bool.true)))))))))))))
noncomputable def zd4 (q00 : Nat) (q03 : List Nat) (q02 : Nat) (q04 : List Nat) (q01 : Nat) (q05 : List Nat) (q06 : Nat) (q07 : List Nat) (q0b : Int) (q0c : Nat) (q0d : Nat) : Option (Bool) := zdc q00 q03 q02 q04 q01 q05 q06 q07 q0b q0c q0d (fun c0_ => some c0_)
theorem zp1 {R R' : Type} (o : Option R → Option R') (h0 : o none = none) (q00 : Nat) (q03 : List Nat) (q02 : Nat) (q04 : List Nat) (q01 : Nat) (q05 : List Nat) (q06 : Nat) (q07 : List Nat) (q0b : Int) (q0c : Nat) (q0d : Nat) (k_ : Bool → Option R) : zdc q00 q03 q02 q04 q01 q05 q06 q07 q0b q0c q0d (fun c0_ => o (k_ c0_)) = o (zdc q00 q03 q02 q04 q01 q05 q06 q07 q0b q0c q0d k_) := by
  unfold zdc
  repeat (first | refine grd_out h0 ?_ | refine br_out ?_ ?_ | rfl | exact h0.symm)
noncomputable def zem (q00 : Nat) (q03 : List Nat) (q02 : Nat) (q04 : List Nat) (q01 : Nat) (q05 : List Nat) (q06 : Nat) (q07 : List Nat) (q0b : Int) (q0c : Nat) (q0d : Nat) : Bool := (zd4 q00 q03 q02 q04 q01 q05 q06 q07 q0b q0c q0d).isSome
noncomputable def ze9 (q00 : Nat) (q03 : List Nat) (q02 : Nat) (q04 : List Nat) (q01 : Nat) (q05 : List Nat) (q06 : Nat) (q07 : List Nat) (q0b : Int) (q0c : Nat) (q0d : Nat) : Bool := ((zd4 q00 q03 q02 q04 q01 q05 q06 q07 q0b q0c q0d).getD default)
theorem zmo {q00 : Nat} {q03 : List Nat} {q02 : Nat} {q04 : List Nat} {q01 : Nat} {q05 : List Nat} {q06 : Nat} {q07 : List Nat} {q0b : Int} {q0c : Nat} {q0d : Nat} {r : Bool} (h : zd4 q00 q03 q02 q04 q01 q05 q06 q07 q0b q0c q0d = some r) : zem q00 q03 q02 q04 q01 q05 q06 q07 q0b q0c q0d = true ∧ ze9 q00 q03 q02 q04 q01 q05 q06 q07 q0b q0c q0d = r := by
  unfold zem ze9
  rw [h]
  exact ⟨rfl, rfl⟩
noncomputable def zd6 {R : Type} (q08 : Nat) (q0e : List Nat) (q09 : Nat) (q0g : List Nat) (q0a : Nat) (q0f : List Nat) (q0h : Nat) (q0l : List Nat) (q0p : Int) (q0u : Nat) (q0t : Nat) (i : Int) (q12 : Nat) (q16 : Nat) (q17 : Nat) (k_ : Nat → Nat → Nat → Nat → Int → Nat → Nat → Bool → (List Nat) → (List Nat) → (List Nat) → (List Nat) → Option R) : Option R := (grd (zem q08 (pF q0e 0 (muN q08 1)) q09 (pF q0g 0 (muN q09 1)) q0a (pF q0f 0 (muN q0a 1)) q0h (pF q0l 0 (muN q0h 3)) q0p q0u q0t) (br (bnot (ze9 q08 (pF q0e 0 (muN q08 1)) q09 (pF q0g 0 (muN q09 1)) q0a (pF q0f 0 (muN q0a 1)) q0h (pF q0l 0 (muN q0h 3)) q0p q0u q0t)) (k_ 0 0 0 0 0 0 0 Bool.false [] [] [] []) (grd (ze6 q08 (pF q0e 0 (muN q08 1)) q09 (pF q0g 0 (muN q09 1)) q0a (pF q0f 0 (muN q0a 1)) q0h (pF q0l 0 (muN q0h 3)) q0p q0u q0t i) (br (bnot (zdl q08 (pF q0e 0 (muN q08 1)) q09 (pF q0g 0 (muN q09 1)) q0a (pF q0f 0 (muN q0a 1)) q0h (pF q0l 0 (muN q0h 3)) q0p q0u q0t i)) (k_ 0 0 0 0 0 0 0 Bool.false [] [] [] []) (grd (zkz q08 (pF q0e 0 (muN q08 1)) q09 (pF q0g 0 (muN q09 1)) q0a (pF q0f 0 (muN q0a 1)) q0h (pF q0l 0 (muN q0h 3)) q0p q0u q0t) (grd (okIx i (z93 q08 (pF q0e 0 (muN q08 1)) q09 (pF q0g 0 (muN q09 1)) q0a (pF q0f 0 (muN q0a 1)) q0h (pF q0l 0 (muN q0h 3)) q0p q0u q0t)) (grd (zem (z9t q08 (pF q0e 0 (muN q08 1)) q09 (pF q0g 0 (muN q09 1)) q0a (pF q0f 0 (muN q0a 1)) q0h (pF q0l 0 (muN q0h 3)) q0p q0u q0t) (pF (zd0 q08 (pF q0e 0 (muN q08 1)) q09 (pF q0g 0 (muN q09 1)) q0a (pF q0f 0 (muN q0a 1)) q0h (pF q0l 0 (muN q0h 3)) q0p q0u q0t) 0 (muN (z9t q08 (pF q0e 0 (muN q08 1)) q09 (pF q0g 0 (muN q09 1)) q0a (pF q0f 0 (muN q0a 1)) q0h (pF q0l 0 (muN q0h 3)) q0p q0u q0t) 1)) (z9u q08 (pF q0e 0 (muN q08 1)) q09 (pF q0g 0 (muN q09 1)) q0a (pF q0f 0 (muN q0a 1)) q0h (pF q0l 0 (muN q0h 3)) q0p q0u q0t) (pF (zd9 q08 (pF q0e 0 (muN q08 1)) q09 (pF q0g 0 (muN q09 1)) q0a (pF q0f 0 (muN q0a 1)) q0h (pF q0l 0 (muN q0h 3)) q0p q0u q0t) 0 (muN (z9u q08 (pF q0e 0 (muN q08 1)) q09 (pF q0g 0 (muN q09 1)) q0a (pF q0f 0 (muN q0a 1)) q0h (pF q0l 0 (muN q0h 3)) q0p q0u q0t) 1)) (z9s q08 (pF q0e 0 (muN q08 1)) q09 (pF q0g 0 (muN q09 1)) q0a (pF q0f 0 (muN q0a 1)) q0h (pF q0l 0 (muN q0h 3)) q0p q0u q0t) (pF (zdb q08 (pF q0e 0 (muN q08 1)) q09 (pF q0g 0 (muN q09 1)) q0a (pF q0f 0 (muN q0a 1)) q0h (pF q0l 0 (muN q0h 3)) q0p q0u q0t) 0 (muN (z9s q08 (pF q0e 0 (muN q08 1)) q09 (pF q0g 0 (muN q09 1)) q0a (pF q0f 0 (muN q0a 1)) q0h (pF q0l 0 (muN q0h 3)) q0p q0u q0t) 1)) (z93 q08 (pF q0e 0 (muN q08 1)) q09 (pF q0g 0 (muN q09 1)) q0a (pF q0f 0 (muN q0a 1)) q0h (pF q0l 0 (muN q0h 3)) q0p q0u q0t) (pF (sF (sF (sF (zcy q08 (pF q0e 0 (muN q08 1)) q09 (pF q0g 0 (muN q09 1)) q0a (pF q0f 0 (muN q0a 1)) q0h (pF q0l 0 (muN q0h 3)) q0p q0u q0t) (ixO 0 i 3) q12) (Nat.succ (ixO 0 i 3)) q16) (Nat.succ (Nat.succ (ixO 0 i 3))) q17) 0 (muN (z93 q08 (pF q0e 0 (muN q08 1)) q09 (pF q0g 0 (muN q09 1)) q0a (pF q0f 0 (muN q0a 1)) q0h (pF q0l 0 (muN q0h 3)) q0p q0u q0t) 3)) q0p q0u q0t) (br (bnot (ze9 (z9t q08 (pF q0e 0 (muN q08 1)) q09 (pF q0g 0 (muN q09 1)) q0a (pF q0f 0 (muN q0a 1)) q0h (pF q0l 0 (muN q0h 3)) q0p q0u q0t) (pF (zd0 q08 (pF q0e 0 (muN q08 1)) q09 (pF q0g 0 (muN q09 1)) q0a (pF q0f 0 (muN q0a 1)) q0h (pF q0l 0 (muN q0h 3)) q0p q0u q0t) 0 (muN (z9t q08 (pF q0e 0 (muN q08 1)) q09 (pF q0g 0 (muN q09 1)) q0a (pF q0f 0 (muN q0a 1)) q0h (pF q0l 0 (muN q0h 3)) q0p q0u q0t) 1)) (z9u q08 (pF q0e 0 (muN q08 1)) q09 (pF q0g 0 (muN q09 1)) q0a (pF q0f 0 (muN q0a 1)) q0h (pF q0l 0 (muN q0h 3)) q0p q0u q0t) (pF (zd9 q08 (pF q0e 0 (muN q08 1)) q09 (pF q0g 0 (muN q09 1)) q0a (pF q0f 0 (muN q0a 1)) q0h (pF q0l 0 (muN q0h 3)) q0p q0u q0t) 0 (muN (z9u q08 (pF q0e 0 (muN q08 1)) q09 (pF q0g 0 (muN q09 1)) q0a (pF q0f 0 (muN q0a 1)) q0h (pF q0l 0 (muN q0h 3)) q0p q0u q0t) 1)) (z9s q08 (pF q0e 0 (muN q08 1)) q09 (pF q0g 0 (muN q09 1)) q0a (pF q0f 0 (muN q0a 1)) q0h (pF q0l 0 (muN q0h 3)) q0p q0u q0t) (pF (zdb q08 (pF q0e 0 (muN q08 1)) q09 (pF q0g 0 (muN q09 1)) q0a (pF q0f 0 (muN q0a 1)) q0h (pF q0l 0 (muN q0h 3)) q0p q0u q0t) 0 (muN (z9s q08 (pF q0e 0 (muN q08 1)) q09 (pF q0g 0 (muN q09 1)) q0a (pF q0f 0 (muN q0a 1)) q0h (pF q0l 0 (muN q0h 3)) q0p q0u q0t) 1)) (z93 q08 (pF q0e 0 (muN q08 1)) q09 (pF q0g 0 (muN q09 1)) q0a (pF q0f 0 (muN q0a 1)) q0h (pF q0l 0 (muN q0h 3)) q0p q0u q0t) (pF (sF (sF (sF (zcy q08 (pF q0e 0 (muN q08 1)) q09 (pF q0g 0 (muN q09 1)) q0a (pF q0f 0 (muN q0a 1)) q0h (pF q0l 0 (muN q0h 3)) q0p q0u q0t) (ixO 0 i 3) q12) (Nat.succ (ixO 0 i 3)) q16) (Nat.succ (Nat.succ (ixO 0 i 3))) q17) 0 (muN (z93 q08 (pF q0e 0 (muN q08 1)) q09 (pF q0g 0 (muN q09 1)) q0a (pF q0f 0 (muN q0a 1)) q0h (pF q0l 0 (muN q0h 3)) q0p q0u q0t) 3)) q0p q0u q0t)) (k_ 0 0 0 0 0 0 0 Bool.false [] [] [] []) (k_ (z9t q08 (pF q0e 0 (muN q08 1)) q09 (pF q0g 0 (muN q09 1)) q0a (pF q0f 0 (muN q0a 1)) q0h (pF q0l 0 (muN q0h 3)) q0p q0u q0t) (z9u q08 (pF q0e 0 (muN q08 1)) q09 (pF q0g 0 (muN q09 1)) q0a (pF q0f 0 (muN q0a 1)) q0h (pF q0l 0 (muN q0h 3)) q0p q0u q0t) (z9s q08 (pF q0e 0 (muN q08 1)) q09 (pF q0g 0 (muN q09 1)) q0a (pF q0f 0 (muN q0a 1)) q0h (pF q0l 0 (muN q0h 3)) q0p q0u q0t) (z93 q08 (pF q0e 0 (muN q08 1)) q09 (pF q0g 0 (muN q09 1)) q0a (pF q0f 0 (muN q0a 1)) q0h (pF q0l 0 (muN q0h 3)) q0p q0u q0t) q0p q0u q0t Bool.true (zd0 q08 (pF q0e 0 (muN q08 1)) q09 (pF q0g 0 (muN q09 1)) q0a (pF q0f 0 (muN q0a 1)) q0h (pF q0l 0 (muN q0h 3)) q0p q0u q0t) (zd9 q08 (pF q0e 0 (muN q08 1)) q09 (pF q0g 0 (muN q09 1)) q0a (pF q0f 0 (muN q0a 1)) q0h (pF q0l 0 (muN q0h 3)) q0p q0u q0t) (zdb q08 (pF q0e 0 (muN q08 1)) q09 (pF q0g 0 (muN q09 1)) q0a (pF q0f 0 (muN q0a 1)) q0h (pF q0l 0 (muN q0h 3)) q0p q0u q0t) (sF (sF (sF (zcy q08 (pF q0e 0 (muN q08 1)) q09 (pF q0g 0 (muN q09 1)) q0a (pF q0f 0 (muN q0a 1)) q0h (pF q0l 0 (muN q0h 3)) q0p q0u q0t) (ixO 0 i 3) q12) (Nat.succ (ixO 0 i 3)) q16) (Nat.succ (Nat.succ (ixO 0 i 3))) q17))))))))))
noncomputable def z5f (q08 : Nat) (q0e : List Nat) (q09 : Nat) (q0g : List Nat) (q0a : Nat) (q0f : List Nat) (q0h : Nat) (q0l : List Nat) (q0p : Int) (q0u : Nat) (q0t : Nat) (i : Int) (q12 : Nat) (q16 : Nat) (q17 : Nat) : Option (Nat × Nat × Nat × Nat × Int × Nat × Nat × Bool × (List Nat) × (List Nat) × (List Nat) × (List Nat)) := zd6 q08 q0e q09 q0g q0a q0f q0h q0l q0p q0u q0t i q12 q16 q17 (fun c0_ c1_ c2_ c3_ c4_ c5_ c6_ c7_ c8_ c9_ c10_ c11_ => some (c0_, c1_, c2_, c3_, c4_, c5_, c6_, c7_, c8_, c9_, c10_, c11_))
theorem zow {R R' : Type} (o : Option R → Option R') (h0 : o none = none) (q08 : Nat) (q0e : List Nat) (q09 : Nat) (q0g : List Nat) (q0a : Nat) (q0f : List Nat) (q0h : Nat) (q0l : List Nat) (q0p : Int) (q0u : Nat) (q0t : Nat) (i : Int) (q12 : Nat) (q16 : Nat) (q17 : Nat) (k_ : Nat → Nat → Nat → Nat → Int → Nat → Nat → Bool → (List Nat) → (List Nat) → (List Nat) → (List Nat) → Option R) : zd6 q08 q0e q09 q0g q0a q0f q0h q0l q0p q0u q0t i q12 q16 q17 (fun c0_ c1_ c2_ c3_ c4_ c5_ c6_ c7_ c8_ c9_ c10_ c11_ => o (k_ c0_ c1_ c2_ c3_ c4_ c5_ c6_ c7_ c8_ c9_ c10_ c11_)) = o (zd6 q08 q0e q09 q0g q0a q0f q0h q0l q0p q0u q0t i q12 q16 q17 k_) := by
  unfold zd6
  repeat (first | refine grd_out h0 ?_ | refine br_out ?_ ?_ | rfl | exact h0.symm)
noncomputable def zjq (q08 : Nat) (q0e : List Nat) (q09 : Nat) (q0g : List Nat) (q0a : Nat) (q0f : List Nat) (q0h : Nat) (q0l : List Nat) (q0p : Int) (q0u : Nat) (q0t : Nat) (i : Int) (q12 : Nat) (q16 : Nat) (q17 : Nat) : Bool := (z5f q08 q0e q09 q0g q0a q0f q0h q0l q0p q0u q0t i q12 q16 q17).isSome
noncomputable def zhl (q08 : Nat) (q0e : List Nat) (q09 : Nat) (q0g : List Nat) (q0a : Nat) (q0f : List Nat) (q0h : Nat) (q0l : List Nat) (q0p : Int) (q0u : Nat) (q0t : Nat) (i : Int) (q12 : Nat) (q16 : Nat) (q17 : Nat) : Nat := ((z5f q08 q0e q09 q0g q0a q0f q0h q0l q0p q0u q0t i q12 q16 q17).getD default).1
noncomputable def zhm (q08 : Nat) (q0e : List Nat) (q09 : Nat) (q0g : List Nat) (q0a : Nat) (q0f : List Nat) (q0h : Nat) (q0l : List Nat) (q0p : Int) (q0u : Nat) (q0t : Nat) (i : Int) (q12 : Nat) (q16 : Nat) (q17 : Nat) : Nat := ((z5f q08 q0e q09 q0g q0a q0f q0h q0l q0p q0u q0t i q12 q16 q17).getD default).2.1
noncomputable def zhb (q08 : Nat) (q0e : List Nat) (q09 : Nat) (q0g : List Nat) (q0a : Nat) (q0f : List Nat) (q0h : Nat) (q0l : List Nat) (q0p : Int) (q0u : Nat) (q0t : Nat) (i : Int) (q12 : Nat) (q16 : Nat) (q17 : Nat) : Nat := ((z5f q08 q0e q09 q0g q0a q0f q0h q0l q0p q0u q0t i q12 q16 q17).getD default).2.2.1
noncomputable def zh2 (q08 : Nat) (q0e : List Nat) (q09 : Nat) (q0g : List Nat) (q0a : Nat) (q0f : List Nat) (q0h : Nat) (q0l : List Nat) (q0p : Int) (q0u : Nat) (q0t : Nat) (i : Int) (q12 : Nat) (q16 : Nat) (q17 : Nat) : Nat := ((z5f q08 q0e q09 q0g q0a q0f q0h q0l q0p q0u q0t i q12 q16 q17).getD default).2.2.2.1
noncomputable def zgr (q08 : Nat) (q0e : List Nat) (q09 : Nat) (q0g : List Nat) (q0a : Nat) (q0f : List Nat) (q0h : Nat) (q0l : List Nat) (q0p : Int) (q0u : Nat) (q0t : Nat) (i : Int) (q12 : Nat) (q16 : Nat) (q17 : Nat) : Int := ((z5f q08 q0e q09 q0g q0a q0f q0h q0l q0p q0u q0t i q12 q16 q17).getD default).2.2.2.2.1
noncomputable def zi4 (q08 : Nat) (q0e : List Nat) (q09 : Nat) (q0g : List Nat) (q0a : Nat) (q0f : List Nat) (q0h : Nat) (q0l : List Nat) (q0p : Int) (q0u : Nat) (q0t : Nat) (i : Int) (q12 : Nat) (q16 : Nat) (q17 : Nat) : Nat := ((z5f q08 q0e q09 q0g q0a q0f q0h q0l q0p q0u q0t i q12 q16 q17).getD default).2.2.2.2.2.1
noncomputable def zh9 (q08 : Nat) (q0e : List Nat) (q09 : Nat) (q0g : List Nat) (q0a : Nat) (q0f : List Nat) (q0h : Nat) (q0l : List Nat) (q0p : Int) (q0u : Nat) (q0t : Nat) (i : Int) (q12 : Nat) (q16 : Nat) (q17 : Nat) : Nat := ((z5f q08 q0e q09 q0g q0a q0f q0h q0l q0p q0u q0t i q12 q16 q17).getD default).2.2.2.2.2.2.1
noncomputable def zhh (q08 : Nat) (q0e : List Nat) (q09 : Nat) (q0g : List Nat) (q0a : Nat) (q0f : List Nat) (q0h : Nat) (q0l : List Nat) (q0p : Int) (q0u : Nat) (q0t : Nat) (i : Int) (q12 : Nat) (q16 : Nat) (q17 : Nat) : Bool := ((z5f q08 q0e q09 q0g q0a q0f q0h q0l q0p q0u q0t i q12 q16 q17).getD default).2.2.2.2.2.2.2.1
noncomputable def zha (q08 : Nat) (q0e : List Nat) (q09 : Nat) (q0g : List Nat) (q0a : Nat) (q0f : List Nat) (q0h : Nat) (q0l : List Nat) (q0p : Int) (q0u : Nat) (q0t : Nat) (i : Int) (q12 : Nat) (q16 : Nat) (q17 : Nat) : List Nat := ((z5f q08 q0e q09 q0g q0a q0f q0h q0l q0p q0u q0t i q12 q16 q17).getD default).2.2.2.2.2.2.2.2.1
noncomputable def zhs (q08 : Nat) (q0e : List Nat) (q09 : Nat) (q0g : List Nat) (q0a : Nat) (q0f : List Nat) (q0h : Nat) (q0l : List Nat) (q0p : Int) (q0u : Nat) (q0t : Nat) (i : Int) (q12 : Nat) (q16 : Nat) (q17 : Nat) : List Nat := ((z5f q08 q0e q09 q0g q0a q0f q0h q0l q0p q0u q0t i q12 q16 q17).getD default).2.2.2.2.2.2.2.2.2.1
noncomputable def zfn (q08 : Nat) (q0e : List Nat) (q09 : Nat) (q0g : List Nat) (q0a : Nat) (q0f : List Nat) (q0h : Nat) (q0l : List Nat) (q0p : Int) (q0u : Nat) (q0t : Nat) (i : Int) (q12 : Nat) (q16 : Nat) (q17 : Nat) : List Nat := ((z5f q08 q0e q09 q0g q0a q0f q0h q0l q0p q0u q0t i q12 q16 q17).getD default).2.2.2.2.2.2.2.2.2.2.1
noncomputable def zfm (q08 : Nat) (q0e : List Nat) (q09 : Nat) (q0g : List Nat) (q0a : Nat) (q0f : List Nat) (q0h : Nat) (q0l : List Nat) (q0p : Int) (q0u : Nat) (q0t : Nat) (i : Int) (q12 : Nat) (q16 : Nat) (q17 : Nat) : List Nat := ((z5f q08 q0e q09 q0g q0a q0f q0h q0l q0p q0u q0t i q12 q16 q17).getD default).2.2.2.2.2.2.2.2.2.2.2
theorem zqy {q08 : Nat} {q0e : List Nat} {q09 : Nat} {q0g : List Nat} {q0a : Nat} {q0f : List Nat} {q0h : Nat} {q0l : List Nat} {q0p : Int} {q0u : Nat} {q0t : Nat} {i : Int} {q12 : Nat} {q16 : Nat} {q17 : Nat} {r : Nat × Nat × Nat × Nat × Int × Nat × Nat × Bool × (List Nat) × (List Nat) × (List Nat) × (List Nat)} (h : z5f q08 q0e q09 q0g q0a q0f q0h q0l q0p q0u q0t i q12 q16 q17 = some r) : zjq q08 q0e q09 q0g q0a q0f q0h q0l q0p q0u q0t i q12 q16 q17 = true ∧ zhl q08 q0e q09 q0g q0a q0f q0h q0l q0p q0u q0t i q12 q16 q17 = r.1 ∧ zhm q08 q0e q09 q0g q0a q0f q0h q0l q0p q0u q0t i q12 q16 q17 = r.2.1 ∧ zhb q08 q0e q09 q0g q0a q0f q0h q0l q0p q0u q0t i q12 q16 q17 = r.2.2.1 ∧ zh2 q08 q0e q09 q0g q0a q0f q0h q0l q0p q0u q0t i q12 q16 q17 = r.2.2.2.1 ∧ zgr q08 q0e q09 q0g q0a q0f q0h q0l q0p q0u q0t i q12 q16 q17 = r.2.2.2.2.1 ∧ zi4 q08 q0e q09 q0g q0a q0f q0h q0l q0p q0u q0t i q12 q16 q17 = r.2.2.2.2.2.1 ∧ zh9 q08 q0e q09 q0g q0a q0f q0h q0l q0p q0u q0t i q12 q16 q17 = r.2.2.2.2.2.2.1 ∧ zhh q08 q0e q09 q0g q0a q0f q0h q0l q0p q0u q0t i q12 q16 q17 = r.2.2.2.2.2.2.2.1 ∧ zha q08 q0e q09 q0g q0a q0f q0h q0l q0p q0u q0t i q12 q16 q17 = r.2.2.2.2.2.2.2.2.1 ∧ zhs q08 q0e q09 q0g q0a q0f q0h q0l q0p q0u q0t i q12 q16 q17 = r.2.2.2.2.2.2.2.2.2.1 ∧ zfn q08 q0e q09 q0g q0a q0f q0h q0l q0p q0u q0t i q12 q16 q17 = r.2.2.2.2.2.2.2.2.2.2.1 ∧ zfm q08 q0e q09 q0g q0a q0f q0h q0l q0p q0u q0t i q12 q16 q17 = r.2.2.2.2.2.2.2.2.2.2.2 := by
  unfold zjq zhl zhm zhb zh2 zgr zi4 zh9 zhh zha zhs zfn zfm
  rw [h]
  exact ⟨rfl, rfl, rfl, rfl, rfl, rfl, rfl, rfl, rfl, rfl, rfl, rfl, rfl⟩
noncomputable def z56 {R : Type} (an : Nat) (k : Int) (i : Int) (b12 : List Nat) (kn_ : Int → Int → (List Nat) → Option R) (k0_ : Int → Int → Bool → (List Nat) → Option R) : Option R := (br (ltI i (Int.ofNat an)) (grd (okIx i an) (kn_ (addI IntKind.i64 k 1) (addI IntKind.i64 i 1) (sF b12 (ixO 0 i 1) (fOI FloatKind.f32 k)))) (k0_ k i (ltI i (Int.ofNat an)) b12))
theorem zhk {R R' : Type} (o : Option R → Option R') (h0 : o none = none) (an : Nat) (k : Int) (i : Int) (b12 : List Nat) (kn_ : Int → Int → (List Nat) → Option R) (k0_ : Int → Int → Bool → (List Nat) → Option R) : z56 an k i b12 (fun k' i' b12' => o (kn_ k' i' b12')) (fun c0_ c1_ c2_ c3_ => o (k0_ c0_ c1_ c2_ c3_)) = o (z56 an k i b12 kn_ k0_) := by
  unfold z56
  repeat (first | refine grd_out h0 ?_ | refine br_out ?_ ?_ | rfl | exact h0.symm)
noncomputable def z3c (an : Nat) : Nat → Int → Int → (List Nat) → Option ((Int × Int × Bool × (List Nat)))
  | 0, _, _, _ => none
  | n + 1, k, i, b12 => z56 an  k i b12  (fun k' i' b12' => z3c an n k' i' b12') (fun c0_ c1_ c2_ c3_ => some (c0_, c1_, c2_, c3_))
theorem zga (an : Nat) (n : Nat) (k : Int) (i : Int) (b12 : List Nat) : z3c an (n + 1) k i b12 = z56 an  k i b12  (fun k' i' b12' => z3c an n k' i' b12') (fun c0_ c1_ c2_ c3_ => some (c0_, c1_, c2_, c3_)) := rfl
noncomputable def z7h (an : Nat) (k : Int) (i : Int) (b12 : List Nat) : Bool := (z3c an big k i b12).isSome
noncomputable def z6v (an : Nat) (k : Int) (i : Int) (b12 : List Nat) : Int := ((z3c an big k i b12).getD default).1
noncomputable def z8z (an : Nat) (k : Int) (i : Int) (b12 : List Nat) : Int := ((z3c an big k i b12).getD default).2.1
noncomputable def z8u (an : Nat) (k : Int) (i : Int) (b12 : List Nat) : Bool := ((z3c an big k i b12).getD default).2.2.1
noncomputable def z90 (an : Nat) (k : Int) (i : Int) (b12 : List Nat) : List Nat := ((z3c an big k i b12).getD default).2.2.2
theorem ziu {an : Nat} {k : Int} {i : Int} {b12 : List Nat} {m : Nat} {r : Int × Int × Bool × (List Nat)} (hm : m = big) (h : z3c an m k i b12 = some r) : z7h an k i b12 = true ∧ z6v an k i b12 = r.1 ∧ z8z an k i b12 = r.2.1 ∧ z8u an k i b12 = r.2.2.1 ∧ z90 an k i b12 = r.2.2.2 := by
  subst hm
  unfold z7h z6v z8z z8u z90
  rw [h]
  exact ⟨rfl, rfl, rfl, rfl, rfl⟩
noncomputable def z52 {R : Type} (an : Nat) (k : Int) (i : Int) (b13 : List Nat) (kn_ : Int → Int → (List Nat) → Option R) (k0_ : Int → Int → Bool → (List Nat) → Option R) : Option R := (br (ltI i (Int.ofNat an)) (grd (okIx i an) (kn_ (addI IntKind.i64 k 1) (addI IntKind.i64 i 1) (sF b13 (ixO 0 i 1) (fOI FloatKind.f32 k)))) (k0_ k i (ltI i (Int.ofNat an)) b13))
theorem zg4 {R R' : Type} (o : Option R → Option R') (h0 : o none = none) (an : Nat) (k : Int) (i : Int) (b13 : List Nat) (kn_ : Int → Int → (List Nat) → Option R) (k0_ : Int → Int → Bool → (List Nat) → Option R) : z52 an k i b13 (fun k' i' b13' => o (kn_ k' i' b13')) (fun c0_ c1_ c2_ c3_ => o (k0_ c0_ c1_ c2_ c3_)) = o (z52 an k i b13 kn_ k0_) := by
  unfold z52
  repeat (first | refine grd_out h0 ?_ | refine br_out ?_ ?_ | rfl | exact h0.symm)
noncomputable def z2w (an : Nat) : Nat → Int → Int → (List Nat) → Option ((Int × Int × Bool × (List Nat)))
  | 0, _, _, _ => none
  | n + 1, k, i, b13 => z52 an  k i b13  (fun k' i' b13' => z2w an n k' i' b13') (fun c0_ c1_ c2_ c3_ => some (c0_, c1_, c2_, c3_))
theorem zfi (an : Nat) (n : Nat) (k : Int) (i : Int) (b13 : List Nat) : z2w an (n + 1) k i b13 = z52 an  k i b13  (fun k' i' b13' => z2w an n k' i' b13') (fun c0_ c1_ c2_ c3_ => some (c0_, c1_, c2_, c3_)) := rfl
noncomputable def z76 (an : Nat) (k : Int) (i : Int) (b13 : List Nat) : Bool := (z2w an big k i b13).isSome
noncomputable def z6k (an : Nat) (k : Int) (i : Int) (b13 : List Nat) : Int := ((z2w an big k i b13).getD default).1
noncomputable def z85 (an : Nat) (k : Int) (i : Int) (b13 : List Nat) : Int := ((z2w an big k i b13).getD default).2.1
noncomputable def z88 (an : Nat) (k : Int) (i : Int) (b13 : List Nat) : Bool := ((z2w an big k i b13).getD default).2.2.1
noncomputable def z89 (an : Nat) (k : Int) (i : Int) (b13 : List Nat) : List Nat := ((z2w an big k i b13).getD default).2.2.2
theorem zh7 {an : Nat} {k : Int} {i : Int} {b13 : List Nat} {m : Nat} {r : Int × Int × Bool × (List Nat)} (hm : m = big) (h : z2w an m k i b13 = some r) : z76 an k i b13 = true ∧ z6k an k i b13 = r.1 ∧ z85 an k i b13 = r.2.1 ∧ z88 an k i b13 = r.2.2.1 ∧ z89 an k i b13 = r.2.2.2 := by
  subst hm
  unfold z76 z6k z85 z88 z89
  rw [h]
  exact ⟨rfl, rfl, rfl, rfl, rfl⟩
noncomputable def z50 {R : Type} (an : Nat) (k : Int) (i : Int) (b14 : List Nat) (kn_ : Int → Int → (List Nat) → Option R) (k0_ : Int → Int → Bool → (List Nat) → Option R) : Option R := (br (ltI i (Int.ofNat an)) (grd (okIx i an) (kn_ (addI IntKind.i64 k 1) (addI IntKind.i64 i 1) (sF b14 (ixO 0 i 1) (fOI FloatKind.f32 k)))) (k0_ k i (ltI i (Int.ofNat an)) b14))
theorem zg1 {R R' : Type} (o : Option R → Option R') (h0 : o none = none) (an : Nat) (k : Int) (i : Int) (b14 : List Nat) (kn_ : Int → Int → (List Nat) → Option R) (k0_ : Int → Int → Bool → (List Nat) → Option R) : z50 an k i b14 (fun k' i' b14' => o (kn_ k' i' b14')) (fun c0_ c1_ c2_ c3_ => o (k0_ c0_ c1_ c2_ c3_)) = o (z50 an k i b14 kn_ k0_) := by
  unfold z50
  repeat (first | refine grd_out h0 ?_ | refine br_out ?_ ?_ | rfl | exact h0.symm)
noncomputable def z2z (an : Nat) : Nat → Int → Int → (List Nat) → Option ((Int × Int × Bool × (List Nat)))
  | 0, _, _, _ => none
  | n + 1, k, i, b14 => z50 an  k i b14  (fun k' i' b14' => z2z an n k' i' b14') (fun c0_ c1_ c2_ c3_ => some (c0_, c1_, c2_, c3_))
theorem zfj (an : Nat) (n : Nat) (k : Int) (i : Int) (b14 : List Nat) : z2z an (n + 1) k i b14 = z50 an  k i b14  (fun k' i' b14' => z2z an n k' i' b14') (fun c0_ c1_ c2_ c3_ => some (c0_, c1_, c2_, c3_)) := rfl
noncomputable def z6x (an : Nat) (k : Int) (i : Int) (b14 : List Nat) : Bool := (z2z an big k i b14).isSome
noncomputable def z6b (an : Nat) (k : Int) (i : Int) (b14 : List Nat) : Int := ((z2z an big k i b14).getD default).1
noncomputable def z84 (an : Nat) (k : Int) (i : Int) (b14 : List Nat) : Int := ((z2z an big k i b14).getD default).2.1
noncomputable def z87 (an : Nat) (k : Int) (i : Int) (b14 : List Nat) : Bool := ((z2z an big k i b14).getD default).2.2.1
noncomputable def z8d (an : Nat) (k : Int) (i : Int) (b14 : List Nat) : List Nat := ((z2z an big k i b14).getD default).2.2.2
theorem zh1 {an : Nat} {k : Int} {i : Int} {b14 : List Nat} {m : Nat} {r : Int × Int × Bool × (List Nat)} (hm : m = big) (h : z2z an m k i b14 = some r) : z6x an k i b14 = true ∧ z6b an k i b14 = r.1 ∧ z84 an k i b14 = r.2.1 ∧ z87 an k i b14 = r.2.2.1 ∧ z8d an k i b14 = r.2.2.2 := by
  subst hm
  unfold z6x z6b z84 z87 z8d
  rw [h]
  exact ⟨rfl, rfl, rfl, rfl, rfl⟩
noncomputable def z4r {R : Type} (an : Nat) (k : Int) (i : Int) (b15 : List Nat) (kn_ : Int → Int → (List Nat) → Option R) (k0_ : Int → Int → Bool → (List Nat) → Option R) : Option R := (br (ltI i (Int.ofNat an)) (grd (okIx i an) (grd (okIx i an) (grd (okIx i an) (kn_ (addI IntKind.i64 (addI IntKind.i64 (addI IntKind.i64 k 1) 1) 1) (addI IntKind.i64 i 1) (sF (sF (sF b15 (ixO 0 i 3) (fOI FloatKind.f32 k)) (Nat.succ (ixO 0 i 3)) (fOI FloatKind.f32 (addI IntKind.i64 k 1))) (Nat.succ (Nat.succ (ixO 0 i 3))) (fOI FloatKind.f32 (addI IntKind.i64 (addI IntKind.i64 k 1) 1))))))) (k0_ k i (ltI i (Int.ofNat an)) b15))
theorem zhz {R R' : Type} (o : Option R → Option R') (h0 : o none = none) (an : Nat) (k : Int) (i : Int) (b15 : List Nat) (kn_ : Int → Int → (List Nat) → Option R) (k0_ : Int → Int → Bool → (List Nat) → Option R) : z4r an k i b15 (fun k' i' b15' => o (kn_ k' i' b15')) (fun c0_ c1_ c2_ c3_ => o (k0_ c0_ c1_ c2_ c3_)) = o (z4r an k i b15 kn_ k0_) := by
  unfold z4r
  repeat (first | refine grd_out h0 ?_ | refine br_out ?_ ?_ | rfl | exact h0.symm)
noncomputable def z3e (an : Nat) : Nat → Int → Int → (List Nat) → Option ((Int × Int × Bool × (List Nat)))
  | 0, _, _, _ => none
  | n + 1, k, i, b15 => z4r an  k i b15  (fun k' i' b15' => z3e an n k' i' b15') (fun c0_ c1_ c2_ c3_ => some (c0_, c1_, c2_, c3_))
theorem zae (an : Nat) (n : Nat) (k : Int) (i : Int) (b15 : List Nat) : z3e an (n + 1) k i b15 = z4r an  k i b15  (fun k' i' b15' => z3e an n k' i' b15') (fun c0_ c1_ c2_ c3_ => some (c0_, c1_, c2_, c3_)) := rfl
noncomputable def z7j (an : Nat) (k : Int) (i : Int) (b15 : List Nat) : Bool := (z3e an big k i b15).isSome
noncomputable def z6u (an : Nat) (k : Int) (i : Int) (b15 : List Nat) : Int := ((z3e an big k i b15).getD default).1
noncomputable def z8t (an : Nat) (k : Int) (i : Int) (b15 : List Nat) : Int := ((z3e an big k i b15).getD default).2.1
noncomputable def z8y (an : Nat) (k : Int) (i : Int) (b15 : List Nat) : Bool := ((z3e an big k i b15).getD default).2.2.1
noncomputable def z8s (an : Nat) (k : Int) (i : Int) (b15 : List Nat) : List Nat := ((z3e an big k i b15).getD default).2.2.2
theorem zj5 {an : Nat} {k : Int} {i : Int} {b15 : List Nat} {m : Nat} {r : Int × Int × Bool × (List Nat)} (hm : m = big) (h : z3e an m k i b15 = some r) : z7j an k i b15 = true ∧ z6u an k i b15 = r.1 ∧ z8t an k i b15 = r.2.1 ∧ z8y an k i b15 = r.2.2.1 ∧ z8s an k i b15 = r.2.2.2 := by
  subst hm
  unfold z7j z6u z8t z8y z8s
  rw [h]
  exact ⟨rfl, rfl, rfl, rfl, rfl⟩
noncomputable def z4z {R : Type} (an : Nat) (k : Int) (i : Int) (b12 : List Nat) (kn_ : Int → Int → (List Nat) → Option R) (k0_ : Int → Int → Bool → (List Nat) → Option R) : Option R := (br (ltI i (Int.ofNat an)) (grd (okIx i an) (kn_ (addI IntKind.i64 k 1) (addI IntKind.i64 i 1) (sF b12 (ixO 0 i 1) (fOI FloatKind.f32 k)))) (k0_ k i (ltI i (Int.ofNat an)) b12))
theorem zg3 {R R' : Type} (o : Option R → Option R') (h0 : o none = none) (an : Nat) (k : Int) (i : Int) (b12 : List Nat) (kn_ : Int → Int → (List Nat) → Option R) (k0_ : Int → Int → Bool → (List Nat) → Option R) : z4z an k i b12 (fun k' i' b12' => o (kn_ k' i' b12')) (fun c0_ c1_ c2_ c3_ => o (k0_ c0_ c1_ c2_ c3_)) = o (z4z an k i b12 kn_ k0_) := by
  unfold z4z
  repeat (first | refine grd_out h0 ?_ | refine br_out ?_ ?_ | rfl | exact h0.symm)
noncomputable def z2v (an : Nat) : Nat → Int → Int → (List Nat) → Option ((Int × Int × Bool × (List Nat)))
  | 0, _, _, _ => none
  | n + 1, k, i, b12 => z4z an  k i b12  (fun k' i' b12' => z2v an n k' i' b12') (fun c0_ c1_ c2_ c3_ => some (c0_, c1_, c2_, c3_))
theorem zfc (an : Nat) (n : Nat) (k : Int) (i : Int) (b12 : List Nat) : z2v an (n + 1) k i b12 = z4z an  k i b12  (fun k' i' b12' => z2v an n k' i' b12') (fun c0_ c1_ c2_ c3_ => some (c0_, c1_, c2_, c3_)) := rfl
noncomputable def z71 (an : Nat) (k : Int) (i : Int) (b12 : List Nat) : Bool := (z2v an big k i b12).isSome
noncomputable def z6d (an : Nat) (k : Int) (i : Int) (b12 : List Nat) : Int := ((z2v an big k i b12).getD default).1
noncomputable def z83 (an : Nat) (k : Int) (i : Int) (b12 : List Nat) : Int := ((z2v an big k i b12).getD default).2.1
noncomputable def z8a (an : Nat) (k : Int) (i : Int) (b12 : List Nat) : Bool := ((z2v an big k i b12).getD default).2.2.1
noncomputable def z6g (an : Nat) (k : Int) (i : Int) (b12 : List Nat) : List Nat := ((z2v an big k i b12).getD default).2.2.2
theorem zi7 {an : Nat} {k : Int} {i : Int} {b12 : List Nat} {m : Nat} {r : Int × Int × Bool × (List Nat)} (hm : m = big) (h : z2v an m k i b12 = some r) : z71 an k i b12 = true ∧ z6d an k i b12 = r.1 ∧ z83 an k i b12 = r.2.1 ∧ z8a an k i b12 = r.2.2.1 ∧ z6g an k i b12 = r.2.2.2 := by
  subst hm
  unfold z71 z6d z83 z8a z6g
  rw [h]
  exact ⟨rfl, rfl, rfl, rfl, rfl⟩
noncomputable def z53 {R : Type} (an : Nat) (k : Int) (i : Int) (b13 : List Nat) (kn_ : Int → Int → (List Nat) → Option R) (k0_ : Int → Int → Bool → (List Nat) → Option R) : Option R := (br (ltI i (Int.ofNat an)) (grd (okIx i an) (kn_ (addI IntKind.i64 k 1) (addI IntKind.i64 i 1) (sF b13 (ixO 0 i 1) (fOI FloatKind.f32 k)))) (k0_ k i (ltI i (Int.ofNat an)) b13))
theorem zfz {R R' : Type} (o : Option R → Option R') (h0 : o none = none) (an : Nat) (k : Int) (i : Int) (b13 : List Nat) (kn_ : Int → Int → (List Nat) → Option R) (k0_ : Int → Int → Bool → (List Nat) → Option R) : z53 an k i b13 (fun k' i' b13' => o (kn_ k' i' b13')) (fun c0_ c1_ c2_ c3_ => o (k0_ c0_ c1_ c2_ c3_)) = o (z53 an k i b13 kn_ k0_) := by
  unfold z53
  repeat (first | refine grd_out h0 ?_ | refine br_out ?_ ?_ | rfl | exact h0.symm)
noncomputable def z2y (an : Nat) : Nat → Int → Int → (List Nat) → Option ((Int × Int × Bool × (List Nat)))
  | 0, _, _, _ => none
  | n + 1, k, i, b13 => z53 an  k i b13  (fun k' i' b13' => z2y an n k' i' b13') (fun c0_ c1_ c2_ c3_ => some (c0_, c1_, c2_, c3_))
theorem zfl (an : Nat) (n : Nat) (k : Int) (i : Int) (b13 : List Nat) : z2y an (n + 1) k i b13 = z53 an  k i b13  (fun k' i' b13' => z2y an n k' i' b13') (fun c0_ c1_ c2_ c3_ => some (c0_, c1_, c2_, c3_)) := rfl
noncomputable def z72 (an : Nat) (k : Int) (i : Int) (b13 : List Nat) : Bool := (z2y an big k i b13).isSome
noncomputable def z6e (an : Nat) (k : Int) (i : Int) (b13 : List Nat) : Int := ((z2y an big k i b13).getD default).1
noncomputable def z8h (an : Nat) (k : Int) (i : Int) (b13 : List Nat) : Int := ((z2y an big k i b13).getD default).2.1
noncomputable def z82 (an : Nat) (k : Int) (i : Int) (b13 : List Nat) : Bool := ((z2y an big k i b13).getD default).2.2.1
noncomputable def z6j (an : Nat) (k : Int) (i : Int) (b13 : List Nat) : List Nat := ((z2y an big k i b13).getD default).2.2.2
theorem zgs {an : Nat} {k : Int} {i : Int} {b13 : List Nat} {m : Nat} {r : Int × Int × Bool × (List Nat)} (hm : m = big) (h : z2y an m k i b13 = some r) : z72 an k i b13 = true ∧ z6e an k i b13 = r.1 ∧ z8h an k i b13 = r.2.1 ∧ z82 an k i b13 = r.2.2.1 ∧ z6j an k i b13 = r.2.2.2 := by
  subst hm
  unfold z72 z6e z8h z82 z6j
  rw [h]
  exact ⟨rfl, rfl, rfl, rfl, rfl⟩
noncomputable def z51 {R : Type} (an : Nat) (k : Int) (i : Int) (b14 : List Nat) (kn_ : Int → Int → (List Nat) → Option R) (k0_ : Int → Int → Bool → (List Nat) → Option R) : Option R := (br (ltI i (Int.ofNat an)) (grd (okIx i an) (kn_ (addI IntKind.i64 k 1) (addI IntKind.i64 i 1) (sF b14 (ixO 0 i 1) (fOI FloatKind.f32 k)))) (k0_ k i (ltI i (Int.ofNat an)) b14))
theorem zg2 {R R' : Type} (o : Option R → Option R') (h0 : o none = none) (an : Nat) (k : Int) (i : Int) (b14 : List Nat) (kn_ : Int → Int → (List Nat) → Option R) (k0_ : Int → Int → Bool → (List Nat) → Option R) : z51 an k i b14 (fun k' i' b14' => o (kn_ k' i' b14')) (fun c0_ c1_ c2_ c3_ => o (k0_ c0_ c1_ c2_ c3_)) = o (z51 an k i b14 kn_ k0_) := by
  unfold z51
  repeat (first | refine grd_out h0 ?_ | refine br_out ?_ ?_ | rfl | exact h0.symm)
noncomputable def z2x (an : Nat) : Nat → Int → Int → (List Nat) → Option ((Int × Int × Bool × (List Nat)))
  | 0, _, _, _ => none
  | n + 1, k, i, b14 => z51 an  k i b14  (fun k' i' b14' => z2x an n k' i' b14') (fun c0_ c1_ c2_ c3_ => some (c0_, c1_, c2_, c3_))
theorem zfk (an : Nat) (n : Nat) (k : Int) (i : Int) (b14 : List Nat) : z2x an (n + 1) k i b14 = z51 an  k i b14  (fun k' i' b14' => z2x an n k' i' b14') (fun c0_ c1_ c2_ c3_ => some (c0_, c1_, c2_, c3_)) := rfl
noncomputable def z6z (an : Nat) (k : Int) (i : Int) (b14 : List Nat) : Bool := (z2x an big k i b14).isSome
noncomputable def z6i (an : Nat) (k : Int) (i : Int) (b14 : List Nat) : Int := ((z2x an big k i b14).getD default).1
noncomputable def z8f (an : Nat) (k : Int) (i : Int) (b14 : List Nat) : Int := ((z2x an big k i b14).getD default).2.1
noncomputable def z8g (an : Nat) (k : Int) (i : Int) (b14 : List Nat) : Bool := ((z2x an big k i b14).getD default).2.2.1
noncomputable def z6l (an : Nat) (k : Int) (i : Int) (b14 : List Nat) : List Nat := ((z2x an big k i b14).getD default).2.2.2
theorem zhx {an : Nat} {k : Int} {i : Int} {b14 : List Nat} {m : Nat} {r : Int × Int × Bool × (List Nat)} (hm : m = big) (h : z2x an m k i b14 = some r) : z6z an k i b14 = true ∧ z6i an k i b14 = r.1 ∧ z8f an k i b14 = r.2.1 ∧ z8g an k i b14 = r.2.2.1 ∧ z6l an k i b14 = r.2.2.2 := by
  subst hm
  unfold z6z z6i z8f z8g z6l
  rw [h]
  exact ⟨rfl, rfl, rfl, rfl, rfl⟩
noncomputable def z4l {R : Type} (an : Nat) (k : Int) (i : Int) (b15 : List Nat) (kn_ : Int → Int → (List Nat) → Option R) (k0_ : Int → Int → Bool → (List Nat) → Option R) : Option R := (br (ltI i (Int.ofNat an)) (grd (okIx i an) (grd (okIx i an) (grd (okIx i an) (kn_ (addI IntKind.i64 (addI IntKind.i64 (addI IntKind.i64 k 1) 1) 1) (addI IntKind.i64 i 1) (sF (sF (sF b15 (ixO 0 i 3) (fOI FloatKind.f32 k)) (Nat.succ (ixO 0 i 3)) (fOI FloatKind.f32 (addI IntKind.i64 k 1))) (Nat.succ (Nat.succ (ixO 0 i 3))) (fOI FloatKind.f32 (addI IntKind.i64 (addI IntKind.i64 k 1) 1))))))) (k0_ k i (ltI i (Int.ofNat an)) b15))
theorem zg0 {R R' : Type} (o : Option R → Option R') (h0 : o none = none) (an : Nat) (k : Int) (i : Int) (b15 : List Nat) (kn_ : Int → Int → (List Nat) → Option R) (k0_ : Int → Int → Bool → (List Nat) → Option R) : z4l an k i b15 (fun k' i' b15' => o (kn_ k' i' b15')) (fun c0_ c1_ c2_ c3_ => o (k0_ c0_ c1_ c2_ c3_)) = o (z4l an k i b15 kn_ k0_) := by
  unfold z4l
  repeat (first | refine grd_out h0 ?_ | refine br_out ?_ ?_ | rfl | exact h0.symm)
noncomputable def z30 (an : Nat) : Nat → Int → Int → (List Nat) → Option ((Int × Int × Bool × (List Nat)))
  | 0, _, _, _ => none
  | n + 1, k, i, b15 => z4l an  k i b15  (fun k' i' b15' => z30 an n k' i' b15') (fun c0_ c1_ c2_ c3_ => some (c0_, c1_, c2_, c3_))
theorem za8 (an : Nat) (n : Nat) (k : Int) (i : Int) (b15 : List Nat) : z30 an (n + 1) k i b15 = z4l an  k i b15  (fun k' i' b15' => z30 an n k' i' b15') (fun c0_ c1_ c2_ c3_ => some (c0_, c1_, c2_, c3_)) := rfl
noncomputable def z70 (an : Nat) (k : Int) (i : Int) (b15 : List Nat) : Bool := (z30 an big k i b15).isSome
noncomputable def z6f (an : Nat) (k : Int) (i : Int) (b15 : List Nat) : Int := ((z30 an big k i b15).getD default).1
noncomputable def z8e (an : Nat) (k : Int) (i : Int) (b15 : List Nat) : Int := ((z30 an big k i b15).getD default).2.1
noncomputable def z86 (an : Nat) (k : Int) (i : Int) (b15 : List Nat) : Bool := ((z30 an big k i b15).getD default).2.2.1
noncomputable def z6h (an : Nat) (k : Int) (i : Int) (b15 : List Nat) : List Nat := ((z30 an big k i b15).getD default).2.2.2
theorem zh6 {an : Nat} {k : Int} {i : Int} {b15 : List Nat} {m : Nat} {r : Int × Int × Bool × (List Nat)} (hm : m = big) (h : z30 an m k i b15 = some r) : z70 an k i b15 = true ∧ z6f an k i b15 = r.1 ∧ z8e an k i b15 = r.2.1 ∧ z86 an k i b15 = r.2.2.1 ∧ z6h an k i b15 = r.2.2.2 := by
  subst hm
  unfold z70 z6f z8e z86 z6h
  rw [h]
  exact ⟨rfl, rfl, rfl, rfl, rfl⟩
noncomputable def z9z (q00 : Nat) (q03 : List Nat) (q02 : Nat) (q04 : List Nat) (q01 : Nat) (q05 : List Nat) (q06 : Nat) (q07 : List Nat) (q0b : Int) (q0c : Nat) (q0d : Nat) (x1 : Int) (q0i : Nat) (q0k : Nat) (q0j : Nat) := (zi3 q00 (pF q03 0 (muN q00 1)) q02 (pF q04 0 (muN q02 1)) q01 (pF q05 0 (muN q01 1)) q06 (pF q07 0 (muN q06 3)) q0b q0c q0d)
noncomputable def z0m (q00 : Nat) (q03 : List Nat) (q02 : Nat) (q04 : List Nat) (q01 : Nat) (q05 : List Nat) (q06 : Nat) (q07 : List Nat) (q0b : Int) (q0c : Nat) (q0d : Nat) (x1 : Int) (q0i : Nat) (q0k : Nat) (q0j : Nat) := (zhe q00 (pF q03 0 (muN q00 1)) q02 (pF q04 0 (muN q02 1)) q01 (pF q05 0 (muN q01 1)) q06 (pF q07 0 (muN q06 3)) q0b q0c q0d)
noncomputable def z0p (q00 : Nat) (q03 : List Nat) (q02 : Nat) (q04 : List Nat) (q01 : Nat) (q05 : List Nat) (q06 : Nat) (q07 : List Nat) (q0b : Int) (q0c : Nat) (q0d : Nat) (x1 : Int) (q0i : Nat) (q0k : Nat) (q0j : Nat) := (zhu q00 (pF q03 0 (muN q00 1)) q02 (pF q04 0 (muN q02 1)) q01 (pF q05 0 (muN q01 1)) q06 (pF q07 0 (muN q06 3)) q0b q0c q0d)
noncomputable def za3 (q00 : Nat) (q03 : List Nat) (q02 : Nat) (q04 : List Nat) (q01 : Nat) (q05 : List Nat) (q06 : Nat) (q07 : List Nat) (q0b : Int) (q0c : Nat) (q0d : Nat) (x1 : Int) (q0i : Nat) (q0k : Nat) (q0j : Nat) := (zi8 q00 (pF q03 0 (muN q00 1)) q02 (pF q04 0 (muN q02 1)) q01 (pF q05 0 (muN q01 1)) q06 (pF q07 0 (muN q06 3)) q0b q0c q0d)
noncomputable def z91 (q00 : Nat) (q03 : List Nat) (q02 : Nat) (q04 : List Nat) (q01 : Nat) (q05 : List Nat) (q06 : Nat) (q07 : List Nat) (q0b : Int) (q0c : Nat) (q0d : Nat) (x1 : Int) (q0i : Nat) (q0k : Nat) (q0j : Nat) := (zka q00 (pF q03 0 (muN q00 1)) q02 (pF q04 0 (muN q02 1)) q01 (pF q05 0 (muN q01 1)) q06 (pF q07 0 (muN q06 3)) q0b q0c q0d)
noncomputable def z0o (q00 : Nat) (q03 : List Nat) (q02 : Nat) (q04 : List Nat) (q01 : Nat) (q05 : List Nat) (q06 : Nat) (q07 : List Nat) (q0b : Int) (q0c : Nat) (q0d : Nat) (x1 : Int) (q0i : Nat) (q0k : Nat) (q0j : Nat) := (zgt q00 (pF q03 0 (muN q00 1)) q02 (pF q04 0 (muN q02 1)) q01 (pF q05 0 (muN q01 1)) q06 (pF q07 0 (muN q06 3)) q0b q0c q0d)
noncomputable def z0n (q00 : Nat) (q03 : List Nat) (q02 : Nat) (q04 : List Nat) (q01 : Nat) (q05 : List Nat) (q06 : Nat) (q07 : List Nat) (q0b : Int) (q0c : Nat) (q0d : Nat) (x1 : Int) (q0i : Nat) (q0k : Nat) (q0j : Nat) := (zgv q00 (pF q03 0 (muN q00 1)) q02 (pF q04 0 (muN q02 1)) q01 (pF q05 0 (muN q01 1)) q06 (pF q07 0 (muN q06 3)) q0b q0c q0d)
noncomputable def za0 (q00 : Nat) (q03 : List Nat) (q02 : Nat) (q04 : List Nat) (q01 : Nat) (q05 : List Nat) (q06 : Nat) (q07 : List Nat) (q0b : Int) (q0c : Nat) (q0d : Nat) (x1 : Int) (q0i : Nat) (q0k : Nat) (q0j : Nat) := (zh8 q00 (pF q03 0 (muN q00 1)) q02 (pF q04 0 (muN q02 1)) q01 (pF q05 0 (muN q01 1)) q06 (pF q07 0 (muN q06 3)) q0b q0c q0d)
noncomputable def z9y (q00 : Nat) (q03 : List Nat) (q02 : Nat) (q04 : List Nat) (q01 : Nat) (q05 : List Nat) (q06 : Nat) (q07 : List Nat) (q0b : Int) (q0c : Nat) (q0d : Nat) (x1 : Int) (q0i : Nat) (q0k : Nat) (q0j : Nat) := (zho q00 (pF q03 0 (muN q00 1)) q02 (pF q04 0 (muN q02 1)) q01 (pF q05 0 (muN q01 1)) q06 (pF q07 0 (muN q06 3)) q0b q0c q0d)
noncomputable def zcg (q00 : Nat) (q03 : List Nat) (q02 : Nat) (q04 : List Nat) (q01 : Nat) (q05 : List Nat) (q06 : Nat) (q07 : List Nat) (q0b : Int) (q0c : Nat) (q0d : Nat) (x1 : Int) (q0i : Nat) (q0k : Nat) (q0j : Nat) := (z6v (z0p q00 q03 q02 q04 q01 q05 q06 q07 q0b q0c q0d x1 q0i q0k q0j) 1 0 (z9z q00 q03 q02 q04 q01 q05 q06 q07 q0b q0c q0d x1 q0i q0k q0j))
noncomputable def z0w (q00 : Nat) (q03 : List Nat) (q02 : Nat) (q04 : List Nat) (q01 : Nat) (q05 : List Nat) (q06 : Nat) (q07 : List Nat) (q0b : Int) (q0c : Nat) (q0d : Nat) (x1 : Int) (q0i : Nat) (q0k : Nat) (q0j : Nat) := (pF (za3 q00 q03 q02 q04 q01 q05 q06 q07 q0b q0c q0d x1 q0i q0k q0j) 0 (muN (z0n q00 q03 q02 q04 q01 q05 q06 q07 q0b q0c q0d x1 q0i q0k q0j) 1))
noncomputable def z0u (q00 : Nat) (q03 : List Nat) (q02 : Nat) (q04 : List Nat) (q01 : Nat) (q05 : List Nat) (q06 : Nat) (q07 : List Nat) (q0b : Int) (q0c : Nat) (q0d : Nat) (x1 : Int) (q0i : Nat) (q0k : Nat) (q0j : Nat) := (pF (za0 q00 q03 q02 q04 q01 q05 q06 q07 q0b q0c q0d x1 q0i q0k q0j) 0 (muN (z0o q00 q03 q02 q04 q01 q05 q06 q07 q0b q0c q0d x1 q0i q0k q0j) 3))
noncomputable def z0v (q00 : Nat) (q03 : List Nat) (q02 : Nat) (q04 : List Nat) (q01 : Nat) (q05 : List Nat) (q06 : Nat) (q07 : List Nat) (q0b : Int) (q0c : Nat) (q0d : Nat) (x1 : Int) (q0i : Nat) (q0k : Nat) (q0j : Nat) := (pF (z9y q00 q03 q02 q04 q01 q05 q06 q07 q0b q0c q0d x1 q0i q0k q0j) 0 (muN (z0m q00 q03 q02 q04 q01 q05 q06 q07 q0b q0c q0d x1 q0i q0k q0j) 1))
noncomputable def z0x (q00 : Nat) (q03 : List Nat) (q02 : Nat) (q04 : List Nat) (q01 : Nat) (q05 : List Nat) (q06 : Nat) (q07 : List Nat) (q0b : Int) (q0c : Nat) (q0d : Nat) (x1 : Int) (q0i : Nat) (q0k : Nat) (q0j : Nat) := (pF (z9z q00 q03 q02 q04 q01 q05 q06 q07 q0b q0c q0d x1 q0i q0k q0j) 0 (muN (z0p q00 q03 q02 q04 q01 q05 q06 q07 q0b q0c q0d x1 q0i q0k q0j) 1))
noncomputable def zb8 (q00 : Nat) (q03 : List Nat) (q02 : Nat) (q04 : List Nat) (q01 : Nat) (q05 : List Nat) (q06 : Nat) (q07 : List Nat) (q0b : Int) (q0c : Nat) (q0d : Nat) (x1 : Int) (q0i : Nat) (q0k : Nat) (q0j : Nat) := (z6k (z0n q00 q03 q02 q04 q01 q05 q06 q07 q0b q0c q0d x1 q0i q0k q0j) (zcg q00 q03 q02 q04 q01 q05 q06 q07 q0b q0c q0d x1 q0i q0k q0j) 0 (za3 q00 q03 q02 q04 q01 q05 q06 q07 q0b q0c q0d x1 q0i q0k q0j))
noncomputable def zbq (q00 : Nat) (q03 : List Nat) (q02 : Nat) (q04 : List Nat) (q01 : Nat) (q05 : List Nat) (q06 : Nat) (q07 : List Nat) (q0b : Int) (q0c : Nat) (q0d : Nat) (x1 : Int) (q0i : Nat) (q0k : Nat) (q0j : Nat) := (z6b (z0m q00 q03 q02 q04 q01 q05 q06 q07 q0b q0c q0d x1 q0i q0k q0j) (zb8 q00 q03 q02 q04 q01 q05 q06 q07 q0b q0c q0d x1 q0i q0k q0j) 0 (z9y q00 q03 q02 q04 q01 q05 q06 q07 q0b q0c q0d x1 q0i q0k q0j))
noncomputable def z9o (q00 : Nat) (q03 : List Nat) (q02 : Nat) (q04 : List Nat) (q01 : Nat) (q05 : List Nat) (q06 : Nat) (q07 : List Nat) (q0b : Int) (q0c : Nat) (q0d : Nat) (x1 : Int) (q0i : Nat) (q0k : Nat) (q0j : Nat) := (zi2 (z0p q00 q03 q02 q04 q01 q05 q06 q07 q0b q0c q0d x1 q0i q0k q0j) (z0x q00 q03 q02 q04 q01 q05 q06 q07 q0b q0c q0d x1 q0i q0k q0j) (z0n q00 q03 q02 q04 q01 q05 q06 q07 q0b q0c q0d x1 q0i q0k q0j) (z0w q00 q03 q02 q04 q01 q05 q06 q07 q0b q0c q0d x1 q0i q0k q0j) (z0m q00 q03 q02 q04 q01 q05 q06 q07 q0b q0c q0d x1 q0i q0k q0j) (z0v q00 q03 q02 q04 q01 q05 q06 q07 q0b q0c q0d x1 q0i q0k q0j) (z0o q00 q03 q02 q04 q01 q05 q06 q07 q0b q0c q0d x1 q0i q0k q0j) (z0u q00 q03 q02 q04 q01 q05 q06 q07 q0b q0c q0d x1 q0i q0k q0j) q0b q0c q0d x1 q0i q0k q0j)
noncomputable def zb7 (q00 : Nat) (q03 : List Nat) (q02 : Nat) (q04 : List Nat) (q01 : Nat) (q05 : List Nat) (q06 : Nat) (q07 : List Nat) (q0b : Int) (q0c : Nat) (q0d : Nat) (x1 : Int) (q0i : Nat) (q0k : Nat) (q0j : Nat) := (zjq (z0p q00 q03 q02 q04 q01 q05 q06 q07 q0b q0c q0d x1 q0i q0k q0j) (z0x q00 q03 q02 q04 q01 q05 q06 q07 q0b q0c q0d x1 q0i q0k q0j) (z0n q00 q03 q02 q04 q01 q05 q06 q07 q0b q0c q0d x1 q0i q0k q0j) (z0w q00 q03 q02 q04 q01 q05 q06 q07 q0b q0c q0d x1 q0i q0k q0j) (z0m q00 q03 q02 q04 q01 q05 q06 q07 q0b q0c q0d x1 q0i q0k q0j) (z0v q00 q03 q02 q04 q01 q05 q06 q07 q0b q0c q0d x1 q0i q0k q0j) (z0o q00 q03 q02 q04 q01 q05 q06 q07 q0b q0c q0d x1 q0i q0k q0j) (z0u q00 q03 q02 q04 q01 q05 q06 q07 q0b q0c q0d x1 q0i q0k q0j) q0b q0c q0d x1 q0i q0k q0j)
noncomputable def z5u (q00 : Nat) (q03 : List Nat) (q02 : Nat) (q04 : List Nat) (q01 : Nat) (q05 : List Nat) (q06 : Nat) (q07 : List Nat) (q0b : Int) (q0c : Nat) (q0d : Nat) (x1 : Int) (q0i : Nat) (q0k : Nat) (q0j : Nat) := (zhm (z0p q00 q03 q02 q04 q01 q05 q06 q07 q0b q0c q0d x1 q0i q0k q0j) (z0x q00 q03 q02 q04 q01 q05 q06 q07 q0b q0c q0d x1 q0i q0k q0j) (z0n q00 q03 q02 q04 q01 q05 q06 q07 q0b q0c q0d x1 q0i q0k q0j) (z0w q00 q03 q02 q04 q01 q05 q06 q07 q0b q0c q0d x1 q0i q0k q0j) (z0m q00 q03 q02 q04 q01 q05 q06 q07 q0b q0c q0d x1 q0i q0k q0j) (z0v q00 q03 q02 q04 q01 q05 q06 q07 q0b q0c q0d x1 q0i q0k q0j) (z0o q00 q03 q02 q04 q01 q05 q06 q07 q0b q0c q0d x1 q0i q0k q0j) (z0u q00 q03 q02 q04 q01 q05 q06 q07 q0b q0c q0d x1 q0i q0k q0j) q0b q0c q0d x1 q0i q0k q0j)
noncomputable def z8p (q00 : Nat) (q03 : List Nat) (q02 : Nat) (q04 : List Nat) (q01 : Nat) (q05 : List Nat) (q06 : Nat) (q07 : List Nat) (q0b : Int) (q0c : Nat) (q0d : Nat) (x1 : Int) (q0i : Nat) (q0k : Nat) (q0j : Nat) := (zfn (z0p q00 q03 q02 q04 q01 q05 q06 q07 q0b q0c q0d x1 q0i q0k q0j) (z0x q00 q03 q02 q04 q01 q05 q06 q07 q0b q0c q0d x1 q0i q0k q0j) (z0n q00 q03 q02 q04 q01 q05 q06 q07 q0b q0c q0d x1 q0i q0k q0j) (z0w q00 q03 q02 q04 q01 q05 q06 q07 q0b q0c q0d x1 q0i q0k q0j) (z0m q00 q03 q02 q04 q01 q05 q06 q07 q0b q0c q0d x1 q0i q0k q0j) (z0v q00 q03 q02 q04 q01 q05 q06 q07 q0b q0c q0d x1 q0i q0k q0j) (z0o q00 q03 q02 q04 q01 q05 q06 q07 q0b q0c q0d x1 q0i q0k q0j) (z0u q00 q03 q02 q04 q01 q05 q06 q07 q0b q0c q0d x1 q0i q0k q0j) q0b q0c q0d x1 q0i q0k q0j)
noncomputable def zbg (q00 : Nat) (q03 : List Nat) (q02 : Nat) (q04 : List Nat) (q01 : Nat) (q05 : List Nat) (q06 : Nat) (q07 : List Nat) (q0b : Int) (q0c : Nat) (q0d : Nat) (x1 : Int) (q0i : Nat) (q0k : Nat) (q0j : Nat) := (zh5 (z0p q00 q03 q02 q04 q01 q05 q06 q07 q0b q0c q0d x1 q0i q0k q0j) (z0x q00 q03 q02 q04 q01 q05 q06 q07 q0b q0c q0d x1 q0i q0k q0j) (z0n q00 q03 q02 q04 q01 q05 q06 q07 q0b q0c q0d x1 q0i q0k q0j) (z0w q00 q03 q02 q04 q01 q05 q06 q07 q0b q0c q0d x1 q0i q0k q0j) (z0m q00 q03 q02 q04 q01 q05 q06 q07 q0b q0c q0d x1 q0i q0k q0j) (z0v q00 q03 q02 q04 q01 q05 q06 q07 q0b q0c q0d x1 q0i q0k q0j) (z0o q00 q03 q02 q04 q01 q05 q06 q07 q0b q0c q0d x1 q0i q0k q0j) (z0u q00 q03 q02 q04 q01 q05 q06 q07 q0b q0c q0d x1 q0i q0k q0j) q0b q0c q0d x1 q0i q0k q0j)
noncomputable def z9j (q00 : Nat) (q03 : List Nat) (q02 : Nat) (q04 : List Nat) (q01 : Nat) (q05 : List Nat) (q06 : Nat) (q07 : List Nat) (q0b : Int) (q0c : Nat) (q0d : Nat) (x1 : Int) (q0i : Nat) (q0k : Nat) (q0j : Nat) := (zhj (z0p q00 q03 q02 q04 q01 q05 q06 q07 q0b q0c q0d x1 q0i q0k q0j) (z0x q00 q03 q02 q04 q01 q05 q06 q07 q0b q0c q0d x1 q0i q0k q0j) (z0n q00 q03 q02 q04 q01 q05 q06 q07 q0b q0c q0d x1 q0i q0k q0j) (z0w q00 q03 q02 q04 q01 q05 q06 q07 q0b q0c q0d x1 q0i q0k q0j) (z0m q00 q03 q02 q04 q01 q05 q06 q07 q0b q0c q0d x1 q0i q0k q0j) (z0v q00 q03 q02 q04 q01 q05 q06 q07 q0b q0c q0d x1 q0i q0k q0j) (z0o q00 q03 q02 q04 q01 q05 q06 q07 q0b q0c q0d x1 q0i q0k q0j) (z0u q00 q03 q02 q04 q01 q05 q06 q07 q0b q0c q0d x1 q0i q0k q0j) q0b q0c q0d x1 q0i q0k q0j)
noncomputable def z8n (q00 : Nat) (q03 : List Nat) (q02 : Nat) (q04 : List Nat) (q01 : Nat) (q05 : List Nat) (q06 : Nat) (q07 : List Nat) (q0b : Int) (q0c : Nat) (q0d : Nat) (x1 : Int) (q0i : Nat) (q0k : Nat) (q0j : Nat) := (zha (z0p q00 q03 q02 q04 q01 q05 q06 q07 q0b q0c q0d x1 q0i q0k q0j) (z0x q00 q03 q02 q04 q01 q05 q06 q07 q0b q0c q0d x1 q0i q0k q0j) (z0n q00 q03 q02 q04 q01 q05 q06 q07 q0b q0c q0d x1 q0i q0k q0j) (z0w q00 q03 q02 q04 q01 q05 q06 q07 q0b q0c q0d x1 q0i q0k q0j) (z0m q00 q03 q02 q04 q01 q05 q06 q07 q0b q0c q0d x1 q0i q0k q0j) (z0v q00 q03 q02 q04 q01 q05 q06 q07 q0b q0c q0d x1 q0i q0k q0j) (z0o q00 q03 q02 q04 q01 q05 q06 q07 q0b q0c q0d x1 q0i q0k q0j) (z0u q00 q03 q02 q04 q01 q05 q06 q07 q0b q0c q0d x1 q0i q0k q0j) q0b q0c q0d x1 q0i q0k q0j)
noncomputable def z9n (q00 : Nat) (q03 : List Nat) (q02 : Nat) (q04 : List Nat) (q01 : Nat) (q05 : List Nat) (q06 : Nat) (q07 : List Nat) (q0b : Int) (q0c : Nat) (q0d : Nat) (x1 : Int) (q0i : Nat) (q0k : Nat) (q0j : Nat) := (zi6 (z0p q00 q03 q02 q04 q01 q05 q06 q07 q0b q0c q0d x1 q0i q0k q0j) (z0x q00 q03 q02 q04 q01 q05 q06 q07 q0b q0c q0d x1 q0i q0k q0j) (z0n q00 q03 q02 q04 q01 q05 q06 q07 q0b q0c q0d x1 q0i q0k q0j) (z0w q00 q03 q02 q04 q01 q05 q06 q07 q0b q0c q0d x1 q0i q0k q0j) (z0m q00 q03 q02 q04 q01 q05 q06 q07 q0b q0c q0d x1 q0i q0k q0j) (z0v q00 q03 q02 q04 q01 q05 q06 q07 q0b q0c q0d x1 q0i q0k q0j) (z0o q00 q03 q02 q04 q01 q05 q06 q07 q0b q0c q0d x1 q0i q0k q0j) (z0u q00 q03 q02 q04 q01 q05 q06 q07 q0b q0c q0d x1 q0i q0k q0j) q0b q0c q0d x1 q0i q0k q0j)
noncomputable def z5w (q00 : Nat) (q03 : List Nat) (q02 : Nat) (q04 : List Nat) (q01 : Nat) (q05 : List Nat) (q06 : Nat) (q07 : List Nat) (q0b : Int) (q0c : Nat) (q0d : Nat) (x1 : Int) (q0i : Nat) (q0k : Nat) (q0j : Nat) := (zhb (z0p q00 q03 q02 q04 q01 q05 q06 q07 q0b q0c q0d x1 q0i q0k q0j) (z0x q00 q03 q02 q04 q01 q05 q06 q07 q0b q0c q0d x1 q0i q0k q0j) (z0n q00 q03 q02 q04 q01 q05 q06 q07 q0b q0c q0d x1 q0i q0k q0j) (z0w q00 q03 q02 q04 q01 q05 q06 q07 q0b q0c q0d x1 q0i q0k q0j) (z0m q00 q03 q02 q04 q01 q05 q06 q07 q0b q0c q0d x1 q0i q0k q0j) (z0v q00 q03 q02 q04 q01 q05 q06 q07 q0b q0c q0d x1 q0i q0k q0j) (z0o q00 q03 q02 q04 q01 q05 q06 q07 q0b q0c q0d x1 q0i q0k q0j) (z0u q00 q03 q02 q04 q01 q05 q06 q07 q0b q0c q0d x1 q0i q0k q0j) q0b q0c q0d x1 q0i q0k q0j)
noncomputable def zb9 (q00 : Nat) (q03 : List Nat) (q02 : Nat) (q04 : List Nat) (q01 : Nat) (q05 : List Nat) (q06 : Nat) (q07 : List Nat) (q0b : Int) (q0c : Nat) (q0d : Nat) (x1 : Int) (q0i : Nat) (q0k : Nat) (q0j : Nat) := (zi0 (z0p q00 q03 q02 q04 q01 q05 q06 q07 q0b q0c q0d x1 q0i q0k q0j) (z0x q00 q03 q02 q04 q01 q05 q06 q07 q0b q0c q0d x1 q0i q0k q0j) (z0n q00 q03 q02 q04 q01 q05 q06 q07 q0b q0c q0d x1 q0i q0k q0j) (z0w q00 q03 q02 q04 q01 q05 q06 q07 q0b q0c q0d x1 q0i q0k q0j) (z0m q00 q03 q02 q04 q01 q05 q06 q07 q0b q0c q0d x1 q0i q0k q0j) (z0v q00 q03 q02 q04 q01 q05 q06 q07 q0b q0c q0d x1 q0i q0k q0j) (z0o q00 q03 q02 q04 q01 q05 q06 q07 q0b q0c q0d x1 q0i q0k q0j) (z0u q00 q03 q02 q04 q01 q05 q06 q07 q0b q0c q0d x1 q0i q0k q0j) q0b q0c q0d x1 q0i q0k q0j)
noncomputable def z8k (q00 : Nat) (q03 : List Nat) (q02 : Nat) (q04 : List Nat) (q01 : Nat) (q05 : List Nat) (q06 : Nat) (q07 : List Nat) (q0b : Int) (q0c : Nat) (q0d : Nat) (x1 : Int) (q0i : Nat) (q0k : Nat) (q0j : Nat) := (zfm (z0p q00 q03 q02 q04 q01 q05 q06 q07 q0b q0c q0d x1 q0i q0k q0j) (z0x q00 q03 q02 q04 q01 q05 q06 q07 q0b q0c q0d x1 q0i q0k q0j) (z0n q00 q03 q02 q04 q01 q05 q06 q07 q0b q0c q0d x1 q0i q0k q0j) (z0w q00 q03 q02 q04 q01 q05 q06 q07 q0b q0c q0d x1 q0i q0k q0j) (z0m q00 q03 q02 q04 q01 q05 q06 q07 q0b q0c q0d x1 q0i q0k q0j) (z0v q00 q03 q02 q04 q01 q05 q06 q07 q0b q0c q0d x1 q0i q0k q0j) (z0o q00 q03 q02 q04 q01 q05 q06 q07 q0b q0c q0d x1 q0i q0k q0j) (z0u q00 q03 q02 q04 q01 q05 q06 q07 q0b q0c q0d x1 q0i q0k q0j) q0b q0c q0d x1 q0i q0k q0j)
noncomputable def z8l (q00 : Nat) (q03 : List Nat) (q02 : Nat) (q04 : List Nat) (q01 : Nat) (q05 : List Nat) (q06 : Nat) (q07 : List Nat) (q0b : Int) (q0c : Nat) (q0d : Nat) (x1 : Int) (q0i : Nat) (q0k : Nat) (q0j : Nat) := (zh9 (z0p q00 q03 q02 q04 q01 q05 q06 q07 q0b q0c q0d x1 q0i q0k q0j) (z0x q00 q03 q02 q04 q01 q05 q06 q07 q0b q0c q0d x1 q0i q0k q0j) (z0n q00 q03 q02 q04 q01 q05 q06 q07 q0b q0c q0d x1 q0i q0k q0j) (z0w q00 q03 q02 q04 q01 q05 q06 q07 q0b q0c q0d x1 q0i q0k q0j) (z0m q00 q03 q02 q04 q01 q05 q06 q07 q0b q0c q0d x1 q0i q0k q0j) (z0v q00 q03 q02 q04 q01 q05 q06 q07 q0b q0c q0d x1 q0i q0k q0j) (z0o q00 q03 q02 q04 q01 q05 q06 q07 q0b q0c q0d x1 q0i q0k q0j) (z0u q00 q03 q02 q04 q01 q05 q06 q07 q0b q0c q0d x1 q0i q0k q0j) q0b q0c q0d x1 q0i q0k q0j)
noncomputable def z9f (q00 : Nat) (q03 : List Nat) (q02 : Nat) (q04 : List Nat) (q01 : Nat) (q05 : List Nat) (q06 : Nat) (q07 : List Nat) (q0b : Int) (q0c : Nat) (q0d : Nat) (x1 : Int) (q0i : Nat) (q0k : Nat) (q0j : Nat) := (zi5 (z0p q00 q03 q02 q04 q01 q05 q06 q07 q0b q0c q0d x1 q0i q0k q0j) (z0x q00 q03 q02 q04 q01 q05 q06 q07 q0b q0c q0d x1 q0i q0k q0j) (z0n q00 q03 q02 q04 q01 q05 q06 q07 q0b q0c q0d x1 q0i q0k q0j) (z0w q00 q03 q02 q04 q01 q05 q06 q07 q0b q0c q0d x1 q0i q0k q0j) (z0m q00 q03 q02 q04 q01 q05 q06 q07 q0b q0c q0d x1 q0i q0k q0j) (z0v q00 q03 q02 q04 q01 q05 q06 q07 q0b q0c q0d x1 q0i q0k q0j) (z0o q00 q03 q02 q04 q01 q05 q06 q07 q0b q0c q0d x1 q0i q0k q0j) (z0u q00 q03 q02 q04 q01 q05 q06 q07 q0b q0c q0d x1 q0i q0k q0j) q0b q0c q0d x1 q0i q0k q0j)
noncomputable def z8j (q00 : Nat) (q03 : List Nat) (q02 : Nat) (q04 : List Nat) (q01 : Nat) (q05 : List Nat) (q06 : Nat) (q07 : List Nat) (q0b : Int) (q0c : Nat) (q0d : Nat) (x1 : Int) (q0i : Nat) (q0k : Nat) (q0j : Nat) := (zgr (z0p q00 q03 q02 q04 q01 q05 q06 q07 q0b q0c q0d x1 q0i q0k q0j) (z0x q00 q03 q02 q04 q01 q05 q06 q07 q0b q0c q0d x1 q0i q0k q0j) (z0n q00 q03 q02 q04 q01 q05 q06 q07 q0b q0c q0d x1 q0i q0k q0j) (z0w q00 q03 q02 q04 q01 q05 q06 q07 q0b q0c q0d x1 q0i q0k q0j) (z0m q00 q03 q02 q04 q01 q05 q06 q07 q0b q0c q0d x1 q0i q0k q0j) (z0v q00 q03 q02 q04 q01 q05 q06 q07 q0b q0c q0d x1 q0i q0k q0j) (z0o q00 q03 q02 q04 q01 q05 q06 q07 q0b q0c q0d x1 q0i q0k q0j) (z0u q00 q03 q02 q04 q01 q05 q06 q07 q0b q0c q0d x1 q0i q0k q0j) q0b q0c q0d x1 q0i q0k q0j)
noncomputable def z5t (q00 : Nat) (q03 : List Nat) (q02 : Nat) (q04 : List Nat) (q01 : Nat) (q05 : List Nat) (q06 : Nat) (q07 : List Nat) (q0b : Int) (q0c : Nat) (q0d : Nat) (x1 : Int) (q0i : Nat) (q0k : Nat) (q0j : Nat) := (zhl (z0p q00 q03 q02 q04 q01 q05 q06 q07 q0b q0c q0d x1 q0i q0k q0j) (z0x q00 q03 q02 q04 q01 q05 q06 q07 q0b q0c q0d x1 q0i q0k q0j) (z0n q00 q03 q02 q04 q01 q05 q06 q07 q0b q0c q0d x1 q0i q0k q0j) (z0w q00 q03 q02 q04 q01 q05 q06 q07 q0b q0c q0d x1 q0i q0k q0j) (z0m q00 q03 q02 q04 q01 q05 q06 q07 q0b q0c q0d x1 q0i q0k q0j) (z0v q00 q03 q02 q04 q01 q05 q06 q07 q0b q0c q0d x1 q0i q0k q0j) (z0o q00 q03 q02 q04 q01 q05 q06 q07 q0b q0c q0d x1 q0i q0k q0j) (z0u q00 q03 q02 q04 q01 q05 q06 q07 q0b q0c q0d x1 q0i q0k q0j) q0b q0c q0d x1 q0i q0k q0j)
noncomputable def z8i (q00 : Nat) (q03 : List Nat) (q02 : Nat) (q04 : List Nat) (q01 : Nat) (q05 : List Nat) (q06 : Nat) (q07 : List Nat) (q0b : Int) (q0c : Nat) (q0d : Nat) (x1 : Int) (q0i : Nat) (q0k : Nat) (q0j : Nat) := (zhs (z0p q00 q03 q02 q04 q01 q05 q06 q07 q0b q0c q0d x1 q0i q0k q0j) (z0x q00 q03 q02 q04 q01 q05 q06 q07 q0b q0c q0d x1 q0i q0k q0j) (z0n q00 q03 q02 q04 q01 q05 q06 q07 q0b q0c q0d x1 q0i q0k q0j) (z0w q00 q03 q02 q04 q01 q05 q06 q07 q0b q0c q0d x1 q0i q0k q0j) (z0m q00 q03 q02 q04 q01 q05 q06 q07 q0b q0c q0d x1 q0i q0k q0j) (z0v q00 q03 q02 q04 q01 q05 q06 q07 q0b q0c q0d x1 q0i q0k q0j) (z0o q00 q03 q02 q04 q01 q05 q06 q07 q0b q0c q0d x1 q0i q0k q0j) (z0u q00 q03 q02 q04 q01 q05 q06 q07 q0b q0c q0d x1 q0i q0k q0j) q0b q0c q0d x1 q0i q0k q0j)
noncomputable def zbl (q00 : Nat) (q03 : List Nat) (q02 : Nat) (q04 : List Nat) (q01 : Nat) (q05 : List Nat) (q06 : Nat) (q07 : List Nat) (q0b : Int) (q0c : Nat) (q0d : Nat) (x1 : Int) (q0i : Nat) (q0k : Nat) (q0j : Nat) := (zht (z0p q00 q03 q02 q04 q01 q05 q06 q07 q0b q0c q0d x1 q0i q0k q0j) (z0x q00 q03 q02 q04 q01 q05 q06 q07 q0b q0c q0d x1 q0i q0k q0j) (z0n q00 q03 q02 q04 q01 q05 q06 q07 q0b q0c q0d x1 q0i q0k q0j) (z0w q00 q03 q02 q04 q01 q05 q06 q07 q0b q0c q0d x1 q0i q0k q0j) (z0m q00 q03 q02 q04 q01 q05 q06 q07 q0b q0c q0d x1 q0i q0k q0j) (z0v q00 q03 q02 q04 q01 q05 q06 q07 q0b q0c q0d x1 q0i q0k q0j) (z0o q00 q03 q02 q04 q01 q05 q06 q07 q0b q0c q0d x1 q0i q0k q0j) (z0u q00 q03 q02 q04 q01 q05 q06 q07 q0b q0c q0d x1 q0i q0k q0j) q0b q0c q0d x1 q0i q0k q0j)
noncomputable def z5v (q00 : Nat) (q03 : List Nat) (q02 : Nat) (q04 : List Nat) (q01 : Nat) (q05 : List Nat) (q06 : Nat) (q07 : List Nat) (q0b : Int) (q0c : Nat) (q0d : Nat) (x1 : Int) (q0i : Nat) (q0k : Nat) (q0j : Nat) := (zh2 (z0p q00 q03 q02 q04 q01 q05 q06 q07 q0b q0c q0d x1 q0i q0k q0j) (z0x q00 q03 q02 q04 q01 q05 q06 q07 q0b q0c q0d x1 q0i q0k q0j) (z0n q00 q03 q02 q04 q01 q05 q06 q07 q0b q0c q0d x1 q0i q0k q0j) (z0w q00 q03 q02 q04 q01 q05 q06 q07 q0b q0c q0d x1 q0i q0k q0j) (z0m q00 q03 q02 q04 q01 q05 q06 q07 q0b q0c q0d x1 q0i q0k q0j) (z0v q00 q03 q02 q04 q01 q05 q06 q07 q0b q0c q0d x1 q0i q0k q0j) (z0o q00 q03 q02 q04 q01 q05 q06 q07 q0b q0c q0d x1 q0i q0k q0j) (z0u q00 q03 q02 q04 q01 q05 q06 q07 q0b q0c q0d x1 q0i q0k q0j) q0b q0c q0d x1 q0i q0k q0j)
noncomputable def z8m (q00 : Nat) (q03 : List Nat) (q02 : Nat) (q04 : List Nat) (q01 : Nat) (q05 : List Nat) (q06 : Nat) (q07 : List Nat) (q0b : Int) (q0c : Nat) (q0d : Nat) (x1 : Int) (q0i : Nat) (q0k : Nat) (q0j : Nat) := (zi4 (z0p q00 q03 q02 q04 q01 q05 q06 q07 q0b q0c q0d x1 q0i q0k q0j) (z0x q00 q03 q02 q04 q01 q05 q06 q07 q0b q0c q0d x1 q0i q0k q0j) (z0n q00 q03 q02 q04 q01 q05 q06 q07 q0b q0c q0d x1 q0i q0k q0j) (z0w q00 q03 q02 q04 q01 q05 q06 q07 q0b q0c q0d x1 q0i q0k q0j) (z0m q00 q03 q02 q04 q01 q05 q06 q07 q0b q0c q0d x1 q0i q0k q0j) (z0v q00 q03 q02 q04 q01 q05 q06 q07 q0b q0c q0d x1 q0i q0k q0j) (z0o q00 q03 q02 q04 q01 q05 q06 q07 q0b q0c q0d x1 q0i q0k q0j) (z0u q00 q03 q02 q04 q01 q05 q06 q07 q0b q0c q0d x1 q0i q0k q0j) q0b q0c q0d x1 q0i q0k q0j)
noncomputable def zbh (q00 : Nat) (q03 : List Nat) (q02 : Nat) (q04 : List Nat) (q01 : Nat) (q05 : List Nat) (q06 : Nat) (q07 : List Nat) (q0b : Int) (q0c : Nat) (q0d : Nat) (x1 : Int) (q0i : Nat) (q0k : Nat) (q0j : Nat) := (muN (z5u q00 q03 q02 q04 q01 q05 q06 q07 q0b q0c q0d x1 q0i q0k q0j) 1)
noncomputable def zbu (q00 : Nat) (q03 : List Nat) (q02 : Nat) (q04 : List Nat) (q01 : Nat) (q05 : List Nat) (q06 : Nat) (q07 : List Nat) (q0b : Int) (q0c : Nat) (q0d : Nat) (x1 : Int) (q0i : Nat) (q0k : Nat) (q0j : Nat) := (muN (z5t q00 q03 q02 q04 q01 q05 q06 q07 q0b q0c q0d x1 q0i q0k q0j) 1)
noncomputable def zbb (q00 : Nat) (q03 : List Nat) (q02 : Nat) (q04 : List Nat) (q01 : Nat) (q05 : List Nat) (q06 : Nat) (q07 : List Nat) (q0b : Int) (q0c : Nat) (q0d : Nat) (x1 : Int) (q0i : Nat) (q0k : Nat) (q0j : Nat) := (muN (z5w q00 q03 q02 q04 q01 q05 q06 q07 q0b q0c q0d x1 q0i q0k q0j) 1)
noncomputable def zba (q00 : Nat) (q03 : List Nat) (q02 : Nat) (q04 : List Nat) (q01 : Nat) (q05 : List Nat) (q06 : Nat) (q07 : List Nat) (q0b : Int) (q0c : Nat) (q0d : Nat) (x1 : Int) (q0i : Nat) (q0k : Nat) (q0j : Nat) := (muN (z5v q00 q03 q02 q04 q01 q05 q06 q07 q0b q0c q0d x1 q0i q0k q0j) 3)
noncomputable def z9m (q00 : Nat) (q03 : List Nat) (q02 : Nat) (q04 : List Nat) (q01 : Nat) (q05 : List Nat) (q06 : Nat) (q07 : List Nat) (q0b : Int) (q0c : Nat) (q0d : Nat) (x1 : Int) (q0i : Nat) (q0k : Nat) (q0j : Nat) := (bnot (beqB (zhh (z0p q00 q03 q02 q04 q01 q05 q06 q07 q0b q0c q0d x1 q0i q0k q0j) (z0x q00 q03 q02 q04 q01 q05 q06 q07 q0b q0c q0d x1 q0i q0k q0j) (z0n q00 q03 q02 q04 q01 q05 q06 q07 q0b q0c q0d x1 q0i q0k q0j) (z0w q00 q03 q02 q04 q01 q05 q06 q07 q0b q0c q0d x1 q0i q0k q0j) (z0m q00 q03 q02 q04 q01 q05 q06 q07 q0b q0c q0d x1 q0i q0k q0j) (z0v q00 q03 q02 q04 q01 q05 q06 q07 q0b q0c q0d x1 q0i q0k q0j) (z0o q00 q03 q02 q04 q01 q05 q06 q07 q0b q0c q0d x1 q0i q0k q0j) (z0u q00 q03 q02 q04 q01 q05 q06 q07 q0b q0c q0d x1 q0i q0k q0j) q0b q0c q0d x1 q0i q0k q0j) (zhw (z0p q00 q03 q02 q04 q01 q05 q06 q07 q0b q0c q0d x1 q0i q0k q0j) (z0x q00 q03 q02 q04 q01 q05 q06 q07 q0b q0c q0d x1 q0i q0k q0j) (z0n q00 q03 q02 q04 q01 q05 q06 q07 q0b q0c q0d x1 q0i q0k q0j) (z0w q00 q03 q02 q04 q01 q05 q06 q07 q0b q0c q0d x1 q0i q0k q0j) (z0m q00 q03 q02 q04 q01 q05 q06 q07 q0b q0c q0d x1 q0i q0k q0j) (z0v q00 q03 q02 q04 q01 q05 q06 q07 q0b q0c q0d x1 q0i q0k q0j) (z0o q00 q03 q02 q04 q01 q05 q06 q07 q0b q0c q0d x1 q0i q0k q0j) (z0u q00 q03 q02 q04 q01 q05 q06 q07 q0b q0c q0d x1 q0i q0k q0j) q0b q0c q0d x1 q0i q0k q0j)))
noncomputable def z9h (q00 : Nat) (q03 : List Nat) (q02 : Nat) (q04 : List Nat) (q01 : Nat) (q05 : List Nat) (q06 : Nat) (q07 : List Nat) (q0b : Int) (q0c : Nat) (q0d : Nat) (x1 : Int) (q0i : Nat) (q0k : Nat) (q0j : Nat) := (z6d (z5t q00 q03 q02 q04 q01 q05 q06 q07 q0b q0c q0d x1 q0i q0k q0j) 1 0 (z8n q00 q03 q02 q04 q01 q05 q06 q07 q0b q0c q0d x1 q0i q0k q0j))
noncomputable def zbv (q00 : Nat) (q03 : List Nat) (q02 : Nat) (q04 : List Nat) (q01 : Nat) (q05 : List Nat) (q06 : Nat) (q07 : List Nat) (q0b : Int) (q0c : Nat) (q0d : Nat) (x1 : Int) (q0i : Nat) (q0k : Nat) (q0j : Nat) := (pF (z8k q00 q03 q02 q04 q01 q05 q06 q07 q0b q0c q0d x1 q0i q0k q0j) 0 (zba q00 q03 q02 q04 q01 q05 q06 q07 q0b q0c q0d x1 q0i q0k q0j))
noncomputable def zbk (q00 : Nat) (q03 : List Nat) (q02 : Nat) (q04 : List Nat) (q01 : Nat) (q05 : List Nat) (q06 : Nat) (q07 : List Nat) (q0b : Int) (q0c : Nat) (q0d : Nat) (x1 : Int) (q0i : Nat) (q0k : Nat) (q0j : Nat) := (pF (zfx (z0p q00 q03 q02 q04 q01 q05 q06 q07 q0b q0c q0d x1 q0i q0k q0j) (z0x q00 q03 q02 q04 q01 q05 q06 q07 q0b q0c q0d x1 q0i q0k q0j) (z0n q00 q03 q02 q04 q01 q05 q06 q07 q0b q0c q0d x1 q0i q0k q0j) (z0w q00 q03 q02 q04 q01 q05 q06 q07 q0b q0c q0d x1 q0i q0k q0j) (z0m q00 q03 q02 q04 q01 q05 q06 q07 q0b q0c q0d x1 q0i q0k q0j) (z0v q00 q03 q02 q04 q01 q05 q06 q07 q0b q0c q0d x1 q0i q0k q0j) (z0o q00 q03 q02 q04 q01 q05 q06 q07 q0b q0c q0d x1 q0i q0k q0j) (z0u q00 q03 q02 q04 q01 q05 q06 q07 q0b q0c q0d x1 q0i q0k q0j) q0b q0c q0d x1 q0i q0k q0j) 0 (muN (z9o q00 q03 q02 q04 q01 q05 q06 q07 q0b q0c q0d x1 q0i q0k q0j) 1))
noncomputable def zbe (q00 : Nat) (q03 : List Nat) (q02 : Nat) (q04 : List Nat) (q01 : Nat) (q05 : List Nat) (q06 : Nat) (q07 : List Nat) (q0b : Int) (q0c : Nat) (q0d : Nat) (x1 : Int) (q0i : Nat) (q0k : Nat) (q0j : Nat) := (pF (z8n q00 q03 q02 q04 q01 q05 q06 q07 q0b q0c q0d x1 q0i q0k q0j) 0 (zbu q00 q03 q02 q04 q01 q05 q06 q07 q0b q0c q0d x1 q0i q0k q0j))
noncomputable def zbw (q00 : Nat) (q03 : List Nat) (q02 : Nat) (q04 : List Nat) (q01 : Nat) (q05 : List Nat) (q06 : Nat) (q07 : List Nat) (q0b : Int) (q0c : Nat) (q0d : Nat) (x1 : Int) (q0i : Nat) (q0k : Nat) (q0j : Nat) := (pF (zhi (z0p q00 q03 q02 q04 q01 q05 q06 q07 q0b q0c q0d x1 q0i q0k q0j) (z0x q00 q03 q02 q04 q01 q05 q06 q07 q0b q0c q0d x1 q0i q0k q0j) (z0n q00 q03 q02 q04 q01 q05 q06 q07 q0b q0c q0d x1 q0i q0k q0j) (z0w q00 q03 q02 q04 q01 q05 q06 q07 q0b q0c q0d x1 q0i q0k q0j) (z0m q00 q03 q02 q04 q01 q05 q06 q07 q0b q0c q0d x1 q0i q0k q0j) (z0v q00 q03 q02 q04 q01 q05 q06 q07 q0b q0c q0d x1 q0i q0k q0j) (z0o q00 q03 q02 q04 q01 q05 q06 q07 q0b q0c q0d x1 q0i q0k q0j) (z0u q00 q03 q02 q04 q01 q05 q06 q07 q0b q0c q0d x1 q0i q0k q0j) q0b q0c q0d x1 q0i q0k q0j) 0 (muN (z9f q00 q03 q02 q04 q01 q05 q06 q07 q0b q0c q0d x1 q0i q0k q0j) 1))
noncomputable def zbo (q00 : Nat) (q03 : List Nat) (q02 : Nat) (q04 : List Nat) (q01 : Nat) (q05 : List Nat) (q06 : Nat) (q07 : List Nat) (q0b : Int) (q0c : Nat) (q0d : Nat) (x1 : Int) (q0i : Nat) (q0k : Nat) (q0j : Nat) := (pF (z8p q00 q03 q02 q04 q01 q05 q06 q07 q0b q0c q0d x1 q0i q0k q0j) 0 (zbb q00 q03 q02 q04 q01 q05 q06 q07 q0b q0c q0d x1 q0i q0k q0j))
noncomputable def zbc (q00 : Nat) (q03 : List Nat) (q02 : Nat) (q04 : List Nat) (q01 : Nat) (q05 : List Nat) (q06 : Nat) (q07 : List Nat) (q0b : Int) (q0c : Nat) (q0d : Nat) (x1 : Int) (q0i : Nat) (q0k : Nat) (q0j : Nat) := (pF (zft (z0p q00 q03 q02 q04 q01 q05 q06 q07 q0b q0c q0d x1 q0i q0k q0j) (z0x q00 q03 q02 q04 q01 q05 q06 q07 q0b q0c q0d x1 q0i q0k q0j) (z0n q00 q03 q02 q04 q01 q05 q06 q07 q0b q0c q0d x1 q0i q0k q0j) (z0w q00 q03 q02 q04 q01 q05 q06 q07 q0b q0c q0d x1 q0i q0k q0j) (z0m q00 q03 q02 q04 q01 q05 q06 q07 q0b q0c q0d x1 q0i q0k q0j) (z0v q00 q03 q02 q04 q01 q05 q06 q07 q0b q0c q0d x1 q0i q0k q0j) (z0o q00 q03 q02 q04 q01 q05 q06 q07 q0b q0c q0d x1 q0i q0k q0j) (z0u q00 q03 q02 q04 q01 q05 q06 q07 q0b q0c q0d x1 q0i q0k q0j) q0b q0c q0d x1 q0i q0k q0j) 0 (muN (z9n q00 q03 q02 q04 q01 q05 q06 q07 q0b q0c q0d x1 q0i q0k q0j) 3))
noncomputable def zbt (q00 : Nat) (q03 : List Nat) (q02 : Nat) (q04 : List Nat) (q01 : Nat) (q05 : List Nat) (q06 : Nat) (q07 : List Nat) (q0b : Int) (q0c : Nat) (q0d : Nat) (x1 : Int) (q0i : Nat) (q0k : Nat) (q0j : Nat) := (pF (z8i q00 q03 q02 q04 q01 q05 q06 q07 q0b q0c q0d x1 q0i q0k q0j) 0 (zbh q00 q03 q02 q04 q01 q05 q06 q07 q0b q0c q0d x1 q0i q0k q0j))
noncomputable def zbs (q00 : Nat) (q03 : List Nat) (q02 : Nat) (q04 : List Nat) (q01 : Nat) (q05 : List Nat) (q06 : Nat) (q07 : List Nat) (q0b : Int) (q0c : Nat) (q0d : Nat) (x1 : Int) (q0i : Nat) (q0k : Nat) (q0j : Nat) := (pF (zhc (z0p q00 q03 q02 q04 q01 q05 q06 q07 q0b q0c q0d x1 q0i q0k q0j) (z0x q00 q03 q02 q04 q01 q05 q06 q07 q0b q0c q0d x1 q0i q0k q0j) (z0n q00 q03 q02 q04 q01 q05 q06 q07 q0b q0c q0d x1 q0i q0k q0j) (z0w q00 q03 q02 q04 q01 q05 q06 q07 q0b q0c q0d x1 q0i q0k q0j) (z0m q00 q03 q02 q04 q01 q05 q06 q07 q0b q0c q0d x1 q0i q0k q0j) (z0v q00 q03 q02 q04 q01 q05 q06 q07 q0b q0c q0d x1 q0i q0k q0j) (z0o q00 q03 q02 q04 q01 q05 q06 q07 q0b q0c q0d x1 q0i q0k q0j) (z0u q00 q03 q02 q04 q01 q05 q06 q07 q0b q0c q0d x1 q0i q0k q0j) q0b q0c q0d x1 q0i q0k q0j) 0 (muN (z9j q00 q03 q02 q04 q01 q05 q06 q07 q0b q0c q0d x1 q0i q0k q0j) 1))
noncomputable def zbr (q00 : Nat) (q03 : List Nat) (q02 : Nat) (q04 : List Nat) (q01 : Nat) (q05 : List Nat) (q06 : Nat) (q07 : List Nat) (q0b : Int) (q0c : Nat) (q0d : Nat) (x1 : Int) (q0i : Nat) (q0k : Nat) (q0j : Nat) := (pF (z6g (z5t q00 q03 q02 q04 q01 q05 q06 q07 q0b q0c q0d x1 q0i q0k q0j) 1 0 (z8n q00 q03 q02 q04 q01 q05 q06 q07 q0b q0c q0d x1 q0i q0k q0j)) 0 (zbu q00 q03 q02 q04 q01 q05 q06 q07 q0b q0c q0d x1 q0i q0k q0j))
noncomputable def z9g (q00 : Nat) (q03 : List Nat) (q02 : Nat) (q04 : List Nat) (q01 : Nat) (q05 : List Nat) (q06 : Nat) (q07 : List Nat) (q0b : Int) (q0c : Nat) (q0d : Nat) (x1 : Int) (q0i : Nat) (q0k : Nat) (q0j : Nat) := (z6e (z5u q00 q03 q02 q04 q01 q05 q06 q07 q0b q0c q0d x1 q0i q0k q0j) (z9h q00 q03 q02 q04 q01 q05 q06 q07 q0b q0c q0d x1 q0i q0k q0j) 0 (z8i q00 q03 q02 q04 q01 q05 q06 q07 q0b q0c q0d x1 q0i q0k q0j))
noncomputable def zbn (q00 : Nat) (q03 : List Nat) (q02 : Nat) (q04 : List Nat) (q01 : Nat) (q05 : List Nat) (q06 : Nat) (q07 : List Nat) (q0b : Int) (q0c : Nat) (q0d : Nat) (x1 : Int) (q0i : Nat) (q0k : Nat) (q0j : Nat) := (pF (z6j (z5u q00 q03 q02 q04 q01 q05 q06 q07 q0b q0c q0d x1 q0i q0k q0j) (z9h q00 q03 q02 q04 q01 q05 q06 q07 q0b q0c q0d x1 q0i q0k q0j) 0 (z8i q00 q03 q02 q04 q01 q05 q06 q07 q0b q0c q0d x1 q0i q0k q0j)) 0 (zbh q00 q03 q02 q04 q01 q05 q06 q07 q0b q0c q0d x1 q0i q0k q0j))
noncomputable def z9p (q00 : Nat) (q03 : List Nat) (q02 : Nat) (q04 : List Nat) (q01 : Nat) (q05 : List Nat) (q06 : Nat) (q07 : List Nat) (q0b : Int) (q0c : Nat) (q0d : Nat) (x1 : Int) (q0i : Nat) (q0k : Nat) (q0j : Nat) := (z6i (z5w q00 q03 q02 q04 q01 q05 q06 q07 q0b q0c q0d x1 q0i q0k q0j) (z9g q00 q03 q02 q04 q01 q05 q06 q07 q0b q0c q0d x1 q0i q0k q0j) 0 (z8p q00 q03 q02 q04 q01 q05 q06 q07 q0b q0c q0d x1 q0i q0k q0j))
noncomputable def zbj (q00 : Nat) (q03 : List Nat) (q02 : Nat) (q04 : List Nat) (q01 : Nat) (q05 : List Nat) (q06 : Nat) (q07 : List Nat) (q0b : Int) (q0c : Nat) (q0d : Nat) (x1 : Int) (q0i : Nat) (q0k : Nat) (q0j : Nat) := (pF (z6l (z5w q00 q03 q02 q04 q01 q05 q06 q07 q0b q0c q0d x1 q0i q0k q0j) (z9g q00 q03 q02 q04 q01 q05 q06 q07 q0b q0c q0d x1 q0i q0k q0j) 0 (z8p q00 q03 q02 q04 q01 q05 q06 q07 q0b q0c q0d x1 q0i q0k q0j)) 0 (zbb q00 q03 q02 q04 q01 q05 q06 q07 q0b q0c q0d x1 q0i q0k q0j))
noncomputable def zbm (q00 : Nat) (q03 : List Nat) (q02 : Nat) (q04 : List Nat) (q01 : Nat) (q05 : List Nat) (q06 : Nat) (q07 : List Nat) (q0b : Int) (q0c : Nat) (q0d : Nat) (x1 : Int) (q0i : Nat) (q0k : Nat) (q0j : Nat) := (pF (z6h (z5v q00 q03 q02 q04 q01 q05 q06 q07 q0b q0c q0d x1 q0i q0k q0j) (z9p q00 q03 q02 q04 q01 q05 q06 q07 q0b q0c q0d x1 q0i q0k q0j) 0 (z8k q00 q03 q02 q04 q01 q05 q06 q07 q0b q0c q0d x1 q0i q0k q0j)) 0 (zba q00 q03 q02 q04 q01 q05 q06 q07 q0b q0c q0d x1 q0i q0k q0j))
noncomputable def z9l (q00 : Nat) (q03 : List Nat) (q02 : Nat) (q04 : List Nat) (q01 : Nat) (q05 : List Nat) (q06 : Nat) (q07 : List Nat) (q0b : Int) (q0c : Nat) (q0d : Nat) (x1 : Int) (q0i : Nat) (q0k : Nat) (q0j : Nat) := (zf6 (z5t q00 q03 q02 q04 q01 q05 q06 q07 q0b q0c q0d x1 q0i q0k q0j) (zbe q00 q03 q02 q04 q01 q05 q06 q07 q0b q0c q0d x1 q0i q0k q0j) (z5u q00 q03 q02 q04 q01 q05 q06 q07 q0b q0c q0d x1 q0i q0k q0j) (zbt q00 q03 q02 q04 q01 q05 q06 q07 q0b q0c q0d x1 q0i q0k q0j) (z5w q00 q03 q02 q04 q01 q05 q06 q07 q0b q0c q0d x1 q0i q0k q0j) (zbo q00 q03 q02 q04 q01 q05 q06 q07 q0b q0c q0d x1 q0i q0k q0j) (z5v q00 q03 q02 q04 q01 q05 q06 q07 q0b q0c q0d x1 q0i q0k q0j) (zbv q00 q03 q02 q04 q01 q05 q06 q07 q0b q0c q0d x1 q0i q0k q0j) (z8j q00 q03 q02 q04 q01 q05 q06 q07 q0b q0c q0d x1 q0i q0k q0j) (z8m q00 q03 q02 q04 q01 q05 q06 q07 q0b q0c q0d x1 q0i q0k q0j) (z8l q00 q03 q02 q04 q01 q05 q06 q07 q0b q0c q0d x1 q0i q0k q0j) (z9j q00 q03 q02 q04 q01 q05 q06 q07 q0b q0c q0d x1 q0i q0k q0j) (zbs q00 q03 q02 q04 q01 q05 q06 q07 q0b q0c q0d x1 q0i q0k q0j) (z9f q00 q03 q02 q04 q01 q05 q06 q07 q0b q0c q0d x1 q0i q0k q0j) (zbw q00 q03 q02 q04 q01 q05 q06 q07 q0b q0c q0d x1 q0i q0k q0j) (z9o q00 q03 q02 q04 q01 q05 q06 q07 q0b q0c q0d x1 q0i q0k q0j) (zbk q00 q03 q02 q04 q01 q05 q06 q07 q0b q0c q0d x1 q0i q0k q0j) (z9n q00 q03 q02 q04 q01 q05 q06 q07 q0b q0c q0d x1 q0i q0k q0j) (zbc q00 q03 q02 q04 q01 q05 q06 q07 q0b q0c q0d x1 q0i q0k q0j) (zbl q00 q03 q02 q04 q01 q05 q06 q07 q0b q0c q0d x1 q0i q0k q0j) (zb9 q00 q03 q02 q04 q01 q05 q06 q07 q0b q0c q0d x1 q0i q0k q0j) (zbg q00 q03 q02 q04 q01 q05 q06 q07 q0b q0c q0d x1 q0i q0k q0j))
noncomputable def z9i (q00 : Nat) (q03 : List Nat) (q02 : Nat) (q04 : List Nat) (q01 : Nat) (q05 : List Nat) (q06 : Nat) (q07 : List Nat) (q0b : Int) (q0c : Nat) (q0d : Nat) (x1 : Int) (q0i : Nat) (q0k : Nat) (q0j : Nat) := (bnot (zed (z5t q00 q03 q02 q04 q01 q05 q06 q07 q0b q0c q0d x1 q0i q0k q0j) (zbe q00 q03 q02 q04 q01 q05 q06 q07 q0b q0c q0d x1 q0i q0k q0j) (z5u q00 q03 q02 q04 q01 q05 q06 q07 q0b q0c q0d x1 q0i q0k q0j) (zbt q00 q03 q02 q04 q01 q05 q06 q07 q0b q0c q0d x1 q0i q0k q0j) (z5w q00 q03 q02 q04 q01 q05 q06 q07 q0b q0c q0d x1 q0i q0k q0j) (zbo q00 q03 q02 q04 q01 q05 q06 q07 q0b q0c q0d x1 q0i q0k q0j) (z5v q00 q03 q02 q04 q01 q05 q06 q07 q0b q0c q0d x1 q0i q0k q0j) (zbv q00 q03 q02 q04 q01 q05 q06 q07 q0b q0c q0d x1 q0i q0k q0j) (z8j q00 q03 q02 q04 q01 q05 q06 q07 q0b q0c q0d x1 q0i q0k q0j) (z8m q00 q03 q02 q04 q01 q05 q06 q07 q0b q0c q0d x1 q0i q0k q0j) (z8l q00 q03 q02 q04 q01 q05 q06 q07 q0b q0c q0d x1 q0i q0k q0j) (z9j q00 q03 q02 q04 q01 q05 q06 q07 q0b q0c q0d x1 q0i q0k q0j) (zbs q00 q03 q02 q04 q01 q05 q06 q07 q0b q0c q0d x1 q0i q0k q0j) (z9f q00 q03 q02 q04 q01 q05 q06 q07 q0b q0c q0d x1 q0i q0k q0j) (zbw q00 q03 q02 q04 q01 q05 q06 q07 q0b q0c q0d x1 q0i q0k q0j) (z9o q00 q03 q02 q04 q01 q05 q06 q07 q0b q0c q0d x1 q0i q0k q0j) (zbk q00 q03 q02 q04 q01 q05 q06 q07 q0b q0c q0d x1 q0i q0k q0j) (z9n q00 q03 q02 q04 q01 q05 q06 q07 q0b q0c q0d x1 q0i q0k q0j) (zbc q00 q03 q02 q04 q01 q05 q06 q07 q0b q0c q0d x1 q0i q0k q0j) (zbl q00 q03 q02 q04 q01 q05 q06 q07 q0b q0c q0d x1 q0i q0k q0j) (zb9 q00 q03 q02 q04 q01 q05 q06 q07 q0b q0c q0d x1 q0i q0k q0j) (zbg q00 q03 q02 q04 q01 q05 q06 q07 q0b q0c q0d x1 q0i q0k q0j)))
noncomputable def zbi (q00 : Nat) (q03 : List Nat) (q02 : Nat) (q04 : List Nat) (q01 : Nat) (q05 : List Nat) (q06 : Nat) (q07 : List Nat) (q0b : Int) (q0c : Nat) (q0d : Nat) (x1 : Int) (q0i : Nat) (q0k : Nat) (q0j : Nat) := (zjo (z5t q00 q03 q02 q04 q01 q05 q06 q07 q0b q0c q0d x1 q0i q0k q0j) (zbr q00 q03 q02 q04 q01 q05 q06 q07 q0b q0c q0d x1 q0i q0k q0j) (z5u q00 q03 q02 q04 q01 q05 q06 q07 q0b q0c q0d x1 q0i q0k q0j) (zbn q00 q03 q02 q04 q01 q05 q06 q07 q0b q0c q0d x1 q0i q0k q0j) (z5w q00 q03 q02 q04 q01 q05 q06 q07 q0b q0c q0d x1 q0i q0k q0j) (zbj q00 q03 q02 q04 q01 q05 q06 q07 q0b q0c q0d x1 q0i q0k q0j) (z5v q00 q03 q02 q04 q01 q05 q06 q07 q0b q0c q0d x1 q0i q0k q0j) (zbm q00 q03 q02 q04 q01 q05 q06 q07 q0b q0c q0d x1 q0i q0k q0j) (z8j q00 q03 q02 q04 q01 q05 q06 q07 q0b q0c q0d x1 q0i q0k q0j) (z8m q00 q03 q02 q04 q01 q05 q06 q07 q0b q0c q0d x1 q0i q0k q0j) (z8l q00 q03 q02 q04 q01 q05 q06 q07 q0b q0c q0d x1 q0i q0k q0j) 1)
noncomputable def zbd (q00 : Nat) (q03 : List Nat) (q02 : Nat) (q04 : List Nat) (q01 : Nat) (q05 : List Nat) (q06 : Nat) (q07 : List Nat) (q0b : Int) (q0c : Nat) (q0d : Nat) (x1 : Int) (q0i : Nat) (q0k : Nat) (q0j : Nat) := (zku (z5t q00 q03 q02 q04 q01 q05 q06 q07 q0b q0c q0d x1 q0i q0k q0j) (zbr q00 q03 q02 q04 q01 q05 q06 q07 q0b q0c q0d x1 q0i q0k q0j) (z5u q00 q03 q02 q04 q01 q05 q06 q07 q0b q0c q0d x1 q0i q0k q0j) (zbn q00 q03 q02 q04 q01 q05 q06 q07 q0b q0c q0d x1 q0i q0k q0j) (z5w q00 q03 q02 q04 q01 q05 q06 q07 q0b q0c q0d x1 q0i q0k q0j) (zbj q00 q03 q02 q04 q01 q05 q06 q07 q0b q0c q0d x1 q0i q0k q0j) (z5v q00 q03 q02 q04 q01 q05 q06 q07 q0b q0c q0d x1 q0i q0k q0j) (zbm q00 q03 q02 q04 q01 q05 q06 q07 q0b q0c q0d x1 q0i q0k q0j) (z8j q00 q03 q02 q04 q01 q05 q06 q07 q0b q0c q0d x1 q0i q0k q0j) (z8m q00 q03 q02 q04 q01 q05 q06 q07 q0b q0c q0d x1 q0i q0k q0j) (z8l q00 q03 q02 q04 q01 q05 q06 q07 q0b q0c q0d x1 q0i q0k q0j) 1)
noncomputable def zbp (q00 : Nat) (q03 : List Nat) (q02 : Nat) (q04 : List Nat) (q01 : Nat) (q05 : List Nat) (q06 : Nat) (q07 : List Nat) (q0b : Int) (q0c : Nat) (q0d : Nat) (x1 : Int) (q0i : Nat) (q0k : Nat) (q0j : Nat) := (ltI (zbi q00 q03 q02 q04 q01 q05 q06 q07 q0b q0c q0d x1 q0i q0k q0j) 0)
noncomputable def zbf (q00 : Nat) (q03 : List Nat) (q02 : Nat) (q04 : List Nat) (q01 : Nat) (q05 : List Nat) (q06 : Nat) (q07 : List Nat) (q0b : Int) (q0c : Nat) (q0d : Nat) (x1 : Int) (q0i : Nat) (q0k : Nat) (q0j : Nat) := (neI (zbi q00 q03 q02 q04 q01 q05 q06 q07 q0b q0c q0d x1 q0i q0k q0j) (z6f (z5v q00 q03 q02 q04 q01 q05 q06 q07 q0b q0c q0d x1 q0i q0k q0j) (z9p q00 q03 q02 q04 q01 q05 q06 q07 q0b q0c q0d x1 q0i q0k q0j) 0 (z8k q00 q03 q02 q04 q01 q05 q06 q07 q0b q0c q0d x1 q0i q0k q0j)))
noncomputable def z94 {R : Type} (q00 : Nat) (q03 : List Nat) (q02 : Nat) (q04 : List Nat) (q01 : Nat) (q05 : List Nat) (q06 : Nat) (q07 : List Nat) (q0b : Int) (q0c : Nat) (q0d : Nat) (x1 : Int) (q0i : Nat) (q0k : Nat) (q0j : Nat) (k_ : Bool → Option R) : Option R := (grd (zjz q00 (pF q03 0 (muN q00 1)) q02 (pF q04 0 (muN q02 1)) q01 (pF q05 0 (muN q01 1)) q06 (pF q07 0 (muN q06 3)) q0b q0c q0d 1048576) (br (ltI (zhq q00 (pF q03 0 (muN q00 1)) q02 (pF q04 0 (muN q02 1)) q01 (pF q05 0 (muN q01 1)) q06 (pF q07 0 (muN q06 3)) q0b q0c q0d 1048576) 0) (k_ Bool.true) (grd (z91 q00 q03 q02 q04 q01 q05 q06 q07 q0b q0c q0d x1 q0i q0k q0j) (grd (zdw q0i q0k q0j) (grd (zjf (z0p q00 q03 q02 q04 q01 q05 q06 q07 q0b q0c q0d x1 q0i q0k q0j) (z0x q00 q03 q02 q04 q01 q05 q06 q07 q0b q0c q0d x1 q0i q0k q0j) (z0n q00 q03 q02 q04 q01 q05 q06 q07 q0b q0c q0d x1 q0i q0k q0j) (z0w q00 q03 q02 q04 q01 q05 q06 q07 q0b q0c q0d x1 q0i q0k q0j) (z0m q00 q03 q02 q04 q01 q05 q06 q07 q0b q0c q0d x1 q0i q0k q0j) (z0v q00 q03 q02 q04 q01 q05 q06 q07 q0b q0c q0d x1 q0i q0k q0j) (z0o q00 q03 q02 q04 q01 q05 q06 q07 q0b q0c q0d x1 q0i q0k q0j) (z0u q00 q03 q02 q04 q01 q05 q06 q07 q0b q0c q0d x1 q0i q0k q0j) q0b q0c q0d x1 q0i q0k q0j) (grd (z91 q00 q03 q02 q04 q01 q05 q06 q07 q0b q0c q0d x1 q0i q0k q0j) (grd (zdw q0i q0k q0j) (grd (zb7 q00 q03 q02 q04 q01 q05 q06 q07 q0b q0c q0d x1 q0i q0k q0j) (grd (z9l q00 q03 q02 q04 q01 q05 q06 q07 q0b q0c q0d x1 q0i q0k q0j) (br (z9i q00 q03 q02 q04 q01 q05 q06 q07 q0b q0c q0d x1 q0i q0k q0j) (k_ Bool.false) (br (z9m q00 q03 q02 q04 q01 q05 q06 q07 q0b q0c q0d x1 q0i q0k q0j) (k_ Bool.false) (grd (z91 q00 q03 q02 q04 q01 q05 q06 q07 q0b q0c q0d x1 q0i q0k q0j) (grd (zf6 (z0p q00 q03 q02 q04 q01 q05 q06 q07 q0b q0c q0d x1 q0i q0k q0j) (z0x q00 q03 q02 q04 q01 q05 q06 q07 q0b q0c q0d x1 q0i q0k q0j) (z0n q00 q03 q02 q04 q01 q05 q06 q07 q0b q0c q0d x1 q0i q0k q0j) (z0w q00 q03 q02 q04 q01 q05 q06 q07 q0b q0c q0d x1 q0i q0k q0j) (z0m q00 q03 q02 q04 q01 q05 q06 q07 q0b q0c q0d x1 q0i q0k q0j) (z0v q00 q03 q02 q04 q01 q05 q06 q07 q0b q0c q0d x1 q0i q0k q0j) (z0o q00 q03 q02 q04 q01 q05 q06 q07 q0b q0c q0d x1 q0i q0k q0j) (z0u q00 q03 q02 q04 q01 q05 q06 q07 q0b q0c q0d x1 q0i q0k q0j) q0b q0c q0d (z0p q00 q03 q02 q04 q01 q05 q06 q07 q0b q0c q0d x1 q0i q0k q0j) (z0x q00 q03 q02 q04 q01 q05 q06 q07 q0b q0c q0d x1 q0i q0k q0j) (z0n q00 q03 q02 q04 q01 q05 q06 q07 q0b q0c q0d x1 q0i q0k q0j) (z0w q00 q03 q02 q04 q01 q05 q06 q07 q0b q0c q0d x1 q0i q0k q0j) (z0m q00 q03 q02 q04 q01 q05 q06 q07 q0b q0c q0d x1 q0i q0k q0j) (z0v q00 q03 q02 q04 q01 q05 q06 q07 q0b q0c q0d x1 q0i q0k q0j) (z0o q00 q03 q02 q04 q01 q05 q06 q07 q0b q0c q0d x1 q0i q0k q0j) (z0u q00 q03 q02 q04 q01 q05 q06 q07 q0b q0c q0d x1 q0i q0k q0j) q0b q0c q0d) (br (bnot (zed (z0p q00 q03 q02 q04 q01 q05 q06 q07 q0b q0c q0d x1 q0i q0k q0j) (z0x q00 q03 q02 q04 q01 q05 q06 q07 q0b q0c q0d x1 q0i q0k q0j) (z0n q00 q03 q02 q04 q01 q05 q06 q07 q0b q0c q0d x1 q0i q0k q0j) (z0w q00 q03 q02 q04 q01 q05 q06 q07 q0b q0c q0d x1 q0i q0k q0j) (z0m q00 q03 q02 q04 q01 q05 q06 q07 q0b q0c q0d x1 q0i q0k q0j) (z0v q00 q03 q02 q04 q01 q05 q06 q07 q0b q0c q0d x1 q0i q0k q0j) (z0o q00 q03 q02 q04 q01 q05 q06 q07 q0b q0c q0d x1 q0i q0k q0j) (z0u q00 q03 q02 q04 q01 q05 q06 q07 q0b q0c q0d x1 q0i q0k q0j) q0b q0c q0d (z0p q00 q03 q02 q04 q01 q05 q06 q07 q0b q0c q0d x1 q0i q0k q0j) (z0x q00 q03 q02 q04 q01 q05 q06 q07 q0b q0c q0d x1 q0i q0k q0j) (z0n q00 q03 q02 q04 q01 q05 q06 q07 q0b q0c q0d x1 q0i q0k q0j) (z0w q00 q03 q02 q04 q01 q05 q06 q07 q0b q0c q0d x1 q0i q0k q0j) (z0m q00 q03 q02 q04 q01 q05 q06 q07 q0b q0c q0d x1 q0i q0k q0j) (z0v q00 q03 q02 q04 q01 q05 q06 q07 q0b q0c q0d x1 q0i q0k q0j) (z0o q00 q03 q02 q04 q01 q05 q06 q07 q0b q0c q0d x1 q0i q0k q0j) (z0u q00 q03 q02 q04 q01 q05 q06 q07 q0b q0c q0d x1 q0i q0k q0j) q0b q0c q0d)) (k_ Bool.false) (grd (z7h (z0p q00 q03 q02 q04 q01 q05 q06 q07 q0b q0c q0d x1 q0i q0k q0j) 1 0 (z9z q00 q03 q02 q04 q01 q05 q06 q07 q0b q0c q0d x1 q0i q0k q0j)) (grd (z76 (z0n q00 q03 q02 q04 q01 q05 q06 q07 q0b q0c q0d x1 q0i q0k q0j) (zcg q00 q03 q02 q04 q01 q05 q06 q07 q0b q0c q0d x1 q0i q0k q0j) 0 (za3 q00 q03 q02 q04 q01 q05 q06 q07 q0b q0c q0d x1 q0i q0k q0j)) (grd (z6x (z0m q00 q03 q02 q04 q01 q05 q06 q07 q0b q0c q0d x1 q0i q0k q0j) (zb8 q00 q03 q02 q04 q01 q05 q06 q07 q0b q0c q0d x1 q0i q0k q0j) 0 (z9y q00 q03 q02 q04 q01 q05 q06 q07 q0b q0c q0d x1 q0i q0k q0j)) (grd (z7j (z0o q00 q03 q02 q04 q01 q05 q06 q07 q0b q0c q0d x1 q0i q0k q0j) (zbq q00 q03 q02 q04 q01 q05 q06 q07 q0b q0c q0d x1 q0i q0k q0j) 0 (za0 q00 q03 q02 q04 q01 q05 q06 q07 q0b q0c q0d x1 q0i q0k q0j)) (br (ltI (z6u (z0o q00 q03 q02 q04 q01 q05 q06 q07 q0b q0c q0d x1 q0i q0k q0j) (zbq q00 q03 q02 q04 q01 q05 q06 q07 q0b q0c q0d x1 q0i q0k q0j) 0 (za0 q00 q03 q02 q04 q01 q05 q06 q07 q0b q0c q0d x1 q0i q0k q0j)) 0) (k_ Bool.false) (grd (z9l q00 q03 q02 q04 q01 q05 q06 q07 q0b q0c q0d x1 q0i q0k q0j) (br (z9i q00 q03 q02 q04 q01 q05 q06 q07 q0b q0c q0d x1 q0i q0k q0j) (k_ Bool.false) (br (z9m q00 q03 q02 q04 q01 q05 q06 q07 q0b q0c q0d x1 q0i q0k q0j) (k_ Bool.false) (grd (z71 (z5t q00 q03 q02 q04 q01 q05 q06 q07 q0b q0c q0d x1 q0i q0k q0j) 1 0 (z8n q00 q03 q02 q04 q01 q05 q06 q07 q0b q0c q0d x1 q0i q0k q0j)) (grd (z72 (z5u q00 q03 q02 q04 q01 q05 q06 q07 q0b q0c q0d x1 q0i q0k q0j) (z9h q00 q03 q02 q04 q01 q05 q06 q07 q0b q0c q0d x1 q0i q0k q0j) 0 (z8i q00 q03 q02 q04 q01 q05 q06 q07 q0b q0c q0d x1 q0i q0k q0j)) (grd (z6z (z5w q00 q03 q02 q04 q01 q05 q06 q07 q0b q0c q0d x1 q0i q0k q0j) (z9g q00 q03 q02 q04 q01 q05 q06 q07 q0b q0c q0d x1 q0i q0k q0j) 0 (z8p q00 q03 q02 q04 q01 q05 q06 q07 q0b q0c q0d x1 q0i q0k q0j)) (grd (z70 (z5v q00 q03 q02 q04 q01 q05 q06 q07 q0b q0c q0d x1 q0i q0k q0j) (z9p q00 q03 q02 q04 q01 q05 q06 q07 q0b q0c q0d x1 q0i q0k q0j) 0 (z8k q00 q03 q02 q04 q01 q05 q06 q07 q0b q0c q0d x1 q0i q0k q0j)) (grd (zbd q00 q03 q02 q04 q01 q05 q06 q07 q0b q0c q0d x1 q0i q0k q0j) (br (zbp q00 q03 q02 q04 q01 q05 q06 q07 q0b q0c q0d x1 q0i q0k q0j) (k_ Bool.false) (br (zbf q00 q03 q02 q04 q01 q05 q06 q07 q0b q0c q0d x1 q0i q0k q0j) (k_ Bool.false) (grd (z91 q00 q03 q02 q04 q01 q05 q06 q07 q0b q0c q0d x1 q0i q0k q0j) (grd (zdw q0i q0k q0j) (grd (zb7 q00 q03 q02 q04 q01 q05 q06 q07 q0b q0c q0d x1 q0i q0k q0j) (grd (z9l q00 q03 q02 q04 q01 q05 q06 q07 q0b q0c q0d x1 q0i q0k q0j) (br (z9i q00 q03 q02 q04 q01 q05 q06 q07 q0b q0c q0d x1 q0i q0k q0j) (k_ Bool.false) (br (z9m q00 q03 q02 q04 q01 q05 q06 q07 q0b q0c q0d x1 q0i q0k q0j) (k_ Bool.false) (grd (zbd q00 q03 q02 q04 q01 q05 q06 q07 q0b q0c q0d x1 q0i q0k q0j) (br (zbp q00 q03 q02 q04 q01 q05 q06 q07 q0b q0c q0d x1 q0i q0k q0j) (k_ Bool.false) (br (zbf q00 q03 q02 q04 q01 q05 q06 q07 q0b q0c q0d x1 q0i q0k q0j) (k_ Bool.false) (k_ Bool.true)))))))))))))))))))))))))))))))))))))))
noncomputable def z99 (q00 : Nat) (q03 : List Nat) (q02 : Nat) (q04 : List Nat) (q01 : Nat) (q05 : List Nat) (q06 : Nat) (q07 : List Nat) (q0b : Int) (q0c : Nat) (q0d : Nat) (x1 : Int) (q0i : Nat) (q0k : Nat) (q0j : Nat) : Option (Bool) := z94 q00 q03 q02 q04 q01 q05 q06 q07 q0b q0c q0d x1 q0i q0k q0j (fun c0_ => some c0_)
theorem zmi {R R' : Type} (o : Option R → Option R') (h0 : o none = none) (q00 : Nat) (q03 : List Nat) (q02 : Nat) (q04 : List Nat) (q01 : Nat) (q05 : List Nat) (q06 : Nat) (q07 : List Nat) (q0b : Int) (q0c : Nat) (q0d : Nat) (x1 : Int) (q0i : Nat) (q0k : Nat) (q0j : Nat) (k_ : Bool → Option R) : z94 q00 q03 q02 q04 q01 q05 q06 q07 q0b q0c q0d x1 q0i q0k q0j (fun c0_ => o (k_ c0_)) = o (z94 q00 q03 q02 q04 q01 q05 q06 q07 q0b q0c q0d x1 q0i q0k q0j k_) := by
  unfold z94
  repeat (first | refine grd_out h0 ?_ | refine br_out ?_ ?_ | rfl | exact h0.symm)
noncomputable def zfh (q00 : Nat) (q03 : List Nat) (q02 : Nat) (q04 : List Nat) (q01 : Nat) (q05 : List Nat) (q06 : Nat) (q07 : List Nat) (q0b : Int) (q0c : Nat) (q0d : Nat) (x1 : Int) (q0i : Nat) (q0k : Nat) (q0j : Nat) : Bool := (z99 q00 q03 q02 q04 q01 q05 q06 q07 q0b q0c q0d x1 q0i q0k q0j).isSome
noncomputable def zew (q00 : Nat) (q03 : List Nat) (q02 : Nat) (q04 : List Nat) (q01 : Nat) (q05 : List Nat) (q06 : Nat) (q07 : List Nat) (q0b : Int) (q0c : Nat) (q0d : Nat) (x1 : Int) (q0i : Nat) (q0k : Nat) (q0j : Nat) : Bool := ((z99 q00 q03 q02 q04 q01 q05 q06 q07 q0b q0c q0d x1 q0i q0k q0j).getD default)
theorem zn8 {q00 : Nat} {q03 : List Nat} {q02 : Nat} {q04 : List Nat} {q01 : Nat} {q05 : List Nat} {q06 : Nat} {q07 : List Nat} {q0b : Int} {q0c : Nat} {q0d : Nat} {x1 : Int} {q0i : Nat} {q0k : Nat} {q0j : Nat} {r : Bool} (h : z99 q00 q03 q02 q04 q01 q05 q06 q07 q0b q0c q0d x1 q0i q0k q0j = some r) : zfh q00 q03 q02 q04 q01 q05 q06 q07 q0b q0c q0d x1 q0i q0k q0j = true ∧ zew q00 q03 q02 q04 q01 q05 q06 q07 q0b q0c q0d x1 q0i q0k q0j = r := by
  unfold zfh zew
  rw [h]
  exact ⟨rfl, rfl⟩
end Go.Rf
