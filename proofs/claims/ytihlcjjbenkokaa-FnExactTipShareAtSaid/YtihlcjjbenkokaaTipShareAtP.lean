import Derived.Test.YtihlcjjbenkokaaB
set_option linter.unusedVariables false
set_option linter.unusedSimpArgs false
set_option maxRecDepth 100000
set_option maxHeartbeats 4000000
namespace Go.Rf
open Go
noncomputable def z9d {R : Type} (a : Nat) (b : Nat) (k_ : Bool → Option R) : Option R := (br (fcmp BinOp.neq FloatKind.f64 a a) (br (fcmp BinOp.neq FloatKind.f64 a a) (k_ (fcmp BinOp.neq FloatKind.f64 b b)) (k_ Bool.false)) (br (fcmp BinOp.neq FloatKind.f64 b b) (br (fcmp BinOp.neq FloatKind.f64 a a) (k_ (fcmp BinOp.neq FloatKind.f64 b b)) (k_ Bool.false)) (br (fcmp BinOp.eql FloatKind.f64 a 0) (br (fcmp BinOp.eql FloatKind.f64 b 0) (k_ (beqB (fcmp BinOp.gtr FloatKind.f64 (fop BinOp.quo FloatKind.f64 4607182418800017408 a) 0) (fcmp BinOp.gtr FloatKind.f64 (fop BinOp.quo FloatKind.f64 4607182418800017408 b) 0))) (k_ (fcmp BinOp.eql FloatKind.f64 a b))) (k_ (fcmp BinOp.eql FloatKind.f64 a b)))))
noncomputable def z9q (a : Nat) (b : Nat) : Option (Bool) := z9d a b (fun c0_ => some c0_)
theorem zjm {R R' : Type} (o : Option R → Option R') (h0 : o none = none) (a : Nat) (b : Nat) (k_ : Bool → Option R) : z9d a b (fun c0_ => o (k_ c0_)) = o (z9d a b k_) := by
  unfold z9d
  repeat (first | refine grd_out h0 ?_ | refine br_out ?_ ?_ | rfl | exact h0.symm)
noncomputable def z6n (a : Nat) (b : Nat) : Bool := (z9q a b).isSome
noncomputable def z6g (a : Nat) (b : Nat) : Bool := ((z9q a b).getD default)
theorem z7g {a : Nat} {b : Nat} {r : Bool} (h : z9q a b = some r) : z6n a b = true ∧ z6g a b = r := by
  unfold z6n z6g
  rw [h]
  exact ⟨rfl, rfl⟩
noncomputable def zaw {R : Type} (q1x : Nat) (q22 : Nat) (q23 : Nat) (k_ : Unit → Option R) : Option R := (k_ ())
noncomputable def zhi (q1x : Nat) (q22 : Nat) (q23 : Nat) : Option (Unit) := zaw q1x q22 q23 (fun _ => some ())
theorem zju {R R' : Type} (o : Option R → Option R') (h0 : o none = none) (q1x : Nat) (q22 : Nat) (q23 : Nat) (k_ : Unit → Option R) : zaw q1x q22 q23 (fun _ => o (k_ ())) = o (zaw q1x q22 q23 k_) := by
  unfold zaw
  repeat (first | refine grd_out h0 ?_ | refine br_out ?_ ?_ | rfl | exact h0.symm)
noncomputable def zfv (q1x : Nat) (q22 : Nat) (q23 : Nat) : Bool := (zhi q1x q22 q23).isSome
noncomputable def z8w {R : Type} (a_n : Nat) (a : List Nat) (q1r : Int) (k_ : Int → Option R) : Option R := (br (ltI (subI IntKind.i64 q1r (Int.ofNat a_n)) 0) (k_ (Int.negSucc 0)) (k_ (subI IntKind.i64 q1r (Int.ofNat a_n))))
noncomputable def z8x (a_n : Nat) (a : List Nat) (q1r : Int) : Option (Int) := z8w a_n a q1r (fun c0_ => some c0_)
theorem zip {R R' : Type} (o : Option R → Option R') (h0 : o none = none) (a_n : Nat) (a : List Nat) (q1r : Int) (k_ : Int → Option R) : z8w a_n a q1r (fun c0_ => o (k_ c0_)) = o (z8w a_n a q1r k_) := by
  unfold z8w
  repeat (first | refine grd_out h0 ?_ | refine br_out ?_ ?_ | rfl | exact h0.symm)
noncomputable def z8r (a_n : Nat) (a : List Nat) (q1r : Int) : Bool := (z8x a_n a q1r).isSome
noncomputable def z4z (a_n : Nat) (a : List Nat) (q1r : Int) : Int := ((z8x a_n a q1r).getD default)
theorem zew {a_n : Nat} {a : List Nat} {q1r : Int} {r : Int} (h : z8x a_n a q1r = some r) : z8r a_n a q1r = true ∧ z4z a_n a q1r = r := by
  unfold z8r z4z
  rw [h]
  exact ⟨rfl, rfl⟩
noncomputable def zc0 {R : Type} (x : Nat) (k_ : Bool → Option R) : Option R := (k_ (fcmp BinOp.eql FloatKind.f32 (fop BinOp.sub FloatKind.f32 x x) 0))
noncomputable def zc7 (x : Nat) : Option (Bool) := zc0 x (fun c0_ => some c0_)
theorem zk6 {R R' : Type} (o : Option R → Option R') (h0 : o none = none) (x : Nat) (k_ : Bool → Option R) : zc0 x (fun c0_ => o (k_ c0_)) = o (zc0 x k_) := by
  unfold zc0
  repeat (first | refine grd_out h0 ?_ | refine br_out ?_ ?_ | rfl | exact h0.symm)
noncomputable def z6k (x : Nat) : Bool := (zc7 x).isSome
noncomputable def z6c (x : Nat) : Bool := ((zc7 x).getD default)
theorem z7t {x : Nat} {r : Bool} (h : zc7 x = some r) : z6k x = true ∧ z6c x = r := by
  unfold z6k z6c
  rw [h]
  exact ⟨rfl, rfl⟩
noncomputable def zb0 {R : Type} (x : Nat) (k_ : Bool → Option R) : Option R := (k_ (fcmp BinOp.eql FloatKind.f32 (fop BinOp.sub FloatKind.f32 x x) 0))
noncomputable def zav (x : Nat) : Option (Bool) := zb0 x (fun c0_ => some c0_)
theorem zj5 {R R' : Type} (o : Option R → Option R') (h0 : o none = none) (x : Nat) (k_ : Bool → Option R) : zb0 x (fun c0_ => o (k_ c0_)) = o (zb0 x k_) := by
  unfold zb0
  repeat (first | refine grd_out h0 ?_ | refine br_out ?_ ?_ | rfl | exact h0.symm)
noncomputable def z5z (x : Nat) : Bool := (zav x).isSome
noncomputable def z5o (x : Nat) : Bool := ((zav x).getD default)
theorem z8n {x : Nat} {r : Bool} (h : zav x = some r) : z5z x = true ∧ z5o x = r := by
  unfold z5z z5o
  rw [h]
  exact ⟨rfl, rfl⟩
noncomputable def zdr {R : Type} (n_ : Int) (low : Int) (q26 : Int) (k_ : Bool → Option R) : Option R := (br (leI low n_) (k_ (leI n_ q26)) (k_ Bool.false))
noncomputable def zdf (n_ : Int) (low : Int) (q26 : Int) : Option (Bool) := zdr n_ low q26 (fun c0_ => some c0_)
theorem zm7 {R R' : Type} (o : Option R → Option R') (h0 : o none = none) (n_ : Int) (low : Int) (q26 : Int) (k_ : Bool → Option R) : zdr n_ low q26 (fun c0_ => o (k_ c0_)) = o (zdr n_ low q26 k_) := by
  unfold zdr
  repeat (first | refine grd_out h0 ?_ | refine br_out ?_ ?_ | rfl | exact h0.symm)
noncomputable def zf4 (n_ : Int) (low : Int) (q26 : Int) : Bool := (zdf n_ low q26).isSome
noncomputable def zee (n_ : Int) (low : Int) (q26 : Int) : Bool := ((zdf n_ low q26).getD default)
theorem zjz {n_ : Int} {low : Int} {q26 : Int} {r : Bool} (h : zdf n_ low q26 = some r) : zf4 n_ low q26 = true ∧ zee n_ low q26 = r := by
  unfold zf4 zee
  rw [h]
  exact ⟨rfl, rfl⟩
noncomputable def zbo {R : Type} (n_ : Int) (low : Int) (q26 : Int) (k_ : Bool → Option R) : Option R := (br (leI low n_) (k_ (leI n_ q26)) (k_ Bool.false))
noncomputable def zbk (n_ : Int) (low : Int) (q26 : Int) : Option (Bool) := zbo n_ low q26 (fun c0_ => some c0_)
theorem zkz {R R' : Type} (o : Option R → Option R') (h0 : o none = none) (n_ : Int) (low : Int) (q26 : Int) (k_ : Bool → Option R) : zbo n_ low q26 (fun c0_ => o (k_ c0_)) = o (zbo n_ low q26 k_) := by
  unfold zbo
  repeat (first | refine grd_out h0 ?_ | refine br_out ?_ ?_ | rfl | exact h0.symm)
noncomputable def zed (n_ : Int) (low : Int) (q26 : Int) : Bool := (zbk n_ low q26).isSome
noncomputable def zdo (n_ : Int) (low : Int) (q26 : Int) : Bool := ((zbk n_ low q26).getD default)
theorem zix {n_ : Int} {low : Int} {q26 : Int} {r : Bool} (h : zbk n_ low q26 = some r) : zed n_ low q26 = true ∧ zdo n_ low q26 = r := by
  unfold zed zdo
  rw [h]
  exact ⟨rfl, rfl⟩
noncomputable def z8z {R : Type} (a_n : Nat) (a : List Nat) (q1r : Int) (k_ : Int → Option R) : Option R := (br (ltI (subI IntKind.i64 q1r (Int.ofNat a_n)) 0) (k_ (Int.negSucc 0)) (k_ (subI IntKind.i64 q1r (Int.ofNat a_n))))
noncomputable def z8q (a_n : Nat) (a : List Nat) (q1r : Int) : Option (Int) := z8z a_n a q1r (fun c0_ => some c0_)
theorem zj0 {R R' : Type} (o : Option R → Option R') (h0 : o none = none) (a_n : Nat) (a : List Nat) (q1r : Int) (k_ : Int → Option R) : z8z a_n a q1r (fun c0_ => o (k_ c0_)) = o (z8z a_n a q1r k_) := by
  unfold z8z
  repeat (first | refine grd_out h0 ?_ | refine br_out ?_ ?_ | rfl | exact h0.symm)
noncomputable def zct (a_n : Nat) (a : List Nat) (q1r : Int) : Bool := (z8q a_n a q1r).isSome
noncomputable def z9w (a_n : Nat) (a : List Nat) (q1r : Int) : Int := ((z8q a_n a q1r).getD default)
theorem zkb {a_n : Nat} {a : List Nat} {q1r : Int} {r : Int} (h : z8q a_n a q1r = some r) : zct a_n a q1r = true ∧ z9w a_n a q1r = r := by
  unfold zct z9w
  rw [h]
  exact ⟨rfl, rfl⟩
noncomputable def zan {R : Type} (x : Nat) (k_ : Bool → Option R) : Option R := (br (fcmp BinOp.geq FloatKind.f32 x 981668463) (k_ (fcmp BinOp.leq FloatKind.f32 x 1048508891)) (k_ Bool.false))
noncomputable def zau (x : Nat) : Option (Bool) := zan x (fun c0_ => some c0_)
theorem zks {R R' : Type} (o : Option R → Option R') (h0 : o none = none) (x : Nat) (k_ : Bool → Option R) : zan x (fun c0_ => o (k_ c0_)) = o (zan x k_) := by
  unfold zan
  repeat (first | refine grd_out h0 ?_ | refine br_out ?_ ?_ | rfl | exact h0.symm)
noncomputable def zfh (x : Nat) : Bool := (zau x).isSome
noncomputable def zel (x : Nat) : Bool := ((zau x).getD default)
theorem zmu {x : Nat} {r : Bool} (h : zau x = some r) : zfh x = true ∧ zel x = r := by
  unfold zfh zel
  rw [h]
  exact ⟨rfl, rfl⟩
noncomputable def zbj {R : Type} (q04 : Nat) (q07 : List Nat) (q06 : Nat) (q0a : List Nat) (q05 : Nat) (q09 : List Nat) (q0d : Nat) (q0i : List Nat) (q0r : Int) (q18 : Nat) (q14 : Nat) (i : Int) (q2s : Nat) (k_ : Nat → Option R) : Option R := (grd (okIx i q0d) (k_ (fop BinOp.quo FloatKind.f32 (fop BinOp.quo FloatKind.f32 (fop BinOp.mul FloatKind.f32 (fOI FloatKind.f32 q0r) (fop BinOp.sub FloatKind.f32 q14 (gF q0i (ixO 0 i 3)))) (fop BinOp.mul FloatKind.f32 1073741824 (gF q0i (ixO 0 i 3)))) (fop BinOp.add FloatKind.f32 (fop BinOp.quo FloatKind.f32 (fop BinOp.mul FloatKind.f32 (fOI FloatKind.f32 q0r) (fop BinOp.sub FloatKind.f32 q14 (gF q0i (ixO 0 i 3)))) (fop BinOp.mul FloatKind.f32 1073741824 (gF q0i (ixO 0 i 3)))) q2s))))
noncomputable def zbp (q04 : Nat) (q07 : List Nat) (q06 : Nat) (q0a : List Nat) (q05 : Nat) (q09 : List Nat) (q0d : Nat) (q0i : List Nat) (q0r : Int) (q18 : Nat) (q14 : Nat) (i : Int) (q2s : Nat) : Option (Nat) := zbj q04 q07 q06 q0a q05 q09 q0d q0i q0r q18 q14 i q2s (fun c0_ => some c0_)
theorem zlm {R R' : Type} (o : Option R → Option R') (h0 : o none = none) (q04 : Nat) (q07 : List Nat) (q06 : Nat) (q0a : List Nat) (q05 : Nat) (q09 : List Nat) (q0d : Nat) (q0i : List Nat) (q0r : Int) (q18 : Nat) (q14 : Nat) (i : Int) (q2s : Nat) (k_ : Nat → Option R) : zbj q04 q07 q06 q0a q05 q09 q0d q0i q0r q18 q14 i q2s (fun c0_ => o (k_ c0_)) = o (zbj q04 q07 q06 q0a q05 q09 q0d q0i q0r q18 q14 i q2s k_) := by
  unfold zbj
  repeat (first | refine grd_out h0 ?_ | refine br_out ?_ ?_ | rfl | exact h0.symm)
noncomputable def zfu (q04 : Nat) (q07 : List Nat) (q06 : Nat) (q0a : List Nat) (q05 : Nat) (q09 : List Nat) (q0d : Nat) (q0i : List Nat) (q0r : Int) (q18 : Nat) (q14 : Nat) (i : Int) (q2s : Nat) : Bool := (zbp q04 q07 q06 q0a q05 q09 q0d q0i q0r q18 q14 i q2s).isSome
noncomputable def zat (q04 : Nat) (q07 : List Nat) (q06 : Nat) (q0a : List Nat) (q05 : Nat) (q09 : List Nat) (q0d : Nat) (q0i : List Nat) (q0r : Int) (q18 : Nat) (q14 : Nat) (i : Int) (q2s : Nat) : Nat := ((zbp q04 q07 q06 q0a q05 q09 q0d q0i q0r q18 q14 i q2s).getD default)
theorem zn5 {q04 : Nat} {q07 : List Nat} {q06 : Nat} {q0a : List Nat} {q05 : Nat} {q09 : List Nat} {q0d : Nat} {q0i : List Nat} {q0r : Int} {q18 : Nat} {q14 : Nat} {i : Int} {q2s : Nat} {r : Nat} (h : zbp q04 q07 q06 q0a q05 q09 q0d q0i q0r q18 q14 i q2s = some r) : zfu q04 q07 q06 q0a q05 q09 q0d q0i q0r q18 q14 i q2s = true ∧ zat q04 q07 q06 q0a q05 q09 q0d q0i q0r q18 q14 i q2s = r := by
  unfold zfu zat
  rw [h]
  exact ⟨rfl, rfl⟩
noncomputable def za6 {R : Type} (x : Nat) (low : Nat) (q26 : Nat) (k_ : Bool → Option R) : Option R := (br (fcmp BinOp.geq FloatKind.f32 x low) (k_ (fcmp BinOp.leq FloatKind.f32 x q26)) (k_ Bool.false))
noncomputable def za7 (x : Nat) (low : Nat) (q26 : Nat) : Option (Bool) := za6 x low q26 (fun c0_ => some c0_)
theorem zk4 {R R' : Type} (o : Option R → Option R') (h0 : o none = none) (x : Nat) (low : Nat) (q26 : Nat) (k_ : Bool → Option R) : za6 x low q26 (fun c0_ => o (k_ c0_)) = o (za6 x low q26 k_) := by
  unfold za6
  repeat (first | refine grd_out h0 ?_ | refine br_out ?_ ?_ | rfl | exact h0.symm)
noncomputable def zc4 (x : Nat) (low : Nat) (q26 : Nat) : Bool := (za7 x low q26).isSome
noncomputable def zax (x : Nat) (low : Nat) (q26 : Nat) : Bool := ((za7 x low q26).getD default)
theorem zha {x : Nat} {low : Nat} {q26 : Nat} {r : Bool} (h : za7 x low q26 = some r) : zc4 x low q26 = true ∧ zax x low q26 = r := by
  unfold zc4 zax
  rw [h]
  exact ⟨rfl, rfl⟩
noncomputable def z9a {R : Type} (x : Nat) (k_ : Nat → Option R) : Option R := (grd (fcvB FloatKind.f64 FloatKind.f32 x) (k_ (fcvV FloatKind.f64 FloatKind.f32 x)))
noncomputable def z9o (x : Nat) : Option (Nat) := z9a x (fun c0_ => some c0_)
theorem zjt {R R' : Type} (o : Option R → Option R') (h0 : o none = none) (x : Nat) (k_ : Nat → Option R) : z9a x (fun c0_ => o (k_ c0_)) = o (z9a x k_) := by
  unfold z9a
  repeat (first | refine grd_out h0 ?_ | refine br_out ?_ ?_ | rfl | exact h0.symm)
noncomputable def zea (x : Nat) : Bool := (z9o x).isSome
noncomputable def zcs (x : Nat) : Nat := ((z9o x).getD default)
theorem zln {x : Nat} {r : Nat} (h : z9o x = some r) : zea x = true ∧ zcs x = r := by
  unfold zea zcs
  rw [h]
  exact ⟨rfl, rfl⟩
noncomputable def zfd {R : Type}  (k_ : Nat → Option R) : Option R := (grd (okU FloatKind.f64 9221120237041090561) (k_ (cnI FloatKind.f64 9221120237041090561)))
noncomputable def zf9  : Option (Nat) := zfd (fun c0_ => some c0_)
theorem zn1 {R R' : Type} (o : Option R → Option R') (h0 : o none = none)  (k_ : Nat → Option R) : zfd (fun c0_ => o (k_ c0_)) = o (zfd k_) := by
  unfold zfd
  repeat (first | refine grd_out h0 ?_ | refine br_out ?_ ?_ | rfl | exact h0.symm)
noncomputable def zfx  : Bool := (zf9).isSome
noncomputable def zei  : Nat := ((zf9).getD default)
theorem zlr  {r : Nat} (h : zf9 = some r) : zfx = true ∧ zei = r := by
  unfold zfx zei
  rw [h]
  exact ⟨rfl, rfl⟩
noncomputable def zf8 {R : Type} (x : Nat) (k_ : Nat → Option R) : Option R := (grd (bnot (nanQ FloatKind.f64 x)) (grd (okU FloatKind.f64 (bitI BinOp.andNot IntKind.u64 (Int.ofNat x) 9223372036854775808)) (k_ (cnI FloatKind.f64 (bitI BinOp.andNot IntKind.u64 (Int.ofNat x) 9223372036854775808)))))
noncomputable def zfb (x : Nat) : Option (Nat) := zf8 x (fun c0_ => some c0_)
theorem zn7 {R R' : Type} (o : Option R → Option R') (h0 : o none = none) (x : Nat) (k_ : Nat → Option R) : zf8 x (fun c0_ => o (k_ c0_)) = o (zf8 x k_) := by
  unfold zf8
  repeat (first | refine grd_out h0 ?_ | refine br_out ?_ ?_ | rfl | exact h0.symm)
noncomputable def zgu (x : Nat) : Bool := (zfb x).isSome
noncomputable def zg7 (x : Nat) : Nat := ((zfb x).getD default)
theorem znp {x : Nat} {r : Nat} (h : zfb x = some r) : zgu x = true ∧ zg7 x = r := by
  unfold zgu zg7
  rw [h]
  exact ⟨rfl, rfl⟩
noncomputable def z9e {R : Type} (q0u : Nat) (q19 : List Nat) (q10 : Nat) (q1c : List Nat) (q13 : Nat) (q1g : List Nat) (q1r : Int) (k_ : Int → Option R) : Option R := (grd (z8r q0u (pF q19 0 (muN q0u 1)) q1r) (br (ltI (z4z q0u (pF q19 0 (muN q0u 1)) q1r) 0) (k_ (Int.negSucc 0)) (grd (z8r q10 (pF q1c 0 (muN q10 1)) (z4z q0u (pF q19 0 (muN q0u 1)) q1r)) (br (ltI (z4z q10 (pF q1c 0 (muN q10 1)) (z4z q0u (pF q19 0 (muN q0u 1)) q1r)) 0) (k_ (Int.negSucc 0)) (grd (z8r q13 (pF q1g 0 (muN q13 1)) (z4z q10 (pF q1c 0 (muN q10 1)) (z4z q0u (pF q19 0 (muN q0u 1)) q1r))) (br (ltI (z4z q13 (pF q1g 0 (muN q13 1)) (z4z q10 (pF q1c 0 (muN q10 1)) (z4z q0u (pF q19 0 (muN q0u 1)) q1r))) 0) (k_ (Int.negSucc 0)) (k_ (z4z q13 (pF q1g 0 (muN q13 1)) (z4z q10 (pF q1c 0 (muN q10 1)) (z4z q0u (pF q19 0 (muN q0u 1)) q1r))))))))))
noncomputable def z98 (q0u : Nat) (q19 : List Nat) (q10 : Nat) (q1c : List Nat) (q13 : Nat) (q1g : List Nat) (q1r : Int) : Option (Int) := z9e q0u q19 q10 q1c q13 q1g q1r (fun c0_ => some c0_)
theorem zj7 {R R' : Type} (o : Option R → Option R') (h0 : o none = none) (q0u : Nat) (q19 : List Nat) (q10 : Nat) (q1c : List Nat) (q13 : Nat) (q1g : List Nat) (q1r : Int) (k_ : Int → Option R) : z9e q0u q19 q10 q1c q13 q1g q1r (fun c0_ => o (k_ c0_)) = o (z9e q0u q19 q10 q1c q13 q1g q1r k_) := by
  unfold z9e
  repeat (first | refine grd_out h0 ?_ | refine br_out ?_ ?_ | rfl | exact h0.symm)
noncomputable def ze6 (q0u : Nat) (q19 : List Nat) (q10 : Nat) (q1c : List Nat) (q13 : Nat) (q1g : List Nat) (q1r : Int) : Bool := (z98 q0u q19 q10 q1c q13 q1g q1r).isSome
noncomputable def z7f (q0u : Nat) (q19 : List Nat) (q10 : Nat) (q1c : List Nat) (q13 : Nat) (q1g : List Nat) (q1r : Int) : Int := ((z98 q0u q19 q10 q1c q13 q1g q1r).getD default)
theorem zld {q0u : Nat} {q19 : List Nat} {q10 : Nat} {q1c : List Nat} {q13 : Nat} {q1g : List Nat} {q1r : Int} {r : Int} (h : z98 q0u q19 q10 q1c q13 q1g q1r = some r) : ze6 q0u q19 q10 q1c q13 q1g q1r = true ∧ z7f q0u q19 q10 q1c q13 q1g q1r = r := by
  unfold ze6 z7f
  rw [h]
  exact ⟨rfl, rfl⟩
noncomputable def zam {R : Type} (x : Nat) (k_ : Nat → Bool → Option R) : Option R := (grd (z6k x) (br (bnot (z6c x)) (k_ 0 Bool.false) (k_ x Bool.true)))
noncomputable def z99 (x : Nat) : Option (Nat × Bool) := zam x (fun c0_ c1_ => some (c0_, c1_))
theorem zkh {R R' : Type} (o : Option R → Option R') (h0 : o none = none) (x : Nat) (k_ : Nat → Bool → Option R) : zam x (fun c0_ c1_ => o (k_ c0_ c1_)) = o (zam x k_) := by
  unfold zam
  repeat (first | refine grd_out h0 ?_ | refine br_out ?_ ?_ | rfl | exact h0.symm)
noncomputable def zfe (x : Nat) : Bool := (z99 x).isSome
noncomputable def zes (x : Nat) : Nat := ((z99 x).getD default).1
noncomputable def zem (x : Nat) : Bool := ((z99 x).getD default).2
theorem zmk {x : Nat} {r : Nat × Bool} (h : z99 x = some r) : zfe x = true ∧ zes x = r.1 ∧ zem x = r.2 := by
  unfold zfe zes zem
  rw [h]
  exact ⟨rfl, rfl, rfl⟩
noncomputable def z9g {R : Type} (x : Nat) (k_ : Nat → Bool → Option R) : Option R := (grd (z5z x) (br (bnot (z5o x)) (k_ 0 Bool.false) (k_ x Bool.true)))
noncomputable def z7v (x : Nat) : Option (Nat × Bool) := z9g x (fun c0_ c1_ => some (c0_, c1_))
theorem zjb {R R' : Type} (o : Option R → Option R') (h0 : o none = none) (x : Nat) (k_ : Nat → Bool → Option R) : z9g x (fun c0_ c1_ => o (k_ c0_ c1_)) = o (z9g x k_) := by
  unfold z9g
  repeat (first | refine grd_out h0 ?_ | refine br_out ?_ ?_ | rfl | exact h0.symm)
noncomputable def ze4 (x : Nat) : Bool := (z7v x).isSome
noncomputable def zcz (x : Nat) : Nat := ((z7v x).getD default).1
noncomputable def zd5 (x : Nat) : Bool := ((z7v x).getD default).2
theorem zl5 {x : Nat} {r : Nat × Bool} (h : z7v x = some r) : ze4 x = true ∧ zcz x = r.1 ∧ zd5 x = r.2 := by
  unfold ze4 zcz zd5
  rw [h]
  exact ⟨rfl, rfl, rfl⟩
noncomputable def z6w {R : Type} (q04 : Nat) (q07 : List Nat) (q06 : Nat) (q0a : List Nat) (q05 : Nat) (q09 : List Nat) (q0d : Nat) (q0i : List Nat) (q0r : Int) (q18 : Nat) (q14 : Nat) (i : Int) (k_ : Bool → Option R) : Option R := (grd (zed i 0 (subI IntKind.i64 (Int.ofNat q0d) 1)) (k_ (zdo i 0 (subI IntKind.i64 (Int.ofNat q0d) 1))))
noncomputable def z6v (q04 : Nat) (q07 : List Nat) (q06 : Nat) (q0a : List Nat) (q05 : Nat) (q09 : List Nat) (q0d : Nat) (q0i : List Nat) (q0r : Int) (q18 : Nat) (q14 : Nat) (i : Int) : Option (Bool) := z6w q04 q07 q06 q0a q05 q09 q0d q0i q0r q18 q14 i (fun c0_ => some c0_)
theorem zgd {R R' : Type} (o : Option R → Option R') (h0 : o none = none) (q04 : Nat) (q07 : List Nat) (q06 : Nat) (q0a : List Nat) (q05 : Nat) (q09 : List Nat) (q0d : Nat) (q0i : List Nat) (q0r : Int) (q18 : Nat) (q14 : Nat) (i : Int) (k_ : Bool → Option R) : z6w q04 q07 q06 q0a q05 q09 q0d q0i q0r q18 q14 i (fun c0_ => o (k_ c0_)) = o (z6w q04 q07 q06 q0a q05 q09 q0d q0i q0r q18 q14 i k_) := by
  unfold z6w
  repeat (first | refine grd_out h0 ?_ | refine br_out ?_ ?_ | rfl | exact h0.symm)
noncomputable def z9r (q04 : Nat) (q07 : List Nat) (q06 : Nat) (q0a : List Nat) (q05 : Nat) (q09 : List Nat) (q0d : Nat) (q0i : List Nat) (q0r : Int) (q18 : Nat) (q14 : Nat) (i : Int) : Bool := (z6v q04 q07 q06 q0a q05 q09 q0d q0i q0r q18 q14 i).isSome
noncomputable def z94 (q04 : Nat) (q07 : List Nat) (q06 : Nat) (q0a : List Nat) (q05 : Nat) (q09 : List Nat) (q0d : Nat) (q0i : List Nat) (q0r : Int) (q18 : Nat) (q14 : Nat) (i : Int) : Bool := ((z6v q04 q07 q06 q0a q05 q09 q0d q0i q0r q18 q14 i).getD default)
theorem zho {q04 : Nat} {q07 : List Nat} {q06 : Nat} {q0a : List Nat} {q05 : Nat} {q09 : List Nat} {q0d : Nat} {q0i : List Nat} {q0r : Int} {q18 : Nat} {q14 : Nat} {i : Int} {r : Bool} (h : z6v q04 q07 q06 q0a q05 q09 q0d q0i q0r q18 q14 i = some r) : z9r q04 q07 q06 q0a q05 q09 q0d q0i q0r q18 q14 i = true ∧ z94 q04 q07 q06 q0a q05 q09 q0d q0i q0r q18 q14 i = r := by
  unfold z9r z94
  rw [h]
  exact ⟨rfl, rfl⟩
noncomputable def zbm {R : Type} (q1o : Nat) (k_ : Bool → Option R) : Option R := (grd (zc4 q1o 981668463 1048508891) (k_ (zax q1o 981668463 1048508891)))
noncomputable def zbn (q1o : Nat) : Option (Bool) := zbm q1o (fun c0_ => some c0_)
theorem zlj {R R' : Type} (o : Option R → Option R') (h0 : o none = none) (q1o : Nat) (k_ : Bool → Option R) : zbm q1o (fun c0_ => o (k_ c0_)) = o (zbm q1o k_) := by
  unfold zbm
  repeat (first | refine grd_out h0 ?_ | refine br_out ?_ ?_ | rfl | exact h0.symm)
noncomputable def zft (q1o : Nat) : Bool := (zbn q1o).isSome
noncomputable def zfa (q1o : Nat) : Bool := ((zbn q1o).getD default)
theorem zn9 {q1o : Nat} {r : Bool} (h : zbn q1o = some r) : zft q1o = true ∧ zfa q1o = r := by
  unfold zft zfa
  rw [h]
  exact ⟨rfl, rfl⟩
noncomputable def z9y {R : Type} (x : Nat) (k_ : Bool → Option R) : Option R := (grd (z5z x) (br (z5o x) (k_ (fcmp BinOp.geq FloatKind.f32 x 0)) (k_ Bool.false)))
noncomputable def za5 (x : Nat) : Option (Bool) := z9y x (fun c0_ => some c0_)
theorem zk2 {R R' : Type} (o : Option R → Option R') (h0 : o none = none) (x : Nat) (k_ : Bool → Option R) : z9y x (fun c0_ => o (k_ c0_)) = o (z9y x k_) := by
  unfold z9y
  repeat (first | refine grd_out h0 ?_ | refine br_out ?_ ?_ | rfl | exact h0.symm)
noncomputable def z7l (x : Nat) : Bool := (za5 x).isSome
noncomputable def z74 (x : Nat) : Bool := ((za5 x).getD default)
theorem zh9 {x : Nat} {r : Bool} (h : za5 x = some r) : z7l x = true ∧ z74 x = r := by
  unfold z7l z74
  rw [h]
  exact ⟨rfl, rfl⟩
noncomputable def z9l {R : Type} (q1x : Nat) (q22 : Nat) (q23 : Nat) (q2d : Nat) (q2k : Nat) (q2l : Nat) (k_ : Bool → Option R) : Option R := (grd (z6n (fcvV FloatKind.f32 FloatKind.f64 q1x) (fcvV FloatKind.f32 FloatKind.f64 q2d)) (br (bnot (z6g (fcvV FloatKind.f32 FloatKind.f64 q1x) (fcvV FloatKind.f32 FloatKind.f64 q2d))) (k_ Bool.false) (grd (z6n (fcvV FloatKind.f32 FloatKind.f64 q22) (fcvV FloatKind.f32 FloatKind.f64 q2k)) (br (bnot (z6g (fcvV FloatKind.f32 FloatKind.f64 q22) (fcvV FloatKind.f32 FloatKind.f64 q2k))) (k_ Bool.false) (grd (z6n (fcvV FloatKind.f32 FloatKind.f64 q23) (fcvV FloatKind.f32 FloatKind.f64 q2l)) (br (bnot (z6g (fcvV FloatKind.f32 FloatKind.f64 q23) (fcvV FloatKind.f32 FloatKind.f64 q2l))) (k_ Bool.false) (k_ Bool.true)))))))
noncomputable def z9j (q1x : Nat) (q22 : Nat) (q23 : Nat) (q2d : Nat) (q2k : Nat) (q2l : Nat) : Option (Bool) := z9l q1x q22 q23 q2d q2k q2l (fun c0_ => some c0_)
theorem zje {R R' : Type} (o : Option R → Option R') (h0 : o none = none) (q1x : Nat) (q22 : Nat) (q23 : Nat) (q2d : Nat) (q2k : Nat) (q2l : Nat) (k_ : Bool → Option R) : z9l q1x q22 q23 q2d q2k q2l (fun c0_ => o (k_ c0_)) = o (z9l q1x q22 q23 q2d q2k q2l k_) := by
  unfold z9l
  repeat (first | refine grd_out h0 ?_ | refine br_out ?_ ?_ | rfl | exact h0.symm)
noncomputable def ze9 (q1x : Nat) (q22 : Nat) (q23 : Nat) (q2d : Nat) (q2k : Nat) (q2l : Nat) : Bool := (z9j q1x q22 q23 q2d q2k q2l).isSome
noncomputable def zd7 (q1x : Nat) (q22 : Nat) (q23 : Nat) (q2d : Nat) (q2k : Nat) (q2l : Nat) : Bool := ((z9j q1x q22 q23 q2d q2k q2l).getD default)
theorem zl6 {q1x : Nat} {q22 : Nat} {q23 : Nat} {q2d : Nat} {q2k : Nat} {q2l : Nat} {r : Bool} (h : z9j q1x q22 q23 q2d q2k q2l = some r) : ze9 q1x q22 q23 q2d q2k q2l = true ∧ zd7 q1x q22 q23 q2d q2k q2l = r := by
  unfold ze9 zd7
  rw [h]
  exact ⟨rfl, rfl⟩
noncomputable def zaj {R : Type} (x : Nat) (k_ : Bool → Option R) : Option R := (grd (z6k x) (br (z6c x) (k_ (fcmp BinOp.geq FloatKind.f32 x 0)) (k_ Bool.false)))
noncomputable def zaq (x : Nat) : Option (Bool) := zaj x (fun c0_ => some c0_)
theorem zko {R R' : Type} (o : Option R → Option R') (h0 : o none = none) (x : Nat) (k_ : Bool → Option R) : zaj x (fun c0_ => o (k_ c0_)) = o (zaj x k_) := by
  unfold zaj
  repeat (first | refine grd_out h0 ?_ | refine br_out ?_ ?_ | rfl | exact h0.symm)
noncomputable def zde (x : Nat) : Bool := (zaq x).isSome
noncomputable def zc1 (x : Nat) : Bool := ((zaq x).getD default)
theorem zht {x : Nat} {r : Bool} (h : zaq x = some r) : zde x = true ∧ zc1 x = r := by
  unfold zde zc1
  rw [h]
  exact ⟨rfl, rfl⟩
noncomputable def za0 {R : Type} (x : Nat) (k_ : Bool → Option R) : Option R := (grd (z5z x) (br (z5o x) (k_ (fcmp BinOp.gtr FloatKind.f32 x 0)) (k_ Bool.false)))
noncomputable def za2 (x : Nat) : Option (Bool) := za0 x (fun c0_ => some c0_)
theorem zk1 {R R' : Type} (o : Option R → Option R') (h0 : o none = none) (x : Nat) (k_ : Bool → Option R) : za0 x (fun c0_ => o (k_ c0_)) = o (za0 x k_) := by
  unfold za0
  repeat (first | refine grd_out h0 ?_ | refine br_out ?_ ?_ | rfl | exact h0.symm)
noncomputable def zeu (x : Nat) : Bool := (za2 x).isSome
noncomputable def zeb (x : Nat) : Bool := ((za2 x).getD default)
theorem zm0 {x : Nat} {r : Bool} (h : za2 x = some r) : zeu x = true ∧ zeb x = r := by
  unfold zeu zeb
  rw [h]
  exact ⟨rfl, rfl⟩
noncomputable def z82 {R : Type} (x : Nat) (k_ : Bool → Option R) : Option R := (grd (z6k x) (k_ (bnot (z6c x))))
noncomputable def z7x (x : Nat) : Option (Bool) := z82 x (fun c0_ => some c0_)
theorem zhx {R R' : Type} (o : Option R → Option R') (h0 : o none = none) (x : Nat) (k_ : Bool → Option R) : z82 x (fun c0_ => o (k_ c0_)) = o (z82 x k_) := by
  unfold z82
  repeat (first | refine grd_out h0 ?_ | refine br_out ?_ ?_ | rfl | exact h0.symm)
noncomputable def zc8 (x : Nat) : Bool := (z7x x).isSome
noncomputable def zb3 (x : Nat) : Bool := ((z7x x).getD default)
theorem zk8 {x : Nat} {r : Bool} (h : z7x x = some r) : zc8 x = true ∧ zb3 x = r := by
  unfold zc8 zb3
  rw [h]
  exact ⟨rfl, rfl⟩
noncomputable def z78 {R : Type} (x : Nat) (k_ : Bool → Option R) : Option R := (grd (z6k x) (br (bnot (z6c x)) (k_ Bool.true) (k_ (fcmp BinOp.leq FloatKind.f32 x 0))))
noncomputable def z7a (x : Nat) : Option (Bool) := z78 x (fun c0_ => some c0_)
theorem zhh {R R' : Type} (o : Option R → Option R') (h0 : o none = none) (x : Nat) (k_ : Bool → Option R) : z78 x (fun c0_ => o (k_ c0_)) = o (z78 x k_) := by
  unfold z78
  repeat (first | refine grd_out h0 ?_ | refine br_out ?_ ?_ | rfl | exact h0.symm)
noncomputable def zae (x : Nat) : Bool := (z7a x).isSome
noncomputable def z9z (x : Nat) : Bool := ((z7a x).getD default)
theorem zj2 {x : Nat} {r : Bool} (h : z7a x = some r) : zae x = true ∧ z9z x = r := by
  unfold zae z9z
  rw [h]
  exact ⟨rfl, rfl⟩
noncomputable def zbl {R : Type} (x : Nat) (k_ : Bool → Option R) : Option R := (grd (zgu x) (k_ (fcmp BinOp.geq FloatKind.f64 (zg7 x) 4841369599423283200)))
noncomputable def zbq (x : Nat) : Option (Bool) := zbl x (fun c0_ => some c0_)
theorem zla {R R' : Type} (o : Option R → Option R') (h0 : o none = none) (x : Nat) (k_ : Bool → Option R) : zbl x (fun c0_ => o (k_ c0_)) = o (zbl x k_) := by
  unfold zbl
  repeat (first | refine grd_out h0 ?_ | refine br_out ?_ ?_ | rfl | exact h0.symm)
noncomputable def zfr (x : Nat) : Bool := (zbq x).isSome
noncomputable def zfg (x : Nat) : Bool := ((zbq x).getD default)
theorem zmy {x : Nat} {r : Bool} (h : zbq x = some r) : zfr x = true ∧ zfg x = r := by
  unfold zfr zfg
  rw [h]
  exact ⟨rfl, rfl⟩
noncomputable def z65 {R : Type} (an : Nat) (q1z : Nat) (b0 : List Nat) (i : Int) (b1 : List Nat) (kn_ : Int → (List Nat) → Option R) (k0_ : Int → Bool → (List Nat) → Option R) : Option R := (br (ltI i (Int.ofNat an)) (grd (okIx i an) (grd (okIx i q1z) (kn_ (addI IntKind.i64 i 1) (sF b1 (ixO 0 i 1) (gF b0 (ixO 0 i 1)))))) (k0_ i (ltI i (Int.ofNat an)) b1))
theorem zhj {R R' : Type} (o : Option R → Option R') (h0 : o none = none) (an : Nat) (q1z : Nat) (b0 : List Nat) (i : Int) (b1 : List Nat) (kn_ : Int → (List Nat) → Option R) (k0_ : Int → Bool → (List Nat) → Option R) : z65 an q1z b0 i b1 (fun i' b1' => o (kn_ i' b1')) (fun c0_ c1_ c2_ => o (k0_ c0_ c1_ c2_)) = o (z65 an q1z b0 i b1 kn_ k0_) := by
  unfold z65
  repeat (first | refine grd_out h0 ?_ | refine br_out ?_ ?_ | rfl | exact h0.symm)
noncomputable def z5c (an : Nat) (q1z : Nat) (b0 : List Nat) : Nat → Int → (List Nat) → Option ((Int × Bool × (List Nat)))
  | 0, _, _ => none
  | n + 1, i, b1 => z65 an q1z b0  i b1  (fun i' b1' => z5c an q1z b0 n i' b1') (fun c0_ c1_ c2_ => some (c0_, c1_, c2_))
theorem zep (an : Nat) (q1z : Nat) (b0 : List Nat) (n : Nat) (i : Int) (b1 : List Nat) : z5c an q1z b0 (n + 1) i b1 = z65 an q1z b0  i b1  (fun i' b1' => z5c an q1z b0 n i' b1') (fun c0_ c1_ c2_ => some (c0_, c1_, c2_)) := rfl
noncomputable def z89 (an : Nat) (q1z : Nat) (b0 : List Nat) (i : Int) (b1 : List Nat) : Bool := (z5c an q1z b0 big i b1).isSome
noncomputable def zbd (an : Nat) (q1z : Nat) (b0 : List Nat) (i : Int) (b1 : List Nat) : Int := ((z5c an q1z b0 big i b1).getD default).1
noncomputable def zbe (an : Nat) (q1z : Nat) (b0 : List Nat) (i : Int) (b1 : List Nat) : Bool := ((z5c an q1z b0 big i b1).getD default).2.1
noncomputable def z7e (an : Nat) (q1z : Nat) (b0 : List Nat) (i : Int) (b1 : List Nat) : List Nat := ((z5c an q1z b0 big i b1).getD default).2.2
theorem zib {an : Nat} {q1z : Nat} {b0 : List Nat} {i : Int} {b1 : List Nat} {m : Nat} {r : Int × Bool × (List Nat)} (hm : m = big) (h : z5c an q1z b0 m i b1 = some r) : z89 an q1z b0 i b1 = true ∧ zbd an q1z b0 i b1 = r.1 ∧ zbe an q1z b0 i b1 = r.2.1 ∧ z7e an q1z b0 i b1 = r.2.2 := by
  subst hm
  unfold z89 zbd zbe z7e
  rw [h]
  exact ⟨rfl, rfl, rfl, rfl⟩
noncomputable def zao {R : Type} (q0e : Nat) (q0h : List Nat) (q0g : Nat) (q0l : List Nat) (q0f : Nat) (q0k : List Nat) (q0n : Nat) (q0y : List Nat) (q1b : Int) (q1l : Nat) (q1k : Nat) (q1r : Int) (k_ : Int → Option R) : Option R := (grd (ze6 q0e (pF q0h 0 (muN q0e 1)) q0g (pF q0l 0 (muN q0g 1)) q0f (pF q0k 0 (muN q0f 1)) q1r) (br (ltI (z7f q0e (pF q0h 0 (muN q0e 1)) q0g (pF q0l 0 (muN q0g 1)) q0f (pF q0k 0 (muN q0f 1)) q1r) 0) (k_ (Int.negSucc 0)) (grd (zct q0n (pF q0y 0 (muN q0n 3)) (z7f q0e (pF q0h 0 (muN q0e 1)) q0g (pF q0l 0 (muN q0g 1)) q0f (pF q0k 0 (muN q0f 1)) q1r)) (br (ltI (z9w q0n (pF q0y 0 (muN q0n 3)) (z7f q0e (pF q0h 0 (muN q0e 1)) q0g (pF q0l 0 (muN q0g 1)) q0f (pF q0k 0 (muN q0f 1)) q1r)) 0) (k_ (Int.negSucc 0)) (k_ (z9w q0n (pF q0y 0 (muN q0n 3)) (z7f q0e (pF q0h 0 (muN q0e 1)) q0g (pF q0l 0 (muN q0g 1)) q0f (pF q0k 0 (muN q0f 1)) q1r)))))))
noncomputable def zap (q0e : Nat) (q0h : List Nat) (q0g : Nat) (q0l : List Nat) (q0f : Nat) (q0k : List Nat) (q0n : Nat) (q0y : List Nat) (q1b : Int) (q1l : Nat) (q1k : Nat) (q1r : Int) : Option (Int) := zao q0e q0h q0g q0l q0f q0k q0n q0y q1b q1l q1k q1r (fun c0_ => some c0_)
theorem zkk {R R' : Type} (o : Option R → Option R') (h0 : o none = none) (q0e : Nat) (q0h : List Nat) (q0g : Nat) (q0l : List Nat) (q0f : Nat) (q0k : List Nat) (q0n : Nat) (q0y : List Nat) (q1b : Int) (q1l : Nat) (q1k : Nat) (q1r : Int) (k_ : Int → Option R) : zao q0e q0h q0g q0l q0f q0k q0n q0y q1b q1l q1k q1r (fun c0_ => o (k_ c0_)) = o (zao q0e q0h q0g q0l q0f q0k q0n q0y q1b q1l q1k q1r k_) := by
  unfold zao
  repeat (first | refine grd_out h0 ?_ | refine br_out ?_ ?_ | rfl | exact h0.symm)
noncomputable def zdn (q0e : Nat) (q0h : List Nat) (q0g : Nat) (q0l : List Nat) (q0f : Nat) (q0k : List Nat) (q0n : Nat) (q0y : List Nat) (q1b : Int) (q1l : Nat) (q1k : Nat) (q1r : Int) : Bool := (zap q0e q0h q0g q0l q0f q0k q0n q0y q1b q1l q1k q1r).isSome
noncomputable def zbx (q0e : Nat) (q0h : List Nat) (q0g : Nat) (q0l : List Nat) (q0f : Nat) (q0k : List Nat) (q0n : Nat) (q0y : List Nat) (q1b : Int) (q1l : Nat) (q1k : Nat) (q1r : Int) : Int := ((zap q0e q0h q0g q0l q0f q0k q0n q0y q1b q1l q1k q1r).getD default)
theorem zmx {q0e : Nat} {q0h : List Nat} {q0g : Nat} {q0l : List Nat} {q0f : Nat} {q0k : List Nat} {q0n : Nat} {q0y : List Nat} {q1b : Int} {q1l : Nat} {q1k : Nat} {q1r : Int} {r : Int} (h : zap q0e q0h q0g q0l q0f q0k q0n q0y q1b q1l q1k q1r = some r) : zdn q0e q0h q0g q0l q0f q0k q0n q0y q1b q1l q1k q1r = true ∧ zbx q0e q0h q0g q0l q0f q0k q0n q0y q1b q1l q1k q1r = r := by
  unfold zdn zbx
  rw [h]
  exact ⟨rfl, rfl⟩
noncomputable def z8y {R : Type} (a_n : Nat) (a : List Nat) (k_ : Nat → (List Nat) → Option R) : Option R := (grd (okMk (Int.ofNat a_n) (Int.ofNat a_n) 4) (grd (z89 a_n (toN (Int.ofNat a_n)) a 0 (rF (muN (toN (Int.ofNat a_n)) 1))) (k_ (toN (Int.ofNat a_n)) (z7e a_n (toN (Int.ofNat a_n)) a 0 (rF (muN (toN (Int.ofNat a_n)) 1))))))
noncomputable def z7k (a_n : Nat) (a : List Nat) : Option (Nat × (List Nat)) := z8y a_n a (fun c0_ c1_ => some (c0_, c1_))
theorem zig {R R' : Type} (o : Option R → Option R') (h0 : o none = none) (a_n : Nat) (a : List Nat) (k_ : Nat → (List Nat) → Option R) : z8y a_n a (fun c0_ c1_ => o (k_ c0_ c1_)) = o (z8y a_n a k_) := by
  unfold z8y
  repeat (first | refine grd_out h0 ?_ | refine br_out ?_ ?_ | rfl | exact h0.symm)
noncomputable def z8s (a_n : Nat) (a : List Nat) : Bool := (z7k a_n a).isSome
noncomputable def z7z (a_n : Nat) (a : List Nat) : Nat := ((z7k a_n a).getD default).1
noncomputable def z81 (a_n : Nat) (a : List Nat) : List Nat := ((z7k a_n a).getD default).2
theorem zf0 {a_n : Nat} {a : List Nat} {r : Nat × (List Nat)} (h : z7k a_n a = some r) : z8s a_n a = true ∧ z7z a_n a = r.1 ∧ z81 a_n a = r.2 := by
  unfold z8s z7z z81
  rw [h]
  exact ⟨rfl, rfl, rfl⟩
noncomputable def z92 {R : Type} (x : Nat) (k_ : Bool → Option R) : Option R := (grd (zde x) (k_ (bnot (zc1 x))))
noncomputable def z8t (x : Nat) : Option (Bool) := z92 x (fun c0_ => some c0_)
theorem zir {R R' : Type} (o : Option R → Option R') (h0 : o none = none) (x : Nat) (k_ : Bool → Option R) : z92 x (fun c0_ => o (k_ c0_)) = o (z92 x k_) := by
  unfold z92
  repeat (first | refine grd_out h0 ?_ | refine br_out ?_ ?_ | rfl | exact h0.symm)
noncomputable def zd0 (x : Nat) : Bool := (z8t x).isSome
noncomputable def zc5 (x : Nat) : Bool := ((z8t x).getD default)
theorem zkn {x : Nat} {r : Bool} (h : z8t x = some r) : zd0 x = true ∧ zc5 x = r := by
  unfold zd0 zc5
  rw [h]
  exact ⟨rfl, rfl⟩
noncomputable def zdb {R : Type} (x : Nat) (k_ : Nat → Option R) : Option R := (grd (bnot (nanQ FloatKind.f64 x)) (k_ (fint Ieee.Toward.zero x)))
noncomputable def zdd (x : Nat) : Option (Nat) := zdb x (fun c0_ => some c0_)
theorem zlx {R R' : Type} (o : Option R → Option R') (h0 : o none = none) (x : Nat) (k_ : Nat → Option R) : zdb x (fun c0_ => o (k_ c0_)) = o (zdb x k_) := by
  unfold zdb
  repeat (first | refine grd_out h0 ?_ | refine br_out ?_ ?_ | rfl | exact h0.symm)
noncomputable def zg1 (x : Nat) : Bool := (zdd x).isSome
noncomputable def za8 (x : Nat) : Nat := ((zdd x).getD default)
theorem zni {x : Nat} {r : Nat} (h : zdd x = some r) : zg1 x = true ∧ za8 x = r := by
  unfold zg1 za8
  rw [h]
  exact ⟨rfl, rfl⟩
noncomputable def z62 {R : Type} (an : Nat) (bn : Nat) (b0 : List Nat) (b1 : List Nat) (i : Int) (kn_ : Int → Option R) (k0_ : Unit → Option R) (k1_ : Int → Bool → Option R) : Option R := (br (ltI i (Int.ofNat an)) (grd (okIx i an) (grd (okIx i bn) (grd (z6n (fcvV FloatKind.f32 FloatKind.f64 (gF b0 (ixO 0 i 1))) (fcvV FloatKind.f32 FloatKind.f64 (gF b1 (ixO 0 i 1)))) (br (bnot (z6g (fcvV FloatKind.f32 FloatKind.f64 (gF b0 (ixO 0 i 1))) (fcvV FloatKind.f32 FloatKind.f64 (gF b1 (ixO 0 i 1))))) (k0_ ()) (kn_ (addI IntKind.i64 i 1)))))) (k1_ i (ltI i (Int.ofNat an))))
theorem zh5 {R R' : Type} (o : Option R → Option R') (h0 : o none = none) (an : Nat) (bn : Nat) (b0 : List Nat) (b1 : List Nat) (i : Int) (kn_ : Int → Option R) (k0_ : Unit → Option R) (k1_ : Int → Bool → Option R) : z62 an bn b0 b1 i (fun i' => o (kn_ i')) (fun _ => o (k0_ ())) (fun c0_ c1_ => o (k1_ c0_ c1_)) = o (z62 an bn b0 b1 i kn_ k0_ k1_) := by
  unfold z62
  repeat (first | refine grd_out h0 ?_ | refine br_out ?_ ?_ | rfl | exact h0.symm)
noncomputable def z5e (an : Nat) (bn : Nat) (b0 : List Nat) (b1 : List Nat) : Nat → Int → Option ((Unit) ⊕ (Int × Bool))
  | 0, _ => none
  | n + 1, i => z62 an bn b0 b1  i  (fun i' => z5e an bn b0 b1 n i') (fun _ => some (Sum.inl ())) (fun c0_ c1_ => some (Sum.inr (c0_, c1_)))
theorem zen (an : Nat) (bn : Nat) (b0 : List Nat) (b1 : List Nat) (n : Nat) (i : Int) : z5e an bn b0 b1 (n + 1) i = z62 an bn b0 b1  i  (fun i' => z5e an bn b0 b1 n i') (fun _ => some (Sum.inl ())) (fun c0_ c1_ => some (Sum.inr (c0_, c1_))) := rfl
noncomputable def zaa (an : Nat) (bn : Nat) (b0 : List Nat) (b1 : List Nat) (i : Int) : Bool := (z5e an bn b0 b1 big i).isSome
noncomputable def z9x (an : Nat) (bn : Nat) (b0 : List Nat) (b1 : List Nat) (i : Int) : Bool := oL (z5e an bn b0 b1 big i)
noncomputable def zbi (an : Nat) (bn : Nat) (b0 : List Nat) (b1 : List Nat) (i : Int) : Int := ((tR (z5e an bn b0 b1 big i)).getD default).1
noncomputable def zb4 (an : Nat) (bn : Nat) (b0 : List Nat) (b1 : List Nat) (i : Int) : Bool := ((tR (z5e an bn b0 b1 big i)).getD default).2
theorem zhv {an : Nat} {bn : Nat} {b0 : List Nat} {b1 : List Nat} {i : Int} {m : Nat} {r : Int × Bool} (hm : m = big) (h : z5e an bn b0 b1 m i = some (Sum.inr r)) : zaa an bn b0 b1 i = true ∧ z9x an bn b0 b1 i = false ∧ zbi an bn b0 b1 i = r.1 ∧ zb4 an bn b0 b1 i = r.2 := by
  subst hm
  unfold zaa z9x zbi zb4
  rw [h]
  exact ⟨rfl, rfl, rfl, rfl⟩
noncomputable def z63 {R : Type} (an : Nat) (q1z : Nat) (b0 : List Nat) (i : Int) (b1 : List Nat) (kn_ : Int → (List Nat) → Option R) (k0_ : Int → Bool → (List Nat) → Option R) : Option R := (br (ltI i (Int.ofNat an)) (grd (okIx i an) (grd (zfv (gF b0 (ixO 0 i 3)) (gF b0 (Nat.succ (ixO 0 i 3))) (gF b0 (Nat.succ (Nat.succ (ixO 0 i 3))))) (grd (okIx i q1z) (kn_ (addI IntKind.i64 i 1) (sF (sF (sF b1 (ixO 0 i 3) (gF b0 (ixO 0 i 3))) (Nat.succ (ixO 0 i 3)) (gF b0 (Nat.succ (ixO 0 i 3)))) (Nat.succ (Nat.succ (ixO 0 i 3))) (gF b0 (Nat.succ (Nat.succ (ixO 0 i 3))))))))) (k0_ i (ltI i (Int.ofNat an)) b1))
theorem zh8 {R R' : Type} (o : Option R → Option R') (h0 : o none = none) (an : Nat) (q1z : Nat) (b0 : List Nat) (i : Int) (b1 : List Nat) (kn_ : Int → (List Nat) → Option R) (k0_ : Int → Bool → (List Nat) → Option R) : z63 an q1z b0 i b1 (fun i' b1' => o (kn_ i' b1')) (fun c0_ c1_ c2_ => o (k0_ c0_ c1_ c2_)) = o (z63 an q1z b0 i b1 kn_ k0_) := by
  unfold z63
  repeat (first | refine grd_out h0 ?_ | refine br_out ?_ ?_ | rfl | exact h0.symm)
noncomputable def z4o (an : Nat) (q1z : Nat) (b0 : List Nat) : Nat → Int → (List Nat) → Option ((Int × Bool × (List Nat)))
  | 0, _, _ => none
  | n + 1, i, b1 => z63 an q1z b0  i b1  (fun i' b1' => z4o an q1z b0 n i' b1') (fun c0_ c1_ c2_ => some (c0_, c1_, c2_))
theorem zeo (an : Nat) (q1z : Nat) (b0 : List Nat) (n : Nat) (i : Int) (b1 : List Nat) : z4o an q1z b0 (n + 1) i b1 = z63 an q1z b0  i b1  (fun i' b1' => z4o an q1z b0 n i' b1') (fun c0_ c1_ c2_ => some (c0_, c1_, c2_)) := rfl
noncomputable def z87 (an : Nat) (q1z : Nat) (b0 : List Nat) (i : Int) (b1 : List Nat) : Bool := (z4o an q1z b0 big i b1).isSome
noncomputable def zbf (an : Nat) (q1z : Nat) (b0 : List Nat) (i : Int) (b1 : List Nat) : Int := ((z4o an q1z b0 big i b1).getD default).1
noncomputable def zbc (an : Nat) (q1z : Nat) (b0 : List Nat) (i : Int) (b1 : List Nat) : Bool := ((z4o an q1z b0 big i b1).getD default).2.1
noncomputable def z7d (an : Nat) (q1z : Nat) (b0 : List Nat) (i : Int) (b1 : List Nat) : List Nat := ((z4o an q1z b0 big i b1).getD default).2.2
theorem zi8 {an : Nat} {q1z : Nat} {b0 : List Nat} {i : Int} {b1 : List Nat} {m : Nat} {r : Int × Bool × (List Nat)} (hm : m = big) (h : z4o an q1z b0 m i b1 = some r) : z87 an q1z b0 i b1 = true ∧ zbf an q1z b0 i b1 = r.1 ∧ zbc an q1z b0 i b1 = r.2.1 ∧ z7d an q1z b0 i b1 = r.2.2 := by
  subst hm
  unfold z87 zbf zbc z7d
  rw [h]
  exact ⟨rfl, rfl, rfl, rfl⟩
noncomputable def z5r {R : Type} (t6 : Nat) (t7 : Nat) (t8 : Int) (kn_ : Nat → Int → Option R) (k0_ : Nat → Int → Bool → Option R) : Option R := (br (leI 1 t8) (kn_ (fop BinOp.sub FloatKind.f64 4607182418800017408 (fop BinOp.quo FloatKind.f64 (fop BinOp.mul FloatKind.f64 t6 t7) (fOI FloatKind.f64 (mulI IntKind.i64 (mulI IntKind.i64 2 t8) (addI IntKind.i64 (mulI IntKind.i64 2 t8) 1))))) (subI IntKind.i64 t8 1)) (k0_ t7 t8 (leI 1 t8)))
theorem zgc {R R' : Type} (o : Option R → Option R') (h0 : o none = none) (t6 : Nat) (t7 : Nat) (t8 : Int) (kn_ : Nat → Int → Option R) (k0_ : Nat → Int → Bool → Option R) : z5r t6 t7 t8 (fun t7' t8' => o (kn_ t7' t8')) (fun c0_ c1_ c2_ => o (k0_ c0_ c1_ c2_)) = o (z5r t6 t7 t8 kn_ k0_) := by
  unfold z5r
  repeat (first | refine grd_out h0 ?_ | refine br_out ?_ ?_ | rfl | exact h0.symm)
noncomputable def z4n (t6 : Nat) : Nat → Nat → Int → Option ((Nat × Int × Bool))
  | 0, _, _ => none
  | n + 1, t7, t8 => z5r t6  t7 t8  (fun t7' t8' => z4n t6 n t7' t8') (fun c0_ c1_ c2_ => some (c0_, c1_, c2_))
theorem ze0 (t6 : Nat) (n : Nat) (t7 : Nat) (t8 : Int) : z4n t6 (n + 1) t7 t8 = z5r t6  t7 t8  (fun t7' t8' => z4n t6 n t7' t8') (fun c0_ c1_ c2_ => some (c0_, c1_, c2_)) := rfl
noncomputable def z55 (t6 : Nat) (t7 : Nat) (t8 : Int) : Bool := (z4n t6 big t7 t8).isSome
noncomputable def z3c (t6 : Nat) (t7 : Nat) (t8 : Int) : Nat := ((z4n t6 big t7 t8).getD default).1
noncomputable def zab (t6 : Nat) (t7 : Nat) (t8 : Int) : Int := ((z4n t6 big t7 t8).getD default).2.1
noncomputable def zag (t6 : Nat) (t7 : Nat) (t8 : Int) : Bool := ((z4n t6 big t7 t8).getD default).2.2
theorem zgy {t6 : Nat} {t7 : Nat} {t8 : Int} {m : Nat} {r : Nat × Int × Bool} (hm : m = big) (h : z4n t6 m t7 t8 = some r) : z55 t6 t7 t8 = true ∧ z3c t6 t7 t8 = r.1 ∧ zab t6 t7 t8 = r.2.1 ∧ zag t6 t7 t8 = r.2.2 := by
  subst hm
  unfold z55 z3c zab zag
  rw [h]
  exact ⟨rfl, rfl, rfl, rfl⟩
noncomputable def z9i {R : Type} (q0u : Nat) (q19 : List Nat) (q10 : Nat) (q1c : List Nat) (q13 : Nat) (q1g : List Nat) (k_ : Nat → Nat → Nat → (List Nat) → (List Nat) → (List Nat) → Option R) : Option R := (grd (z8s q0u (pF q19 0 (muN q0u 1))) (grd (z8s q10 (pF q1c 0 (muN q10 1))) (grd (z8s q13 (pF q1g 0 (muN q13 1))) (k_ (z7z q0u (pF q19 0 (muN q0u 1))) (z7z q10 (pF q1c 0 (muN q10 1))) (z7z q13 (pF q1g 0 (muN q13 1))) (z81 q0u (pF q19 0 (muN q0u 1))) (z81 q10 (pF q1c 0 (muN q10 1))) (z81 q13 (pF q1g 0 (muN q13 1)))))))
noncomputable def z6b (q0u : Nat) (q19 : List Nat) (q10 : Nat) (q1c : List Nat) (q13 : Nat) (q1g : List Nat) : Option (Nat × Nat × Nat × (List Nat) × (List Nat) × (List Nat)) := z9i q0u q19 q10 q1c q13 q1g (fun c0_ c1_ c2_ c3_ c4_ c5_ => some (c0_, c1_, c2_, c3_, c4_, c5_))
theorem zji {R R' : Type} (o : Option R → Option R') (h0 : o none = none) (q0u : Nat) (q19 : List Nat) (q10 : Nat) (q1c : List Nat) (q13 : Nat) (q1g : List Nat) (k_ : Nat → Nat → Nat → (List Nat) → (List Nat) → (List Nat) → Option R) : z9i q0u q19 q10 q1c q13 q1g (fun c0_ c1_ c2_ c3_ c4_ c5_ => o (k_ c0_ c1_ c2_ c3_ c4_ c5_)) = o (z9i q0u q19 q10 q1c q13 q1g k_) := by
  unfold z9i
  repeat (first | refine grd_out h0 ?_ | refine br_out ?_ ?_ | rfl | exact h0.symm)
noncomputable def ze8 (q0u : Nat) (q19 : List Nat) (q10 : Nat) (q1c : List Nat) (q13 : Nat) (q1g : List Nat) : Bool := (z6b q0u q19 q10 q1c q13 q1g).isSome
noncomputable def zcw (q0u : Nat) (q19 : List Nat) (q10 : Nat) (q1c : List Nat) (q13 : Nat) (q1g : List Nat) : Nat := ((z6b q0u q19 q10 q1c q13 q1g).getD default).1
noncomputable def zcy (q0u : Nat) (q19 : List Nat) (q10 : Nat) (q1c : List Nat) (q13 : Nat) (q1g : List Nat) : Nat := ((z6b q0u q19 q10 q1c q13 q1g).getD default).2.1
noncomputable def zd6 (q0u : Nat) (q19 : List Nat) (q10 : Nat) (q1c : List Nat) (q13 : Nat) (q1g : List Nat) : Nat := ((z6b q0u q19 q10 q1c q13 q1g).getD default).2.2.1
noncomputable def zcp (q0u : Nat) (q19 : List Nat) (q10 : Nat) (q1c : List Nat) (q13 : Nat) (q1g : List Nat) : List Nat := ((z6b q0u q19 q10 q1c q13 q1g).getD default).2.2.2.1
noncomputable def zd4 (q0u : Nat) (q19 : List Nat) (q10 : Nat) (q1c : List Nat) (q13 : Nat) (q1g : List Nat) : List Nat := ((z6b q0u q19 q10 q1c q13 q1g).getD default).2.2.2.2.1
noncomputable def zcv (q0u : Nat) (q19 : List Nat) (q10 : Nat) (q1c : List Nat) (q13 : Nat) (q1g : List Nat) : List Nat := ((z6b q0u q19 q10 q1c q13 q1g).getD default).2.2.2.2.2
theorem zl7 {q0u : Nat} {q19 : List Nat} {q10 : Nat} {q1c : List Nat} {q13 : Nat} {q1g : List Nat} {r : Nat × Nat × Nat × (List Nat) × (List Nat) × (List Nat)} (h : z6b q0u q19 q10 q1c q13 q1g = some r) : ze8 q0u q19 q10 q1c q13 q1g = true ∧ zcw q0u q19 q10 q1c q13 q1g = r.1 ∧ zcy q0u q19 q10 q1c q13 q1g = r.2.1 ∧ zd6 q0u q19 q10 q1c q13 q1g = r.2.2.1 ∧ zcp q0u q19 q10 q1c q13 q1g = r.2.2.2.1 ∧ zd4 q0u q19 q10 q1c q13 q1g = r.2.2.2.2.1 ∧ zcv q0u q19 q10 q1c q13 q1g = r.2.2.2.2.2 := by
  unfold ze8 zcw zcy zd6 zcp zd4 zcv
  rw [h]
  exact ⟨rfl, rfl, rfl, rfl, rfl, rfl, rfl⟩
noncomputable def z8g {R : Type} (a_n : Nat) (a : List Nat) (b_n : Nat) (b : List Nat) (k_ : Bool → Option R) : Option R := (br (neI (Int.ofNat a_n) (Int.ofNat b_n)) (k_ Bool.false) (grd (zaa a_n b_n a b 0) (br (z9x a_n b_n a b 0) (k_ Bool.false) (k_ Bool.true))))
noncomputable def z8v (a_n : Nat) (a : List Nat) (b_n : Nat) (b : List Nat) : Option (Bool) := z8g a_n a b_n b (fun c0_ => some c0_)
theorem zis {R R' : Type} (o : Option R → Option R') (h0 : o none = none) (a_n : Nat) (a : List Nat) (b_n : Nat) (b : List Nat) (k_ : Bool → Option R) : z8g a_n a b_n b (fun c0_ => o (k_ c0_)) = o (z8g a_n a b_n b k_) := by
  unfold z8g
  repeat (first | refine grd_out h0 ?_ | refine br_out ?_ ?_ | rfl | exact h0.symm)
noncomputable def z8l (a_n : Nat) (a : List Nat) (b_n : Nat) (b : List Nat) : Bool := (z8v a_n a b_n b).isSome
noncomputable def z84 (a_n : Nat) (a : List Nat) (b_n : Nat) (b : List Nat) : Bool := ((z8v a_n a b_n b).getD default)
theorem zf1 {a_n : Nat} {a : List Nat} {b_n : Nat} {b : List Nat} {r : Bool} (h : z8v a_n a b_n b = some r) : z8l a_n a b_n b = true ∧ z84 a_n a b_n b = r := by
  unfold z8l z84
  rw [h]
  exact ⟨rfl, rfl⟩
noncomputable def z8u {R : Type} (a_n : Nat) (a : List Nat) (k_ : Nat → (List Nat) → Option R) : Option R := (grd (okMk (Int.ofNat a_n) (Int.ofNat a_n) 12) (grd (z87 a_n (toN (Int.ofNat a_n)) a 0 (rF (muN (toN (Int.ofNat a_n)) 3))) (k_ (toN (Int.ofNat a_n)) (z7d a_n (toN (Int.ofNat a_n)) a 0 (rF (muN (toN (Int.ofNat a_n)) 3))))))
noncomputable def z7h (a_n : Nat) (a : List Nat) : Option (Nat × (List Nat)) := z8u a_n a (fun c0_ c1_ => some (c0_, c1_))
theorem ziw {R R' : Type} (o : Option R → Option R') (h0 : o none = none) (a_n : Nat) (a : List Nat) (k_ : Nat → (List Nat) → Option R) : z8u a_n a (fun c0_ c1_ => o (k_ c0_ c1_)) = o (z8u a_n a k_) := by
  unfold z8u
  repeat (first | refine grd_out h0 ?_ | refine br_out ?_ ?_ | rfl | exact h0.symm)
noncomputable def zcr (a_n : Nat) (a : List Nat) : Bool := (z7h a_n a).isSome
noncomputable def zc9 (a_n : Nat) (a : List Nat) : Nat := ((z7h a_n a).getD default).1
noncomputable def zbr (a_n : Nat) (a : List Nat) : List Nat := ((z7h a_n a).getD default).2
theorem zkv {a_n : Nat} {a : List Nat} {r : Nat × (List Nat)} (h : z7h a_n a = some r) : zcr a_n a = true ∧ zc9 a_n a = r.1 ∧ zbr a_n a = r.2 := by
  unfold zcr zc9 zbr
  rw [h]
  exact ⟨rfl, rfl, rfl⟩
noncomputable def z6t {R : Type} (q0t : Nat) (k_ : Nat → Option R) : Option R := (br (fcmp BinOp.neq FloatKind.f64 (fop BinOp.sub FloatKind.f64 q0t q0t) 0) (grd zfx (k_ zei)) (br (fcmp BinOp.geq FloatKind.f64 q0t 4841369599423283200) (k_ 0) (br (fcmp BinOp.leq FloatKind.f64 q0t 14064741636278059008) (k_ 0) (grd (f2iB FloatKind.f64 q0t IntKind.i64) (br (fcmp BinOp.lss FloatKind.f64 (fop BinOp.sub FloatKind.f64 q0t (fOI FloatKind.f64 (f2iV FloatKind.f64 q0t IntKind.i64))) 0) (br (fcmp BinOp.geq FloatKind.f64 (fop BinOp.add FloatKind.f64 (fop BinOp.sub FloatKind.f64 q0t (fOI FloatKind.f64 (f2iV FloatKind.f64 q0t IntKind.i64))) 4607182418800017408) 4602678819172646912) (br (fcmp BinOp.gtr FloatKind.f64 (fop BinOp.sub FloatKind.f64 (fop BinOp.add FloatKind.f64 (fop BinOp.sub FloatKind.f64 q0t (fOI FloatKind.f64 (f2iV FloatKind.f64 q0t IntKind.i64))) 4607182418800017408) 4602678819172646912) 4598175219545276416) (grd (z55 (fop BinOp.mul FloatKind.f64 (fop BinOp.mul FloatKind.f64 (fop BinOp.sub FloatKind.f64 4602678819172646912 (fop BinOp.sub FloatKind.f64 (fop BinOp.add FloatKind.f64 (fop BinOp.sub FloatKind.f64 q0t (fOI FloatKind.f64 (f2iV FloatKind.f64 q0t IntKind.i64))) 4607182418800017408) 4602678819172646912)) 4618760256179416344) (fop BinOp.mul FloatKind.f64 (fop BinOp.sub FloatKind.f64 4602678819172646912 (fop BinOp.sub FloatKind.f64 (fop BinOp.add FloatKind.f64 (fop BinOp.sub FloatKind.f64 q0t (fOI FloatKind.f64 (f2iV FloatKind.f64 q0t IntKind.i64))) 4607182418800017408) 4602678819172646912)) 4618760256179416344)) 4607182418800017408 8) (br (fcmp BinOp.geq FloatKind.f64 (fop BinOp.add FloatKind.f64 (fop BinOp.sub FloatKind.f64 q0t (fOI FloatKind.f64 (f2iV FloatKind.f64 q0t IntKind.i64))) 4607182418800017408) 4602678819172646912) (k_ (fneg FloatKind.f64 (fop BinOp.mul FloatKind.f64 (fop BinOp.mul FloatKind.f64 (fop BinOp.sub FloatKind.f64 4602678819172646912 (fop BinOp.sub FloatKind.f64 (fop BinOp.add FloatKind.f64 (fop BinOp.sub FloatKind.f64 q0t (fOI FloatKind.f64 (f2iV FloatKind.f64 q0t IntKind.i64))) 4607182418800017408) 4602678819172646912)) 4618760256179416344) (z3c (fop BinOp.mul FloatKind.f64 (fop BinOp.mul FloatKind.f64 (fop BinOp.sub FloatKind.f64 4602678819172646912 (fop BinOp.sub FloatKind.f64 (fop BinOp.add FloatKind.f64 (fop BinOp.sub FloatKind.f64 q0t (fOI FloatKind.f64 (f2iV FloatKind.f64 q0t IntKind.i64))) 4607182418800017408) 4602678819172646912)) 4618760256179416344) (fop BinOp.mul FloatKind.f64 (fop BinOp.sub FloatKind.f64 4602678819172646912 (fop BinOp.sub FloatKind.f64 (fop BinOp.add FloatKind.f64 (fop BinOp.sub FloatKind.f64 q0t (fOI FloatKind.f64 (f2iV FloatKind.f64 q0t IntKind.i64))) 4607182418800017408) 4602678819172646912)) 4618760256179416344)) 4607182418800017408 8)))) (k_ (fop BinOp.mul FloatKind.f64 (fop BinOp.mul FloatKind.f64 (fop BinOp.sub FloatKind.f64 4602678819172646912 (fop BinOp.sub FloatKind.f64 (fop BinOp.add FloatKind.f64 (fop BinOp.sub FloatKind.f64 q0t (fOI FloatKind.f64 (f2iV FloatKind.f64 q0t IntKind.i64))) 4607182418800017408) 4602678819172646912)) 4618760256179416344) (z3c (fop BinOp.mul FloatKind.f64 (fop BinOp.mul FloatKind.f64 (fop BinOp.sub FloatKind.f64 4602678819172646912 (fop BinOp.sub FloatKind.f64 (fop BinOp.add FloatKind.f64 (fop BinOp.sub FloatKind.f64 q0t (fOI FloatKind.f64 (f2iV FloatKind.f64 q0t IntKind.i64))) 4607182418800017408) 4602678819172646912)) 4618760256179416344) (fop BinOp.mul FloatKind.f64 (fop BinOp.sub FloatKind.f64 4602678819172646912 (fop BinOp.sub FloatKind.f64 (fop BinOp.add FloatKind.f64 (fop BinOp.sub FloatKind.f64 q0t (fOI FloatKind.f64 (f2iV FloatKind.f64 q0t IntKind.i64))) 4607182418800017408) 4602678819172646912)) 4618760256179416344)) 4607182418800017408 8))))) (grd (z55 (fop BinOp.mul FloatKind.f64 (fop BinOp.mul FloatKind.f64 (fop BinOp.sub FloatKind.f64 (fop BinOp.add FloatKind.f64 (fop BinOp.sub FloatKind.f64 q0t (fOI FloatKind.f64 (f2iV FloatKind.f64 q0t IntKind.i64))) 4607182418800017408) 4602678819172646912) 4618760256179416344) (fop BinOp.mul FloatKind.f64 (fop BinOp.sub FloatKind.f64 (fop BinOp.add FloatKind.f64 (fop BinOp.sub FloatKind.f64 q0t (fOI FloatKind.f64 (f2iV FloatKind.f64 q0t IntKind.i64))) 4607182418800017408) 4602678819172646912) 4618760256179416344)) 4607182418800017408 8) (br (fcmp BinOp.geq FloatKind.f64 (fop BinOp.add FloatKind.f64 (fop BinOp.sub FloatKind.f64 q0t (fOI FloatKind.f64 (f2iV FloatKind.f64 q0t IntKind.i64))) 4607182418800017408) 4602678819172646912) (k_ (fneg FloatKind.f64 (fop BinOp.mul FloatKind.f64 (fop BinOp.mul FloatKind.f64 (fop BinOp.sub FloatKind.f64 (fop BinOp.add FloatKind.f64 (fop BinOp.sub FloatKind.f64 q0t (fOI FloatKind.f64 (f2iV FloatKind.f64 q0t IntKind.i64))) 4607182418800017408) 4602678819172646912) 4618760256179416344) (z3c (fop BinOp.mul FloatKind.f64 (fop BinOp.mul FloatKind.f64 (fop BinOp.sub FloatKind.f64 (fop BinOp.add FloatKind.f64 (fop BinOp.sub FloatKind.f64 q0t (fOI FloatKind.f64 (f2iV FloatKind.f64 q0t IntKind.i64))) 4607182418800017408) 4602678819172646912) 4618760256179416344) (fop BinOp.mul FloatKind.f64 (fop BinOp.sub FloatKind.f64 (fop BinOp.add FloatKind.f64 (fop BinOp.sub FloatKind.f64 q0t (fOI FloatKind.f64 (f2iV FloatKind.f64 q0t IntKind.i64))) 4607182418800017408) 4602678819172646912) 4618760256179416344)) 4607182418800017408 8)))) (k_ (fop BinOp.mul FloatKind.f64 (fop BinOp.mul FloatKind.f64 (fop BinOp.sub FloatKind.f64 (fop BinOp.add FloatKind.f64 (fop BinOp.sub FloatKind.f64 q0t (fOI FloatKind.f64 (f2iV FloatKind.f64 q0t IntKind.i64))) 4607182418800017408) 4602678819172646912) 4618760256179416344) (z3c (fop BinOp.mul FloatKind.f64 (fop BinOp.mul FloatKind.f64 (fop BinOp.sub FloatKind.f64 (fop BinOp.add FloatKind.f64 (fop BinOp.sub FloatKind.f64 q0t (fOI FloatKind.f64 (f2iV FloatKind.f64 q0t IntKind.i64))) 4607182418800017408) 4602678819172646912) 4618760256179416344) (fop BinOp.mul FloatKind.f64 (fop BinOp.sub FloatKind.f64 (fop BinOp.add FloatKind.f64 (fop BinOp.sub FloatKind.f64 q0t (fOI FloatKind.f64 (f2iV FloatKind.f64 q0t IntKind.i64))) 4607182418800017408) 4602678819172646912) 4618760256179416344)) 4607182418800017408 8)))))) (br (fcmp BinOp.gtr FloatKind.f64 (fop BinOp.add FloatKind.f64 (fop BinOp.sub FloatKind.f64 q0t (fOI FloatKind.f64 (f2iV FloatKind.f64 q0t IntKind.i64))) 4607182418800017408) 4598175219545276416) (grd (z55 (fop BinOp.mul FloatKind.f64 (fop BinOp.mul FloatKind.f64 (fop BinOp.sub FloatKind.f64 4602678819172646912 (fop BinOp.add FloatKind.f64 (fop BinOp.sub FloatKind.f64 q0t (fOI FloatKind.f64 (f2iV FloatKind.f64 q0t IntKind.i64))) 4607182418800017408)) 4618760256179416344) (fop BinOp.mul FloatKind.f64 (fop BinOp.sub FloatKind.f64 4602678819172646912 (fop BinOp.add FloatKind.f64 (fop BinOp.sub FloatKind.f64 q0t (fOI FloatKind.f64 (f2iV FloatKind.f64 q0t IntKind.i64))) 4607182418800017408)) 4618760256179416344)) 4607182418800017408 8) (br (fcmp BinOp.geq FloatKind.f64 (fop BinOp.add FloatKind.f64 (fop BinOp.sub FloatKind.f64 q0t (fOI FloatKind.f64 (f2iV FloatKind.f64 q0t IntKind.i64))) 4607182418800017408) 4602678819172646912) (k_ (fneg FloatKind.f64 (fop BinOp.mul FloatKind.f64 (fop BinOp.mul FloatKind.f64 (fop BinOp.sub FloatKind.f64 4602678819172646912 (fop BinOp.add FloatKind.f64 (fop BinOp.sub FloatKind.f64 q0t (fOI FloatKind.f64 (f2iV FloatKind.f64 q0t IntKind.i64))) 4607182418800017408)) 4618760256179416344) (z3c (fop BinOp.mul FloatKind.f64 (fop BinOp.mul FloatKind.f64 (fop BinOp.sub FloatKind.f64 4602678819172646912 (fop BinOp.add FloatKind.f64 (fop BinOp.sub FloatKind.f64 q0t (fOI FloatKind.f64 (f2iV FloatKind.f64 q0t IntKind.i64))) 4607182418800017408)) 4618760256179416344) (fop BinOp.mul FloatKind.f64 (fop BinOp.sub FloatKind.f64 4602678819172646912 (fop BinOp.add FloatKind.f64 (fop BinOp.sub FloatKind.f64 q0t (fOI FloatKind.f64 (f2iV FloatKind.f64 q0t IntKind.i64))) 4607182418800017408)) 4618760256179416344)) 4607182418800017408 8)))) (k_ (fop BinOp.mul FloatKind.f64 (fop BinOp.mul FloatKind.f64 (fop BinOp.sub FloatKind.f64 4602678819172646912 (fop BinOp.add FloatKind.f64 (fop BinOp.sub FloatKind.f64 q0t (fOI FloatKind.f64 (f2iV FloatKind.f64 q0t IntKind.i64))) 4607182418800017408)) 4618760256179416344) (z3c (fop BinOp.mul FloatKind.f64 (fop BinOp.mul FloatKind.f64 (fop BinOp.sub FloatKind.f64 4602678819172646912 (fop BinOp.add FloatKind.f64 (fop BinOp.sub FloatKind.f64 q0t (fOI FloatKind.f64 (f2iV FloatKind.f64 q0t IntKind.i64))) 4607182418800017408)) 4618760256179416344) (fop BinOp.mul FloatKind.f64 (fop BinOp.sub FloatKind.f64 4602678819172646912 (fop BinOp.add FloatKind.f64 (fop BinOp.sub FloatKind.f64 q0t (fOI FloatKind.f64 (f2iV FloatKind.f64 q0t IntKind.i64))) 4607182418800017408)) 4618760256179416344)) 4607182418800017408 8))))) (grd (z55 (fop BinOp.mul FloatKind.f64 (fop BinOp.mul FloatKind.f64 (fop BinOp.add FloatKind.f64 (fop BinOp.sub FloatKind.f64 q0t (fOI FloatKind.f64 (f2iV FloatKind.f64 q0t IntKind.i64))) 4607182418800017408) 4618760256179416344) (fop BinOp.mul FloatKind.f64 (fop BinOp.add FloatKind.f64 (fop BinOp.sub FloatKind.f64 q0t (fOI FloatKind.f64 (f2iV FloatKind.f64 q0t IntKind.i64))) 4607182418800017408) 4618760256179416344)) 4607182418800017408 8) (br (fcmp BinOp.geq FloatKind.f64 (fop BinOp.add FloatKind.f64 (fop BinOp.sub FloatKind.f64 q0t (fOI FloatKind.f64 (f2iV FloatKind.f64 q0t IntKind.i64))) 4607182418800017408) 4602678819172646912) (k_ (fneg FloatKind.f64 (fop BinOp.mul FloatKind.f64 (fop BinOp.mul FloatKind.f64 (fop BinOp.add FloatKind.f64 (fop BinOp.sub FloatKind.f64 q0t (fOI FloatKind.f64 (f2iV FloatKind.f64 q0t IntKind.i64))) 4607182418800017408) 4618760256179416344) (z3c (fop BinOp.mul FloatKind.f64 (fop BinOp.mul FloatKind.f64 (fop BinOp.add FloatKind.f64 (fop BinOp.sub FloatKind.f64 q0t (fOI FloatKind.f64 (f2iV FloatKind.f64 q0t IntKind.i64))) 4607182418800017408) 4618760256179416344) (fop BinOp.mul FloatKind.f64 (fop BinOp.add FloatKind.f64 (fop BinOp.sub FloatKind.f64 q0t (fOI FloatKind.f64 (f2iV FloatKind.f64 q0t IntKind.i64))) 4607182418800017408) 4618760256179416344)) 4607182418800017408 8)))) (k_ (fop BinOp.mul FloatKind.f64 (fop BinOp.mul FloatKind.f64 (fop BinOp.add FloatKind.f64 (fop BinOp.sub FloatKind.f64 q0t (fOI FloatKind.f64 (f2iV FloatKind.f64 q0t IntKind.i64))) 4607182418800017408) 4618760256179416344) (z3c (fop BinOp.mul FloatKind.f64 (fop BinOp.mul FloatKind.f64 (fop BinOp.add FloatKind.f64 (fop BinOp.sub FloatKind.f64 q0t (fOI FloatKind.f64 (f2iV FloatKind.f64 q0t IntKind.i64))) 4607182418800017408) 4618760256179416344) (fop BinOp.mul FloatKind.f64 (fop BinOp.add FloatKind.f64 (fop BinOp.sub FloatKind.f64 q0t (fOI FloatKind.f64 (f2iV FloatKind.f64 q0t IntKind.i64))) 4607182418800017408) 4618760256179416344)) 4607182418800017408 8))))))) (br (fcmp BinOp.geq FloatKind.f64 (fop BinOp.sub FloatKind.f64 q0t (fOI FloatKind.f64 (f2iV FloatKind.f64 q0t IntKind.i64))) 4602678819172646912) (br (fcmp BinOp.gtr FloatKind.f64 (fop BinOp.sub FloatKind.f64 (fop BinOp.sub FloatKind.f64 q0t (fOI FloatKind.f64 (f2iV FloatKind.f64 q0t IntKind.i64))) 4602678819172646912) 4598175219545276416) (grd (z55 (fop BinOp.mul FloatKind.f64 (fop BinOp.mul FloatKind.f64 (fop BinOp.sub FloatKind.f64 4602678819172646912 (fop BinOp.sub FloatKind.f64 (fop BinOp.sub FloatKind.f64 q0t (fOI FloatKind.f64 (f2iV FloatKind.f64 q0t IntKind.i64))) 4602678819172646912)) 4618760256179416344) (fop BinOp.mul FloatKind.f64 (fop BinOp.sub FloatKind.f64 4602678819172646912 (fop BinOp.sub FloatKind.f64 (fop BinOp.sub FloatKind.f64 q0t (fOI FloatKind.f64 (f2iV FloatKind.f64 q0t IntKind.i64))) 4602678819172646912)) 4618760256179416344)) 4607182418800017408 8) (br (fcmp BinOp.geq FloatKind.f64 (fop BinOp.sub FloatKind.f64 q0t (fOI FloatKind.f64 (f2iV FloatKind.f64 q0t IntKind.i64))) 4602678819172646912) (k_ (fneg FloatKind.f64 (fop BinOp.mul FloatKind.f64 (fop BinOp.mul FloatKind.f64 (fop BinOp.sub FloatKind.f64 4602678819172646912 (fop BinOp.sub FloatKind.f64 (fop BinOp.sub FloatKind.f64 q0t (fOI FloatKind.f64 (f2iV FloatKind.f64 q0t IntKind.i64))) 4602678819172646912)) 4618760256179416344) (z3c (fop BinOp.mul FloatKind.f64 (fop BinOp.mul FloatKind.f64 (fop BinOp.sub FloatKind.f64 4602678819172646912 (fop BinOp.sub FloatKind.f64 (fop BinOp.sub FloatKind.f64 q0t (fOI FloatKind.f64 (f2iV FloatKind.f64 q0t IntKind.i64))) 4602678819172646912)) 4618760256179416344) (fop BinOp.mul FloatKind.f64 (fop BinOp.sub FloatKind.f64 4602678819172646912 (fop BinOp.sub FloatKind.f64 (fop BinOp.sub FloatKind.f64 q0t (fOI FloatKind.f64 (f2iV FloatKind.f64 q0t IntKind.i64))) 4602678819172646912)) 4618760256179416344)) 4607182418800017408 8)))) (k_ (fop BinOp.mul FloatKind.f64 (fop BinOp.mul FloatKind.f64 (fop BinOp.sub FloatKind.f64 4602678819172646912 (fop BinOp.sub FloatKind.f64 (fop BinOp.sub FloatKind.f64 q0t (fOI FloatKind.f64 (f2iV FloatKind.f64 q0t IntKind.i64))) 4602678819172646912)) 4618760256179416344) (z3c (fop BinOp.mul FloatKind.f64 (fop BinOp.mul FloatKind.f64 (fop BinOp.sub FloatKind.f64 4602678819172646912 (fop BinOp.sub FloatKind.f64 (fop BinOp.sub FloatKind.f64 q0t (fOI FloatKind.f64 (f2iV FloatKind.f64 q0t IntKind.i64))) 4602678819172646912)) 4618760256179416344) (fop BinOp.mul FloatKind.f64 (fop BinOp.sub FloatKind.f64 4602678819172646912 (fop BinOp.sub FloatKind.f64 (fop BinOp.sub FloatKind.f64 q0t (fOI FloatKind.f64 (f2iV FloatKind.f64 q0t IntKind.i64))) 4602678819172646912)) 4618760256179416344)) 4607182418800017408 8))))) (grd (z55 (fop BinOp.mul FloatKind.f64 (fop BinOp.mul FloatKind.f64 (fop BinOp.sub FloatKind.f64 (fop BinOp.sub FloatKind.f64 q0t (fOI FloatKind.f64 (f2iV FloatKind.f64 q0t IntKind.i64))) 4602678819172646912) 4618760256179416344) (fop BinOp.mul FloatKind.f64 (fop BinOp.sub FloatKind.f64 (fop BinOp.sub FloatKind.f64 q0t (fOI FloatKind.f64 (f2iV FloatKind.f64 q0t IntKind.i64))) 4602678819172646912) 4618760256179416344)) 4607182418800017408 8) (br (fcmp BinOp.geq FloatKind.f64 (fop BinOp.sub FloatKind.f64 q0t (fOI FloatKind.f64 (f2iV FloatKind.f64 q0t IntKind.i64))) 4602678819172646912) (k_ (fneg FloatKind.f64 (fop BinOp.mul FloatKind.f64 (fop BinOp.mul FloatKind.f64 (fop BinOp.sub FloatKind.f64 (fop BinOp.sub FloatKind.f64 q0t (fOI FloatKind.f64 (f2iV FloatKind.f64 q0t IntKind.i64))) 4602678819172646912) 4618760256179416344) (z3c (fop BinOp.mul FloatKind.f64 (fop BinOp.mul FloatKind.f64 (fop BinOp.sub FloatKind.f64 (fop BinOp.sub FloatKind.f64 q0t (fOI FloatKind.f64 (f2iV FloatKind.f64 q0t IntKind.i64))) 4602678819172646912) 4618760256179416344) (fop BinOp.mul FloatKind.f64 (fop BinOp.sub FloatKind.f64 (fop BinOp.sub FloatKind.f64 q0t (fOI FloatKind.f64 (f2iV FloatKind.f64 q0t IntKind.i64))) 4602678819172646912) 4618760256179416344)) 4607182418800017408 8)))) (k_ (fop BinOp.mul FloatKind.f64 (fop BinOp.mul FloatKind.f64 (fop BinOp.sub FloatKind.f64 (fop BinOp.sub FloatKind.f64 q0t (fOI FloatKind.f64 (f2iV FloatKind.f64 q0t IntKind.i64))) 4602678819172646912) 4618760256179416344) (z3c (fop BinOp.mul FloatKind.f64 (fop BinOp.mul FloatKind.f64 (fop BinOp.sub FloatKind.f64 (fop BinOp.sub FloatKind.f64 q0t (fOI FloatKind.f64 (f2iV FloatKind.f64 q0t IntKind.i64))) 4602678819172646912) 4618760256179416344) (fop BinOp.mul FloatKind.f64 (fop BinOp.sub FloatKind.f64 (fop BinOp.sub FloatKind.f64 q0t (fOI FloatKind.f64 (f2iV FloatKind.f64 q0t IntKind.i64))) 4602678819172646912) 4618760256179416344)) 4607182418800017408 8)))))) (br (fcmp BinOp.gtr FloatKind.f64 (fop BinOp.sub FloatKind.f64 q0t (fOI FloatKind.f64 (f2iV FloatKind.f64 q0t IntKind.i64))) 4598175219545276416) (grd (z55 (fop BinOp.mul FloatKind.f64 (fop BinOp.mul FloatKind.f64 (fop BinOp.sub FloatKind.f64 4602678819172646912 (fop BinOp.sub FloatKind.f64 q0t (fOI FloatKind.f64 (f2iV FloatKind.f64 q0t IntKind.i64)))) 4618760256179416344) (fop BinOp.mul FloatKind.f64 (fop BinOp.sub FloatKind.f64 4602678819172646912 (fop BinOp.sub FloatKind.f64 q0t (fOI FloatKind.f64 (f2iV FloatKind.f64 q0t IntKind.i64)))) 4618760256179416344)) 4607182418800017408 8) (br (fcmp BinOp.geq FloatKind.f64 (fop BinOp.sub FloatKind.f64 q0t (fOI FloatKind.f64 (f2iV FloatKind.f64 q0t IntKind.i64))) 4602678819172646912) (k_ (fneg FloatKind.f64 (fop BinOp.mul FloatKind.f64 (fop BinOp.mul FloatKind.f64 (fop BinOp.sub FloatKind.f64 4602678819172646912 (fop BinOp.sub FloatKind.f64 q0t (fOI FloatKind.f64 (f2iV FloatKind.f64 q0t IntKind.i64)))) 4618760256179416344) (z3c (fop BinOp.mul FloatKind.f64 (fop BinOp.mul FloatKind.f64 (fop BinOp.sub FloatKind.f64 4602678819172646912 (fop BinOp.sub FloatKind.f64 q0t (fOI FloatKind.f64 (f2iV FloatKind.f64 q0t IntKind.i64)))) 4618760256179416344) (fop BinOp.mul FloatKind.f64 (fop BinOp.sub FloatKind.f64 4602678819172646912 (fop BinOp.sub FloatKind.f64 q0t (fOI FloatKind.f64 (f2iV FloatKind.f64 q0t IntKind.i64)))) 4618760256179416344)) 4607182418800017408 8)))) (k_ (fop BinOp.mul FloatKind.f64 (fop BinOp.mul FloatKind.f64 (fop BinOp.sub FloatKind.f64 4602678819172646912 (fop BinOp.sub FloatKind.f64 q0t (fOI FloatKind.f64 (f2iV FloatKind.f64 q0t IntKind.i64)))) 4618760256179416344) (z3c (fop BinOp.mul FloatKind.f64 (fop BinOp.mul FloatKind.f64 (fop BinOp.sub FloatKind.f64 4602678819172646912 (fop BinOp.sub FloatKind.f64 q0t (fOI FloatKind.f64 (f2iV FloatKind.f64 q0t IntKind.i64)))) 4618760256179416344) (fop BinOp.mul FloatKind.f64 (fop BinOp.sub FloatKind.f64 4602678819172646912 (fop BinOp.sub FloatKind.f64 q0t (fOI FloatKind.f64 (f2iV FloatKind.f64 q0t IntKind.i64)))) 4618760256179416344)) 4607182418800017408 8))))) (grd (z55 (fop BinOp.mul FloatKind.f64 (fop BinOp.mul FloatKind.f64 (fop BinOp.sub FloatKind.f64 q0t (fOI FloatKind.f64 (f2iV FloatKind.f64 q0t IntKind.i64))) 4618760256179416344) (fop BinOp.mul FloatKind.f64 (fop BinOp.sub FloatKind.f64 q0t (fOI FloatKind.f64 (f2iV FloatKind.f64 q0t IntKind.i64))) 4618760256179416344)) 4607182418800017408 8) (br (fcmp BinOp.geq FloatKind.f64 (fop BinOp.sub FloatKind.f64 q0t (fOI FloatKind.f64 (f2iV FloatKind.f64 q0t IntKind.i64))) 4602678819172646912) (k_ (fneg FloatKind.f64 (fop BinOp.mul FloatKind.f64 (fop BinOp.mul FloatKind.f64 (fop BinOp.sub FloatKind.f64 q0t (fOI FloatKind.f64 (f2iV FloatKind.f64 q0t IntKind.i64))) 4618760256179416344) (z3c (fop BinOp.mul FloatKind.f64 (fop BinOp.mul FloatKind.f64 (fop BinOp.sub FloatKind.f64 q0t (fOI FloatKind.f64 (f2iV FloatKind.f64 q0t IntKind.i64))) 4618760256179416344) (fop BinOp.mul FloatKind.f64 (fop BinOp.sub FloatKind.f64 q0t (fOI FloatKind.f64 (f2iV FloatKind.f64 q0t IntKind.i64))) 4618760256179416344)) 4607182418800017408 8)))) (k_ (fop BinOp.mul FloatKind.f64 (fop BinOp.mul FloatKind.f64 (fop BinOp.sub FloatKind.f64 q0t (fOI FloatKind.f64 (f2iV FloatKind.f64 q0t IntKind.i64))) 4618760256179416344) (z3c (fop BinOp.mul FloatKind.f64 (fop BinOp.mul FloatKind.f64 (fop BinOp.sub FloatKind.f64 q0t (fOI FloatKind.f64 (f2iV FloatKind.f64 q0t IntKind.i64))) 4618760256179416344) (fop BinOp.mul FloatKind.f64 (fop BinOp.sub FloatKind.f64 q0t (fOI FloatKind.f64 (f2iV FloatKind.f64 q0t IntKind.i64))) 4618760256179416344)) 4607182418800017408 8))))))))))))
noncomputable def z6j (q0t : Nat) : Option (Nat) := z6t q0t (fun c0_ => some c0_)
theorem zi6 {R R' : Type} (o : Option R → Option R') (h0 : o none = none) (q0t : Nat) (k_ : Nat → Option R) : z6t q0t (fun c0_ => o (k_ c0_)) = o (z6t q0t k_) := by
  unfold z6t
  repeat (first | refine grd_out h0 ?_ | refine br_out ?_ ?_ | rfl | exact h0.symm)
noncomputable def zcc (q0t : Nat) : Bool := (z6j q0t).isSome
noncomputable def z97 (q0t : Nat) : Nat := ((z6j q0t).getD default)
theorem zk0 {q0t : Nat} {r : Nat} (h : z6j q0t = some r) : zcc q0t = true ∧ z97 q0t = r := by
  unfold zcc z97
  rw [h]
  exact ⟨rfl, rfl⟩
noncomputable def z8p {R : Type} (q1w : Nat) (k_ : Nat → Option R) : Option R := (grd (zg1 q1w) (br (fcmp BinOp.eql FloatKind.f64 (za8 q1w) 0) (br (fcmp BinOp.lss FloatKind.f64 (fop BinOp.sub FloatKind.f64 q1w 0) 0) (k_ (fop BinOp.add FloatKind.f64 (fop BinOp.sub FloatKind.f64 q1w 0) 4607182418800017408)) (k_ (fop BinOp.sub FloatKind.f64 q1w 0))) (br (fcmp BinOp.lss FloatKind.f64 (fop BinOp.sub FloatKind.f64 q1w (za8 q1w)) 0) (k_ (fop BinOp.add FloatKind.f64 (fop BinOp.sub FloatKind.f64 q1w (za8 q1w)) 4607182418800017408)) (k_ (fop BinOp.sub FloatKind.f64 q1w (za8 q1w))))))
noncomputable def z8m (q1w : Nat) : Option (Nat) := z8p q1w (fun c0_ => some c0_)
theorem ziz {R R' : Type} (o : Option R → Option R') (h0 : o none = none) (q1w : Nat) (k_ : Nat → Option R) : z8p q1w (fun c0_ => o (k_ c0_)) = o (z8p q1w k_) := by
  unfold z8p
  repeat (first | refine grd_out h0 ?_ | refine br_out ?_ ?_ | rfl | exact h0.symm)
noncomputable def zd9 (q1w : Nat) : Bool := (z8m q1w).isSome
noncomputable def z3q (q1w : Nat) : Nat := ((z8m q1w).getD default)
theorem zkm {q1w : Nat} {r : Nat} (h : z8m q1w = some r) : zd9 q1w = true ∧ z3q q1w = r := by
  unfold zd9 z3q
  rw [h]
  exact ⟨rfl, rfl⟩
noncomputable def z6z {R : Type} (t3 : Int) (b0 : List Nat) (b1 : List Nat) (b2 : List Nat) (q1j : Nat) (q20 : Nat) (q21 : Nat) (t4 : Int) (kn_ : Int → Option R) (k0_ : Unit → Option R) (k1_ : Int → Bool → Option R) : Option R := (br (ltI t4 t3) (grd (okIx t4 q1j) (br (fcmp BinOp.geq FloatKind.f32 (gF b0 (ixO 0 t4 1)) 3204448256) (grd (okIx t4 q1j) (br (bnot (fcmp BinOp.leq FloatKind.f32 (gF b0 (ixO 0 t4 1)) 1056964608)) (k0_ ()) (br (ltI 0 t4) (grd (okIx t4 q1j) (grd (okIx (subI IntKind.i64 t4 1) q1j) (br (fcmp BinOp.leq FloatKind.f32 (gF b0 (ixO 0 t4 1)) (gF b0 (ixO 0 (subI IntKind.i64 t4 1) 1))) (k0_ ()) (grd (okIx t4 q20) (grd (z5z (gF b1 (ixO 0 t4 1))) (br (bnot (z5o (gF b1 (ixO 0 t4 1)))) (k0_ ()) (grd (okIx t4 q21) (grd (z7l (gF b2 (ixO 0 t4 1))) (br (bnot (z74 (gF b2 (ixO 0 t4 1)))) (k0_ ()) (kn_ (addI IntKind.i64 t4 1))))))))))) (grd (okIx t4 q20) (grd (z5z (gF b1 (ixO 0 t4 1))) (br (bnot (z5o (gF b1 (ixO 0 t4 1)))) (k0_ ()) (grd (okIx t4 q21) (grd (z7l (gF b2 (ixO 0 t4 1))) (br (bnot (z74 (gF b2 (ixO 0 t4 1)))) (k0_ ()) (kn_ (addI IntKind.i64 t4 1))))))))))) (br (bnot Bool.false) (k0_ ()) (br (ltI 0 t4) (grd (okIx t4 q1j) (grd (okIx (subI IntKind.i64 t4 1) q1j) (br (fcmp BinOp.leq FloatKind.f32 (gF b0 (ixO 0 t4 1)) (gF b0 (ixO 0 (subI IntKind.i64 t4 1) 1))) (k0_ ()) (grd (okIx t4 q20) (grd (z5z (gF b1 (ixO 0 t4 1))) (br (bnot (z5o (gF b1 (ixO 0 t4 1)))) (k0_ ()) (grd (okIx t4 q21) (grd (z7l (gF b2 (ixO 0 t4 1))) (br (bnot (z74 (gF b2 (ixO 0 t4 1)))) (k0_ ()) (kn_ (addI IntKind.i64 t4 1))))))))))) (grd (okIx t4 q20) (grd (z5z (gF b1 (ixO 0 t4 1))) (br (bnot (z5o (gF b1 (ixO 0 t4 1)))) (k0_ ()) (grd (okIx t4 q21) (grd (z7l (gF b2 (ixO 0 t4 1))) (br (bnot (z74 (gF b2 (ixO 0 t4 1)))) (k0_ ()) (kn_ (addI IntKind.i64 t4 1)))))))))))) (k1_ t4 (ltI t4 t3)))
theorem zk3 {R R' : Type} (o : Option R → Option R') (h0 : o none = none) (t3 : Int) (b0 : List Nat) (b1 : List Nat) (b2 : List Nat) (q1j : Nat) (q20 : Nat) (q21 : Nat) (t4 : Int) (kn_ : Int → Option R) (k0_ : Unit → Option R) (k1_ : Int → Bool → Option R) : z6z t3 b0 b1 b2 q1j q20 q21 t4 (fun t4' => o (kn_ t4')) (fun _ => o (k0_ ())) (fun c0_ c1_ => o (k1_ c0_ c1_)) = o (z6z t3 b0 b1 b2 q1j q20 q21 t4 kn_ k0_ k1_) := by
  unfold z6z
  repeat (first | refine grd_out h0 ?_ | refine br_out ?_ ?_ | rfl | exact h0.symm)
noncomputable def z5v (t3 : Int) (b0 : List Nat) (b1 : List Nat) (b2 : List Nat) (q1j : Nat) (q20 : Nat) (q21 : Nat) : Nat → Int → Option ((Unit) ⊕ (Int × Bool))
  | 0, _ => none
  | n + 1, t4 => z6z t3 b0 b1 b2 q1j q20 q21  t4  (fun t4' => z5v t3 b0 b1 b2 q1j q20 q21 n t4') (fun _ => some (Sum.inl ())) (fun c0_ c1_ => some (Sum.inr (c0_, c1_)))
theorem zfz (t3 : Int) (b0 : List Nat) (b1 : List Nat) (b2 : List Nat) (q1j : Nat) (q20 : Nat) (q21 : Nat) (n : Nat) (t4 : Int) : z5v t3 b0 b1 b2 q1j q20 q21 (n + 1) t4 = z6z t3 b0 b1 b2 q1j q20 q21  t4  (fun t4' => z5v t3 b0 b1 b2 q1j q20 q21 n t4') (fun _ => some (Sum.inl ())) (fun c0_ c1_ => some (Sum.inr (c0_, c1_))) := rfl
noncomputable def z7m (t3 : Int) (b0 : List Nat) (b1 : List Nat) (b2 : List Nat) (q1j : Nat) (q20 : Nat) (q21 : Nat) (t4 : Int) : Bool := (z5v t3 b0 b1 b2 q1j q20 q21 big t4).isSome
noncomputable def z75 (t3 : Int) (b0 : List Nat) (b1 : List Nat) (b2 : List Nat) (q1j : Nat) (q20 : Nat) (q21 : Nat) (t4 : Int) : Bool := oL (z5v t3 b0 b1 b2 q1j q20 q21 big t4)
noncomputable def zf3 (t3 : Int) (b0 : List Nat) (b1 : List Nat) (b2 : List Nat) (q1j : Nat) (q20 : Nat) (q21 : Nat) (t4 : Int) : Int := ((tR (z5v t3 b0 b1 b2 q1j q20 q21 big t4)).getD default).1
noncomputable def zev (t3 : Int) (b0 : List Nat) (b1 : List Nat) (b2 : List Nat) (q1j : Nat) (q20 : Nat) (q21 : Nat) (t4 : Int) : Bool := ((tR (z5v t3 b0 b1 b2 q1j q20 q21 big t4)).getD default).2
theorem zlb {t3 : Int} {b0 : List Nat} {b1 : List Nat} {b2 : List Nat} {q1j : Nat} {q20 : Nat} {q21 : Nat} {t4 : Int} {m : Nat} {r : Unit} (hm : m = big) (h : z5v t3 b0 b1 b2 q1j q20 q21 m t4 = some (Sum.inl r)) : z7m t3 b0 b1 b2 q1j q20 q21 t4 = true ∧ z75 t3 b0 b1 b2 q1j q20 q21 t4 = true := by
  subst hm
  unfold z7m z75
  rw [h]
  exact ⟨rfl, rfl⟩
theorem zl8 {t3 : Int} {b0 : List Nat} {b1 : List Nat} {b2 : List Nat} {q1j : Nat} {q20 : Nat} {q21 : Nat} {t4 : Int} {m : Nat} {r : Int × Bool} (hm : m = big) (h : z5v t3 b0 b1 b2 q1j q20 q21 m t4 = some (Sum.inr r)) : z7m t3 b0 b1 b2 q1j q20 q21 t4 = true ∧ z75 t3 b0 b1 b2 q1j q20 q21 t4 = false ∧ zf3 t3 b0 b1 b2 q1j q20 q21 t4 = r.1 ∧ zev t3 b0 b1 b2 q1j q20 q21 t4 = r.2 := by
  subst hm
  unfold z7m z75 zf3 zev
  rw [h]
  exact ⟨rfl, rfl, rfl, rfl⟩
noncomputable def z64 {R : Type} (an : Nat) (bn : Nat) (b0 : List Nat) (b1 : List Nat) (i : Int) (kn_ : Int → Option R) (k0_ : Unit → Option R) (k1_ : Int → Bool → Option R) : Option R := (br (ltI i (Int.ofNat an)) (grd (okIx i an) (grd (okIx i bn) (grd (ze9 (gF b0 (ixO 0 i 3)) (gF b0 (Nat.succ (ixO 0 i 3))) (gF b0 (Nat.succ (Nat.succ (ixO 0 i 3)))) (gF b1 (ixO 0 i 3)) (gF b1 (Nat.succ (ixO 0 i 3))) (gF b1 (Nat.succ (Nat.succ (ixO 0 i 3))))) (br (bnot (zd7 (gF b0 (ixO 0 i 3)) (gF b0 (Nat.succ (ixO 0 i 3))) (gF b0 (Nat.succ (Nat.succ (ixO 0 i 3)))) (gF b1 (ixO 0 i 3)) (gF b1 (Nat.succ (ixO 0 i 3))) (gF b1 (Nat.succ (Nat.succ (ixO 0 i 3)))))) (k0_ ()) (kn_ (addI IntKind.i64 i 1)))))) (k1_ i (ltI i (Int.ofNat an))))
theorem zhe {R R' : Type} (o : Option R → Option R') (h0 : o none = none) (an : Nat) (bn : Nat) (b0 : List Nat) (b1 : List Nat) (i : Int) (kn_ : Int → Option R) (k0_ : Unit → Option R) (k1_ : Int → Bool → Option R) : z64 an bn b0 b1 i (fun i' => o (kn_ i')) (fun _ => o (k0_ ())) (fun c0_ c1_ => o (k1_ c0_ c1_)) = o (z64 an bn b0 b1 i kn_ k0_ k1_) := by
  unfold z64
  repeat (first | refine grd_out h0 ?_ | refine br_out ?_ ?_ | rfl | exact h0.symm)
noncomputable def z5d (an : Nat) (bn : Nat) (b0 : List Nat) (b1 : List Nat) : Nat → Int → Option ((Unit) ⊕ (Int × Bool))
  | 0, _ => none
  | n + 1, i => z64 an bn b0 b1  i  (fun i' => z5d an bn b0 b1 n i') (fun _ => some (Sum.inl ())) (fun c0_ c1_ => some (Sum.inr (c0_, c1_)))
theorem zer (an : Nat) (bn : Nat) (b0 : List Nat) (b1 : List Nat) (n : Nat) (i : Int) : z5d an bn b0 b1 (n + 1) i = z64 an bn b0 b1  i  (fun i' => z5d an bn b0 b1 n i') (fun _ => some (Sum.inl ())) (fun c0_ c1_ => some (Sum.inr (c0_, c1_))) := rfl
noncomputable def z8e (an : Nat) (bn : Nat) (b0 : List Nat) (b1 : List Nat) (i : Int) : Bool := (z5d an bn b0 b1 big i).isSome
noncomputable def z80 (an : Nat) (bn : Nat) (b0 : List Nat) (b1 : List Nat) (i : Int) : Bool := oL (z5d an bn b0 b1 big i)
noncomputable def zb7 (an : Nat) (bn : Nat) (b0 : List Nat) (b1 : List Nat) (i : Int) : Int := ((tR (z5d an bn b0 b1 big i)).getD default).1
noncomputable def zb5 (an : Nat) (bn : Nat) (b0 : List Nat) (b1 : List Nat) (i : Int) : Bool := ((tR (z5d an bn b0 b1 big i)).getD default).2
theorem zi1 {an : Nat} {bn : Nat} {b0 : List Nat} {b1 : List Nat} {i : Int} {m : Nat} {r : Int × Bool} (hm : m = big) (h : z5d an bn b0 b1 m i = some (Sum.inr r)) : z8e an bn b0 b1 i = true ∧ z80 an bn b0 b1 i = false ∧ zb7 an bn b0 b1 i = r.1 ∧ zb5 an bn b0 b1 i = r.2 := by
  subst hm
  unfold z8e z80 zb7 zb5
  rw [h]
  exact ⟨rfl, rfl, rfl, rfl⟩
noncomputable def z4d {R : Type} (sn : Nat) (t7 : Int) (b0 : List Nat) (t8 : Int) (kn_ : Int → Option R) (k0_ : Int → Option R) (k1_ : Int → Bool → Option R) : Option R := (br (ltI t8 t7) (grd (okIx t8 sn) (grd (zc8 (gF b0 (ixO 0 t8 1))) (br (zb3 (gF b0 (ixO 0 t8 1))) (k0_ t8) (kn_ (addI IntKind.i64 t8 1))))) (k1_ t8 (ltI t8 t7)))
theorem zbh {R R' : Type} (o : Option R → Option R') (h0 : o none = none) (sn : Nat) (t7 : Int) (b0 : List Nat) (t8 : Int) (kn_ : Int → Option R) (k0_ : Int → Option R) (k1_ : Int → Bool → Option R) : z4d sn t7 b0 t8 (fun t8' => o (kn_ t8')) (fun c0_ => o (k0_ c0_)) (fun c0_ c1_ => o (k1_ c0_ c1_)) = o (z4d sn t7 b0 t8 kn_ k0_ k1_) := by
  unfold z4d
  repeat (first | refine grd_out h0 ?_ | refine br_out ?_ ?_ | rfl | exact h0.symm)
noncomputable def z1r (sn : Nat) (t7 : Int) (b0 : List Nat) : Nat → Int → Option ((Int) ⊕ (Int × Bool))
  | 0, _ => none
  | n + 1, t8 => z4d sn t7 b0  t8  (fun t8' => z1r sn t7 b0 n t8') (fun c0_ => some (Sum.inl c0_)) (fun c0_ c1_ => some (Sum.inr (c0_, c1_)))
theorem z77 (sn : Nat) (t7 : Int) (b0 : List Nat) (n : Nat) (t8 : Int) : z1r sn t7 b0 (n + 1) t8 = z4d sn t7 b0  t8  (fun t8' => z1r sn t7 b0 n t8') (fun c0_ => some (Sum.inl c0_)) (fun c0_ c1_ => some (Sum.inr (c0_, c1_))) := rfl
noncomputable def z4x (sn : Nat) (t7 : Int) (b0 : List Nat) (t8 : Int) : Bool := (z1r sn t7 b0 big t8).isSome
noncomputable def z4u (sn : Nat) (t7 : Int) (b0 : List Nat) (t8 : Int) : Bool := oL (z1r sn t7 b0 big t8)
noncomputable def z5m (sn : Nat) (t7 : Int) (b0 : List Nat) (t8 : Int) : Int := ((tL (z1r sn t7 b0 big t8)).getD default)
noncomputable def z6i (sn : Nat) (t7 : Int) (b0 : List Nat) (t8 : Int) : Int := ((tR (z1r sn t7 b0 big t8)).getD default).1
noncomputable def z6l (sn : Nat) (t7 : Int) (b0 : List Nat) (t8 : Int) : Bool := ((tR (z1r sn t7 b0 big t8)).getD default).2
theorem zch {sn : Nat} {t7 : Int} {b0 : List Nat} {t8 : Int} {m : Nat} {r : Int} (hm : m = big) (h : z1r sn t7 b0 m t8 = some (Sum.inl r)) : z4x sn t7 b0 t8 = true ∧ z4u sn t7 b0 t8 = true ∧ z5m sn t7 b0 t8 = r := by
  subst hm
  unfold z4x z4u z5m
  rw [h]
  exact ⟨rfl, rfl, rfl⟩
theorem zcj {sn : Nat} {t7 : Int} {b0 : List Nat} {t8 : Int} {m : Nat} {r : Int × Bool} (hm : m = big) (h : z1r sn t7 b0 m t8 = some (Sum.inr r)) : z4x sn t7 b0 t8 = true ∧ z4u sn t7 b0 t8 = false ∧ z6i sn t7 b0 t8 = r.1 ∧ z6l sn t7 b0 t8 = r.2 := by
  subst hm
  unfold z4x z4u z6i z6l
  rw [h]
  exact ⟨rfl, rfl, rfl, rfl⟩
noncomputable def z45 {R : Type} (sn : Nat) (t7 : Int) (b0 : List Nat) (t8 : Int) (kn_ : Int → Option R) (k0_ : Int → Option R) (k1_ : Int → Bool → Option R) : Option R := (br (ltI t8 t7) (grd (okIx t8 sn) (grd (zae (gF b0 (ixO 0 t8 1))) (br (z9z (gF b0 (ixO 0 t8 1))) (k0_ t8) (kn_ (addI IntKind.i64 t8 1))))) (k1_ t8 (ltI t8 t7)))
theorem zay {R R' : Type} (o : Option R → Option R') (h0 : o none = none) (sn : Nat) (t7 : Int) (b0 : List Nat) (t8 : Int) (kn_ : Int → Option R) (k0_ : Int → Option R) (k1_ : Int → Bool → Option R) : z45 sn t7 b0 t8 (fun t8' => o (kn_ t8')) (fun c0_ => o (k0_ c0_)) (fun c0_ c1_ => o (k1_ c0_ c1_)) = o (z45 sn t7 b0 t8 kn_ k0_ k1_) := by
  unfold z45
  repeat (first | refine grd_out h0 ?_ | refine br_out ?_ ?_ | rfl | exact h0.symm)
noncomputable def z1l (sn : Nat) (t7 : Int) (b0 : List Nat) : Nat → Int → Option ((Int) ⊕ (Int × Bool))
  | 0, _ => none
  | n + 1, t8 => z45 sn t7 b0  t8  (fun t8' => z1l sn t7 b0 n t8') (fun c0_ => some (Sum.inl c0_)) (fun c0_ c1_ => some (Sum.inr (c0_, c1_)))
theorem z71 (sn : Nat) (t7 : Int) (b0 : List Nat) (n : Nat) (t8 : Int) : z1l sn t7 b0 (n + 1) t8 = z45 sn t7 b0  t8  (fun t8' => z1l sn t7 b0 n t8') (fun c0_ => some (Sum.inl c0_)) (fun c0_ c1_ => some (Sum.inr (c0_, c1_))) := rfl
noncomputable def z4r (sn : Nat) (t7 : Int) (b0 : List Nat) (t8 : Int) : Bool := (z1l sn t7 b0 big t8).isSome
noncomputable def z4p (sn : Nat) (t7 : Int) (b0 : List Nat) (t8 : Int) : Bool := oL (z1l sn t7 b0 big t8)
noncomputable def z5l (sn : Nat) (t7 : Int) (b0 : List Nat) (t8 : Int) : Int := ((tL (z1l sn t7 b0 big t8)).getD default)
noncomputable def z6f (sn : Nat) (t7 : Int) (b0 : List Nat) (t8 : Int) : Int := ((tR (z1l sn t7 b0 big t8)).getD default).1
noncomputable def z6e (sn : Nat) (t7 : Int) (b0 : List Nat) (t8 : Int) : Bool := ((tR (z1l sn t7 b0 big t8)).getD default).2
theorem zb8 {sn : Nat} {t7 : Int} {b0 : List Nat} {t8 : Int} {m : Nat} {r : Int} (hm : m = big) (h : z1l sn t7 b0 m t8 = some (Sum.inl r)) : z4r sn t7 b0 t8 = true ∧ z4p sn t7 b0 t8 = true ∧ z5l sn t7 b0 t8 = r := by
  subst hm
  unfold z4r z4p z5l
  rw [h]
  exact ⟨rfl, rfl, rfl⟩
theorem zb9 {sn : Nat} {t7 : Int} {b0 : List Nat} {t8 : Int} {m : Nat} {r : Int × Bool} (hm : m = big) (h : z1l sn t7 b0 m t8 = some (Sum.inr r)) : z4r sn t7 b0 t8 = true ∧ z4p sn t7 b0 t8 = false ∧ z6f sn t7 b0 t8 = r.1 ∧ z6e sn t7 b0 t8 = r.2 := by
  subst hm
  unfold z4r z4p z6f z6e
  rw [h]
  exact ⟨rfl, rfl, rfl, rfl⟩
noncomputable def z9k {R : Type} (q0u : Nat) (q19 : List Nat) (q10 : Nat) (q1c : List Nat) (q13 : Nat) (q1g : List Nat) (q27 : Nat) (q2c : List Nat) (q29 : Nat) (q2i : List Nat) (q2a : Nat) (q2j : List Nat) (k_ : Bool → Option R) : Option R := (grd (z8l q0u (pF q19 0 (muN q0u 1)) q27 (pF q2c 0 (muN q27 1))) (br (bnot (z84 q0u (pF q19 0 (muN q0u 1)) q27 (pF q2c 0 (muN q27 1)))) (k_ Bool.false) (grd (z8l q10 (pF q1c 0 (muN q10 1)) q29 (pF q2i 0 (muN q29 1))) (br (bnot (z84 q10 (pF q1c 0 (muN q10 1)) q29 (pF q2i 0 (muN q29 1)))) (k_ Bool.false) (grd (z8l q13 (pF q1g 0 (muN q13 1)) q2a (pF q2j 0 (muN q2a 1))) (br (bnot (z84 q13 (pF q1g 0 (muN q13 1)) q2a (pF q2j 0 (muN q2a 1)))) (k_ Bool.false) (k_ Bool.true)))))))
noncomputable def z9m (q0u : Nat) (q19 : List Nat) (q10 : Nat) (q1c : List Nat) (q13 : Nat) (q1g : List Nat) (q27 : Nat) (q2c : List Nat) (q29 : Nat) (q2i : List Nat) (q2a : Nat) (q2j : List Nat) : Option (Bool) := z9k q0u q19 q10 q1c q13 q1g q27 q2c q29 q2i q2a q2j (fun c0_ => some c0_)
theorem zjk {R R' : Type} (o : Option R → Option R') (h0 : o none = none) (q0u : Nat) (q19 : List Nat) (q10 : Nat) (q1c : List Nat) (q13 : Nat) (q1g : List Nat) (q27 : Nat) (q2c : List Nat) (q29 : Nat) (q2i : List Nat) (q2a : Nat) (q2j : List Nat) (k_ : Bool → Option R) : z9k q0u q19 q10 q1c q13 q1g q27 q2c q29 q2i q2a q2j (fun c0_ => o (k_ c0_)) = o (z9k q0u q19 q10 q1c q13 q1g q27 q2c q29 q2i q2a q2j k_) := by
  unfold z9k
  repeat (first | refine grd_out h0 ?_ | refine br_out ?_ ?_ | rfl | exact h0.symm)
noncomputable def ze2 (q0u : Nat) (q19 : List Nat) (q10 : Nat) (q1c : List Nat) (q13 : Nat) (q1g : List Nat) (q27 : Nat) (q2c : List Nat) (q29 : Nat) (q2i : List Nat) (q2a : Nat) (q2j : List Nat) : Bool := (z9m q0u q19 q10 q1c q13 q1g q27 q2c q29 q2i q2a q2j).isSome
noncomputable def zcu (q0u : Nat) (q19 : List Nat) (q10 : Nat) (q1c : List Nat) (q13 : Nat) (q1g : List Nat) (q27 : Nat) (q2c : List Nat) (q29 : Nat) (q2i : List Nat) (q2a : Nat) (q2j : List Nat) : Bool := ((z9m q0u q19 q10 q1c q13 q1g q27 q2c q29 q2i q2a q2j).getD default)
theorem zlq {q0u : Nat} {q19 : List Nat} {q10 : Nat} {q1c : List Nat} {q13 : Nat} {q1g : List Nat} {q27 : Nat} {q2c : List Nat} {q29 : Nat} {q2i : List Nat} {q2a : Nat} {q2j : List Nat} {r : Bool} (h : z9m q0u q19 q10 q1c q13 q1g q27 q2c q29 q2i q2a q2j = some r) : ze2 q0u q19 q10 q1c q13 q1g q27 q2c q29 q2i q2a q2j = true ∧ zcu q0u q19 q10 q1c q13 q1g q27 q2c q29 q2i q2a q2j = r := by
  unfold ze2 zcu
  rw [h]
  exact ⟨rfl, rfl⟩
noncomputable def zar {R : Type} (q0e : Nat) (q0h : List Nat) (q0g : Nat) (q0l : List Nat) (q0f : Nat) (q0k : List Nat) (q0n : Nat) (q0y : List Nat) (q1b : Int) (q1l : Nat) (q1k : Nat) (k_ : Nat → Nat → Nat → Nat → (List Nat) → (List Nat) → (List Nat) → (List Nat) → Option R) : Option R := (grd (ze8 q0e (pF q0h 0 (muN q0e 1)) q0g (pF q0l 0 (muN q0g 1)) q0f (pF q0k 0 (muN q0f 1))) (grd (zcr q0n (pF q0y 0 (muN q0n 3))) (k_ (zcw q0e (pF q0h 0 (muN q0e 1)) q0g (pF q0l 0 (muN q0g 1)) q0f (pF q0k 0 (muN q0f 1))) (zcy q0e (pF q0h 0 (muN q0e 1)) q0g (pF q0l 0 (muN q0g 1)) q0f (pF q0k 0 (muN q0f 1))) (zd6 q0e (pF q0h 0 (muN q0e 1)) q0g (pF q0l 0 (muN q0g 1)) q0f (pF q0k 0 (muN q0f 1))) (zc9 q0n (pF q0y 0 (muN q0n 3))) (zcp q0e (pF q0h 0 (muN q0e 1)) q0g (pF q0l 0 (muN q0g 1)) q0f (pF q0k 0 (muN q0f 1))) (zd4 q0e (pF q0h 0 (muN q0e 1)) q0g (pF q0l 0 (muN q0g 1)) q0f (pF q0k 0 (muN q0f 1))) (zcv q0e (pF q0h 0 (muN q0e 1)) q0g (pF q0l 0 (muN q0g 1)) q0f (pF q0k 0 (muN q0f 1))) (zbr q0n (pF q0y 0 (muN q0n 3))))))
noncomputable def z68 (q0e : Nat) (q0h : List Nat) (q0g : Nat) (q0l : List Nat) (q0f : Nat) (q0k : List Nat) (q0n : Nat) (q0y : List Nat) (q1b : Int) (q1l : Nat) (q1k : Nat) : Option (Nat × Nat × Nat × Nat × (List Nat) × (List Nat) × (List Nat) × (List Nat)) := zar q0e q0h q0g q0l q0f q0k q0n q0y q1b q1l q1k (fun c0_ c1_ c2_ c3_ c4_ c5_ c6_ c7_ => some (c0_, c1_, c2_, c3_, c4_, c5_, c6_, c7_))
theorem zki {R R' : Type} (o : Option R → Option R') (h0 : o none = none) (q0e : Nat) (q0h : List Nat) (q0g : Nat) (q0l : List Nat) (q0f : Nat) (q0k : List Nat) (q0n : Nat) (q0y : List Nat) (q1b : Int) (q1l : Nat) (q1k : Nat) (k_ : Nat → Nat → Nat → Nat → (List Nat) → (List Nat) → (List Nat) → (List Nat) → Option R) : zar q0e q0h q0g q0l q0f q0k q0n q0y q1b q1l q1k (fun c0_ c1_ c2_ c3_ c4_ c5_ c6_ c7_ => o (k_ c0_ c1_ c2_ c3_ c4_ c5_ c6_ c7_)) = o (zar q0e q0h q0g q0l q0f q0k q0n q0y q1b q1l q1k k_) := by
  unfold zar
  repeat (first | refine grd_out h0 ?_ | refine br_out ?_ ?_ | rfl | exact h0.symm)
noncomputable def z9b (q0e : Nat) (q0h : List Nat) (q0g : Nat) (q0l : List Nat) (q0f : Nat) (q0k : List Nat) (q0n : Nat) (q0y : List Nat) (q1b : Int) (q1l : Nat) (q1k : Nat) : Bool := (z68 q0e q0h q0g q0l q0f q0k q0n q0y q1b q1l q1k).isSome
noncomputable def z48 (q0e : Nat) (q0h : List Nat) (q0g : Nat) (q0l : List Nat) (q0f : Nat) (q0k : List Nat) (q0n : Nat) (q0y : List Nat) (q1b : Int) (q1l : Nat) (q1k : Nat) : Nat := ((z68 q0e q0h q0g q0l q0f q0k q0n q0y q1b q1l q1k).getD default).1
noncomputable def z47 (q0e : Nat) (q0h : List Nat) (q0g : Nat) (q0l : List Nat) (q0f : Nat) (q0k : List Nat) (q0n : Nat) (q0y : List Nat) (q1b : Int) (q1l : Nat) (q1k : Nat) : Nat := ((z68 q0e q0h q0g q0l q0f q0k q0n q0y q1b q1l q1k).getD default).2.1
noncomputable def z4a (q0e : Nat) (q0h : List Nat) (q0g : Nat) (q0l : List Nat) (q0f : Nat) (q0k : List Nat) (q0n : Nat) (q0y : List Nat) (q1b : Int) (q1l : Nat) (q1k : Nat) : Nat := ((z68 q0e q0h q0g q0l q0f q0k q0n q0y q1b q1l q1k).getD default).2.2.1
noncomputable def z46 (q0e : Nat) (q0h : List Nat) (q0g : Nat) (q0l : List Nat) (q0f : Nat) (q0k : List Nat) (q0n : Nat) (q0y : List Nat) (q1b : Int) (q1l : Nat) (q1k : Nat) : Nat := ((z68 q0e q0h q0g q0l q0f q0k q0n q0y q1b q1l q1k).getD default).2.2.2.1
noncomputable def z5f (q0e : Nat) (q0h : List Nat) (q0g : Nat) (q0l : List Nat) (q0f : Nat) (q0k : List Nat) (q0n : Nat) (q0y : List Nat) (q1b : Int) (q1l : Nat) (q1k : Nat) : List Nat := ((z68 q0e q0h q0g q0l q0f q0k q0n q0y q1b q1l q1k).getD default).2.2.2.2.1
noncomputable def z5h (q0e : Nat) (q0h : List Nat) (q0g : Nat) (q0l : List Nat) (q0f : Nat) (q0k : List Nat) (q0n : Nat) (q0y : List Nat) (q1b : Int) (q1l : Nat) (q1k : Nat) : List Nat := ((z68 q0e q0h q0g q0l q0f q0k q0n q0y q1b q1l q1k).getD default).2.2.2.2.2.1
noncomputable def z5g (q0e : Nat) (q0h : List Nat) (q0g : Nat) (q0l : List Nat) (q0f : Nat) (q0k : List Nat) (q0n : Nat) (q0y : List Nat) (q1b : Int) (q1l : Nat) (q1k : Nat) : List Nat := ((z68 q0e q0h q0g q0l q0f q0k q0n q0y q1b q1l q1k).getD default).2.2.2.2.2.2.1
noncomputable def z5i (q0e : Nat) (q0h : List Nat) (q0g : Nat) (q0l : List Nat) (q0f : Nat) (q0k : List Nat) (q0n : Nat) (q0y : List Nat) (q1b : Int) (q1l : Nat) (q1k : Nat) : List Nat := ((z68 q0e q0h q0g q0l q0f q0k q0n q0y q1b q1l q1k).getD default).2.2.2.2.2.2.2
theorem zmd {q0e : Nat} {q0h : List Nat} {q0g : Nat} {q0l : List Nat} {q0f : Nat} {q0k : List Nat} {q0n : Nat} {q0y : List Nat} {q1b : Int} {q1l : Nat} {q1k : Nat} {r : Nat × Nat × Nat × Nat × (List Nat) × (List Nat) × (List Nat) × (List Nat)} (h : z68 q0e q0h q0g q0l q0f q0k q0n q0y q1b q1l q1k = some r) : z9b q0e q0h q0g q0l q0f q0k q0n q0y q1b q1l q1k = true ∧ z48 q0e q0h q0g q0l q0f q0k q0n q0y q1b q1l q1k = r.1 ∧ z47 q0e q0h q0g q0l q0f q0k q0n q0y q1b q1l q1k = r.2.1 ∧ z4a q0e q0h q0g q0l q0f q0k q0n q0y q1b q1l q1k = r.2.2.1 ∧ z46 q0e q0h q0g q0l q0f q0k q0n q0y q1b q1l q1k = r.2.2.2.1 ∧ z5f q0e q0h q0g q0l q0f q0k q0n q0y q1b q1l q1k = r.2.2.2.2.1 ∧ z5h q0e q0h q0g q0l q0f q0k q0n q0y q1b q1l q1k = r.2.2.2.2.2.1 ∧ z5g q0e q0h q0g q0l q0f q0k q0n q0y q1b q1l q1k = r.2.2.2.2.2.2.1 ∧ z5i q0e q0h q0g q0l q0f q0k q0n q0y q1b q1l q1k = r.2.2.2.2.2.2.2 := by
  unfold z9b z48 z47 z4a z46 z5f z5h z5g z5i
  rw [h]
  exact ⟨rfl, rfl, rfl, rfl, rfl, rfl, rfl, rfl, rfl⟩
noncomputable def zdp {R : Type} (q0z : Nat) (q1a : List Nat) (q16 : Nat) (q1f : List Nat) (q17 : Nat) (q1e : List Nat) (k_ : Bool → Option R) : Option R := (br (ltI (Int.ofNat q0z) 2) (k_ Bool.false) (br (ltI 24 (Int.ofNat q0z)) (k_ Bool.false) (br (neI (Int.ofNat q16) (Int.ofNat q0z)) (k_ Bool.false) (br (neI (Int.ofNat q17) (Int.ofNat q0z)) (k_ Bool.false) (grd (z7m (Int.ofNat q0z) q1a q1f q1e q0z q16 q17 0) (br (z75 (Int.ofNat q0z) q1a q1f q1e q0z q16 q17 0) (k_ Bool.false) (k_ Bool.true)))))))
noncomputable def zdl (q0z : Nat) (q1a : List Nat) (q16 : Nat) (q1f : List Nat) (q17 : Nat) (q1e : List Nat) : Option (Bool) := zdp q0z q1a q16 q1f q17 q1e (fun c0_ => some c0_)
theorem zm9 {R R' : Type} (o : Option R → Option R') (h0 : o none = none) (q0z : Nat) (q1a : List Nat) (q16 : Nat) (q1f : List Nat) (q17 : Nat) (q1e : List Nat) (k_ : Bool → Option R) : zdp q0z q1a q16 q1f q17 q1e (fun c0_ => o (k_ c0_)) = o (zdp q0z q1a q16 q1f q17 q1e k_) := by
  unfold zdp
  repeat (first | refine grd_out h0 ?_ | refine br_out ?_ ?_ | rfl | exact h0.symm)
noncomputable def zg3 (q0z : Nat) (q1a : List Nat) (q16 : Nat) (q1f : List Nat) (q17 : Nat) (q1e : List Nat) : Bool := (zdl q0z q1a q16 q1f q17 q1e).isSome
noncomputable def zfq (q0z : Nat) (q1a : List Nat) (q16 : Nat) (q1f : List Nat) (q17 : Nat) (q1e : List Nat) : Bool := ((zdl q0z q1a q16 q1f q17 q1e).getD default)
theorem znj {q0z : Nat} {q1a : List Nat} {q16 : Nat} {q1f : List Nat} {q17 : Nat} {q1e : List Nat} {r : Bool} (h : zdl q0z q1a q16 q1f q17 q1e = some r) : zg3 q0z q1a q16 q1f q17 q1e = true ∧ zfq q0z q1a q16 q1f q17 q1e = r := by
  unfold zg3 zfq
  rw [h]
  exact ⟨rfl, rfl⟩
noncomputable def z8i {R : Type} (a_n : Nat) (a : List Nat) (b_n : Nat) (b : List Nat) (k_ : Bool → Option R) : Option R := (br (neI (Int.ofNat a_n) (Int.ofNat b_n)) (k_ Bool.false) (grd (z8e a_n b_n a b 0) (br (z80 a_n b_n a b 0) (k_ Bool.false) (k_ Bool.true))))
noncomputable def z91 (a_n : Nat) (a : List Nat) (b_n : Nat) (b : List Nat) : Option (Bool) := z8i a_n a b_n b (fun c0_ => some c0_)
theorem zie {R R' : Type} (o : Option R → Option R') (h0 : o none = none) (a_n : Nat) (a : List Nat) (b_n : Nat) (b : List Nat) (k_ : Bool → Option R) : z8i a_n a b_n b (fun c0_ => o (k_ c0_)) = o (z8i a_n a b_n b k_) := by
  unfold z8i
  repeat (first | refine grd_out h0 ?_ | refine br_out ?_ ?_ | rfl | exact h0.symm)
noncomputable def zcx (a_n : Nat) (a : List Nat) (b_n : Nat) (b : List Nat) : Bool := (z91 a_n a b_n b).isSome
noncomputable def zc3 (a_n : Nat) (a : List Nat) (b_n : Nat) (b : List Nat) : Bool := ((z91 a_n a b_n b).getD default)
theorem zkr {a_n : Nat} {a : List Nat} {b_n : Nat} {b : List Nat} {r : Bool} (h : z91 a_n a b_n b = some r) : zcx a_n a b_n b = true ∧ zc3 a_n a b_n b = r := by
  unfold zcx zc3
  rw [h]
  exact ⟨rfl, rfl⟩
noncomputable def zas {R : Type} (x : Nat) (k_ : Nat → Option R) : Option R := (grd (zcc (fcvV FloatKind.f32 FloatKind.f64 x)) (grd (zea (z97 (fcvV FloatKind.f32 FloatKind.f64 x))) (k_ (zcs (z97 (fcvV FloatKind.f32 FloatKind.f64 x))))))
noncomputable def z9f (x : Nat) : Option (Nat) := zas x (fun c0_ => some c0_)
theorem zkd {R R' : Type} (o : Option R → Option R') (h0 : o none = none) (x : Nat) (k_ : Nat → Option R) : zas x (fun c0_ => o (k_ c0_)) = o (zas x k_) := by
  unfold zas
  repeat (first | refine grd_out h0 ?_ | refine br_out ?_ ?_ | rfl | exact h0.symm)
noncomputable def zff (x : Nat) : Bool := (z9f x).isSome
noncomputable def z8a (x : Nat) : Nat := ((z9f x).getD default)
theorem zmp {x : Nat} {r : Nat} (h : z9f x = some r) : zff x = true ∧ z8a x = r := by
  unfold zff z8a
  rw [h]
  exact ⟨rfl, rfl⟩
noncomputable def z57 {R : Type} (s_n : Nat) (s : List Nat) (k_ : Int → Option R) : Option R := (grd (z4x s_n (Int.ofNat s_n) s 0) (br (z4u s_n (Int.ofNat s_n) s 0) (k_ (z5m s_n (Int.ofNat s_n) s 0)) (k_ (Int.negSucc 0))))
noncomputable def z56 (s_n : Nat) (s : List Nat) : Option (Int) := z57 s_n s (fun c0_ => some c0_)
theorem zco {R R' : Type} (o : Option R → Option R') (h0 : o none = none) (s_n : Nat) (s : List Nat) (k_ : Int → Option R) : z57 s_n s (fun c0_ => o (k_ c0_)) = o (z57 s_n s k_) := by
  unfold z57
  repeat (first | refine grd_out h0 ?_ | refine br_out ?_ ?_ | rfl | exact h0.symm)
noncomputable def z69 (s_n : Nat) (s : List Nat) : Bool := (z56 s_n s).isSome
noncomputable def z67 (s_n : Nat) (s : List Nat) : Int := ((z56 s_n s).getD default)
theorem ze7 {s_n : Nat} {s : List Nat} {r : Int} (h : z56 s_n s = some r) : z69 s_n s = true ∧ z67 s_n s = r := by
  unfold z69 z67
  rw [h]
  exact ⟨rfl, rfl⟩
noncomputable def z50 {R : Type} (s_n : Nat) (s : List Nat) (k_ : Int → Option R) : Option R := (grd (z4r s_n (Int.ofNat s_n) s 0) (br (z4p s_n (Int.ofNat s_n) s 0) (k_ (z5l s_n (Int.ofNat s_n) s 0)) (k_ (Int.negSucc 0))))
noncomputable def z54 (s_n : Nat) (s : List Nat) : Option (Int) := z50 s_n s (fun c0_ => some c0_)
theorem zbt {R R' : Type} (o : Option R → Option R') (h0 : o none = none) (s_n : Nat) (s : List Nat) (k_ : Int → Option R) : z50 s_n s (fun c0_ => o (k_ c0_)) = o (z50 s_n s k_) := by
  unfold z50
  repeat (first | refine grd_out h0 ?_ | refine br_out ?_ ?_ | rfl | exact h0.symm)
noncomputable def z61 (s_n : Nat) (s : List Nat) : Bool := (z54 s_n s).isSome
noncomputable def z5w (s_n : Nat) (s : List Nat) : Int := ((z54 s_n s).getD default)
theorem zdk {s_n : Nat} {s : List Nat} {r : Int} (h : z54 s_n s = some r) : z61 s_n s = true ∧ z5w s_n s = r := by
  unfold z61 z5w
  rw [h]
  exact ⟨rfl, rfl⟩
noncomputable def z4f {R : Type} (sn : Nat) (t7 : Int) (b0 : List Nat) (t8 : Int) (kn_ : Int → Option R) (k0_ : Int → Option R) (k1_ : Int → Bool → Option R) : Option R := (br (ltI t8 t7) (grd (okIx t8 sn) (grd (zd0 (gF b0 (ixO 0 t8 1))) (br (zc5 (gF b0 (ixO 0 t8 1))) (k0_ t8) (kn_ (addI IntKind.i64 t8 1))))) (k1_ t8 (ltI t8 t7)))
theorem zbw {R R' : Type} (o : Option R → Option R') (h0 : o none = none) (sn : Nat) (t7 : Int) (b0 : List Nat) (t8 : Int) (kn_ : Int → Option R) (k0_ : Int → Option R) (k1_ : Int → Bool → Option R) : z4f sn t7 b0 t8 (fun t8' => o (kn_ t8')) (fun c0_ => o (k0_ c0_)) (fun c0_ c1_ => o (k1_ c0_ c1_)) = o (z4f sn t7 b0 t8 kn_ k0_ k1_) := by
  unfold z4f
  repeat (first | refine grd_out h0 ?_ | refine br_out ?_ ?_ | rfl | exact h0.symm)
noncomputable def z20 (sn : Nat) (t7 : Int) (b0 : List Nat) : Nat → Int → Option ((Int) ⊕ (Int × Bool))
  | 0, _ => none
  | n + 1, t8 => z4f sn t7 b0  t8  (fun t8' => z20 sn t7 b0 n t8') (fun c0_ => some (Sum.inl c0_)) (fun c0_ c1_ => some (Sum.inr (c0_, c1_)))
theorem z7b (sn : Nat) (t7 : Int) (b0 : List Nat) (n : Nat) (t8 : Int) : z20 sn t7 b0 (n + 1) t8 = z4f sn t7 b0  t8  (fun t8' => z20 sn t7 b0 n t8') (fun c0_ => some (Sum.inl c0_)) (fun c0_ c1_ => some (Sum.inr (c0_, c1_))) := rfl
noncomputable def z51 (sn : Nat) (t7 : Int) (b0 : List Nat) (t8 : Int) : Bool := (z20 sn t7 b0 big t8).isSome
noncomputable def z4w (sn : Nat) (t7 : Int) (b0 : List Nat) (t8 : Int) : Bool := oL (z20 sn t7 b0 big t8)
noncomputable def z5q (sn : Nat) (t7 : Int) (b0 : List Nat) (t8 : Int) : Int := ((tL (z20 sn t7 b0 big t8)).getD default)
noncomputable def z6p (sn : Nat) (t7 : Int) (b0 : List Nat) (t8 : Int) : Int := ((tR (z20 sn t7 b0 big t8)).getD default).1
noncomputable def z6m (sn : Nat) (t7 : Int) (b0 : List Nat) (t8 : Int) : Bool := ((tR (z20 sn t7 b0 big t8)).getD default).2
theorem zck {sn : Nat} {t7 : Int} {b0 : List Nat} {t8 : Int} {m : Nat} {r : Int} (hm : m = big) (h : z20 sn t7 b0 m t8 = some (Sum.inl r)) : z51 sn t7 b0 t8 = true ∧ z4w sn t7 b0 t8 = true ∧ z5q sn t7 b0 t8 = r := by
  subst hm
  unfold z51 z4w z5q
  rw [h]
  exact ⟨rfl, rfl, rfl⟩
theorem zcl {sn : Nat} {t7 : Int} {b0 : List Nat} {t8 : Int} {m : Nat} {r : Int × Bool} (hm : m = big) (h : z20 sn t7 b0 m t8 = some (Sum.inr r)) : z51 sn t7 b0 t8 = true ∧ z4w sn t7 b0 t8 = false ∧ z6p sn t7 b0 t8 = r.1 ∧ z6m sn t7 b0 t8 = r.2 := by
  subst hm
  unfold z51 z4w z6p z6m
  rw [h]
  exact ⟨rfl, rfl, rfl, rfl⟩
noncomputable def zal {R : Type} (q0e : Nat) (q0h : List Nat) (q0g : Nat) (q0l : List Nat) (q0f : Nat) (q0k : List Nat) (q0n : Nat) (q0y : List Nat) (q1b : Int) (q1l : Nat) (q1k : Nat) (q1m : Nat) (q1t : List Nat) (q1q : Nat) (q1v : List Nat) (q1p : Nat) (q1u : List Nat) (q24 : Nat) (q28 : List Nat) (q2m : Int) (q2r : Nat) (q2q : Nat) (k_ : Bool → Option R) : Option R := (grd (ze2 q0e (pF q0h 0 (muN q0e 1)) q0g (pF q0l 0 (muN q0g 1)) q0f (pF q0k 0 (muN q0f 1)) q1m (pF q1t 0 (muN q1m 1)) q1q (pF q1v 0 (muN q1q 1)) q1p (pF q1u 0 (muN q1p 1))) (br (bnot (zcu q0e (pF q0h 0 (muN q0e 1)) q0g (pF q0l 0 (muN q0g 1)) q0f (pF q0k 0 (muN q0f 1)) q1m (pF q1t 0 (muN q1m 1)) q1q (pF q1v 0 (muN q1q 1)) q1p (pF q1u 0 (muN q1p 1)))) (k_ Bool.false) (grd (zcx q0n (pF q0y 0 (muN q0n 3)) q24 (pF q28 0 (muN q24 3))) (br (bnot (zc3 q0n (pF q0y 0 (muN q0n 3)) q24 (pF q28 0 (muN q24 3)))) (k_ Bool.false) (br (neI q1b q2m) (k_ Bool.false) (grd (z6n (fcvV FloatKind.f32 FloatKind.f64 q1l) (fcvV FloatKind.f32 FloatKind.f64 q2r)) (br (bnot (z6g (fcvV FloatKind.f32 FloatKind.f64 q1l) (fcvV FloatKind.f32 FloatKind.f64 q2r))) (k_ Bool.false) (grd (z6n (fcvV FloatKind.f32 FloatKind.f64 q1k) (fcvV FloatKind.f32 FloatKind.f64 q2q)) (br (bnot (z6g (fcvV FloatKind.f32 FloatKind.f64 q1k) (fcvV FloatKind.f32 FloatKind.f64 q2q))) (k_ Bool.false) (k_ Bool.true))))))))))
noncomputable def zak (q0e : Nat) (q0h : List Nat) (q0g : Nat) (q0l : List Nat) (q0f : Nat) (q0k : List Nat) (q0n : Nat) (q0y : List Nat) (q1b : Int) (q1l : Nat) (q1k : Nat) (q1m : Nat) (q1t : List Nat) (q1q : Nat) (q1v : List Nat) (q1p : Nat) (q1u : List Nat) (q24 : Nat) (q28 : List Nat) (q2m : Int) (q2r : Nat) (q2q : Nat) : Option (Bool) := zal q0e q0h q0g q0l q0f q0k q0n q0y q1b q1l q1k q1m q1t q1q q1v q1p q1u q24 q28 q2m q2r q2q (fun c0_ => some c0_)
theorem zkc {R R' : Type} (o : Option R → Option R') (h0 : o none = none) (q0e : Nat) (q0h : List Nat) (q0g : Nat) (q0l : List Nat) (q0f : Nat) (q0k : List Nat) (q0n : Nat) (q0y : List Nat) (q1b : Int) (q1l : Nat) (q1k : Nat) (q1m : Nat) (q1t : List Nat) (q1q : Nat) (q1v : List Nat) (q1p : Nat) (q1u : List Nat) (q24 : Nat) (q28 : List Nat) (q2m : Int) (q2r : Nat) (q2q : Nat) (k_ : Bool → Option R) : zal q0e q0h q0g q0l q0f q0k q0n q0y q1b q1l q1k q1m q1t q1q q1v q1p q1u q24 q28 q2m q2r q2q (fun c0_ => o (k_ c0_)) = o (zal q0e q0h q0g q0l q0f q0k q0n q0y q1b q1l q1k q1m q1t q1q q1v q1p q1u q24 q28 q2m q2r q2q k_) := by
  unfold zal
  repeat (first | refine grd_out h0 ?_ | refine br_out ?_ ?_ | rfl | exact h0.symm)
noncomputable def zdm (q0e : Nat) (q0h : List Nat) (q0g : Nat) (q0l : List Nat) (q0f : Nat) (q0k : List Nat) (q0n : Nat) (q0y : List Nat) (q1b : Int) (q1l : Nat) (q1k : Nat) (q1m : Nat) (q1t : List Nat) (q1q : Nat) (q1v : List Nat) (q1p : Nat) (q1u : List Nat) (q24 : Nat) (q28 : List Nat) (q2m : Int) (q2r : Nat) (q2q : Nat) : Bool := (zak q0e q0h q0g q0l q0f q0k q0n q0y q1b q1l q1k q1m q1t q1q q1v q1p q1u q24 q28 q2m q2r q2q).isSome
noncomputable def zca (q0e : Nat) (q0h : List Nat) (q0g : Nat) (q0l : List Nat) (q0f : Nat) (q0k : List Nat) (q0n : Nat) (q0y : List Nat) (q1b : Int) (q1l : Nat) (q1k : Nat) (q1m : Nat) (q1t : List Nat) (q1q : Nat) (q1v : List Nat) (q1p : Nat) (q1u : List Nat) (q24 : Nat) (q28 : List Nat) (q2m : Int) (q2r : Nat) (q2q : Nat) : Bool := ((zak q0e q0h q0g q0l q0f q0k q0n q0y q1b q1l q1k q1m q1t q1q q1v q1p q1u q24 q28 q2m q2r q2q).getD default)
theorem zmq {q0e : Nat} {q0h : List Nat} {q0g : Nat} {q0l : List Nat} {q0f : Nat} {q0k : List Nat} {q0n : Nat} {q0y : List Nat} {q1b : Int} {q1l : Nat} {q1k : Nat} {q1m : Nat} {q1t : List Nat} {q1q : Nat} {q1v : List Nat} {q1p : Nat} {q1u : List Nat} {q24 : Nat} {q28 : List Nat} {q2m : Int} {q2r : Nat} {q2q : Nat} {r : Bool} (h : zak q0e q0h q0g q0l q0f q0k q0n q0y q1b q1l q1k q1m q1t q1q q1v q1p q1u q24 q28 q2m q2r q2q = some r) : zdm q0e q0h q0g q0l q0f q0k q0n q0y q1b q1l q1k q1m q1t q1q q1v q1p q1u q24 q28 q2m q2r q2q = true ∧ zca q0e q0h q0g q0l q0f q0k q0n q0y q1b q1l q1k q1m q1t q1q q1v q1p q1u q24 q28 q2m q2r q2q = r := by
  unfold zdm zca
  rw [h]
  exact ⟨rfl, rfl⟩
noncomputable def z5a {R : Type} (s_n : Nat) (s : List Nat) (k_ : Int → Option R) : Option R := (grd (z51 s_n (Int.ofNat s_n) s 0) (br (z4w s_n (Int.ofNat s_n) s 0) (k_ (z5q s_n (Int.ofNat s_n) s 0)) (k_ (Int.negSucc 0))))
noncomputable def z59 (s_n : Nat) (s : List Nat) : Option (Int) := z5a s_n s (fun c0_ => some c0_)
theorem zdh {R R' : Type} (o : Option R → Option R') (h0 : o none = none) (s_n : Nat) (s : List Nat) (k_ : Int → Option R) : z5a s_n s (fun c0_ => o (k_ c0_)) = o (z5a s_n s k_) := by
  unfold z5a
  repeat (first | refine grd_out h0 ?_ | refine br_out ?_ ?_ | rfl | exact h0.symm)
noncomputable def z6d (s_n : Nat) (s : List Nat) : Bool := (z59 s_n s).isSome
noncomputable def z6a (s_n : Nat) (s : List Nat) : Int := ((z59 s_n s).getD default)
theorem zeg {s_n : Nat} {s : List Nat} {r : Int} (h : z59 s_n s = some r) : z6d s_n s = true ∧ z6a s_n s = r := by
  unfold z6d z6a
  rw [h]
  exact ⟨rfl, rfl⟩
noncomputable def z79 {R : Type} (u : Nat) (p : Nat) (k : Nat) (kn_ : Nat → Nat → Option R) (k0_ : Nat → Nat → Bool → Option R) : Option R := (br (fcmp BinOp.geq FloatKind.f64 k 4607182418800017408) (kn_ (fop BinOp.sub FloatKind.f64 4607182418800017408 (fop BinOp.quo FloatKind.f64 (fop BinOp.mul FloatKind.f64 u p) (fop BinOp.mul FloatKind.f64 (fop BinOp.mul FloatKind.f64 4611686018427387904 k) (fop BinOp.add FloatKind.f64 (fop BinOp.mul FloatKind.f64 4611686018427387904 k) 4607182418800017408)))) (fop BinOp.sub FloatKind.f64 k 4607182418800017408)) (k0_ p k (fcmp BinOp.geq FloatKind.f64 k 4607182418800017408)))
theorem zkl {R R' : Type} (o : Option R → Option R') (h0 : o none = none) (u : Nat) (p : Nat) (k : Nat) (kn_ : Nat → Nat → Option R) (k0_ : Nat → Nat → Bool → Option R) : z79 u p k (fun p' k' => o (kn_ p' k')) (fun c0_ c1_ c2_ => o (k0_ c0_ c1_ c2_)) = o (z79 u p k kn_ k0_) := by
  unfold z79
  repeat (first | refine grd_out h0 ?_ | refine br_out ?_ ?_ | rfl | exact h0.symm)
noncomputable def z5y (u : Nat) : Nat → Nat → Nat → Option ((Nat × Nat × Bool))
  | 0, _, _ => none
  | n + 1, p, k => z79 u  p k  (fun p' k' => z5y u n p' k') (fun c0_ c1_ c2_ => some (c0_, c1_, c2_))
theorem zg4 (u : Nat) (n : Nat) (p : Nat) (k : Nat) : z5y u (n + 1) p k = z79 u  p k  (fun p' k' => z5y u n p' k') (fun c0_ c1_ c2_ => some (c0_, c1_, c2_)) := rfl
noncomputable def z7w (u : Nat) (p : Nat) (k : Nat) : Bool := (z5y u big p k).isSome
noncomputable def z6y (u : Nat) (p : Nat) (k : Nat) : Nat := ((z5y u big p k).getD default).1
noncomputable def zfi (u : Nat) (p : Nat) (k : Nat) : Nat := ((z5y u big p k).getD default).2.1
noncomputable def zfj (u : Nat) (p : Nat) (k : Nat) : Bool := ((z5y u big p k).getD default).2.2
theorem zlv {u : Nat} {p : Nat} {k : Nat} {m : Nat} {r : Nat × Nat × Bool} (hm : m = big) (h : z5y u m p k = some r) : z7w u p k = true ∧ z6y u p k = r.1 ∧ zfi u p k = r.2.1 ∧ zfj u p k = r.2.2 := by
  subst hm
  unfold z7w z6y zfi zfj
  rw [h]
  exact ⟨rfl, rfl, rfl, rfl⟩
noncomputable def z4y {R : Type} (s_n : Nat) (s : List Nat) (k_ : Bool → Option R) : Option R := (grd (z69 s_n (pF s 0 (muN s_n 1))) (k_ (leI 0 (z67 s_n (pF s 0 (muN s_n 1))))))
noncomputable def z4v (s_n : Nat) (s : List Nat) : Option (Bool) := z4y s_n s (fun c0_ => some c0_)
theorem zba {R R' : Type} (o : Option R → Option R') (h0 : o none = none) (s_n : Nat) (s : List Nat) (k_ : Bool → Option R) : z4y s_n s (fun c0_ => o (k_ c0_)) = o (z4y s_n s k_) := by
  unfold z4y
  repeat (first | refine grd_out h0 ?_ | refine br_out ?_ ?_ | rfl | exact h0.symm)
noncomputable def z5x (s_n : Nat) (s : List Nat) : Bool := (z4v s_n s).isSome
noncomputable def z5t (s_n : Nat) (s : List Nat) : Bool := ((z4v s_n s).getD default)
theorem zcn {s_n : Nat} {s : List Nat} {r : Bool} (h : z4v s_n s = some r) : z5x s_n s = true ∧ z5t s_n s = r := by
  unfold z5x z5t
  rw [h]
  exact ⟨rfl, rfl⟩
noncomputable def z52 {R : Type} (s_n : Nat) (s : List Nat) (k_ : Bool → Option R) : Option R := (grd (z6d s_n (pF s 0 (muN s_n 1))) (k_ (leI 0 (z6a s_n (pF s 0 (muN s_n 1))))))
noncomputable def z53 (s_n : Nat) (s : List Nat) : Option (Bool) := z52 s_n s (fun c0_ => some c0_)
theorem zbu {R R' : Type} (o : Option R → Option R') (h0 : o none = none) (s_n : Nat) (s : List Nat) (k_ : Bool → Option R) : z52 s_n s (fun c0_ => o (k_ c0_)) = o (z52 s_n s k_) := by
  unfold z52
  repeat (first | refine grd_out h0 ?_ | refine br_out ?_ ?_ | rfl | exact h0.symm)
noncomputable def z60 (s_n : Nat) (s : List Nat) : Bool := (z53 s_n s).isSome
noncomputable def z5u (s_n : Nat) (s : List Nat) : Bool := ((z53 s_n s).getD default)
theorem zdu {s_n : Nat} {s : List Nat} {r : Bool} (h : z53 s_n s = some r) : z60 s_n s = true ∧ z5u s_n s = r := by
  unfold z60 z5u
  rw [h]
  exact ⟨rfl, rfl⟩
noncomputable def z4q {R : Type} (s_n : Nat) (s : List Nat) (k_ : Bool → Option R) : Option R := (grd (z61 s_n (pF s 0 (muN s_n 1))) (k_ (leI 0 (z5w s_n (pF s 0 (muN s_n 1))))))
noncomputable def z4s (s_n : Nat) (s : List Nat) : Option (Bool) := z4q s_n s (fun c0_ => some c0_)
theorem zb1 {R R' : Type} (o : Option R → Option R') (h0 : o none = none) (s_n : Nat) (s : List Nat) (k_ : Bool → Option R) : z4q s_n s (fun c0_ => o (k_ c0_)) = o (z4q s_n s k_) := by
  unfold z4q
  repeat (first | refine grd_out h0 ?_ | refine br_out ?_ ?_ | rfl | exact h0.symm)
noncomputable def z5p (s_n : Nat) (s : List Nat) : Bool := (z4s s_n s).isSome
noncomputable def z5n (s_n : Nat) (s : List Nat) : Bool := ((z4s s_n s).getD default)
theorem zcd {s_n : Nat} {s : List Nat} {r : Bool} (h : z4s s_n s = some r) : z5p s_n s = true ∧ z5n s_n s = r := by
  unfold z5p z5n
  rw [h]
  exact ⟨rfl, rfl⟩
noncomputable def zej {R : Type} (q1w : Nat) (k_ : Nat → Option R) : Option R := (grd (zd9 q1w) (br (fcmp BinOp.geq FloatKind.f64 (z3q q1w) 4602678819172646912) (br (fcmp BinOp.gtr FloatKind.f64 (fop BinOp.sub FloatKind.f64 (z3q q1w) 4602678819172646912) 4598175219545276416) (grd (z7w (fop BinOp.mul FloatKind.f64 (fop BinOp.mul FloatKind.f64 (fop BinOp.sub FloatKind.f64 4602678819172646912 (fop BinOp.sub FloatKind.f64 (z3q q1w) 4602678819172646912)) 4618760256179416344) (fop BinOp.mul FloatKind.f64 (fop BinOp.sub FloatKind.f64 4602678819172646912 (fop BinOp.sub FloatKind.f64 (z3q q1w) 4602678819172646912)) 4618760256179416344)) 4607182418800017408 4620693217682128896) (k_ (fneg FloatKind.f64 (fop BinOp.mul FloatKind.f64 (fop BinOp.mul FloatKind.f64 (fop BinOp.sub FloatKind.f64 4602678819172646912 (fop BinOp.sub FloatKind.f64 (z3q q1w) 4602678819172646912)) 4618760256179416344) (z6y (fop BinOp.mul FloatKind.f64 (fop BinOp.mul FloatKind.f64 (fop BinOp.sub FloatKind.f64 4602678819172646912 (fop BinOp.sub FloatKind.f64 (z3q q1w) 4602678819172646912)) 4618760256179416344) (fop BinOp.mul FloatKind.f64 (fop BinOp.sub FloatKind.f64 4602678819172646912 (fop BinOp.sub FloatKind.f64 (z3q q1w) 4602678819172646912)) 4618760256179416344)) 4607182418800017408 4620693217682128896))))) (grd (z7w (fop BinOp.mul FloatKind.f64 (fop BinOp.mul FloatKind.f64 (fop BinOp.sub FloatKind.f64 (z3q q1w) 4602678819172646912) 4618760256179416344) (fop BinOp.mul FloatKind.f64 (fop BinOp.sub FloatKind.f64 (z3q q1w) 4602678819172646912) 4618760256179416344)) 4607182418800017408 4620693217682128896) (k_ (fneg FloatKind.f64 (fop BinOp.mul FloatKind.f64 (fop BinOp.mul FloatKind.f64 (fop BinOp.sub FloatKind.f64 (z3q q1w) 4602678819172646912) 4618760256179416344) (z6y (fop BinOp.mul FloatKind.f64 (fop BinOp.mul FloatKind.f64 (fop BinOp.sub FloatKind.f64 (z3q q1w) 4602678819172646912) 4618760256179416344) (fop BinOp.mul FloatKind.f64 (fop BinOp.sub FloatKind.f64 (z3q q1w) 4602678819172646912) 4618760256179416344)) 4607182418800017408 4620693217682128896)))))) (br (fcmp BinOp.gtr FloatKind.f64 (z3q q1w) 4598175219545276416) (grd (z7w (fop BinOp.mul FloatKind.f64 (fop BinOp.mul FloatKind.f64 (fop BinOp.sub FloatKind.f64 4602678819172646912 (z3q q1w)) 4618760256179416344) (fop BinOp.mul FloatKind.f64 (fop BinOp.sub FloatKind.f64 4602678819172646912 (z3q q1w)) 4618760256179416344)) 4607182418800017408 4620693217682128896) (k_ (fop BinOp.mul FloatKind.f64 (fop BinOp.mul FloatKind.f64 (fop BinOp.sub FloatKind.f64 4602678819172646912 (z3q q1w)) 4618760256179416344) (z6y (fop BinOp.mul FloatKind.f64 (fop BinOp.mul FloatKind.f64 (fop BinOp.sub FloatKind.f64 4602678819172646912 (z3q q1w)) 4618760256179416344) (fop BinOp.mul FloatKind.f64 (fop BinOp.sub FloatKind.f64 4602678819172646912 (z3q q1w)) 4618760256179416344)) 4607182418800017408 4620693217682128896)))) (grd (z7w (fop BinOp.mul FloatKind.f64 (fop BinOp.mul FloatKind.f64 (z3q q1w) 4618760256179416344) (fop BinOp.mul FloatKind.f64 (z3q q1w) 4618760256179416344)) 4607182418800017408 4620693217682128896) (k_ (fop BinOp.mul FloatKind.f64 (fop BinOp.mul FloatKind.f64 (z3q q1w) 4618760256179416344) (z6y (fop BinOp.mul FloatKind.f64 (fop BinOp.mul FloatKind.f64 (z3q q1w) 4618760256179416344) (fop BinOp.mul FloatKind.f64 (z3q q1w) 4618760256179416344)) 4607182418800017408 4620693217682128896)))))))
noncomputable def zeh (q1w : Nat) : Option (Nat) := zej q1w (fun c0_ => some c0_)
theorem zmw {R R' : Type} (o : Option R → Option R') (h0 : o none = none) (q1w : Nat) (k_ : Nat → Option R) : zej q1w (fun c0_ => o (k_ c0_)) = o (zej q1w k_) := by
  unfold zej
  repeat (first | refine grd_out h0 ?_ | refine br_out ?_ ?_ | rfl | exact h0.symm)
noncomputable def zg8 (q1w : Nat) : Bool := (zeh q1w).isSome
noncomputable def zf7 (q1w : Nat) : Nat := ((zeh q1w).getD default)
theorem znm {q1w : Nat} {r : Nat} (h : zeh q1w = some r) : zg8 q1w = true ∧ zf7 q1w = r := by
  unfold zg8 zf7
  rw [h]
  exact ⟨rfl, rfl⟩
noncomputable def z70 {R : Type} (t57 : Int) (b3 : List Nat) (q1y : Nat) (q1s : Nat) (t4 : Nat) (t58 : Int) (kn_ : Nat → Int → Option R) (k0_ : Unit → Option R) (k1_ : Nat → Int → Bool → Option R) : Option R := (br (ltI t58 t57) (grd (okIx t58 q1y) (br (bnot (fcmp BinOp.gtr FloatKind.f32 (gF b3 (ixO 0 t58 3)) t4)) (k0_ ()) (br (bnot (fcmp BinOp.lss FloatKind.f32 (gF b3 (ixO 0 t58 3)) q1s)) (k0_ ()) (grd (zeu (gF b3 (Nat.succ (ixO 0 t58 3)))) (br (bnot (zeb (gF b3 (Nat.succ (ixO 0 t58 3))))) (k0_ ()) (grd (z5z (gF b3 (Nat.succ (Nat.succ (ixO 0 t58 3))))) (br (bnot (z5o (gF b3 (Nat.succ (Nat.succ (ixO 0 t58 3)))))) (k0_ ()) (kn_ (gF b3 (ixO 0 t58 3)) (addI IntKind.i64 t58 1))))))))) (k1_ t4 t58 (ltI t58 t57)))
theorem zk7 {R R' : Type} (o : Option R → Option R') (h0 : o none = none) (t57 : Int) (b3 : List Nat) (q1y : Nat) (q1s : Nat) (t4 : Nat) (t58 : Int) (kn_ : Nat → Int → Option R) (k0_ : Unit → Option R) (k1_ : Nat → Int → Bool → Option R) : z70 t57 b3 q1y q1s t4 t58 (fun t4' t58' => o (kn_ t4' t58')) (fun _ => o (k0_ ())) (fun c0_ c1_ c2_ => o (k1_ c0_ c1_ c2_)) = o (z70 t57 b3 q1y q1s t4 t58 kn_ k0_ k1_) := by
  unfold z70
  repeat (first | refine grd_out h0 ?_ | refine br_out ?_ ?_ | rfl | exact h0.symm)
noncomputable def z58 (t57 : Int) (b3 : List Nat) (q1y : Nat) (q1s : Nat) : Nat → Nat → Int → Option ((Unit) ⊕ (Nat × Int × Bool))
  | 0, _, _ => none
  | n + 1, t4, t58 => z70 t57 b3 q1y q1s  t4 t58  (fun t4' t58' => z58 t57 b3 q1y q1s n t4' t58') (fun _ => some (Sum.inl ())) (fun c0_ c1_ c2_ => some (Sum.inr (c0_, c1_, c2_)))
theorem zg2 (t57 : Int) (b3 : List Nat) (q1y : Nat) (q1s : Nat) (n : Nat) (t4 : Nat) (t58 : Int) : z58 t57 b3 q1y q1s (n + 1) t4 t58 = z70 t57 b3 q1y q1s  t4 t58  (fun t4' t58' => z58 t57 b3 q1y q1s n t4' t58') (fun _ => some (Sum.inl ())) (fun c0_ c1_ c2_ => some (Sum.inr (c0_, c1_, c2_))) := rfl
noncomputable def z88 (t57 : Int) (b3 : List Nat) (q1y : Nat) (q1s : Nat) (t4 : Nat) (t58 : Int) : Bool := (z58 t57 b3 q1y q1s big t4 t58).isSome
noncomputable def z7u (t57 : Int) (b3 : List Nat) (q1y : Nat) (q1s : Nat) (t4 : Nat) (t58 : Int) : Bool := oL (z58 t57 b3 q1y q1s big t4 t58)
noncomputable def zey (t57 : Int) (b3 : List Nat) (q1y : Nat) (q1s : Nat) (t4 : Nat) (t58 : Int) : Nat := ((tR (z58 t57 b3 q1y q1s big t4 t58)).getD default).1
noncomputable def zex (t57 : Int) (b3 : List Nat) (q1y : Nat) (q1s : Nat) (t4 : Nat) (t58 : Int) : Int := ((tR (z58 t57 b3 q1y q1s big t4 t58)).getD default).2.1
noncomputable def zf5 (t57 : Int) (b3 : List Nat) (q1y : Nat) (q1s : Nat) (t4 : Nat) (t58 : Int) : Bool := ((tR (z58 t57 b3 q1y q1s big t4 t58)).getD default).2.2
theorem zl3 {t57 : Int} {b3 : List Nat} {q1y : Nat} {q1s : Nat} {t4 : Nat} {t58 : Int} {m : Nat} {r : Unit} (hm : m = big) (h : z58 t57 b3 q1y q1s m t4 t58 = some (Sum.inl r)) : z88 t57 b3 q1y q1s t4 t58 = true ∧ z7u t57 b3 q1y q1s t4 t58 = true := by
  subst hm
  unfold z88 z7u
  rw [h]
  exact ⟨rfl, rfl⟩
theorem zl9 {t57 : Int} {b3 : List Nat} {q1y : Nat} {q1s : Nat} {t4 : Nat} {t58 : Int} {m : Nat} {r : Nat × Int × Bool} (hm : m = big) (h : z58 t57 b3 q1y q1s m t4 t58 = some (Sum.inr r)) : z88 t57 b3 q1y q1s t4 t58 = true ∧ z7u t57 b3 q1y q1s t4 t58 = false ∧ zey t57 b3 q1y q1s t4 t58 = r.1 ∧ zex t57 b3 q1y q1s t4 t58 = r.2.1 ∧ zf5 t57 b3 q1y q1s t4 t58 = r.2.2 := by
  subst hm
  unfold z88 z7u zey zex zf5
  rw [h]
  exact ⟨rfl, rfl, rfl, rfl, rfl⟩
noncomputable def zdt {R : Type} (q0m : Nat) (q0s : List Nat) (q0p : Nat) (q0w : List Nat) (q0q : Nat) (q0v : List Nat) (q0x : Nat) (q15 : List Nat) (q1d : Int) (q1i : Nat) (q1h : Nat) (k_ : Bool → Option R) : Option R := (grd (zg3 q0m (pF q0s 0 (muN q0m 1)) q0p (pF q0w 0 (muN q0p 1)) q0q (pF q0v 0 (muN q0q 1))) (br (bnot (zfq q0m (pF q0s 0 (muN q0m 1)) q0p (pF q0w 0 (muN q0p 1)) q0q (pF q0v 0 (muN q0q 1)))) (k_ Bool.false) (br (ltI (Int.ofNat q0x) 2) (k_ Bool.false) (br (ltI 12 (Int.ofNat q0x)) (k_ Bool.false) (grd (zf4 q1d 1 6) (br (bnot (zee q1d 1 6)) (k_ Bool.false) (grd (z7l q1i) (br (bnot (z74 q1i)) (k_ Bool.false) (grd (z5z q1h) (br (bnot (z5o q1h)) (k_ Bool.false) (grd (z88 (Int.ofNat q0x) q15 q0x q1h q1i 0) (br (z7u (Int.ofNat q0x) q15 q0x q1h q1i 0) (k_ Bool.false) (k_ Bool.true)))))))))))))
noncomputable def zdi (q0m : Nat) (q0s : List Nat) (q0p : Nat) (q0w : List Nat) (q0q : Nat) (q0v : List Nat) (q0x : Nat) (q15 : List Nat) (q1d : Int) (q1i : Nat) (q1h : Nat) : Option (Bool) := zdt q0m q0s q0p q0w q0q q0v q0x q15 q1d q1i q1h (fun c0_ => some c0_)
theorem zly {R R' : Type} (o : Option R → Option R') (h0 : o none = none) (q0m : Nat) (q0s : List Nat) (q0p : Nat) (q0w : List Nat) (q0q : Nat) (q0v : List Nat) (q0x : Nat) (q15 : List Nat) (q1d : Int) (q1i : Nat) (q1h : Nat) (k_ : Bool → Option R) : zdt q0m q0s q0p q0w q0q q0v q0x q15 q1d q1i q1h (fun c0_ => o (k_ c0_)) = o (zdt q0m q0s q0p q0w q0q q0v q0x q15 q1d q1i q1h k_) := by
  unfold zdt
  repeat (first | refine grd_out h0 ?_ | refine br_out ?_ ?_ | rfl | exact h0.symm)
noncomputable def zg0 (q0m : Nat) (q0s : List Nat) (q0p : Nat) (q0w : List Nat) (q0q : Nat) (q0v : List Nat) (q0x : Nat) (q15 : List Nat) (q1d : Int) (q1i : Nat) (q1h : Nat) : Bool := (zdi q0m q0s q0p q0w q0q q0v q0x q15 q1d q1i q1h).isSome
noncomputable def zfs (q0m : Nat) (q0s : List Nat) (q0p : Nat) (q0w : List Nat) (q0q : Nat) (q0v : List Nat) (q0x : Nat) (q15 : List Nat) (q1d : Int) (q1i : Nat) (q1h : Nat) : Bool := ((zdi q0m q0s q0p q0w q0q q0v q0x q15 q1d q1i q1h).getD default)
theorem zne {q0m : Nat} {q0s : List Nat} {q0p : Nat} {q0w : List Nat} {q0q : Nat} {q0v : List Nat} {q0x : Nat} {q15 : List Nat} {q1d : Int} {q1i : Nat} {q1h : Nat} {r : Bool} (h : zdi q0m q0s q0p q0w q0q q0v q0x q15 q1d q1i q1h = some r) : zg0 q0m q0s q0p q0w q0q q0v q0x q15 q1d q1i q1h = true ∧ zfs q0m q0s q0p q0w q0q q0v q0x q15 q1d q1i q1h = r := by
  unfold zg0 zfs
  rw [h]
  exact ⟨rfl, rfl⟩
noncomputable def z9p {R : Type} (q1n : Nat) (q25 : List Nat) (k_ : Bool → Option R) : Option R := (grd (z5x q1n (pF q25 0 (muN q1n 1))) (k_ (bnot (z5t q1n (pF q25 0 (muN q1n 1))))))
noncomputable def z9n (q1n : Nat) (q25 : List Nat) : Option (Bool) := z9p q1n q25 (fun c0_ => some c0_)
theorem zjn {R R' : Type} (o : Option R → Option R') (h0 : o none = none) (q1n : Nat) (q25 : List Nat) (k_ : Bool → Option R) : z9p q1n q25 (fun c0_ => o (k_ c0_)) = o (z9p q1n q25 k_) := by
  unfold z9p
  repeat (first | refine grd_out h0 ?_ | refine br_out ?_ ?_ | rfl | exact h0.symm)
noncomputable def ze5 (q1n : Nat) (q25 : List Nat) : Bool := (z9n q1n q25).isSome
noncomputable def zd1 (q1n : Nat) (q25 : List Nat) : Bool := ((z9n q1n q25).getD default)
theorem zlf {q1n : Nat} {q25 : List Nat} {r : Bool} (h : z9n q1n q25 = some r) : ze5 q1n q25 = true ∧ zd1 q1n q25 = r := by
  unfold ze5 zd1
  rw [h]
  exact ⟨rfl, rfl⟩
noncomputable def za4 {R : Type} (q1n : Nat) (q25 : List Nat) (k_ : Bool → Option R) : Option R := (grd (z60 q1n (pF q25 0 (muN q1n 1))) (k_ (bnot (z5u q1n (pF q25 0 (muN q1n 1))))))
noncomputable def za3 (q1n : Nat) (q25 : List Nat) : Option (Bool) := za4 q1n q25 (fun c0_ => some c0_)
theorem zk9 {R R' : Type} (o : Option R → Option R') (h0 : o none = none) (q1n : Nat) (q25 : List Nat) (k_ : Bool → Option R) : za4 q1n q25 (fun c0_ => o (k_ c0_)) = o (za4 q1n q25 k_) := by
  unfold za4
  repeat (first | refine grd_out h0 ?_ | refine br_out ?_ ?_ | rfl | exact h0.symm)
noncomputable def zet (q1n : Nat) (q25 : List Nat) : Bool := (za3 q1n q25).isSome
noncomputable def ze3 (q1n : Nat) (q25 : List Nat) : Bool := ((za3 q1n q25).getD default)
theorem zma {q1n : Nat} {q25 : List Nat} {r : Bool} (h : za3 q1n q25 = some r) : zet q1n q25 = true ∧ ze3 q1n q25 = r := by
  unfold zet ze3
  rw [h]
  exact ⟨rfl, rfl⟩
noncomputable def z7y {R : Type} (q1n : Nat) (q25 : List Nat) (k_ : Bool → Option R) : Option R := (grd (z5p q1n (pF q25 0 (muN q1n 1))) (k_ (bnot (z5n q1n (pF q25 0 (muN q1n 1))))))
noncomputable def z76 (q1n : Nat) (q25 : List Nat) : Option (Bool) := z7y q1n q25 (fun c0_ => some c0_)
theorem zi5 {R R' : Type} (o : Option R → Option R') (h0 : o none = none) (q1n : Nat) (q25 : List Nat) (k_ : Bool → Option R) : z7y q1n q25 (fun c0_ => o (k_ c0_)) = o (z7y q1n q25 k_) := by
  unfold z7y
  repeat (first | refine grd_out h0 ?_ | refine br_out ?_ ?_ | rfl | exact h0.symm)
noncomputable def z9t (q1n : Nat) (q25 : List Nat) : Bool := (z76 q1n q25).isSome
noncomputable def z96 (q1n : Nat) (q25 : List Nat) : Bool := ((z76 q1n q25).getD default)
theorem zk5 {q1n : Nat} {q25 : List Nat} {r : Bool} (h : z76 q1n q25 = some r) : z9t q1n q25 = true ∧ z96 q1n q25 = r := by
  unfold z9t z96
  rw [h]
  exact ⟨rfl, rfl⟩
noncomputable def z9c {R : Type} (x : Nat) (k_ : Nat → Option R) : Option R := (grd (z6k x) (br (bnot (z6c x)) (grd zfx (grd (fcvB FloatKind.f64 FloatKind.f32 zei) (k_ (fcvV FloatKind.f64 FloatKind.f32 zei)))) (grd (zfr (fcvV FloatKind.f32 FloatKind.f64 x)) (br (zfg (fcvV FloatKind.f32 FloatKind.f64 x)) (k_ 0) (grd (zg8 (fcvV FloatKind.f32 FloatKind.f64 x)) (grd (fcvB FloatKind.f64 FloatKind.f32 (zf7 (fcvV FloatKind.f32 FloatKind.f64 x))) (k_ (fcvV FloatKind.f64 FloatKind.f32 (zf7 (fcvV FloatKind.f32 FloatKind.f64 x))))))))))
noncomputable def z9h (x : Nat) : Option (Nat) := z9c x (fun c0_ => some c0_)
theorem zjr {R R' : Type} (o : Option R → Option R') (h0 : o none = none) (x : Nat) (k_ : Nat → Option R) : z9c x (fun c0_ => o (k_ c0_)) = o (z9c x k_) := by
  unfold z9c
  repeat (first | refine grd_out h0 ?_ | refine br_out ?_ ?_ | rfl | exact h0.symm)
noncomputable def zec (x : Nat) : Bool := (z9h x).isSome
noncomputable def zd2 (x : Nat) : Nat := ((z9h x).getD default)
theorem zlo {x : Nat} {r : Nat} (h : z9h x = some r) : zec x = true ∧ zd2 x = r := by
  unfold zec zd2
  rw [h]
  exact ⟨rfl, rfl⟩
noncomputable def z90 {R : Type} (q04 : Nat) (q07 : List Nat) (q06 : Nat) (q0a : List Nat) (q05 : Nat) (q09 : List Nat) (q0d : Nat) (q0i : List Nat) (q0r : Int) (q18 : Nat) (q14 : Nat) (i : Int) (k_ : Bool → Option R) : Option R := (grd (zg0 q04 (pF q07 0 (muN q04 1)) q06 (pF q0a 0 (muN q06 1)) q05 (pF q09 0 (muN q05 1)) q0d (pF q0i 0 (muN q0d 3)) q0r q18 q14) (br (zfs q04 (pF q07 0 (muN q04 1)) q06 (pF q0a 0 (muN q06 1)) q05 (pF q09 0 (muN q05 1)) q0d (pF q0i 0 (muN q0d 3)) q0r q18 q14) (grd (zf4 i 0 (subI IntKind.i64 (Int.ofNat q0d) 1)) (k_ (zee i 0 (subI IntKind.i64 (Int.ofNat q0d) 1)))) (k_ Bool.false)))
noncomputable def z8h (q04 : Nat) (q07 : List Nat) (q06 : Nat) (q0a : List Nat) (q05 : Nat) (q09 : List Nat) (q0d : Nat) (q0i : List Nat) (q0r : Int) (q18 : Nat) (q14 : Nat) (i : Int) : Option (Bool) := z90 q04 q07 q06 q0a q05 q09 q0d q0i q0r q18 q14 i (fun c0_ => some c0_)
theorem zik {R R' : Type} (o : Option R → Option R') (h0 : o none = none) (q04 : Nat) (q07 : List Nat) (q06 : Nat) (q0a : List Nat) (q05 : Nat) (q09 : List Nat) (q0d : Nat) (q0i : List Nat) (q0r : Int) (q18 : Nat) (q14 : Nat) (i : Int) (k_ : Bool → Option R) : z90 q04 q07 q06 q0a q05 q09 q0d q0i q0r q18 q14 i (fun c0_ => o (k_ c0_)) = o (z90 q04 q07 q06 q0a q05 q09 q0d q0i q0r q18 q14 i k_) := by
  unfold z90
  repeat (first | refine grd_out h0 ?_ | refine br_out ?_ ?_ | rfl | exact h0.symm)
noncomputable def zcq (q04 : Nat) (q07 : List Nat) (q06 : Nat) (q0a : List Nat) (q05 : Nat) (q09 : List Nat) (q0d : Nat) (q0i : List Nat) (q0r : Int) (q18 : Nat) (q14 : Nat) (i : Int) : Bool := (z8h q04 q07 q06 q0a q05 q09 q0d q0i q0r q18 q14 i).isSome
noncomputable def zcb (q04 : Nat) (q07 : List Nat) (q06 : Nat) (q0a : List Nat) (q05 : Nat) (q09 : List Nat) (q0d : Nat) (q0i : List Nat) (q0r : Int) (q18 : Nat) (q14 : Nat) (i : Int) : Bool := ((z8h q04 q07 q06 q0a q05 q09 q0d q0i q0r q18 q14 i).getD default)
theorem zkj {q04 : Nat} {q07 : List Nat} {q06 : Nat} {q0a : List Nat} {q05 : Nat} {q09 : List Nat} {q0d : Nat} {q0i : List Nat} {q0r : Int} {q18 : Nat} {q14 : Nat} {i : Int} {r : Bool} (h : z8h q04 q07 q06 q0a q05 q09 q0d q0i q0r q18 q14 i = some r) : zcq q04 q07 q06 q0a q05 q09 q0d q0i q0r q18 q14 i = true ∧ zcb q04 q07 q06 q0a q05 q09 q0d q0i q0r q18 q14 i = r := by
  unfold zcq zcb
  rw [h]
  exact ⟨rfl, rfl⟩
noncomputable def z73 {R : Type} (q04 : Nat) (q07 : List Nat) (q06 : Nat) (q0a : List Nat) (q05 : Nat) (q09 : List Nat) (q0d : Nat) (q0i : List Nat) (q0r : Int) (q18 : Nat) (q14 : Nat) (i : Int) (q1o : Nat) (k_ : Nat → Option R) : Option R := (grd (okIx i q0d) (grd (zec q1o) (k_ (fop BinOp.quo FloatKind.f32 (fop BinOp.quo FloatKind.f32 (fop BinOp.mul FloatKind.f32 (fOI FloatKind.f32 q0r) (fop BinOp.sub FloatKind.f32 q14 (gF q0i (ixO 0 i 3)))) (fop BinOp.mul FloatKind.f32 1073741824 (gF q0i (ixO 0 i 3)))) (fop BinOp.add FloatKind.f32 (fop BinOp.quo FloatKind.f32 (fop BinOp.mul FloatKind.f32 (fOI FloatKind.f32 q0r) (fop BinOp.sub FloatKind.f32 q14 (gF q0i (ixO 0 i 3)))) (fop BinOp.mul FloatKind.f32 1073741824 (gF q0i (ixO 0 i 3)))) (zd2 q1o))))))
noncomputable def z72 (q04 : Nat) (q07 : List Nat) (q06 : Nat) (q0a : List Nat) (q05 : Nat) (q09 : List Nat) (q0d : Nat) (q0i : List Nat) (q0r : Int) (q18 : Nat) (q14 : Nat) (i : Int) (q1o : Nat) : Option (Nat) := z73 q04 q07 q06 q0a q05 q09 q0d q0i q0r q18 q14 i q1o (fun c0_ => some c0_)
theorem zgv {R R' : Type} (o : Option R → Option R') (h0 : o none = none) (q04 : Nat) (q07 : List Nat) (q06 : Nat) (q0a : List Nat) (q05 : Nat) (q09 : List Nat) (q0d : Nat) (q0i : List Nat) (q0r : Int) (q18 : Nat) (q14 : Nat) (i : Int) (q1o : Nat) (k_ : Nat → Option R) : z73 q04 q07 q06 q0a q05 q09 q0d q0i q0r q18 q14 i q1o (fun c0_ => o (k_ c0_)) = o (z73 q04 q07 q06 q0a q05 q09 q0d q0i q0r q18 q14 i q1o k_) := by
  unfold z73
  repeat (first | refine grd_out h0 ?_ | refine br_out ?_ ?_ | rfl | exact h0.symm)
noncomputable def za1 (q04 : Nat) (q07 : List Nat) (q06 : Nat) (q0a : List Nat) (q05 : Nat) (q09 : List Nat) (q0d : Nat) (q0i : List Nat) (q0r : Int) (q18 : Nat) (q14 : Nat) (i : Int) (q1o : Nat) : Bool := (z72 q04 q07 q06 q0a q05 q09 q0d q0i q0r q18 q14 i q1o).isSome
noncomputable def z6x (q04 : Nat) (q07 : List Nat) (q06 : Nat) (q0a : List Nat) (q05 : Nat) (q09 : List Nat) (q0d : Nat) (q0i : List Nat) (q0r : Int) (q18 : Nat) (q14 : Nat) (i : Int) (q1o : Nat) : Nat := ((z72 q04 q07 q06 q0a q05 q09 q0d q0i q0r q18 q14 i q1o).getD default)
theorem zi9 {q04 : Nat} {q07 : List Nat} {q06 : Nat} {q0a : List Nat} {q05 : Nat} {q09 : List Nat} {q0d : Nat} {q0i : List Nat} {q0r : Int} {q18 : Nat} {q14 : Nat} {i : Int} {q1o : Nat} {r : Nat} (h : z72 q04 q07 q06 q0a q05 q09 q0d q0i q0r q18 q14 i q1o = some r) : za1 q04 q07 q06 q0a q05 q09 q0d q0i q0r q18 q14 i q1o = true ∧ z6x q04 q07 q06 q0a q05 q09 q0d q0i q0r q18 q14 i q1o = r := by
  unfold za1 z6x
  rw [h]
  exact ⟨rfl, rfl⟩
noncomputable def z8f {R : Type} (q04 : Nat) (q07 : List Nat) (q06 : Nat) (q0a : List Nat) (q05 : Nat) (q09 : List Nat) (q0d : Nat) (q0i : List Nat) (q0r : Int) (q18 : Nat) (q14 : Nat) (i : Int) (q1o : Nat) (k_ : Nat → Bool → Option R) : Option R := (grd (zcq q04 (pF q07 0 (muN q04 1)) q06 (pF q0a 0 (muN q06 1)) q05 (pF q09 0 (muN q05 1)) q0d (pF q0i 0 (muN q0d 3)) q0r q18 q14 i) (br (bnot (zcb q04 (pF q07 0 (muN q04 1)) q06 (pF q0a 0 (muN q06 1)) q05 (pF q09 0 (muN q05 1)) q0d (pF q0i 0 (muN q0d 3)) q0r q18 q14 i)) (k_ 0 Bool.false) (grd (zfh q1o) (br (bnot (zel q1o)) (k_ 0 Bool.false) (grd (zff q1o) (grd (zfu q04 (pF q07 0 (muN q04 1)) q06 (pF q0a 0 (muN q06 1)) q05 (pF q09 0 (muN q05 1)) q0d (pF q0i 0 (muN q0d 3)) q0r q18 q14 i (z8a q1o)) (grd (ze4 (zat q04 (pF q07 0 (muN q04 1)) q06 (pF q0a 0 (muN q06 1)) q05 (pF q09 0 (muN q05 1)) q0d (pF q0i 0 (muN q0d 3)) q0r q18 q14 i (z8a q1o))) (k_ (zcz (zat q04 (pF q07 0 (muN q04 1)) q06 (pF q0a 0 (muN q06 1)) q05 (pF q09 0 (muN q05 1)) q0d (pF q0i 0 (muN q0d 3)) q0r q18 q14 i (z8a q1o))) (zd5 (zat q04 (pF q07 0 (muN q04 1)) q06 (pF q0a 0 (muN q06 1)) q05 (pF q09 0 (muN q05 1)) q0d (pF q0i 0 (muN q0d 3)) q0r q18 q14 i (z8a q1o)))))))))))
noncomputable def z7j (q04 : Nat) (q07 : List Nat) (q06 : Nat) (q0a : List Nat) (q05 : Nat) (q09 : List Nat) (q0d : Nat) (q0i : List Nat) (q0r : Int) (q18 : Nat) (q14 : Nat) (i : Int) (q1o : Nat) : Option (Nat × Bool) := z8f q04 q07 q06 q0a q05 q09 q0d q0i q0r q18 q14 i q1o (fun c0_ c1_ => some (c0_, c1_))
theorem zin {R R' : Type} (o : Option R → Option R') (h0 : o none = none) (q04 : Nat) (q07 : List Nat) (q06 : Nat) (q0a : List Nat) (q05 : Nat) (q09 : List Nat) (q0d : Nat) (q0i : List Nat) (q0r : Int) (q18 : Nat) (q14 : Nat) (i : Int) (q1o : Nat) (k_ : Nat → Bool → Option R) : z8f q04 q07 q06 q0a q05 q09 q0d q0i q0r q18 q14 i q1o (fun c0_ c1_ => o (k_ c0_ c1_)) = o (z8f q04 q07 q06 q0a q05 q09 q0d q0i q0r q18 q14 i q1o k_) := by
  unfold z8f
  repeat (first | refine grd_out h0 ?_ | refine br_out ?_ ?_ | rfl | exact h0.symm)
noncomputable def zd3 (q04 : Nat) (q07 : List Nat) (q06 : Nat) (q0a : List Nat) (q05 : Nat) (q09 : List Nat) (q0d : Nat) (q0i : List Nat) (q0r : Int) (q18 : Nat) (q14 : Nat) (i : Int) (q1o : Nat) : Bool := (z7j q04 q07 q06 q0a q05 q09 q0d q0i q0r q18 q14 i q1o).isSome
noncomputable def z9u (q04 : Nat) (q07 : List Nat) (q06 : Nat) (q0a : List Nat) (q05 : Nat) (q09 : List Nat) (q0d : Nat) (q0i : List Nat) (q0r : Int) (q18 : Nat) (q14 : Nat) (i : Int) (q1o : Nat) : Nat := ((z7j q04 q07 q06 q0a q05 q09 q0d q0i q0r q18 q14 i q1o).getD default).1
noncomputable def zc2 (q04 : Nat) (q07 : List Nat) (q06 : Nat) (q0a : List Nat) (q05 : Nat) (q09 : List Nat) (q0d : Nat) (q0i : List Nat) (q0r : Int) (q18 : Nat) (q14 : Nat) (i : Int) (q1o : Nat) : Bool := ((z7j q04 q07 q06 q0a q05 q09 q0d q0i q0r q18 q14 i q1o).getD default).2
theorem zku {q04 : Nat} {q07 : List Nat} {q06 : Nat} {q0a : List Nat} {q05 : Nat} {q09 : List Nat} {q0d : Nat} {q0i : List Nat} {q0r : Int} {q18 : Nat} {q14 : Nat} {i : Int} {q1o : Nat} {r : Nat × Bool} (h : z7j q04 q07 q06 q0a q05 q09 q0d q0i q0r q18 q14 i q1o = some r) : zd3 q04 q07 q06 q0a q05 q09 q0d q0i q0r q18 q14 i q1o = true ∧ z9u q04 q07 q06 q0a q05 q09 q0d q0i q0r q18 q14 i q1o = r.1 ∧ zc2 q04 q07 q06 q0a q05 q09 q0d q0i q0r q18 q14 i q1o = r.2 := by
  unfold zd3 z9u zc2
  rw [h]
  exact ⟨rfl, rfl, rfl⟩
noncomputable def z5s {R : Type} (q2e : Nat) (t43 : Int) (b0 : List Nat) (q1j : Nat) (t44 : Int) (kn_ : Int → Option R) (k0_ : Unit → Option R) (k1_ : Int → Bool → Option R) : Option R := (br (ltI t44 t43) (grd (okIx t44 q2e) (grd (zc4 (gF b0 (ixO 0 t44 1)) 3204448256 1056964608) (br (bnot (zax (gF b0 (ixO 0 t44 1)) 3204448256 1056964608)) (k0_ ()) (br (ltI 0 t44) (grd (okIx (subI IntKind.i64 t44 1) q1j) (br (fcmp BinOp.geq FloatKind.f32 (gF b0 (ixO 0 (subI IntKind.i64 t44 1) 1)) (gF b0 (ixO 0 t44 1))) (k0_ ()) (kn_ (addI IntKind.i64 t44 1)))) (kn_ (addI IntKind.i64 t44 1)))))) (k1_ t44 (ltI t44 t43)))
theorem zge {R R' : Type} (o : Option R → Option R') (h0 : o none = none) (q2e : Nat) (t43 : Int) (b0 : List Nat) (q1j : Nat) (t44 : Int) (kn_ : Int → Option R) (k0_ : Unit → Option R) (k1_ : Int → Bool → Option R) : z5s q2e t43 b0 q1j t44 (fun t44' => o (kn_ t44')) (fun _ => o (k0_ ())) (fun c0_ c1_ => o (k1_ c0_ c1_)) = o (z5s q2e t43 b0 q1j t44 kn_ k0_ k1_) := by
  unfold z5s
  repeat (first | refine grd_out h0 ?_ | refine br_out ?_ ?_ | rfl | exact h0.symm)
noncomputable def z4t (q2e : Nat) (t43 : Int) (b0 : List Nat) (q1j : Nat) : Nat → Int → Option ((Unit) ⊕ (Int × Bool))
  | 0, _ => none
  | n + 1, t44 => z5s q2e t43 b0 q1j  t44  (fun t44' => z4t q2e t43 b0 q1j n t44') (fun _ => some (Sum.inl ())) (fun c0_ c1_ => some (Sum.inr (c0_, c1_)))
theorem ze1 (q2e : Nat) (t43 : Int) (b0 : List Nat) (q1j : Nat) (n : Nat) (t44 : Int) : z4t q2e t43 b0 q1j (n + 1) t44 = z5s q2e t43 b0 q1j  t44  (fun t44' => z4t q2e t43 b0 q1j n t44') (fun _ => some (Sum.inl ())) (fun c0_ c1_ => some (Sum.inr (c0_, c1_))) := rfl
noncomputable def z6o (q2e : Nat) (t43 : Int) (b0 : List Nat) (q1j : Nat) (t44 : Int) : Bool := (z4t q2e t43 b0 q1j big t44).isSome
noncomputable def z6h (q2e : Nat) (t43 : Int) (b0 : List Nat) (q1j : Nat) (t44 : Int) : Bool := oL (z4t q2e t43 b0 q1j big t44)
noncomputable def zai (q2e : Nat) (t43 : Int) (b0 : List Nat) (q1j : Nat) (t44 : Int) : Int := ((tR (z4t q2e t43 b0 q1j big t44)).getD default).1
noncomputable def zac (q2e : Nat) (t43 : Int) (b0 : List Nat) (q1j : Nat) (t44 : Int) : Bool := ((tR (z4t q2e t43 b0 q1j big t44)).getD default).2
theorem zh6 {q2e : Nat} {t43 : Int} {b0 : List Nat} {q1j : Nat} {t44 : Int} {m : Nat} {r : Unit} (hm : m = big) (h : z4t q2e t43 b0 q1j m t44 = some (Sum.inl r)) : z6o q2e t43 b0 q1j t44 = true ∧ z6h q2e t43 b0 q1j t44 = true := by
  subst hm
  unfold z6o z6h
  rw [h]
  exact ⟨rfl, rfl⟩
theorem zgx {q2e : Nat} {t43 : Int} {b0 : List Nat} {q1j : Nat} {t44 : Int} {m : Nat} {r : Int × Bool} (hm : m = big) (h : z4t q2e t43 b0 q1j m t44 = some (Sum.inr r)) : z6o q2e t43 b0 q1j t44 = true ∧ z6h q2e t43 b0 q1j t44 = false ∧ zai q2e t43 b0 q1j t44 = r.1 ∧ zac q2e t43 b0 q1j t44 = r.2 := by
  subst hm
  unfold z6o z6h zai zac
  rw [h]
  exact ⟨rfl, rfl, rfl, rfl⟩
noncomputable def z7n {R : Type} (q0z : Nat) (q1a : List Nat) (q16 : Nat) (q1f : List Nat) (q17 : Nat) (q1e : List Nat) (k_ : Bool → Option R) : Option R := (br (ltI (Int.ofNat q0z) 2) (k_ Bool.false) (br (ltI 24 (Int.ofNat q0z)) (k_ Bool.false) (br (neI (Int.ofNat q16) (Int.ofNat q0z)) (k_ Bool.false) (br (neI (Int.ofNat q17) (Int.ofNat q0z)) (k_ Bool.false) (grd (ze5 q16 (pF q1f 0 (muN q16 1))) (br (bnot (zd1 q16 (pF q1f 0 (muN q16 1)))) (k_ Bool.false) (grd (zet q17 (pF q1e 0 (muN q17 1))) (br (bnot (ze3 q17 (pF q1e 0 (muN q17 1)))) (k_ Bool.false) (grd (z6o q0z (Int.ofNat q0z) q1a q0z 0) (br (z6h q0z (Int.ofNat q0z) q1a q0z 0) (k_ Bool.false) (k_ Bool.true)))))))))))
noncomputable def z7o (q0z : Nat) (q1a : List Nat) (q16 : Nat) (q1f : List Nat) (q17 : Nat) (q1e : List Nat) : Option (Bool) := z7n q0z q1a q16 q1f q17 q1e (fun c0_ => some c0_)
theorem zhn {R R' : Type} (o : Option R → Option R') (h0 : o none = none) (q0z : Nat) (q1a : List Nat) (q16 : Nat) (q1f : List Nat) (q17 : Nat) (q1e : List Nat) (k_ : Bool → Option R) : z7n q0z q1a q16 q1f q17 q1e (fun c0_ => o (k_ c0_)) = o (z7n q0z q1a q16 q1f q17 q1e k_) := by
  unfold z7n
  repeat (first | refine grd_out h0 ?_ | refine br_out ?_ ?_ | rfl | exact h0.symm)
noncomputable def zb2 (q0z : Nat) (q1a : List Nat) (q16 : Nat) (q1f : List Nat) (q17 : Nat) (q1e : List Nat) : Bool := (z7o q0z q1a q16 q1f q17 q1e).isSome
noncomputable def zah (q0z : Nat) (q1a : List Nat) (q16 : Nat) (q1f : List Nat) (q17 : Nat) (q1e : List Nat) : Bool := ((z7o q0z q1a q16 q1f q17 q1e).getD default)
theorem zjq {q0z : Nat} {q1a : List Nat} {q16 : Nat} {q1f : List Nat} {q17 : Nat} {q1e : List Nat} {r : Bool} (h : z7o q0z q1a q16 q1f q17 q1e = some r) : zb2 q0z q1a q16 q1f q17 q1e = true ∧ zah q0z q1a q16 q1f q17 q1e = r := by
  unfold zb2 zah
  rw [h]
  exact ⟨rfl, rfl⟩
noncomputable def z66 {R : Type} (q2b : Nat) (t44 : Int) (b3 : List Nat) (q1s : Nat) (t4 : Nat) (t45 : Int) (kn_ : Nat → Int → Option R) (k0_ : Unit → Option R) (k1_ : Nat → Int → Bool → Option R) : Option R := (br (ltI t45 t44) (grd (okIx t45 q2b) (br (fcmp BinOp.gtr FloatKind.f32 (gF b3 (ixO 0 t45 3)) t4) (br (bnot (fcmp BinOp.lss FloatKind.f32 (gF b3 (ixO 0 t45 3)) q1s)) (k0_ ()) (grd (z9t 1 (pF [(gF b3 (Nat.succ (ixO 0 t45 3)))] 0 (muN 1 1))) (br (bnot (z96 1 (pF [(gF b3 (Nat.succ (ixO 0 t45 3)))] 0 (muN 1 1)))) (k0_ ()) (grd (z6k (gF b3 (Nat.succ (Nat.succ (ixO 0 t45 3))))) (br (bnot (z6c (gF b3 (Nat.succ (Nat.succ (ixO 0 t45 3)))))) (k0_ ()) (kn_ (gF b3 (ixO 0 t45 3)) (addI IntKind.i64 t45 1))))))) (br (bnot Bool.false) (k0_ ()) (grd (z9t 1 (pF [(gF b3 (Nat.succ (ixO 0 t45 3)))] 0 (muN 1 1))) (br (bnot (z96 1 (pF [(gF b3 (Nat.succ (ixO 0 t45 3)))] 0 (muN 1 1)))) (k0_ ()) (grd (z6k (gF b3 (Nat.succ (Nat.succ (ixO 0 t45 3))))) (br (bnot (z6c (gF b3 (Nat.succ (Nat.succ (ixO 0 t45 3)))))) (k0_ ()) (kn_ (gF b3 (ixO 0 t45 3)) (addI IntKind.i64 t45 1))))))))) (k1_ t4 t45 (ltI t45 t44)))
theorem zh1 {R R' : Type} (o : Option R → Option R') (h0 : o none = none) (q2b : Nat) (t44 : Int) (b3 : List Nat) (q1s : Nat) (t4 : Nat) (t45 : Int) (kn_ : Nat → Int → Option R) (k0_ : Unit → Option R) (k1_ : Nat → Int → Bool → Option R) : z66 q2b t44 b3 q1s t4 t45 (fun t4' t45' => o (kn_ t4' t45')) (fun _ => o (k0_ ())) (fun c0_ c1_ c2_ => o (k1_ c0_ c1_ c2_)) = o (z66 q2b t44 b3 q1s t4 t45 kn_ k0_ k1_) := by
  unfold z66
  repeat (first | refine grd_out h0 ?_ | refine br_out ?_ ?_ | rfl | exact h0.symm)
noncomputable def z4l (q2b : Nat) (t44 : Int) (b3 : List Nat) (q1s : Nat) : Nat → Nat → Int → Option ((Unit) ⊕ (Nat × Int × Bool))
  | 0, _, _ => none
  | n + 1, t4, t45 => z66 q2b t44 b3 q1s  t4 t45  (fun t4' t45' => z4l q2b t44 b3 q1s n t4' t45') (fun _ => some (Sum.inl ())) (fun c0_ c1_ c2_ => some (Sum.inr (c0_, c1_, c2_)))
theorem zeq (q2b : Nat) (t44 : Int) (b3 : List Nat) (q1s : Nat) (n : Nat) (t4 : Nat) (t45 : Int) : z4l q2b t44 b3 q1s (n + 1) t4 t45 = z66 q2b t44 b3 q1s  t4 t45  (fun t4' t45' => z4l q2b t44 b3 q1s n t4' t45') (fun _ => some (Sum.inl ())) (fun c0_ c1_ c2_ => some (Sum.inr (c0_, c1_, c2_))) := rfl
noncomputable def z6u (q2b : Nat) (t44 : Int) (b3 : List Nat) (q1s : Nat) (t4 : Nat) (t45 : Int) : Bool := (z4l q2b t44 b3 q1s big t4 t45).isSome
noncomputable def z6r (q2b : Nat) (t44 : Int) (b3 : List Nat) (q1s : Nat) (t4 : Nat) (t45 : Int) : Bool := oL (z4l q2b t44 b3 q1s big t4 t45)
noncomputable def zbg (q2b : Nat) (t44 : Int) (b3 : List Nat) (q1s : Nat) (t4 : Nat) (t45 : Int) : Nat := ((tR (z4l q2b t44 b3 q1s big t4 t45)).getD default).1
noncomputable def zb6 (q2b : Nat) (t44 : Int) (b3 : List Nat) (q1s : Nat) (t4 : Nat) (t45 : Int) : Int := ((tR (z4l q2b t44 b3 q1s big t4 t45)).getD default).2.1
noncomputable def zbb (q2b : Nat) (t44 : Int) (b3 : List Nat) (q1s : Nat) (t4 : Nat) (t45 : Int) : Bool := ((tR (z4l q2b t44 b3 q1s big t4 t45)).getD default).2.2
theorem zi3 {q2b : Nat} {t44 : Int} {b3 : List Nat} {q1s : Nat} {t4 : Nat} {t45 : Int} {m : Nat} {r : Unit} (hm : m = big) (h : z4l q2b t44 b3 q1s m t4 t45 = some (Sum.inl r)) : z6u q2b t44 b3 q1s t4 t45 = true ∧ z6r q2b t44 b3 q1s t4 t45 = true := by
  subst hm
  unfold z6u z6r
  rw [h]
  exact ⟨rfl, rfl⟩
theorem zhw {q2b : Nat} {t44 : Int} {b3 : List Nat} {q1s : Nat} {t4 : Nat} {t45 : Int} {m : Nat} {r : Nat × Int × Bool} (hm : m = big) (h : z4l q2b t44 b3 q1s m t4 t45 = some (Sum.inr r)) : z6u q2b t44 b3 q1s t4 t45 = true ∧ z6r q2b t44 b3 q1s t4 t45 = false ∧ zbg q2b t44 b3 q1s t4 t45 = r.1 ∧ zb6 q2b t44 b3 q1s t4 t45 = r.2.1 ∧ zbb q2b t44 b3 q1s t4 t45 = r.2.2 := by
  subst hm
  unfold z6u z6r zbg zb6 zbb
  rw [h]
  exact ⟨rfl, rfl, rfl, rfl, rfl⟩
noncomputable def z8j {R : Type} (q0m : Nat) (q0s : List Nat) (q0p : Nat) (q0w : List Nat) (q0q : Nat) (q0v : List Nat) (q0x : Nat) (q15 : List Nat) (q1d : Int) (q1i : Nat) (q1h : Nat) (k_ : Bool → Option R) : Option R := (grd (zb2 q0m (pF q0s 0 (muN q0m 1)) q0p (pF q0w 0 (muN q0p 1)) q0q (pF q0v 0 (muN q0q 1))) (br (bnot (zah q0m (pF q0s 0 (muN q0m 1)) q0p (pF q0w 0 (muN q0p 1)) q0q (pF q0v 0 (muN q0q 1)))) (k_ Bool.false) (grd (zed q1d 1 6) (br (bnot (zdo q1d 1 6)) (k_ Bool.false) (br (ltI (Int.ofNat q0x) 2) (k_ Bool.false) (br (ltI 12 (Int.ofNat q0x)) (k_ Bool.false) (grd (zde q1i) (br (bnot (zc1 q1i)) (k_ Bool.false) (grd (z6k q1h) (br (bnot (z6c q1h)) (k_ Bool.false) (grd (z6u q0x (Int.ofNat q0x) q15 q1h q1i 0) (br (z6r q0x (Int.ofNat q0x) q15 q1h q1i 0) (k_ Bool.false) (k_ Bool.true)))))))))))))
noncomputable def z8k (q0m : Nat) (q0s : List Nat) (q0p : Nat) (q0w : List Nat) (q0q : Nat) (q0v : List Nat) (q0x : Nat) (q15 : List Nat) (q1d : Int) (q1i : Nat) (q1h : Nat) : Option (Bool) := z8j q0m q0s q0p q0w q0q q0v q0x q15 q1d q1i q1h (fun c0_ => some c0_)
theorem ziv {R R' : Type} (o : Option R → Option R') (h0 : o none = none) (q0m : Nat) (q0s : List Nat) (q0p : Nat) (q0w : List Nat) (q0q : Nat) (q0v : List Nat) (q0x : Nat) (q15 : List Nat) (q1d : Int) (q1i : Nat) (q1h : Nat) (k_ : Bool → Option R) : z8j q0m q0s q0p q0w q0q q0v q0x q15 q1d q1i q1h (fun c0_ => o (k_ c0_)) = o (z8j q0m q0s q0p q0w q0q q0v q0x q15 q1d q1i q1h k_) := by
  unfold z8j
  repeat (first | refine grd_out h0 ?_ | refine br_out ?_ ?_ | rfl | exact h0.symm)
noncomputable def zda (q0m : Nat) (q0s : List Nat) (q0p : Nat) (q0w : List Nat) (q0q : Nat) (q0v : List Nat) (q0x : Nat) (q15 : List Nat) (q1d : Int) (q1i : Nat) (q1h : Nat) : Bool := (z8k q0m q0s q0p q0w q0q q0v q0x q15 q1d q1i q1h).isSome
noncomputable def zby (q0m : Nat) (q0s : List Nat) (q0p : Nat) (q0w : List Nat) (q0q : Nat) (q0v : List Nat) (q0x : Nat) (q15 : List Nat) (q1d : Int) (q1i : Nat) (q1h : Nat) : Bool := ((z8k q0m q0s q0p q0w q0q q0v q0x q15 q1d q1i q1h).getD default)
theorem zkt {q0m : Nat} {q0s : List Nat} {q0p : Nat} {q0w : List Nat} {q0q : Nat} {q0v : List Nat} {q0x : Nat} {q15 : List Nat} {q1d : Int} {q1i : Nat} {q1h : Nat} {r : Bool} (h : z8k q0m q0s q0p q0w q0q q0v q0x q15 q1d q1i q1h = some r) : zda q0m q0s q0p q0w q0q q0v q0x q15 q1d q1i q1h = true ∧ zby q0m q0s q0p q0w q0q q0v q0x q15 q1d q1i q1h = r := by
  unfold zda zby
  rw [h]
  exact ⟨rfl, rfl⟩
noncomputable def z8o {R : Type} (q04 : Nat) (q07 : List Nat) (q06 : Nat) (q0a : List Nat) (q05 : Nat) (q09 : List Nat) (q0d : Nat) (q0i : List Nat) (q0r : Int) (q18 : Nat) (q14 : Nat) (i : Int) (q1o : Nat) (k_ : Nat → Bool → Option R) : Option R := (grd (zda q04 (pF q07 0 (muN q04 1)) q06 (pF q0a 0 (muN q06 1)) q05 (pF q09 0 (muN q05 1)) q0d (pF q0i 0 (muN q0d 3)) q0r q18 q14) (br (bnot (zby q04 (pF q07 0 (muN q04 1)) q06 (pF q0a 0 (muN q06 1)) q05 (pF q09 0 (muN q05 1)) q0d (pF q0i 0 (muN q0d 3)) q0r q18 q14)) (k_ 0 Bool.false) (grd (z9r q04 (pF q07 0 (muN q04 1)) q06 (pF q0a 0 (muN q06 1)) q05 (pF q09 0 (muN q05 1)) q0d (pF q0i 0 (muN q0d 3)) q0r q18 q14 i) (br (bnot (z94 q04 (pF q07 0 (muN q04 1)) q06 (pF q0a 0 (muN q06 1)) q05 (pF q09 0 (muN q05 1)) q0d (pF q0i 0 (muN q0d 3)) q0r q18 q14 i)) (k_ 0 Bool.false) (grd (zft q1o) (br (bnot (zfa q1o)) (k_ 0 Bool.false) (grd (za1 q04 (pF q07 0 (muN q04 1)) q06 (pF q0a 0 (muN q06 1)) q05 (pF q09 0 (muN q05 1)) q0d (pF q0i 0 (muN q0d 3)) q0r q18 q14 i q1o) (grd (zfe (z6x q04 (pF q07 0 (muN q04 1)) q06 (pF q0a 0 (muN q06 1)) q05 (pF q09 0 (muN q05 1)) q0d (pF q0i 0 (muN q0d 3)) q0r q18 q14 i q1o)) (k_ (zes (z6x q04 (pF q07 0 (muN q04 1)) q06 (pF q0a 0 (muN q06 1)) q05 (pF q09 0 (muN q05 1)) q0d (pF q0i 0 (muN q0d 3)) q0r q18 q14 i q1o)) (zem (z6x q04 (pF q07 0 (muN q04 1)) q06 (pF q0a 0 (muN q06 1)) q05 (pF q09 0 (muN q05 1)) q0d (pF q0i 0 (muN q0d 3)) q0r q18 q14 i q1o)))))))))))
noncomputable def z7i (q04 : Nat) (q07 : List Nat) (q06 : Nat) (q0a : List Nat) (q05 : Nat) (q09 : List Nat) (q0d : Nat) (q0i : List Nat) (q0r : Int) (q18 : Nat) (q14 : Nat) (i : Int) (q1o : Nat) : Option (Nat × Bool) := z8o q04 q07 q06 q0a q05 q09 q0d q0i q0r q18 q14 i q1o (fun c0_ c1_ => some (c0_, c1_))
theorem zit {R R' : Type} (o : Option R → Option R') (h0 : o none = none) (q04 : Nat) (q07 : List Nat) (q06 : Nat) (q0a : List Nat) (q05 : Nat) (q09 : List Nat) (q0d : Nat) (q0i : List Nat) (q0r : Int) (q18 : Nat) (q14 : Nat) (i : Int) (q1o : Nat) (k_ : Nat → Bool → Option R) : z8o q04 q07 q06 q0a q05 q09 q0d q0i q0r q18 q14 i q1o (fun c0_ c1_ => o (k_ c0_ c1_)) = o (z8o q04 q07 q06 q0a q05 q09 q0d q0i q0r q18 q14 i q1o k_) := by
  unfold z8o
  repeat (first | refine grd_out h0 ?_ | refine br_out ?_ ?_ | rfl | exact h0.symm)
noncomputable def zd8 (q04 : Nat) (q07 : List Nat) (q06 : Nat) (q0a : List Nat) (q05 : Nat) (q09 : List Nat) (q0d : Nat) (q0i : List Nat) (q0r : Int) (q18 : Nat) (q14 : Nat) (i : Int) (q1o : Nat) : Bool := (z7i q04 q07 q06 q0a q05 q09 q0d q0i q0r q18 q14 i q1o).isSome
noncomputable def z9v (q04 : Nat) (q07 : List Nat) (q06 : Nat) (q0a : List Nat) (q05 : Nat) (q09 : List Nat) (q0d : Nat) (q0i : List Nat) (q0r : Int) (q18 : Nat) (q14 : Nat) (i : Int) (q1o : Nat) : Nat := ((z7i q04 q07 q06 q0a q05 q09 q0d q0i q0r q18 q14 i q1o).getD default).1
noncomputable def zc6 (q04 : Nat) (q07 : List Nat) (q06 : Nat) (q0a : List Nat) (q05 : Nat) (q09 : List Nat) (q0d : Nat) (q0i : List Nat) (q0r : Int) (q18 : Nat) (q14 : Nat) (i : Int) (q1o : Nat) : Bool := ((z7i q04 q07 q06 q0a q05 q09 q0d q0i q0r q18 q14 i q1o).getD default).2
theorem zkq {q04 : Nat} {q07 : List Nat} {q06 : Nat} {q0a : List Nat} {q05 : Nat} {q09 : List Nat} {q0d : Nat} {q0i : List Nat} {q0r : Int} {q18 : Nat} {q14 : Nat} {i : Int} {q1o : Nat} {r : Nat × Bool} (h : z7i q04 q07 q06 q0a q05 q09 q0d q0i q0r q18 q14 i q1o = some r) : zd8 q04 q07 q06 q0a q05 q09 q0d q0i q0r q18 q14 i q1o = true ∧ z9v q04 q07 q06 q0a q05 q09 q0d q0i q0r q18 q14 i q1o = r.1 ∧ zc6 q04 q07 q06 q0a q05 q09 q0d q0i q0r q18 q14 i q1o = r.2 := by
  unfold zd8 z9v zc6
  rw [h]
  exact ⟨rfl, rfl, rfl⟩
noncomputable def z6s {R : Type} (q00 : Nat) (q08 : List Nat) (q02 : Nat) (q0b : List Nat) (q01 : Nat) (q0c : List Nat) (q03 : Nat) (q0j : List Nat) (q0o : Int) (q12 : Nat) (q11 : Nat) (aI : Int) (q2n : Nat) (k_ : Bool → Option R) : Option R := (grd (zdn q00 (pF q08 0 (muN q00 1)) q02 (pF q0b 0 (muN q02 1)) q01 (pF q0c 0 (muN q01 1)) q03 (pF q0j 0 (muN q03 3)) q0o q12 q11 1048576) (br (ltI (zbx q00 (pF q08 0 (muN q00 1)) q02 (pF q0b 0 (muN q02 1)) q01 (pF q0c 0 (muN q01 1)) q03 (pF q0j 0 (muN q03 3)) q0o q12 q11 1048576) 0) (k_ Bool.true) (grd (z9b q00 (pF q08 0 (muN q00 1)) q02 (pF q0b 0 (muN q02 1)) q01 (pF q0c 0 (muN q01 1)) q03 (pF q0j 0 (muN q03 3)) q0o q12 q11) (grd (zd3 (z48 q00 (pF q08 0 (muN q00 1)) q02 (pF q0b 0 (muN q02 1)) q01 (pF q0c 0 (muN q01 1)) q03 (pF q0j 0 (muN q03 3)) q0o q12 q11) (pF (z5f q00 (pF q08 0 (muN q00 1)) q02 (pF q0b 0 (muN q02 1)) q01 (pF q0c 0 (muN q01 1)) q03 (pF q0j 0 (muN q03 3)) q0o q12 q11) 0 (muN (z48 q00 (pF q08 0 (muN q00 1)) q02 (pF q0b 0 (muN q02 1)) q01 (pF q0c 0 (muN q01 1)) q03 (pF q0j 0 (muN q03 3)) q0o q12 q11) 1)) (z47 q00 (pF q08 0 (muN q00 1)) q02 (pF q0b 0 (muN q02 1)) q01 (pF q0c 0 (muN q01 1)) q03 (pF q0j 0 (muN q03 3)) q0o q12 q11) (pF (z5h q00 (pF q08 0 (muN q00 1)) q02 (pF q0b 0 (muN q02 1)) q01 (pF q0c 0 (muN q01 1)) q03 (pF q0j 0 (muN q03 3)) q0o q12 q11) 0 (muN (z47 q00 (pF q08 0 (muN q00 1)) q02 (pF q0b 0 (muN q02 1)) q01 (pF q0c 0 (muN q01 1)) q03 (pF q0j 0 (muN q03 3)) q0o q12 q11) 1)) (z4a q00 (pF q08 0 (muN q00 1)) q02 (pF q0b 0 (muN q02 1)) q01 (pF q0c 0 (muN q01 1)) q03 (pF q0j 0 (muN q03 3)) q0o q12 q11) (pF (z5g q00 (pF q08 0 (muN q00 1)) q02 (pF q0b 0 (muN q02 1)) q01 (pF q0c 0 (muN q01 1)) q03 (pF q0j 0 (muN q03 3)) q0o q12 q11) 0 (muN (z4a q00 (pF q08 0 (muN q00 1)) q02 (pF q0b 0 (muN q02 1)) q01 (pF q0c 0 (muN q01 1)) q03 (pF q0j 0 (muN q03 3)) q0o q12 q11) 1)) (z46 q00 (pF q08 0 (muN q00 1)) q02 (pF q0b 0 (muN q02 1)) q01 (pF q0c 0 (muN q01 1)) q03 (pF q0j 0 (muN q03 3)) q0o q12 q11) (pF (z5i q00 (pF q08 0 (muN q00 1)) q02 (pF q0b 0 (muN q02 1)) q01 (pF q0c 0 (muN q01 1)) q03 (pF q0j 0 (muN q03 3)) q0o q12 q11) 0 (muN (z46 q00 (pF q08 0 (muN q00 1)) q02 (pF q0b 0 (muN q02 1)) q01 (pF q0c 0 (muN q01 1)) q03 (pF q0j 0 (muN q03 3)) q0o q12 q11) 3)) q0o q12 q11 aI q2n) (grd (z9b q00 (pF q08 0 (muN q00 1)) q02 (pF q0b 0 (muN q02 1)) q01 (pF q0c 0 (muN q01 1)) q03 (pF q0j 0 (muN q03 3)) q0o q12 q11) (grd (zd8 (z48 q00 (pF q08 0 (muN q00 1)) q02 (pF q0b 0 (muN q02 1)) q01 (pF q0c 0 (muN q01 1)) q03 (pF q0j 0 (muN q03 3)) q0o q12 q11) (pF (z5f q00 (pF q08 0 (muN q00 1)) q02 (pF q0b 0 (muN q02 1)) q01 (pF q0c 0 (muN q01 1)) q03 (pF q0j 0 (muN q03 3)) q0o q12 q11) 0 (muN (z48 q00 (pF q08 0 (muN q00 1)) q02 (pF q0b 0 (muN q02 1)) q01 (pF q0c 0 (muN q01 1)) q03 (pF q0j 0 (muN q03 3)) q0o q12 q11) 1)) (z47 q00 (pF q08 0 (muN q00 1)) q02 (pF q0b 0 (muN q02 1)) q01 (pF q0c 0 (muN q01 1)) q03 (pF q0j 0 (muN q03 3)) q0o q12 q11) (pF (z5h q00 (pF q08 0 (muN q00 1)) q02 (pF q0b 0 (muN q02 1)) q01 (pF q0c 0 (muN q01 1)) q03 (pF q0j 0 (muN q03 3)) q0o q12 q11) 0 (muN (z47 q00 (pF q08 0 (muN q00 1)) q02 (pF q0b 0 (muN q02 1)) q01 (pF q0c 0 (muN q01 1)) q03 (pF q0j 0 (muN q03 3)) q0o q12 q11) 1)) (z4a q00 (pF q08 0 (muN q00 1)) q02 (pF q0b 0 (muN q02 1)) q01 (pF q0c 0 (muN q01 1)) q03 (pF q0j 0 (muN q03 3)) q0o q12 q11) (pF (z5g q00 (pF q08 0 (muN q00 1)) q02 (pF q0b 0 (muN q02 1)) q01 (pF q0c 0 (muN q01 1)) q03 (pF q0j 0 (muN q03 3)) q0o q12 q11) 0 (muN (z4a q00 (pF q08 0 (muN q00 1)) q02 (pF q0b 0 (muN q02 1)) q01 (pF q0c 0 (muN q01 1)) q03 (pF q0j 0 (muN q03 3)) q0o q12 q11) 1)) (z46 q00 (pF q08 0 (muN q00 1)) q02 (pF q0b 0 (muN q02 1)) q01 (pF q0c 0 (muN q01 1)) q03 (pF q0j 0 (muN q03 3)) q0o q12 q11) (pF (z5i q00 (pF q08 0 (muN q00 1)) q02 (pF q0b 0 (muN q02 1)) q01 (pF q0c 0 (muN q01 1)) q03 (pF q0j 0 (muN q03 3)) q0o q12 q11) 0 (muN (z46 q00 (pF q08 0 (muN q00 1)) q02 (pF q0b 0 (muN q02 1)) q01 (pF q0c 0 (muN q01 1)) q03 (pF q0j 0 (muN q03 3)) q0o q12 q11) 3)) q0o q12 q11 aI q2n) (grd (z6n (fcvV FloatKind.f32 FloatKind.f64 (z9v (z48 q00 (pF q08 0 (muN q00 1)) q02 (pF q0b 0 (muN q02 1)) q01 (pF q0c 0 (muN q01 1)) q03 (pF q0j 0 (muN q03 3)) q0o q12 q11) (pF (z5f q00 (pF q08 0 (muN q00 1)) q02 (pF q0b 0 (muN q02 1)) q01 (pF q0c 0 (muN q01 1)) q03 (pF q0j 0 (muN q03 3)) q0o q12 q11) 0 (muN (z48 q00 (pF q08 0 (muN q00 1)) q02 (pF q0b 0 (muN q02 1)) q01 (pF q0c 0 (muN q01 1)) q03 (pF q0j 0 (muN q03 3)) q0o q12 q11) 1)) (z47 q00 (pF q08 0 (muN q00 1)) q02 (pF q0b 0 (muN q02 1)) q01 (pF q0c 0 (muN q01 1)) q03 (pF q0j 0 (muN q03 3)) q0o q12 q11) (pF (z5h q00 (pF q08 0 (muN q00 1)) q02 (pF q0b 0 (muN q02 1)) q01 (pF q0c 0 (muN q01 1)) q03 (pF q0j 0 (muN q03 3)) q0o q12 q11) 0 (muN (z47 q00 (pF q08 0 (muN q00 1)) q02 (pF q0b 0 (muN q02 1)) q01 (pF q0c 0 (muN q01 1)) q03 (pF q0j 0 (muN q03 3)) q0o q12 q11) 1)) (z4a q00 (pF q08 0 (muN q00 1)) q02 (pF q0b 0 (muN q02 1)) q01 (pF q0c 0 (muN q01 1)) q03 (pF q0j 0 (muN q03 3)) q0o q12 q11) (pF (z5g q00 (pF q08 0 (muN q00 1)) q02 (pF q0b 0 (muN q02 1)) q01 (pF q0c 0 (muN q01 1)) q03 (pF q0j 0 (muN q03 3)) q0o q12 q11) 0 (muN (z4a q00 (pF q08 0 (muN q00 1)) q02 (pF q0b 0 (muN q02 1)) q01 (pF q0c 0 (muN q01 1)) q03 (pF q0j 0 (muN q03 3)) q0o q12 q11) 1)) (z46 q00 (pF q08 0 (muN q00 1)) q02 (pF q0b 0 (muN q02 1)) q01 (pF q0c 0 (muN q01 1)) q03 (pF q0j 0 (muN q03 3)) q0o q12 q11) (pF (z5i q00 (pF q08 0 (muN q00 1)) q02 (pF q0b 0 (muN q02 1)) q01 (pF q0c 0 (muN q01 1)) q03 (pF q0j 0 (muN q03 3)) q0o q12 q11) 0 (muN (z46 q00 (pF q08 0 (muN q00 1)) q02 (pF q0b 0 (muN q02 1)) q01 (pF q0c 0 (muN q01 1)) q03 (pF q0j 0 (muN q03 3)) q0o q12 q11) 3)) q0o q12 q11 aI q2n)) (fcvV FloatKind.f32 FloatKind.f64 (z9u (z48 q00 (pF q08 0 (muN q00 1)) q02 (pF q0b 0 (muN q02 1)) q01 (pF q0c 0 (muN q01 1)) q03 (pF q0j 0 (muN q03 3)) q0o q12 q11) (pF (z5f q00 (pF q08 0 (muN q00 1)) q02 (pF q0b 0 (muN q02 1)) q01 (pF q0c 0 (muN q01 1)) q03 (pF q0j 0 (muN q03 3)) q0o q12 q11) 0 (muN (z48 q00 (pF q08 0 (muN q00 1)) q02 (pF q0b 0 (muN q02 1)) q01 (pF q0c 0 (muN q01 1)) q03 (pF q0j 0 (muN q03 3)) q0o q12 q11) 1)) (z47 q00 (pF q08 0 (muN q00 1)) q02 (pF q0b 0 (muN q02 1)) q01 (pF q0c 0 (muN q01 1)) q03 (pF q0j 0 (muN q03 3)) q0o q12 q11) (pF (z5h q00 (pF q08 0 (muN q00 1)) q02 (pF q0b 0 (muN q02 1)) q01 (pF q0c 0 (muN q01 1)) q03 (pF q0j 0 (muN q03 3)) q0o q12 q11) 0 (muN (z47 q00 (pF q08 0 (muN q00 1)) q02 (pF q0b 0 (muN q02 1)) q01 (pF q0c 0 (muN q01 1)) q03 (pF q0j 0 (muN q03 3)) q0o q12 q11) 1)) (z4a q00 (pF q08 0 (muN q00 1)) q02 (pF q0b 0 (muN q02 1)) q01 (pF q0c 0 (muN q01 1)) q03 (pF q0j 0 (muN q03 3)) q0o q12 q11) (pF (z5g q00 (pF q08 0 (muN q00 1)) q02 (pF q0b 0 (muN q02 1)) q01 (pF q0c 0 (muN q01 1)) q03 (pF q0j 0 (muN q03 3)) q0o q12 q11) 0 (muN (z4a q00 (pF q08 0 (muN q00 1)) q02 (pF q0b 0 (muN q02 1)) q01 (pF q0c 0 (muN q01 1)) q03 (pF q0j 0 (muN q03 3)) q0o q12 q11) 1)) (z46 q00 (pF q08 0 (muN q00 1)) q02 (pF q0b 0 (muN q02 1)) q01 (pF q0c 0 (muN q01 1)) q03 (pF q0j 0 (muN q03 3)) q0o q12 q11) (pF (z5i q00 (pF q08 0 (muN q00 1)) q02 (pF q0b 0 (muN q02 1)) q01 (pF q0c 0 (muN q01 1)) q03 (pF q0j 0 (muN q03 3)) q0o q12 q11) 0 (muN (z46 q00 (pF q08 0 (muN q00 1)) q02 (pF q0b 0 (muN q02 1)) q01 (pF q0c 0 (muN q01 1)) q03 (pF q0j 0 (muN q03 3)) q0o q12 q11) 3)) q0o q12 q11 aI q2n))) (br (bnot (z6g (fcvV FloatKind.f32 FloatKind.f64 (z9v (z48 q00 (pF q08 0 (muN q00 1)) q02 (pF q0b 0 (muN q02 1)) q01 (pF q0c 0 (muN q01 1)) q03 (pF q0j 0 (muN q03 3)) q0o q12 q11) (pF (z5f q00 (pF q08 0 (muN q00 1)) q02 (pF q0b 0 (muN q02 1)) q01 (pF q0c 0 (muN q01 1)) q03 (pF q0j 0 (muN q03 3)) q0o q12 q11) 0 (muN (z48 q00 (pF q08 0 (muN q00 1)) q02 (pF q0b 0 (muN q02 1)) q01 (pF q0c 0 (muN q01 1)) q03 (pF q0j 0 (muN q03 3)) q0o q12 q11) 1)) (z47 q00 (pF q08 0 (muN q00 1)) q02 (pF q0b 0 (muN q02 1)) q01 (pF q0c 0 (muN q01 1)) q03 (pF q0j 0 (muN q03 3)) q0o q12 q11) (pF (z5h q00 (pF q08 0 (muN q00 1)) q02 (pF q0b 0 (muN q02 1)) q01 (pF q0c 0 (muN q01 1)) q03 (pF q0j 0 (muN q03 3)) q0o q12 q11) 0 (muN (z47 q00 (pF q08 0 (muN q00 1)) q02 (pF q0b 0 (muN q02 1)) q01 (pF q0c 0 (muN q01 1)) q03 (pF q0j 0 (muN q03 3)) q0o q12 q11) 1)) (z4a q00 (pF q08 0 (muN q00 1)) q02 (pF q0b 0 (muN q02 1)) q01 (pF q0c 0 (muN q01 1)) q03 (pF q0j 0 (muN q03 3)) q0o q12 q11) (pF (z5g q00 (pF q08 0 (muN q00 1)) q02 (pF q0b 0 (muN q02 1)) q01 (pF q0c 0 (muN q01 1)) q03 (pF q0j 0 (muN q03 3)) q0o q12 q11) 0 (muN (z4a q00 (pF q08 0 (muN q00 1)) q02 (pF q0b 0 (muN q02 1)) q01 (pF q0c 0 (muN q01 1)) q03 (pF q0j 0 (muN q03 3)) q0o q12 q11) 1)) (z46 q00 (pF q08 0 (muN q00 1)) q02 (pF q0b 0 (muN q02 1)) q01 (pF q0c 0 (muN q01 1)) q03 (pF q0j 0 (muN q03 3)) q0o q12 q11) (pF (z5i q00 (pF q08 0 (muN q00 1)) q02 (pF q0b 0 (muN q02 1)) q01 (pF q0c 0 (muN q01 1)) q03 (pF q0j 0 (muN q03 3)) q0o q12 q11) 0 (muN (z46 q00 (pF q08 0 (muN q00 1)) q02 (pF q0b 0 (muN q02 1)) q01 (pF q0c 0 (muN q01 1)) q03 (pF q0j 0 (muN q03 3)) q0o q12 q11) 3)) q0o q12 q11 aI q2n)) (fcvV FloatKind.f32 FloatKind.f64 (z9u (z48 q00 (pF q08 0 (muN q00 1)) q02 (pF q0b 0 (muN q02 1)) q01 (pF q0c 0 (muN q01 1)) q03 (pF q0j 0 (muN q03 3)) q0o q12 q11) (pF (z5f q00 (pF q08 0 (muN q00 1)) q02 (pF q0b 0 (muN q02 1)) q01 (pF q0c 0 (muN q01 1)) q03 (pF q0j 0 (muN q03 3)) q0o q12 q11) 0 (muN (z48 q00 (pF q08 0 (muN q00 1)) q02 (pF q0b 0 (muN q02 1)) q01 (pF q0c 0 (muN q01 1)) q03 (pF q0j 0 (muN q03 3)) q0o q12 q11) 1)) (z47 q00 (pF q08 0 (muN q00 1)) q02 (pF q0b 0 (muN q02 1)) q01 (pF q0c 0 (muN q01 1)) q03 (pF q0j 0 (muN q03 3)) q0o q12 q11) (pF (z5h q00 (pF q08 0 (muN q00 1)) q02 (pF q0b 0 (muN q02 1)) q01 (pF q0c 0 (muN q01 1)) q03 (pF q0j 0 (muN q03 3)) q0o q12 q11) 0 (muN (z47 q00 (pF q08 0 (muN q00 1)) q02 (pF q0b 0 (muN q02 1)) q01 (pF q0c 0 (muN q01 1)) q03 (pF q0j 0 (muN q03 3)) q0o q12 q11) 1)) (z4a q00 (pF q08 0 (muN q00 1)) q02 (pF q0b 0 (muN q02 1)) q01 (pF q0c 0 (muN q01 1)) q03 (pF q0j 0 (muN q03 3)) q0o q12 q11) (pF (z5g q00 (pF q08 0 (muN q00 1)) q02 (pF q0b 0 (muN q02 1)) q01 (pF q0c 0 (muN q01 1)) q03 (pF q0j 0 (muN q03 3)) q0o q12 q11) 0 (muN (z4a q00 (pF q08 0 (muN q00 1)) q02 (pF q0b 0 (muN q02 1)) q01 (pF q0c 0 (muN q01 1)) q03 (pF q0j 0 (muN q03 3)) q0o q12 q11) 1)) (z46 q00 (pF q08 0 (muN q00 1)) q02 (pF q0b 0 (muN q02 1)) q01 (pF q0c 0 (muN q01 1)) q03 (pF q0j 0 (muN q03 3)) q0o q12 q11) (pF (z5i q00 (pF q08 0 (muN q00 1)) q02 (pF q0b 0 (muN q02 1)) q01 (pF q0c 0 (muN q01 1)) q03 (pF q0j 0 (muN q03 3)) q0o q12 q11) 0 (muN (z46 q00 (pF q08 0 (muN q00 1)) q02 (pF q0b 0 (muN q02 1)) q01 (pF q0c 0 (muN q01 1)) q03 (pF q0j 0 (muN q03 3)) q0o q12 q11) 3)) q0o q12 q11 aI q2n)))) (k_ Bool.false) (br (bnot (beqB (zc6 (z48 q00 (pF q08 0 (muN q00 1)) q02 (pF q0b 0 (muN q02 1)) q01 (pF q0c 0 (muN q01 1)) q03 (pF q0j 0 (muN q03 3)) q0o q12 q11) (pF (z5f q00 (pF q08 0 (muN q00 1)) q02 (pF q0b 0 (muN q02 1)) q01 (pF q0c 0 (muN q01 1)) q03 (pF q0j 0 (muN q03 3)) q0o q12 q11) 0 (muN (z48 q00 (pF q08 0 (muN q00 1)) q02 (pF q0b 0 (muN q02 1)) q01 (pF q0c 0 (muN q01 1)) q03 (pF q0j 0 (muN q03 3)) q0o q12 q11) 1)) (z47 q00 (pF q08 0 (muN q00 1)) q02 (pF q0b 0 (muN q02 1)) q01 (pF q0c 0 (muN q01 1)) q03 (pF q0j 0 (muN q03 3)) q0o q12 q11) (pF (z5h q00 (pF q08 0 (muN q00 1)) q02 (pF q0b 0 (muN q02 1)) q01 (pF q0c 0 (muN q01 1)) q03 (pF q0j 0 (muN q03 3)) q0o q12 q11) 0 (muN (z47 q00 (pF q08 0 (muN q00 1)) q02 (pF q0b 0 (muN q02 1)) q01 (pF q0c 0 (muN q01 1)) q03 (pF q0j 0 (muN q03 3)) q0o q12 q11) 1)) (z4a q00 (pF q08 0 (muN q00 1)) q02 (pF q0b 0 (muN q02 1)) q01 (pF q0c 0 (muN q01 1)) q03 (pF q0j 0 (muN q03 3)) q0o q12 q11) (pF (z5g q00 (pF q08 0 (muN q00 1)) q02 (pF q0b 0 (muN q02 1)) q01 (pF q0c 0 (muN q01 1)) q03 (pF q0j 0 (muN q03 3)) q0o q12 q11) 0 (muN (z4a q00 (pF q08 0 (muN q00 1)) q02 (pF q0b 0 (muN q02 1)) q01 (pF q0c 0 (muN q01 1)) q03 (pF q0j 0 (muN q03 3)) q0o q12 q11) 1)) (z46 q00 (pF q08 0 (muN q00 1)) q02 (pF q0b 0 (muN q02 1)) q01 (pF q0c 0 (muN q01 1)) q03 (pF q0j 0 (muN q03 3)) q0o q12 q11) (pF (z5i q00 (pF q08 0 (muN q00 1)) q02 (pF q0b 0 (muN q02 1)) q01 (pF q0c 0 (muN q01 1)) q03 (pF q0j 0 (muN q03 3)) q0o q12 q11) 0 (muN (z46 q00 (pF q08 0 (muN q00 1)) q02 (pF q0b 0 (muN q02 1)) q01 (pF q0c 0 (muN q01 1)) q03 (pF q0j 0 (muN q03 3)) q0o q12 q11) 3)) q0o q12 q11 aI q2n) (zc2 (z48 q00 (pF q08 0 (muN q00 1)) q02 (pF q0b 0 (muN q02 1)) q01 (pF q0c 0 (muN q01 1)) q03 (pF q0j 0 (muN q03 3)) q0o q12 q11) (pF (z5f q00 (pF q08 0 (muN q00 1)) q02 (pF q0b 0 (muN q02 1)) q01 (pF q0c 0 (muN q01 1)) q03 (pF q0j 0 (muN q03 3)) q0o q12 q11) 0 (muN (z48 q00 (pF q08 0 (muN q00 1)) q02 (pF q0b 0 (muN q02 1)) q01 (pF q0c 0 (muN q01 1)) q03 (pF q0j 0 (muN q03 3)) q0o q12 q11) 1)) (z47 q00 (pF q08 0 (muN q00 1)) q02 (pF q0b 0 (muN q02 1)) q01 (pF q0c 0 (muN q01 1)) q03 (pF q0j 0 (muN q03 3)) q0o q12 q11) (pF (z5h q00 (pF q08 0 (muN q00 1)) q02 (pF q0b 0 (muN q02 1)) q01 (pF q0c 0 (muN q01 1)) q03 (pF q0j 0 (muN q03 3)) q0o q12 q11) 0 (muN (z47 q00 (pF q08 0 (muN q00 1)) q02 (pF q0b 0 (muN q02 1)) q01 (pF q0c 0 (muN q01 1)) q03 (pF q0j 0 (muN q03 3)) q0o q12 q11) 1)) (z4a q00 (pF q08 0 (muN q00 1)) q02 (pF q0b 0 (muN q02 1)) q01 (pF q0c 0 (muN q01 1)) q03 (pF q0j 0 (muN q03 3)) q0o q12 q11) (pF (z5g q00 (pF q08 0 (muN q00 1)) q02 (pF q0b 0 (muN q02 1)) q01 (pF q0c 0 (muN q01 1)) q03 (pF q0j 0 (muN q03 3)) q0o q12 q11) 0 (muN (z4a q00 (pF q08 0 (muN q00 1)) q02 (pF q0b 0 (muN q02 1)) q01 (pF q0c 0 (muN q01 1)) q03 (pF q0j 0 (muN q03 3)) q0o q12 q11) 1)) (z46 q00 (pF q08 0 (muN q00 1)) q02 (pF q0b 0 (muN q02 1)) q01 (pF q0c 0 (muN q01 1)) q03 (pF q0j 0 (muN q03 3)) q0o q12 q11) (pF (z5i q00 (pF q08 0 (muN q00 1)) q02 (pF q0b 0 (muN q02 1)) q01 (pF q0c 0 (muN q01 1)) q03 (pF q0j 0 (muN q03 3)) q0o q12 q11) 0 (muN (z46 q00 (pF q08 0 (muN q00 1)) q02 (pF q0b 0 (muN q02 1)) q01 (pF q0c 0 (muN q01 1)) q03 (pF q0j 0 (muN q03 3)) q0o q12 q11) 3)) q0o q12 q11 aI q2n))) (k_ Bool.false) (grd (z9b q00 (pF q08 0 (muN q00 1)) q02 (pF q0b 0 (muN q02 1)) q01 (pF q0c 0 (muN q01 1)) q03 (pF q0j 0 (muN q03 3)) q0o q12 q11) (grd (zdm (z48 q00 (pF q08 0 (muN q00 1)) q02 (pF q0b 0 (muN q02 1)) q01 (pF q0c 0 (muN q01 1)) q03 (pF q0j 0 (muN q03 3)) q0o q12 q11) (pF (z5f q00 (pF q08 0 (muN q00 1)) q02 (pF q0b 0 (muN q02 1)) q01 (pF q0c 0 (muN q01 1)) q03 (pF q0j 0 (muN q03 3)) q0o q12 q11) 0 (muN (z48 q00 (pF q08 0 (muN q00 1)) q02 (pF q0b 0 (muN q02 1)) q01 (pF q0c 0 (muN q01 1)) q03 (pF q0j 0 (muN q03 3)) q0o q12 q11) 1)) (z47 q00 (pF q08 0 (muN q00 1)) q02 (pF q0b 0 (muN q02 1)) q01 (pF q0c 0 (muN q01 1)) q03 (pF q0j 0 (muN q03 3)) q0o q12 q11) (pF (z5h q00 (pF q08 0 (muN q00 1)) q02 (pF q0b 0 (muN q02 1)) q01 (pF q0c 0 (muN q01 1)) q03 (pF q0j 0 (muN q03 3)) q0o q12 q11) 0 (muN (z47 q00 (pF q08 0 (muN q00 1)) q02 (pF q0b 0 (muN q02 1)) q01 (pF q0c 0 (muN q01 1)) q03 (pF q0j 0 (muN q03 3)) q0o q12 q11) 1)) (z4a q00 (pF q08 0 (muN q00 1)) q02 (pF q0b 0 (muN q02 1)) q01 (pF q0c 0 (muN q01 1)) q03 (pF q0j 0 (muN q03 3)) q0o q12 q11) (pF (z5g q00 (pF q08 0 (muN q00 1)) q02 (pF q0b 0 (muN q02 1)) q01 (pF q0c 0 (muN q01 1)) q03 (pF q0j 0 (muN q03 3)) q0o q12 q11) 0 (muN (z4a q00 (pF q08 0 (muN q00 1)) q02 (pF q0b 0 (muN q02 1)) q01 (pF q0c 0 (muN q01 1)) q03 (pF q0j 0 (muN q03 3)) q0o q12 q11) 1)) (z46 q00 (pF q08 0 (muN q00 1)) q02 (pF q0b 0 (muN q02 1)) q01 (pF q0c 0 (muN q01 1)) q03 (pF q0j 0 (muN q03 3)) q0o q12 q11) (pF (z5i q00 (pF q08 0 (muN q00 1)) q02 (pF q0b 0 (muN q02 1)) q01 (pF q0c 0 (muN q01 1)) q03 (pF q0j 0 (muN q03 3)) q0o q12 q11) 0 (muN (z46 q00 (pF q08 0 (muN q00 1)) q02 (pF q0b 0 (muN q02 1)) q01 (pF q0c 0 (muN q01 1)) q03 (pF q0j 0 (muN q03 3)) q0o q12 q11) 3)) q0o q12 q11 (z48 q00 (pF q08 0 (muN q00 1)) q02 (pF q0b 0 (muN q02 1)) q01 (pF q0c 0 (muN q01 1)) q03 (pF q0j 0 (muN q03 3)) q0o q12 q11) (pF (z5f q00 (pF q08 0 (muN q00 1)) q02 (pF q0b 0 (muN q02 1)) q01 (pF q0c 0 (muN q01 1)) q03 (pF q0j 0 (muN q03 3)) q0o q12 q11) 0 (muN (z48 q00 (pF q08 0 (muN q00 1)) q02 (pF q0b 0 (muN q02 1)) q01 (pF q0c 0 (muN q01 1)) q03 (pF q0j 0 (muN q03 3)) q0o q12 q11) 1)) (z47 q00 (pF q08 0 (muN q00 1)) q02 (pF q0b 0 (muN q02 1)) q01 (pF q0c 0 (muN q01 1)) q03 (pF q0j 0 (muN q03 3)) q0o q12 q11) (pF (z5h q00 (pF q08 0 (muN q00 1)) q02 (pF q0b 0 (muN q02 1)) q01 (pF q0c 0 (muN q01 1)) q03 (pF q0j 0 (muN q03 3)) q0o q12 q11) 0 (muN (z47 q00 (pF q08 0 (muN q00 1)) q02 (pF q0b 0 (muN q02 1)) q01 (pF q0c 0 (muN q01 1)) q03 (pF q0j 0 (muN q03 3)) q0o q12 q11) 1)) (z4a q00 (pF q08 0 (muN q00 1)) q02 (pF q0b 0 (muN q02 1)) q01 (pF q0c 0 (muN q01 1)) q03 (pF q0j 0 (muN q03 3)) q0o q12 q11) (pF (z5g q00 (pF q08 0 (muN q00 1)) q02 (pF q0b 0 (muN q02 1)) q01 (pF q0c 0 (muN q01 1)) q03 (pF q0j 0 (muN q03 3)) q0o q12 q11) 0 (muN (z4a q00 (pF q08 0 (muN q00 1)) q02 (pF q0b 0 (muN q02 1)) q01 (pF q0c 0 (muN q01 1)) q03 (pF q0j 0 (muN q03 3)) q0o q12 q11) 1)) (z46 q00 (pF q08 0 (muN q00 1)) q02 (pF q0b 0 (muN q02 1)) q01 (pF q0c 0 (muN q01 1)) q03 (pF q0j 0 (muN q03 3)) q0o q12 q11) (pF (z5i q00 (pF q08 0 (muN q00 1)) q02 (pF q0b 0 (muN q02 1)) q01 (pF q0c 0 (muN q01 1)) q03 (pF q0j 0 (muN q03 3)) q0o q12 q11) 0 (muN (z46 q00 (pF q08 0 (muN q00 1)) q02 (pF q0b 0 (muN q02 1)) q01 (pF q0c 0 (muN q01 1)) q03 (pF q0j 0 (muN q03 3)) q0o q12 q11) 3)) q0o q12 q11) (br (bnot (zca (z48 q00 (pF q08 0 (muN q00 1)) q02 (pF q0b 0 (muN q02 1)) q01 (pF q0c 0 (muN q01 1)) q03 (pF q0j 0 (muN q03 3)) q0o q12 q11) (pF (z5f q00 (pF q08 0 (muN q00 1)) q02 (pF q0b 0 (muN q02 1)) q01 (pF q0c 0 (muN q01 1)) q03 (pF q0j 0 (muN q03 3)) q0o q12 q11) 0 (muN (z48 q00 (pF q08 0 (muN q00 1)) q02 (pF q0b 0 (muN q02 1)) q01 (pF q0c 0 (muN q01 1)) q03 (pF q0j 0 (muN q03 3)) q0o q12 q11) 1)) (z47 q00 (pF q08 0 (muN q00 1)) q02 (pF q0b 0 (muN q02 1)) q01 (pF q0c 0 (muN q01 1)) q03 (pF q0j 0 (muN q03 3)) q0o q12 q11) (pF (z5h q00 (pF q08 0 (muN q00 1)) q02 (pF q0b 0 (muN q02 1)) q01 (pF q0c 0 (muN q01 1)) q03 (pF q0j 0 (muN q03 3)) q0o q12 q11) 0 (muN (z47 q00 (pF q08 0 (muN q00 1)) q02 (pF q0b 0 (muN q02 1)) q01 (pF q0c 0 (muN q01 1)) q03 (pF q0j 0 (muN q03 3)) q0o q12 q11) 1)) (z4a q00 (pF q08 0 (muN q00 1)) q02 (pF q0b 0 (muN q02 1)) q01 (pF q0c 0 (muN q01 1)) q03 (pF q0j 0 (muN q03 3)) q0o q12 q11) (pF (z5g q00 (pF q08 0 (muN q00 1)) q02 (pF q0b 0 (muN q02 1)) q01 (pF q0c 0 (muN q01 1)) q03 (pF q0j 0 (muN q03 3)) q0o q12 q11) 0 (muN (z4a q00 (pF q08 0 (muN q00 1)) q02 (pF q0b 0 (muN q02 1)) q01 (pF q0c 0 (muN q01 1)) q03 (pF q0j 0 (muN q03 3)) q0o q12 q11) 1)) (z46 q00 (pF q08 0 (muN q00 1)) q02 (pF q0b 0 (muN q02 1)) q01 (pF q0c 0 (muN q01 1)) q03 (pF q0j 0 (muN q03 3)) q0o q12 q11) (pF (z5i q00 (pF q08 0 (muN q00 1)) q02 (pF q0b 0 (muN q02 1)) q01 (pF q0c 0 (muN q01 1)) q03 (pF q0j 0 (muN q03 3)) q0o q12 q11) 0 (muN (z46 q00 (pF q08 0 (muN q00 1)) q02 (pF q0b 0 (muN q02 1)) q01 (pF q0c 0 (muN q01 1)) q03 (pF q0j 0 (muN q03 3)) q0o q12 q11) 3)) q0o q12 q11 (z48 q00 (pF q08 0 (muN q00 1)) q02 (pF q0b 0 (muN q02 1)) q01 (pF q0c 0 (muN q01 1)) q03 (pF q0j 0 (muN q03 3)) q0o q12 q11) (pF (z5f q00 (pF q08 0 (muN q00 1)) q02 (pF q0b 0 (muN q02 1)) q01 (pF q0c 0 (muN q01 1)) q03 (pF q0j 0 (muN q03 3)) q0o q12 q11) 0 (muN (z48 q00 (pF q08 0 (muN q00 1)) q02 (pF q0b 0 (muN q02 1)) q01 (pF q0c 0 (muN q01 1)) q03 (pF q0j 0 (muN q03 3)) q0o q12 q11) 1)) (z47 q00 (pF q08 0 (muN q00 1)) q02 (pF q0b 0 (muN q02 1)) q01 (pF q0c 0 (muN q01 1)) q03 (pF q0j 0 (muN q03 3)) q0o q12 q11) (pF (z5h q00 (pF q08 0 (muN q00 1)) q02 (pF q0b 0 (muN q02 1)) q01 (pF q0c 0 (muN q01 1)) q03 (pF q0j 0 (muN q03 3)) q0o q12 q11) 0 (muN (z47 q00 (pF q08 0 (muN q00 1)) q02 (pF q0b 0 (muN q02 1)) q01 (pF q0c 0 (muN q01 1)) q03 (pF q0j 0 (muN q03 3)) q0o q12 q11) 1)) (z4a q00 (pF q08 0 (muN q00 1)) q02 (pF q0b 0 (muN q02 1)) q01 (pF q0c 0 (muN q01 1)) q03 (pF q0j 0 (muN q03 3)) q0o q12 q11) (pF (z5g q00 (pF q08 0 (muN q00 1)) q02 (pF q0b 0 (muN q02 1)) q01 (pF q0c 0 (muN q01 1)) q03 (pF q0j 0 (muN q03 3)) q0o q12 q11) 0 (muN (z4a q00 (pF q08 0 (muN q00 1)) q02 (pF q0b 0 (muN q02 1)) q01 (pF q0c 0 (muN q01 1)) q03 (pF q0j 0 (muN q03 3)) q0o q12 q11) 1)) (z46 q00 (pF q08 0 (muN q00 1)) q02 (pF q0b 0 (muN q02 1)) q01 (pF q0c 0 (muN q01 1)) q03 (pF q0j 0 (muN q03 3)) q0o q12 q11) (pF (z5i q00 (pF q08 0 (muN q00 1)) q02 (pF q0b 0 (muN q02 1)) q01 (pF q0c 0 (muN q01 1)) q03 (pF q0j 0 (muN q03 3)) q0o q12 q11) 0 (muN (z46 q00 (pF q08 0 (muN q00 1)) q02 (pF q0b 0 (muN q02 1)) q01 (pF q0c 0 (muN q01 1)) q03 (pF q0j 0 (muN q03 3)) q0o q12 q11) 3)) q0o q12 q11)) (k_ Bool.false) (k_ Bool.true)))))))))))))
noncomputable def z6q (q00 : Nat) (q08 : List Nat) (q02 : Nat) (q0b : List Nat) (q01 : Nat) (q0c : List Nat) (q03 : Nat) (q0j : List Nat) (q0o : Int) (q12 : Nat) (q11 : Nat) (aI : Int) (q2n : Nat) : Option (Bool) := z6s q00 q08 q02 q0b q01 q0c q03 q0j q0o q12 q11 aI q2n (fun c0_ => some c0_)
theorem zg6 {R R' : Type} (o : Option R → Option R') (h0 : o none = none) (q00 : Nat) (q08 : List Nat) (q02 : Nat) (q0b : List Nat) (q01 : Nat) (q0c : List Nat) (q03 : Nat) (q0j : List Nat) (q0o : Int) (q12 : Nat) (q11 : Nat) (aI : Int) (q2n : Nat) (k_ : Bool → Option R) : z6s q00 q08 q02 q0b q01 q0c q03 q0j q0o q12 q11 aI q2n (fun c0_ => o (k_ c0_)) = o (z6s q00 q08 q02 q0b q01 q0c q03 q0j q0o q12 q11 aI q2n k_) := by
  unfold z6s
  repeat (first | refine grd_out h0 ?_ | refine br_out ?_ ?_ | rfl | exact h0.symm)
noncomputable def zaz (q00 : Nat) (q08 : List Nat) (q02 : Nat) (q0b : List Nat) (q01 : Nat) (q0c : List Nat) (q03 : Nat) (q0j : List Nat) (q0o : Int) (q12 : Nat) (q11 : Nat) (aI : Int) (q2n : Nat) : Bool := (z6q q00 q08 q02 q0b q01 q0c q03 q0j q0o q12 q11 aI q2n).isSome
noncomputable def zad (q00 : Nat) (q08 : List Nat) (q02 : Nat) (q0b : List Nat) (q01 : Nat) (q0c : List Nat) (q03 : Nat) (q0j : List Nat) (q0o : Int) (q12 : Nat) (q11 : Nat) (aI : Int) (q2n : Nat) : Bool := ((z6q q00 q08 q02 q0b q01 q0c q03 q0j q0o q12 q11 aI q2n).getD default)
theorem zgt {q00 : Nat} {q08 : List Nat} {q02 : Nat} {q0b : List Nat} {q01 : Nat} {q0c : List Nat} {q03 : Nat} {q0j : List Nat} {q0o : Int} {q12 : Nat} {q11 : Nat} {aI : Int} {q2n : Nat} {r : Bool} (h : z6q q00 q08 q02 q0b q01 q0c q03 q0j q0o q12 q11 aI q2n = some r) : zaz q00 q08 q02 q0b q01 q0c q03 q0j q0o q12 q11 aI q2n = true ∧ zad q00 q08 q02 q0b q01 q0c q03 q0j q0o q12 q11 aI q2n = r := by
  unfold zaz zad
  rw [h]
  exact ⟨rfl, rfl⟩
end Go.Rf
