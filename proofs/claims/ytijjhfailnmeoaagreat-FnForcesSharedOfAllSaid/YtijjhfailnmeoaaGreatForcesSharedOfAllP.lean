import Derived.Test.YtijjhfailnmeoaaGreatB
set_option linter.unusedVariables false
set_option linter.unusedSimpArgs false
set_option maxRecDepth 100000
set_option maxHeartbeats 4000000
namespace Go.Rf
open Go
noncomputable def zia {R:Type} (n_ low q1f:Int) (k_:Bool→Option R):Option R:=(br (leI low n_) (k_ (leI n_ q1f)) (k_ Bool.false))
noncomputable def zd5 (n_ low q1f:Int):Option (Bool):=zia n_ low q1f (fun c0_=>some c0_)
theorem y11 {R R':Type} (o:Option R→Option R') (h0:o none=none) (n_ low q1f:Int) (k_:Bool→Option R):zia n_ low q1f (fun c0_=>o (k_ c0_))=o (zia n_ low q1f k_):=by
 unfold zia
 repeat (first | refine z02 h0 ?_ | refine z07 ?_ ?_ | rfl | exact h0.symm)
noncomputable def z6r (n_ low q1f:Int):Bool:=(zd5 n_ low q1f).isSome
noncomputable def z3p (n_ low q1f:Int):Bool:=((zd5 n_ low q1f).getD default)
theorem zkr {n_ low q1f:Int} {r:Bool} (h:zd5 n_ low q1f=some r):z6r n_ low q1f=true∧z3p n_ low q1f=r:=by
 unfold z6r z3p
 rw[h]
 exact⟨rfl,rfl⟩
noncomputable def ziy {R:Type} (x:Nat) (k_:Bool→Option R):Option R:=(k_ (fcmp .eql .f32 (fop .sub .f32 x x) 0))
noncomputable def zde (x:Nat):Option (Bool):=ziy x (fun c0_=>some c0_)
theorem zxp {R R':Type} (o:Option R→Option R') (h0:o none=none) (x:Nat) (k_:Bool→Option R):ziy x (fun c0_=>o (k_ c0_))=o (ziy x k_):=by
 unfold ziy
 repeat (first | refine z02 h0 ?_ | refine z07 ?_ ?_ | rfl | exact h0.symm)
noncomputable def z2i (x:Nat):Bool:=(zde x).isSome
noncomputable def z22 (x:Nat):Bool:=((zde x).getD default)
theorem z3x {x:Nat} {r:Bool} (h:zde x=some r):z2i x=true∧z22 x=r:=by
 unfold z2i z22
 rw[h]
 exact⟨rfl,rfl⟩
noncomputable def zjf {R:Type} (n_ low q1f:Int) (k_:Bool→Option R):Option R:=(br (leI low n_) (k_ (leI n_ q1f)) (k_ Bool.false))
noncomputable def zgc (n_ low q1f:Int):Option (Bool):=zjf n_ low q1f (fun c0_=>some c0_)
theorem y2v {R R':Type} (o:Option R→Option R') (h0:o none=none) (n_ low q1f:Int) (k_:Bool→Option R):zjf n_ low q1f (fun c0_=>o (k_ c0_))=o (zjf n_ low q1f k_):=by
 unfold zjf
 repeat (first | refine z02 h0 ?_ | refine z07 ?_ ?_ | rfl | exact h0.symm)
noncomputable def zgf (n_ low q1f:Int):Bool:=(zgc n_ low q1f).isSome
noncomputable def zd9 (n_ low q1f:Int):Bool:=((zgc n_ low q1f).getD default)
theorem zls {n_ low q1f:Int} {r:Bool} (h:zgc n_ low q1f=some r):zgf n_ low q1f=true∧zd9 n_ low q1f=r:=by
 unfold zgf zd9
 rw[h]
 exact⟨rfl,rfl⟩
noncomputable def zi8 {R:Type} (x y:Nat) (k_:Bool→Option R):Option R:=(br (fcmp .eql .f32 x y) (br (fcmp .neq .f32 x 0) (k_ Bool.true) (br (fcmp .eql .f32 (fop .quo .f32 1065353216 x) (fop .quo .f32 1065353216 y)) (k_ Bool.true) (br (fcmp .neq .f32 x x) (k_ (fcmp .neq .f32 y y)) (k_ Bool.false)))) (br (fcmp .neq .f32 x x) (k_ (fcmp .neq .f32 y y)) (k_ Bool.false)))
noncomputable def zd8 (x y:Nat):Option (Bool):=zi8 x y (fun c0_=>some c0_)
theorem y0e {R R':Type} (o:Option R→Option R') (h0:o none=none) (x y:Nat) (k_:Bool→Option R):zi8 x y (fun c0_=>o (k_ c0_))=o (zi8 x y k_):=by
 unfold zi8
 repeat (first | refine z02 h0 ?_ | refine z07 ?_ ?_ | rfl | exact h0.symm)
noncomputable def zlp (x y:Nat):Bool:=(zd8 x y).isSome
noncomputable def zkc (x y:Nat):Bool:=((zd8 x y).getD default)
theorem y60 {x y:Nat} {r:Bool} (h:zd8 x y=some r):zlp x y=true∧zkc x y=r:=by
 unfold zlp zkc
 rw[h]
 exact⟨rfl,rfl⟩
noncomputable def zhh {R:Type} (x:Nat) (k_:Bool→Option R):Option R:=(k_ (fcmp .eql .f32 (fop .sub .f32 x x) 0))
noncomputable def zca (x:Nat):Option (Bool):=zhh x (fun c0_=>some c0_)
theorem zwp {R R':Type} (o:Option R→Option R') (h0:o none=none) (x:Nat) (k_:Bool→Option R):zhh x (fun c0_=>o (k_ c0_))=o (zhh x k_):=by
 unfold zhh
 repeat (first | refine z02 h0 ?_ | refine z07 ?_ ?_ | rfl | exact h0.symm)
noncomputable def z10 (x:Nat):Bool:=(zca x).isSome
noncomputable def z0u (x:Nat):Bool:=((zca x).getD default)
theorem z2q {x:Nat} {r:Bool} (h:zca x=some r):z10 x=true∧z0u x=r:=by
 unfold z10 z0u
 rw[h]
 exact⟨rfl,rfl⟩
noncomputable def ze4 {R:Type} (x low q1f:Nat) (k_:Bool→Option R):Option R:=(br (fcmp .geq .f32 x low) (k_ (fcmp .leq .f32 x q1f)) (k_ Bool.false))
noncomputable def z9w (x low q1f:Nat):Option (Bool):=ze4 x low q1f (fun c0_=>some c0_)
theorem zx0 {R R':Type} (o:Option R→Option R') (h0:o none=none) (x low q1f:Nat) (k_:Bool→Option R):ze4 x low q1f (fun c0_=>o (k_ c0_))=o (ze4 x low q1f k_):=by
 unfold ze4
 repeat (first | refine z02 h0 ?_ | refine z07 ?_ ?_ | rfl | exact h0.symm)
noncomputable def zeh (x low q1f:Nat):Bool:=(z9w x low q1f).isSome
noncomputable def zbx (x low q1f:Nat):Bool:=((z9w x low q1f).getD default)
theorem zsp {x low q1f:Nat} {r:Bool} (h:z9w x low q1f=some r):zeh x low q1f=true∧zbx x low q1f=r:=by
 unfold zeh zbx
 rw[h]
 exact⟨rfl,rfl⟩
noncomputable def z7d {R:Type} (q00:Nat) (q04:List Nat) (q02:Nat) (q07:List Nat) (q01:Nat) (q08:List Nat) (q0a:Nat) (q0e:List Nat) (q0i:Int) (q0n q0m:Nat) (i:Int) (k_:Nat→Option R):Option R:=(grd (okIx i q0a) (grd (okIx i q0a) (k_ (fop .quo .f32 (fop .mul .f32 (fOI .f32 q0i) (gF q0e (Nat.succ (ixO 0 i 3)))) (fop .mul .f32 1086918619 (gF q0e (ixO 0 i 3)))))))
noncomputable def z5j (q00:Nat) (q04:List Nat) (q02:Nat) (q07:List Nat) (q01:Nat) (q08:List Nat) (q0a:Nat) (q0e:List Nat) (q0i:Int) (q0n q0m:Nat) (i:Int):Option (Nat):=z7d q00 q04 q02 q07 q01 q08 q0a q0e q0i q0n q0m i (fun c0_=>some c0_)
theorem zrg {R R':Type} (o:Option R→Option R') (h0:o none=none) (q00:Nat) (q04:List Nat) (q02:Nat) (q07:List Nat) (q01:Nat) (q08:List Nat) (q0a:Nat) (q0e:List Nat) (q0i:Int) (q0n q0m:Nat) (i:Int) (k_:Nat→Option R):z7d q00 q04 q02 q07 q01 q08 q0a q0e q0i q0n q0m i (fun c0_=>o (k_ c0_))=o (z7d q00 q04 q02 q07 q01 q08 q0a q0e q0i q0n q0m i k_):=by
 unfold z7d
 repeat (first | refine z02 h0 ?_ | refine z07 ?_ ?_ | rfl | exact h0.symm)
noncomputable def z9r (q00:Nat) (q04:List Nat) (q02:Nat) (q07:List Nat) (q01:Nat) (q08:List Nat) (q0a:Nat) (q0e:List Nat) (q0i:Int) (q0n q0m:Nat) (i:Int):Bool:=(z5j q00 q04 q02 q07 q01 q08 q0a q0e q0i q0n q0m i).isSome
noncomputable def z6k (q00:Nat) (q04:List Nat) (q02:Nat) (q07:List Nat) (q01:Nat) (q08:List Nat) (q0a:Nat) (q0e:List Nat) (q0i:Int) (q0n q0m:Nat) (i:Int):Nat:=((z5j q00 q04 q02 q07 q01 q08 q0a q0e q0i q0n q0m i).getD default)
theorem zu3 {q00:Nat} {q04:List Nat} {q02:Nat} {q07:List Nat} {q01:Nat} {q08:List Nat} {q0a:Nat} {q0e:List Nat} {q0i:Int} {q0n q0m:Nat} {i:Int} {r:Nat} (h:z5j q00 q04 q02 q07 q01 q08 q0a q0e q0i q0n q0m i=some r):z9r q00 q04 q02 q07 q01 q08 q0a q0e q0i q0n q0m i=true∧z6k q00 q04 q02 q07 q01 q08 q0a q0e q0i q0n q0m i=r:=by
 unfold z9r z6k
 rw[h]
 exact⟨rfl,rfl⟩
noncomputable def zi0 {R:Type} (q00:Nat) (q04:List Nat) (q02:Nat) (q07:List Nat) (q01:Nat) (q08:List Nat) (q0a:Nat) (q0e:List Nat) (q0i:Int) (q0n q0m:Nat) (i:Int) (q1s:Nat) (k_:Nat→Option R):Option R:=(grd (okIx i q0a) (k_ (fop .quo .f32 (fop .quo .f32 (fop .mul .f32 (fOI .f32 q0i) (fop .sub .f32 q0m (gF q0e (ixO 0 i 3)))) (fop .mul .f32 1073741824 (gF q0e (ixO 0 i 3)))) (fop .add .f32 (fop .quo .f32 (fop .mul .f32 (fOI .f32 q0i) (fop .sub .f32 q0m (gF q0e (ixO 0 i 3)))) (fop .mul .f32 1073741824 (gF q0e (ixO 0 i 3)))) q1s))))
noncomputable def zda (q00:Nat) (q04:List Nat) (q02:Nat) (q07:List Nat) (q01:Nat) (q08:List Nat) (q0a:Nat) (q0e:List Nat) (q0i:Int) (q0n q0m:Nat) (i:Int) (q1s:Nat):Option (Nat):=zi0 q00 q04 q02 q07 q01 q08 q0a q0e q0i q0n q0m i q1s (fun c0_=>some c0_)
theorem y07 {R R':Type} (o:Option R→Option R') (h0:o none=none) (q00:Nat) (q04:List Nat) (q02:Nat) (q07:List Nat) (q01:Nat) (q08:List Nat) (q0a:Nat) (q0e:List Nat) (q0i:Int) (q0n q0m:Nat) (i:Int) (q1s:Nat) (k_:Nat→Option R):zi0 q00 q04 q02 q07 q01 q08 q0a q0e q0i q0n q0m i q1s (fun c0_=>o (k_ c0_))=o (zi0 q00 q04 q02 q07 q01 q08 q0a q0e q0i q0n q0m i q1s k_):=by
 unfold zi0
 repeat (first | refine z02 h0 ?_ | refine z07 ?_ ?_ | rfl | exact h0.symm)
noncomputable def zln (q00:Nat) (q04:List Nat) (q02:Nat) (q07:List Nat) (q01:Nat) (q08:List Nat) (q0a:Nat) (q0e:List Nat) (q0i:Int) (q0n q0m:Nat) (i:Int) (q1s:Nat):Bool:=(zda q00 q04 q02 q07 q01 q08 q0a q0e q0i q0n q0m i q1s).isSome
noncomputable def zfx (q00:Nat) (q04:List Nat) (q02:Nat) (q07:List Nat) (q01:Nat) (q08:List Nat) (q0a:Nat) (q0e:List Nat) (q0i:Int) (q0n q0m:Nat) (i:Int) (q1s:Nat):Nat:=((zda q00 q04 q02 q07 q01 q08 q0a q0e q0i q0n q0m i q1s).getD default)
theorem y51 {q00:Nat} {q04:List Nat} {q02:Nat} {q07:List Nat} {q01:Nat} {q08:List Nat} {q0a:Nat} {q0e:List Nat} {q0i:Int} {q0n q0m:Nat} {i:Int} {q1s r:Nat} (h:zda q00 q04 q02 q07 q01 q08 q0a q0e q0i q0n q0m i q1s=some r):zln q00 q04 q02 q07 q01 q08 q0a q0e q0i q0n q0m i q1s=true∧zfx q00 q04 q02 q07 q01 q08 q0a q0e q0i q0n q0m i q1s=r:=by
 unfold zln zfx
 rw[h]
 exact⟨rfl,rfl⟩
noncomputable def z9l {R:Type} (q00:Nat) (q04:List Nat) (q02:Nat) (q07:List Nat) (q01:Nat) (q08:List Nat) (q0a:Nat) (q0e:List Nat) (q0i:Int) (q0n q0m:Nat) (i:Int) (k_:Nat→Option R):Option R:=(grd (okIx i q0a) (k_ (fop .quo .f32 (fop .mul .f32 (fOI .f32 q0i) (gF q0e (Nat.succ (ixO 0 i 3)))) (fop .mul .f32 1086918619 (gF q0e (ixO 0 i 3))))))
noncomputable def z79 (q00:Nat) (q04:List Nat) (q02:Nat) (q07:List Nat) (q01:Nat) (q08:List Nat) (q0a:Nat) (q0e:List Nat) (q0i:Int) (q0n q0m:Nat) (i:Int):Option (Nat):=z9l q00 q04 q02 q07 q01 q08 q0a q0e q0i q0n q0m i (fun c0_=>some c0_)
theorem zu5 {R R':Type} (o:Option R→Option R') (h0:o none=none) (q00:Nat) (q04:List Nat) (q02:Nat) (q07:List Nat) (q01:Nat) (q08:List Nat) (q0a:Nat) (q0e:List Nat) (q0i:Int) (q0n q0m:Nat) (i:Int) (k_:Nat→Option R):z9l q00 q04 q02 q07 q01 q08 q0a q0e q0i q0n q0m i (fun c0_=>o (k_ c0_))=o (z9l q00 q04 q02 q07 q01 q08 q0a q0e q0i q0n q0m i k_):=by
 unfold z9l
 repeat (first | refine z02 h0 ?_ | refine z07 ?_ ?_ | rfl | exact h0.symm)
noncomputable def zdg (q00:Nat) (q04:List Nat) (q02:Nat) (q07:List Nat) (q01:Nat) (q08:List Nat) (q0a:Nat) (q0e:List Nat) (q0i:Int) (q0n q0m:Nat) (i:Int):Bool:=(z79 q00 q04 q02 q07 q01 q08 q0a q0e q0i q0n q0m i).isSome
noncomputable def z8s (q00:Nat) (q04:List Nat) (q02:Nat) (q07:List Nat) (q01:Nat) (q08:List Nat) (q0a:Nat) (q0e:List Nat) (q0i:Int) (q0n q0m:Nat) (i:Int):Nat:=((z79 q00 q04 q02 q07 q01 q08 q0a q0e q0i q0n q0m i).getD default)
theorem zxy {q00:Nat} {q04:List Nat} {q02:Nat} {q07:List Nat} {q01:Nat} {q08:List Nat} {q0a:Nat} {q0e:List Nat} {q0i:Int} {q0n q0m:Nat} {i:Int} {r:Nat} (h:z79 q00 q04 q02 q07 q01 q08 q0a q0e q0i q0n q0m i=some r):zdg q00 q04 q02 q07 q01 q08 q0a q0e q0i q0n q0m i=true∧z8s q00 q04 q02 q07 q01 q08 q0a q0e q0i q0n q0m i=r:=by
 unfold zdg z8s
 rw[h]
 exact⟨rfl,rfl⟩
noncomputable def zo1 {R:Type}  (k_:Nat→Option R):Option R:=(grd (okU .f64 9221120237041090561) (k_ (cnI .f64 9221120237041090561)))
noncomputable def zkn  : Option (Nat):=zo1 (fun c0_=>some c0_)
theorem y5m {R R':Type} (o:Option R→Option R') (h0:o none=none)  (k_:Nat→Option R):zo1 (fun c0_=>o (k_ c0_))=o (zo1 k_):=by
 unfold zo1
 repeat (first | refine z02 h0 ?_ | refine z07 ?_ ?_ | rfl | exact h0.symm)
noncomputable def zn3  : Bool:=(zkn).isSome
noncomputable def zic  : Nat:=((zkn).getD default)
theorem y14  {r:Nat} (h:zkn=some r):zn3=true∧zic=r:=by
 unfold zn3 zic
 rw[h]
 exact⟨rfl,rfl⟩
noncomputable def znq {R:Type} (a b q1r:Nat) (k_:Nat→Option R):Option R:=(k_ (fop .add .f32 a (fop .mul .f32 q1r (fop .sub .f32 b a))))
noncomputable def zj8 (a b q1r:Nat):Option (Nat):=znq a b q1r (fun c0_=>some c0_)
theorem y1t {R R':Type} (o:Option R→Option R') (h0:o none=none) (a b q1r:Nat) (k_:Nat→Option R):znq a b q1r (fun c0_=>o (k_ c0_))=o (znq a b q1r k_):=by
 unfold znq
 repeat (first | refine z02 h0 ?_ | refine z07 ?_ ?_ | rfl | exact h0.symm)
noncomputable def zjp (a b q1r:Nat):Bool:=(zj8 a b q1r).isSome
noncomputable def zi2 (a b q1r:Nat):Nat:=((zj8 a b q1r).getD default)
theorem y7q {a b q1r r:Nat} (h:zj8 a b q1r=some r):zjp a b q1r=true∧zi2 a b q1r=r:=by
 unfold zjp zi2
 rw[h]
 exact⟨rfl,rfl⟩
noncomputable def zcf {R:Type} (x:Nat) (k_:Nat→Option R):Option R:=(grd (fcvB .f64 .f32 x) (k_ (fcvV .f64 .f32 x)))
noncomputable def z8y (x:Nat):Option (Nat):=zcf x (fun c0_=>some c0_)
theorem zvd {R R':Type} (o:Option R→Option R') (h0:o none=none) (x:Nat) (k_:Nat→Option R):zcf x (fun c0_=>o (k_ c0_))=o (zcf x k_):=by
 unfold zcf
 repeat (first | refine z02 h0 ?_ | refine z07 ?_ ?_ | rfl | exact h0.symm)
noncomputable def zc8 (x:Nat):Bool:=(z8y x).isSome
noncomputable def z7z (x:Nat):Nat:=((z8y x).getD default)
theorem zqu {x r:Nat} (h:z8y x=some r):zc8 x=true∧z7z x=r:=by
 unfold zc8 z7z
 rw[h]
 exact⟨rfl,rfl⟩
noncomputable def zn7 {R:Type} (x:Nat) (k_:Nat→Option R):Option R:=(grd (bnot (nanQ .f64 x)) (grd (okU .f64 (bitI .andNot .u64 (Int.ofNat x) 9223372036854775808)) (k_ (cnI .f64 (bitI .andNot .u64 (Int.ofNat x) 9223372036854775808)))))
noncomputable def zks (x:Nat):Option (Nat):=zn7 x (fun c0_=>some c0_)
theorem y5g {R R':Type} (o:Option R→Option R') (h0:o none=none) (x:Nat) (k_:Nat→Option R):zn7 x (fun c0_=>o (k_ c0_))=o (zn7 x k_):=by
 unfold zn7
 repeat (first | refine z02 h0 ?_ | refine z07 ?_ ?_ | rfl | exact h0.symm)
noncomputable def zrl (x:Nat):Bool:=(zks x).isSome
noncomputable def zph (x:Nat):Nat:=((zks x).getD default)
theorem yak {x r:Nat} (h:zks x=some r):zrl x=true∧zph x=r:=by
 unfold zrl zph
 rw[h]
 exact⟨rfl,rfl⟩
noncomputable def zgt {R:Type} (x:Nat) (k_:Nat→Bool→Option R):Option R:=(grd (z2i x) (br (bnot (z22 x)) (k_ 0 Bool.false) (k_ x Bool.true)))
noncomputable def z97 (x:Nat):Option (Nat×Bool):=zgt x (fun c0_ c1_=>some (c0_,c1_))
theorem zyt {R R':Type} (o:Option R→Option R') (h0:o none=none) (x:Nat) (k_:Nat→Bool→Option R):zgt x (fun c0_ c1_=>o (k_ c0_ c1_))=o (zgt x k_):=by
 unfold zgt
 repeat (first | refine z02 h0 ?_ | refine z07 ?_ ?_ | rfl | exact h0.symm)
noncomputable def zkp (x:Nat):Bool:=(z97 x).isSome
noncomputable def zj3 (x:Nat):Nat:=((z97 x).getD default).1
noncomputable def zj1 (x:Nat):Bool:=((z97 x).getD default).2
theorem y4v {x:Nat} {r:Nat×Bool} (h:z97 x=some r):zkp x=true∧zj3 x=r.1∧zj1 x=r.2:=by
 unfold zkp zj3 zj1
 rw[h]
 exact⟨rfl,rfl,rfl⟩
noncomputable def zdk {R:Type} (x:Nat) (k_:Bool→Option R):Option R:=(grd (z10 x) (br (z0u x) (k_ (fcmp .gtr .f32 x 0)) (k_ Bool.false)))
noncomputable def z9u (x:Nat):Option (Bool):=zdk x (fun c0_=>some c0_)
theorem zwz {R R':Type} (o:Option R→Option R') (h0:o none=none) (x:Nat) (k_:Bool→Option R):zdk x (fun c0_=>o (k_ c0_))=o (zdk x k_):=by
 unfold zdk
 repeat (first | refine z02 h0 ?_ | refine z07 ?_ ?_ | rfl | exact h0.symm)
noncomputable def z7x (x:Nat):Bool:=(z9u x).isSome
noncomputable def z71 (x:Nat):Bool:=((z9u x).getD default)
theorem zhk {x:Nat} {r:Bool} (h:z9u x=some r):z7x x=true∧z71 x=r:=by
 unfold z7x z71
 rw[h]
 exact⟨rfl,rfl⟩
noncomputable def zfw {R:Type} (x:Nat) (k_:Bool→Option R):Option R:=(grd (z2i x) (br (z22 x) (k_ (fcmp .geq .f32 x 0)) (k_ Bool.false)))
noncomputable def zbl (x:Nat):Option (Bool):=zfw x (fun c0_=>some c0_)
theorem zzg {R R':Type} (o:Option R→Option R') (h0:o none=none) (x:Nat) (k_:Bool→Option R):zfw x (fun c0_=>o (k_ c0_))=o (zfw x k_):=by
 unfold zfw
 repeat (first | refine z02 h0 ?_ | refine z07 ?_ ?_ | rfl | exact h0.symm)
noncomputable def zgu (x:Nat):Bool:=(zbl x).isSome
noncomputable def zdo (x:Nat):Bool:=((zbl x).getD default)
theorem znc {x:Nat} {r:Bool} (h:zbl x=some r):zgu x=true∧zdo x=r:=by
 unfold zgu zdo
 rw[h]
 exact⟨rfl,rfl⟩
noncomputable def z7l {R:Type} (x:Nat) (k_:Bool→Option R):Option R:=(grd (z2i x) (br (bnot (z22 x)) (k_ Bool.true) (k_ (fcmp .leq .f32 x 0))))
noncomputable def z64 (x:Nat):Option (Bool):=z7l x (fun c0_=>some c0_)
theorem zs1 {R R':Type} (o:Option R→Option R') (h0:o none=none) (x:Nat) (k_:Bool→Option R):z7l x (fun c0_=>o (k_ c0_))=o (z7l x k_):=by
 unfold z7l
 repeat (first | refine z02 h0 ?_ | refine z07 ?_ ?_ | rfl | exact h0.symm)
noncomputable def zar (x:Nat):Bool:=(z64 x).isSome
noncomputable def z9v (x:Nat):Bool:=((z64 x).getD default)
theorem zv2 {x:Nat} {r:Bool} (h:z64 x=some r):zar x=true∧z9v x=r:=by
 unfold zar z9v
 rw[h]
 exact⟨rfl,rfl⟩
noncomputable def ze0 {R:Type} (x:Nat) (k_:Bool→Option R):Option R:=(grd (z10 x) (br (z0u x) (k_ (fcmp .geq .f32 x 0)) (k_ Bool.false)))
noncomputable def za5 (x:Nat):Option (Bool):=ze0 x (fun c0_=>some c0_)
theorem zx8 {R R':Type} (o:Option R→Option R') (h0:o none=none) (x:Nat) (k_:Bool→Option R):ze0 x (fun c0_=>o (k_ c0_))=o (ze0 x k_):=by
 unfold ze0
 repeat (first | refine z02 h0 ?_ | refine z07 ?_ ?_ | rfl | exact h0.symm)
noncomputable def z6e (x:Nat):Bool:=(za5 x).isSome
noncomputable def z5q (x:Nat):Bool:=((za5 x).getD default)
theorem zs3 {x:Nat} {r:Bool} (h:za5 x=some r):z6e x=true∧z5q x=r:=by
 unfold z6e z5q
 rw[h]
 exact⟨rfl,rfl⟩
noncomputable def ze7 {R:Type} (q00:Nat) (q04:List Nat) (q02:Nat) (q07:List Nat) (q01:Nat) (q08:List Nat) (q0a:Nat) (q0e:List Nat) (q0i:Int) (q0n q0m:Nat) (i:Int) (q0o:Nat) (k_:Bool→Option R):Option R:=(grd (okIx i q0a) (grd (z10 (fop .sub .f32 (fop .sub .f32 981668463 (gF q0e (Nat.succ (Nat.succ (ixO 0 i 3))))) q0o)) (br (z0u (fop .sub .f32 (fop .sub .f32 981668463 (gF q0e (Nat.succ (Nat.succ (ixO 0 i 3))))) q0o)) (grd (okIx i q0a) (grd (z10 (fop .sub .f32 (fop .sub .f32 1048508891 (gF q0e (Nat.succ (Nat.succ (ixO 0 i 3))))) q0o)) (k_ (z0u (fop .sub .f32 (fop .sub .f32 1048508891 (gF q0e (Nat.succ (Nat.succ (ixO 0 i 3))))) q0o))))) (k_ Bool.false))))
noncomputable def za3 (q00:Nat) (q04:List Nat) (q02:Nat) (q07:List Nat) (q01:Nat) (q08:List Nat) (q0a:Nat) (q0e:List Nat) (q0i:Int) (q0n q0m:Nat) (i:Int) (q0o:Nat):Option (Bool):=ze7 q00 q04 q02 q07 q01 q08 q0a q0e q0i q0n q0m i q0o (fun c0_=>some c0_)
theorem zxe {R R':Type} (o:Option R→Option R') (h0:o none=none) (q00:Nat) (q04:List Nat) (q02:Nat) (q07:List Nat) (q01:Nat) (q08:List Nat) (q0a:Nat) (q0e:List Nat) (q0i:Int) (q0n q0m:Nat) (i:Int) (q0o:Nat) (k_:Bool→Option R):ze7 q00 q04 q02 q07 q01 q08 q0a q0e q0i q0n q0m i q0o (fun c0_=>o (k_ c0_))=o (ze7 q00 q04 q02 q07 q01 q08 q0a q0e q0i q0n q0m i q0o k_):=by
 unfold ze7
 repeat (first | refine z02 h0 ?_ | refine z07 ?_ ?_ | rfl | exact h0.symm)
noncomputable def zj4 (q00:Nat) (q04:List Nat) (q02:Nat) (q07:List Nat) (q01:Nat) (q08:List Nat) (q0a:Nat) (q0e:List Nat) (q0i:Int) (q0n q0m:Nat) (i:Int) (q0o:Nat):Bool:=(za3 q00 q04 q02 q07 q01 q08 q0a q0e q0i q0n q0m i q0o).isSome
noncomputable def zhm (q00:Nat) (q04:List Nat) (q02:Nat) (q07:List Nat) (q01:Nat) (q08:List Nat) (q0a:Nat) (q0e:List Nat) (q0i:Int) (q0n q0m:Nat) (i:Int) (q0o:Nat):Bool:=((za3 q00 q04 q02 q07 q01 q08 q0a q0e q0i q0n q0m i q0o).getD default)
theorem y27 {q00:Nat} {q04:List Nat} {q02:Nat} {q07:List Nat} {q01:Nat} {q08:List Nat} {q0a:Nat} {q0e:List Nat} {q0i:Int} {q0n q0m:Nat} {i:Int} {q0o:Nat} {r:Bool} (h:za3 q00 q04 q02 q07 q01 q08 q0a q0e q0i q0n q0m i q0o=some r):zj4 q00 q04 q02 q07 q01 q08 q0a q0e q0i q0n q0m i q0o=true∧zhm q00 q04 q02 q07 q01 q08 q0a q0e q0i q0n q0m i q0o=r:=by
 unfold zj4 zhm
 rw[h]
 exact⟨rfl,rfl⟩
noncomputable def zi1 {R:Type} (x y:Nat) (k_:Nat→Nat→Bool→Option R):Option R:=(grd (z10 x) (br (bnot (z0u x)) (k_ 0 0 Bool.false) (grd (z10 y) (br (bnot (z0u y)) (k_ 0 0 Bool.false) (k_ x y Bool.true)))))
noncomputable def z8e (x y:Nat):Option (Nat×Nat×Bool):=zi1 x y (fun c0_ c1_ c2_=>some (c0_,c1_,c2_))
theorem zzw {R R':Type} (o:Option R→Option R') (h0:o none=none) (x y:Nat) (k_:Nat→Nat→Bool→Option R):zi1 x y (fun c0_ c1_ c2_=>o (k_ c0_ c1_ c2_))=o (zi1 x y k_):=by
 unfold zi1
 repeat (first | refine z02 h0 ?_ | refine z07 ?_ ?_ | rfl | exact h0.symm)
noncomputable def zi9 (x y:Nat):Bool:=(z8e x y).isSome
noncomputable def zbo (x y:Nat):Nat:=((z8e x y).getD default).1
noncomputable def zbm (x y:Nat):Nat:=((z8e x y).getD default).2.1
noncomputable def zbs (x y:Nat):Bool:=((z8e x y).getD default).2.2
theorem y5r {x y:Nat} {r:Nat×Nat×Bool} (h:z8e x y=some r):zi9 x y=true∧zbo x y=r.1∧zbm x y=r.2.1∧zbs x y=r.2.2:=by
 unfold zi9 zbo zbm zbs
 rw[h]
 exact⟨rfl,rfl,rfl,rfl⟩
noncomputable def z9p {R:Type} (x:Nat) (k_:Bool→Option R):Option R:=(grd (z2i x) (k_ (bnot (z22 x))))
noncomputable def z77 (x:Nat):Option (Bool):=z9p x (fun c0_=>some c0_)
theorem ztv {R R':Type} (o:Option R→Option R') (h0:o none=none) (x:Nat) (k_:Bool→Option R):z9p x (fun c0_=>o (k_ c0_))=o (z9p x k_):=by
 unfold z9p
 repeat (first | refine z02 h0 ?_ | refine z07 ?_ ?_ | rfl | exact h0.symm)
noncomputable def zdm (x:Nat):Bool:=(z77 x).isSome
noncomputable def zci (x:Nat):Bool:=((z77 x).getD default)
theorem zx5 {x:Nat} {r:Bool} (h:z77 x=some r):zdm x=true∧zci x=r:=by
 unfold zdm zci
 rw[h]
 exact⟨rfl,rfl⟩
noncomputable def z6n {R:Type} (q00:Nat) (q04:List Nat) (q02:Nat) (q07:List Nat) (q01:Nat) (q08:List Nat) (q0a:Nat) (q0e:List Nat) (q0i:Int) (q0n q0m:Nat) (i:Int) (k_:Bool→Option R):Option R:=(grd (z6r i 0 (subI .i64 (Int.ofNat q0a) 1)) (k_ (z3p i 0 (subI .i64 (Int.ofNat q0a) 1))))
noncomputable def z4t (q00:Nat) (q04:List Nat) (q02:Nat) (q07:List Nat) (q01:Nat) (q08:List Nat) (q0a:Nat) (q0e:List Nat) (q0i:Int) (q0n q0m:Nat) (i:Int):Option (Bool):=z6n q00 q04 q02 q07 q01 q08 q0a q0e q0i q0n q0m i (fun c0_=>some c0_)
theorem zqc {R R':Type} (o:Option R→Option R') (h0:o none=none) (q00:Nat) (q04:List Nat) (q02:Nat) (q07:List Nat) (q01:Nat) (q08:List Nat) (q0a:Nat) (q0e:List Nat) (q0i:Int) (q0n q0m:Nat) (i:Int) (k_:Bool→Option R):z6n q00 q04 q02 q07 q01 q08 q0a q0e q0i q0n q0m i (fun c0_=>o (k_ c0_))=o (z6n q00 q04 q02 q07 q01 q08 q0a q0e q0i q0n q0m i k_):=by
 unfold z6n
 repeat (first | refine z02 h0 ?_ | refine z07 ?_ ?_ | rfl | exact h0.symm)
noncomputable def z9f (q00:Nat) (q04:List Nat) (q02:Nat) (q07:List Nat) (q01:Nat) (q08:List Nat) (q0a:Nat) (q0e:List Nat) (q0i:Int) (q0n q0m:Nat) (i:Int):Bool:=(z4t q00 q04 q02 q07 q01 q08 q0a q0e q0i q0n q0m i).isSome
noncomputable def z8j (q00:Nat) (q04:List Nat) (q02:Nat) (q07:List Nat) (q01:Nat) (q08:List Nat) (q0a:Nat) (q0e:List Nat) (q0i:Int) (q0n q0m:Nat) (i:Int):Bool:=((z4t q00 q04 q02 q07 q01 q08 q0a q0e q0i q0n q0m i).getD default)
theorem zt5 {q00:Nat} {q04:List Nat} {q02:Nat} {q07:List Nat} {q01:Nat} {q08:List Nat} {q0a:Nat} {q0e:List Nat} {q0i:Int} {q0n q0m:Nat} {i:Int} {r:Bool} (h:z4t q00 q04 q02 q07 q01 q08 q0a q0e q0i q0n q0m i=some r):z9f q00 q04 q02 q07 q01 q08 q0a q0e q0i q0n q0m i=true∧z8j q00 q04 q02 q07 q01 q08 q0a q0e q0i q0n q0m i=r:=by
 unfold z9f z8j
 rw[h]
 exact⟨rfl,rfl⟩
noncomputable def zi3 {R:Type} (q16:Nat) (k_:Bool→Option R):Option R:=(grd (zeh q16 981668463 1048508891) (k_ (zbx q16 981668463 1048508891)))
noncomputable def zdb (q16:Nat):Option (Bool):=zi3 q16 (fun c0_=>some c0_)
theorem y04 {R R':Type} (o:Option R→Option R') (h0:o none=none) (q16:Nat) (k_:Bool→Option R):zi3 q16 (fun c0_=>o (k_ c0_))=o (zi3 q16 k_):=by
 unfold zi3
 repeat (first | refine z02 h0 ?_ | refine z07 ?_ ?_ | rfl | exact h0.symm)
noncomputable def zlv (q16:Nat):Bool:=(zdb q16).isSome
noncomputable def zkz (q16:Nat):Bool:=((zdb q16).getD default)
theorem y5z {q16:Nat} {r:Bool} (h:zdb q16=some r):zlv q16=true∧zkz q16=r:=by
 unfold zlv zkz
 rw[h]
 exact⟨rfl,rfl⟩
noncomputable def zhy {R:Type} (x:Nat) (k_:Bool→Option R):Option R:=(grd (zrl x) (k_ (fcmp .geq .f64 (zph x) 4841369599423283200)))
noncomputable def zd6 (x:Nat):Option (Bool):=zhy x (fun c0_=>some c0_)
theorem y03 {R R':Type} (o:Option R→Option R') (h0:o none=none) (x:Nat) (k_:Bool→Option R):zhy x (fun c0_=>o (k_ c0_))=o (zhy x k_):=by
 unfold zhy
 repeat (first | refine z02 h0 ?_ | refine z07 ?_ ?_ | rfl | exact h0.symm)
noncomputable def zlx (x:Nat):Bool:=(zd6 x).isSome
noncomputable def zkv (x:Nat):Bool:=((zd6 x).getD default)
theorem y5o {x:Nat} {r:Bool} (h:zd6 x=some r):zlx x=true∧zkv x=r:=by
 unfold zlx zkv
 rw[h]
 exact⟨rfl,rfl⟩
noncomputable def z16 {R:Type} (sn:Nat) (v:Bool) (t7:Int) (b0:List Bool) (t8:Int) (kn_:Int→Option R) (k0_:Int→Option R) (k1_:Int→Bool→Option R):Option R:=(br (ltI t8 t7) (grd (okIx t8 sn) (br (beqB v (gB b0 (ixO 0 t8 1))) (k0_ t8) (kn_ (addI .i64 t8 1)))) (k1_ t8 (ltI t8 t7)))
theorem zm1 {R R':Type} (o:Option R→Option R') (h0:o none=none) (sn:Nat) (v:Bool) (t7:Int) (b0:List Bool) (t8:Int) (kn_:Int→Option R) (k0_:Int→Option R) (k1_:Int→Bool→Option R):z16 sn v t7 b0 t8 (fun t8'=>o (kn_ t8')) (fun c0_=>o (k0_ c0_)) (fun c0_ c1_=>o (k1_ c0_ c1_))=o (z16 sn v t7 b0 t8 kn_ k0_ k1_):=by
 unfold z16
 repeat (first | refine z02 h0 ?_ | refine z07 ?_ ?_ | rfl | exact h0.symm)
noncomputable def z0b (sn:Nat) (v:Bool) (t7:Int) (b0:List Bool):Nat→Int→Option ((Int)⊕(Int×Bool))
 | 0,_=>none
 | n+1,t8=>z16 sn v t7 b0  t8  (fun t8'=>z0b sn v t7 b0 n t8') (fun c0_=>some (Sum.inl c0_)) (fun c0_ c1_=>some (Sum.inr (c0_,c1_)))
theorem zbg (sn:Nat) (v:Bool) (t7:Int) (b0:List Bool) (n:Nat) (t8:Int):z0b sn v t7 b0 (n+1) t8=z16 sn v t7 b0  t8  (fun t8'=>z0b sn v t7 b0 n t8') (fun c0_=>some (Sum.inl c0_)) (fun c0_ c1_=>some (Sum.inr (c0_,c1_))):=rfl
noncomputable def z36 (sn:Nat) (v:Bool) (t7:Int) (b0:List Bool) (t8:Int):Bool:=(z0b sn v t7 b0 big t8).isSome
noncomputable def z2u (sn:Nat) (v:Bool) (t7:Int) (b0:List Bool) (t8:Int):Bool:=oL (z0b sn v t7 b0 big t8)
noncomputable def z4s (sn:Nat) (v:Bool) (t7:Int) (b0:List Bool) (t8:Int):Int:=((tL (z0b sn v t7 b0 big t8)).getD default)
noncomputable def z7j (sn:Nat) (v:Bool) (t7:Int) (b0:List Bool) (t8:Int):Int:=((tR (z0b sn v t7 b0 big t8)).getD default).1
noncomputable def z7i (sn:Nat) (v:Bool) (t7:Int) (b0:List Bool) (t8:Int):Bool:=((tR (z0b sn v t7 b0 big t8)).getD default).2
theorem znm {sn:Nat} {v:Bool} {t7:Int} {b0:List Bool} {t8:Int} {m:Nat} {r:Int} (hm:m=big) (h:z0b sn v t7 b0 m t8=some (Sum.inl r)):z36 sn v t7 b0 t8=true∧z2u sn v t7 b0 t8=true∧z4s sn v t7 b0 t8=r:=by
 subst hm
 unfold z36 z2u z4s
 rw[h]
 exact⟨rfl,rfl,rfl⟩
theorem zn5 {sn:Nat} {v:Bool} {t7:Int} {b0:List Bool} {t8:Int} {m:Nat} {r:Int×Bool} (hm:m=big) (h:z0b sn v t7 b0 m t8=some (Sum.inr r)):z36 sn v t7 b0 t8=true∧z2u sn v t7 b0 t8=false∧z7j sn v t7 b0 t8=r.1∧z7i sn v t7 b0 t8=r.2:=by
 subst hm
 unfold z36 z2u z7j z7i
 rw[h]
 exact⟨rfl,rfl,rfl,rfl⟩
noncomputable def z5c {R:Type} (s_n:Nat) (s:List Bool) (v:Bool) (k_:Int→Option R):Option R:=(grd (z36 s_n v (Int.ofNat s_n) s 0) (br (z2u s_n v (Int.ofNat s_n) s 0) (k_ (z4s s_n v (Int.ofNat s_n) s 0)) (k_ (Int.negSucc 0))))
noncomputable def z43 (s_n:Nat) (s:List Bool) (v:Bool):Option (Int):=z5c s_n s v (fun c0_=>some c0_)
theorem zo8 {R R':Type} (o:Option R→Option R') (h0:o none=none) (s_n:Nat) (s:List Bool) (v:Bool) (k_:Int→Option R):z5c s_n s v (fun c0_=>o (k_ c0_))=o (z5c s_n s v k_):=by
 unfold z5c
 repeat (first | refine z02 h0 ?_ | refine z07 ?_ ?_ | rfl | exact h0.symm)
noncomputable def z7h (s_n:Nat) (s:List Bool) (v:Bool):Bool:=(z43 s_n s v).isSome
noncomputable def z6s (s_n:Nat) (s:List Bool) (v:Bool):Int:=((z43 s_n s v).getD default)
theorem zq4 {s_n:Nat} {s:List Bool} {v:Bool} {r:Int} (h:z43 s_n s v=some r):z7h s_n s v=true∧z6s s_n s v=r:=by
 unfold z7h z6s
 rw[h]
 exact⟨rfl,rfl⟩
noncomputable def zak {R:Type} (x:Nat) (k_:Bool→Option R):Option R:=(grd (zgu x) (k_ (bnot (zdo x))))
noncomputable def z88 (x:Nat):Option (Bool):=zak x (fun c0_=>some c0_)
theorem zvb {R R':Type} (o:Option R→Option R') (h0:o none=none) (x:Nat) (k_:Bool→Option R):zak x (fun c0_=>o (k_ c0_))=o (zak x k_):=by
 unfold zak
 repeat (first | refine z02 h0 ?_ | refine z07 ?_ ?_ | rfl | exact h0.symm)
noncomputable def zfq (x:Nat):Bool:=(z88 x).isSome
noncomputable def zdw (x:Nat):Bool:=((z88 x).getD default)
theorem zyy {x:Nat} {r:Bool} (h:z88 x=some r):zfq x=true∧zdw x=r:=by
 unfold zfq zdw
 rw[h]
 exact⟨rfl,rfl⟩
noncomputable def zjs {R:Type} (x:Nat) (k_:Nat→Option R):Option R:=(grd (bnot (nanQ .f64 x)) (k_ (fint Ieee.Toward.zero x)))
noncomputable def zgw (x:Nat):Option (Nat):=zjs x (fun c0_=>some c0_)
theorem y1i {R R':Type} (o:Option R→Option R') (h0:o none=none) (x:Nat) (k_:Nat→Option R):zjs x (fun c0_=>o (k_ c0_))=o (zjs x k_):=by
 unfold zjs
 repeat (first | refine z02 h0 ?_ | refine z07 ?_ ?_ | rfl | exact h0.symm)
noncomputable def znw (x:Nat):Bool:=(zgw x).isSome
noncomputable def zac (x:Nat):Nat:=((zgw x).getD default)
theorem y7n {x r:Nat} (h:zgw x=some r):znw x=true∧zac x=r:=by
 unfold znw zac
 rw[h]
 exact⟨rfl,rfl⟩
noncomputable def z3i {R:Type} (an bn:Nat) (b0 b1:List Nat) (i:Int) (kn_:Int→Option R) (k0_:Unit→Option R) (k1_:Int→Bool→Option R):Option R:=(br (ltI i (Int.ofNat an)) (grd (okIx i an) (grd (okIx i bn) (grd (zlp (gF b0 (ixO 0 i 1)) (gF b1 (ixO 0 i 1))) (br (bnot (zkc (gF b0 (ixO 0 i 1)) (gF b1 (ixO 0 i 1)))) (k0_ ()) (kn_ (addI .i64 i 1)))))) (k1_ i (ltI i (Int.ofNat an))))
theorem zsz {R R':Type} (o:Option R→Option R') (h0:o none=none) (an bn:Nat) (b0 b1:List Nat) (i:Int) (kn_:Int→Option R) (k0_:Unit→Option R) (k1_:Int→Bool→Option R):z3i an bn b0 b1 i (fun i'=>o (kn_ i')) (fun _=>o (k0_ ())) (fun c0_ c1_=>o (k1_ c0_ c1_))=o (z3i an bn b0 b1 i kn_ k0_ k1_):=by
 unfold z3i
 repeat (first | refine z02 h0 ?_ | refine z07 ?_ ?_ | rfl | exact h0.symm)
noncomputable def z1v (an bn:Nat) (b0 b1:List Nat):Nat→Int→Option ((Unit)⊕(Int×Bool))
 | 0,_=>none
 | n+1,i=>z3i an bn b0 b1  i  (fun i'=>z1v an bn b0 b1 n i') (fun _=>some (Sum.inl ())) (fun c0_ c1_=>some (Sum.inr (c0_,c1_)))
theorem zk1 (an bn:Nat) (b0 b1:List Nat) (n:Nat) (i:Int):z1v an bn b0 b1 (n+1) i=z3i an bn b0 b1  i  (fun i'=>z1v an bn b0 b1 n i') (fun _=>some (Sum.inl ())) (fun c0_ c1_=>some (Sum.inr (c0_,c1_))):=rfl
noncomputable def zcq (an bn:Nat) (b0 b1:List Nat) (i:Int):Bool:=(z1v an bn b0 b1 big i).isSome
noncomputable def zav (an bn:Nat) (b0 b1:List Nat) (i:Int):Bool:=oL (z1v an bn b0 b1 big i)
noncomputable def zey (an bn:Nat) (b0 b1:List Nat) (i:Int):Int:=((tR (z1v an bn b0 b1 big i)).getD default).1
noncomputable def zf6 (an bn:Nat) (b0 b1:List Nat) (i:Int):Bool:=((tR (z1v an bn b0 b1 big i)).getD default).2
theorem zv4 {an bn:Nat} {b0 b1:List Nat} {i:Int} {m:Nat} {r:Int×Bool} (hm:m=big) (h:z1v an bn b0 b1 m i=some (Sum.inr r)):zcq an bn b0 b1 i=true∧zav an bn b0 b1 i=false∧zey an bn b0 b1 i=r.1∧zf6 an bn b0 b1 i=r.2:=by
 subst hm
 unfold zcq zav zey zf6
 rw[h]
 exact⟨rfl,rfl,rfl,rfl⟩
noncomputable def z27 {R:Type} (t6 t7:Nat) (t8:Int) (kn_:Nat→Int→Option R) (k0_:Nat→Int→Bool→Option R):Option R:=(br (leI 1 t8) (kn_ (fop .sub .f64 4607182418800017408 (fop .quo .f64 (fop .mul .f64 t6 t7) (fOI .f64 (mulI .i64 (mulI .i64 2 t8) (addI .i64 (mulI .i64 2 t8) 1))))) (subI .i64 t8 1)) (k0_ t7 t8 (leI 1 t8)))
theorem zq1 {R R':Type} (o:Option R→Option R') (h0:o none=none) (t6 t7:Nat) (t8:Int) (kn_:Nat→Int→Option R) (k0_:Nat→Int→Bool→Option R):z27 t6 t7 t8 (fun t7' t8'=>o (kn_ t7' t8')) (fun c0_ c1_ c2_=>o (k0_ c0_ c1_ c2_))=o (z27 t6 t7 t8 kn_ k0_):=by
 unfold z27
 repeat (first | refine z02 h0 ?_ | refine z07 ?_ ?_ | rfl | exact h0.symm)
noncomputable def z0q (t6:Nat):Nat→Nat→Int→Option ((Nat×Int×Bool))
 | 0,_,_=>none
 | n+1,t7,t8=>z27 t6  t7 t8  (fun t7' t8'=>z0q t6 n t7' t8') (fun c0_ c1_ c2_=>some (c0_,c1_,c2_))
theorem zh5 (t6 n t7:Nat) (t8:Int):z0q t6 (n+1) t7 t8=z27 t6  t7 t8  (fun t7' t8'=>z0q t6 n t7' t8') (fun c0_ c1_ c2_=>some (c0_,c1_,c2_)):=rfl
noncomputable def z15 (t6 t7:Nat) (t8:Int):Bool:=(z0q t6 big t7 t8).isSome
noncomputable def z0a (t6 t7:Nat) (t8:Int):Nat:=((z0q t6 big t7 t8).getD default).1
noncomputable def zb6 (t6 t7:Nat) (t8:Int):Int:=((z0q t6 big t7 t8).getD default).2.1
noncomputable def zay (t6 t7:Nat) (t8:Int):Bool:=((z0q t6 big t7 t8).getD default).2.2
theorem zso {t6 t7:Nat} {t8:Int} {m:Nat} {r:Nat×Int×Bool} (hm:m=big) (h:z0q t6 m t7 t8=some r):z15 t6 t7 t8=true∧z0a t6 t7 t8=r.1∧zb6 t6 t7 t8=r.2.1∧zay t6 t7 t8=r.2.2:=by
 subst hm
 unfold z15 z0a zb6 zay
 rw[h]
 exact⟨rfl,rfl,rfl,rfl⟩
noncomputable def zc5 {R:Type} (a_n:Nat) (a:List Nat) (b_n:Nat) (b:List Nat) (k_:Bool→Option R):Option R:=(br (neI (Int.ofNat a_n) (Int.ofNat b_n)) (k_ Bool.false) (grd (zcq a_n b_n a b 0) (br (zav a_n b_n a b 0) (k_ Bool.false) (k_ Bool.true))))
noncomputable def z8v (a_n:Nat) (a:List Nat) (b_n:Nat) (b:List Nat):Option (Bool):=zc5 a_n a b_n b (fun c0_=>some c0_)
theorem zwf {R R':Type} (o:Option R→Option R') (h0:o none=none) (a_n:Nat) (a:List Nat) (b_n:Nat) (b:List Nat) (k_:Bool→Option R):zc5 a_n a b_n b (fun c0_=>o (k_ c0_))=o (zc5 a_n a b_n b k_):=by
 unfold zc5
 repeat (first | refine z02 h0 ?_ | refine z07 ?_ ?_ | rfl | exact h0.symm)
noncomputable def z3f (a_n:Nat) (a:List Nat) (b_n:Nat) (b:List Nat):Bool:=(z8v a_n a b_n b).isSome
noncomputable def z2r (a_n:Nat) (a:List Nat) (b_n:Nat) (b:List Nat):Bool:=((z8v a_n a b_n b).getD default)
theorem zr2 {a_n:Nat} {a:List Nat} {b_n:Nat} {b:List Nat} {r:Bool} (h:z8v a_n a b_n b=some r):z3f a_n a b_n b=true∧z2r a_n a b_n b=r:=by
 unfold z3f z2r
 rw[h]
 exact⟨rfl,rfl⟩
noncomputable def z4c {R:Type} (s_n:Nat) (s:List Bool) (v:Bool) (k_:Bool→Option R):Option R:=(grd (z7h s_n (pB s 0 (muN s_n 1)) v) (k_ (leI 0 (z6s s_n (pB s 0 (muN s_n 1)) v))))
noncomputable def z37 (s_n:Nat) (s:List Bool) (v:Bool):Option (Bool):=z4c s_n s v (fun c0_=>some c0_)
theorem zm6 {R R':Type} (o:Option R→Option R') (h0:o none=none) (s_n:Nat) (s:List Bool) (v:Bool) (k_:Bool→Option R):z4c s_n s v (fun c0_=>o (k_ c0_))=o (z4c s_n s v k_):=by
 unfold z4c
 repeat (first | refine z02 h0 ?_ | refine z07 ?_ ?_ | rfl | exact h0.symm)
noncomputable def z34 (s_n:Nat) (s:List Bool) (v:Bool):Bool:=(z37 s_n s v).isSome
noncomputable def z2t (s_n:Nat) (s:List Bool) (v:Bool):Bool:=((z37 s_n s v).getD default)
theorem zo7 {s_n:Nat} {s:List Bool} {v r:Bool} (h:z37 s_n s v=some r):z34 s_n s v=true∧z2t s_n s v=r:=by
 unfold z34 z2t
 rw[h]
 exact⟨rfl,rfl⟩
noncomputable def z5s {R:Type} (q17:Nat) (k_:Nat→Option R):Option R:=(br (fcmp .neq .f64 (fop .sub .f64 q17 q17) 0) (grd zn3 (k_ zic)) (br (fcmp .geq .f64 q17 4841369599423283200) (k_ 0) (br (fcmp .leq .f64 q17 14064741636278059008) (k_ 0) (grd (f2iB .f64 q17 .i64) (br (fcmp .lss .f64 (fop .sub .f64 q17 (fOI .f64 (f2iV .f64 q17 .i64))) 0) (br (fcmp .geq .f64 (fop .add .f64 (fop .sub .f64 q17 (fOI .f64 (f2iV .f64 q17 .i64))) 4607182418800017408) 4602678819172646912) (br (fcmp .gtr .f64 (fop .sub .f64 (fop .add .f64 (fop .sub .f64 q17 (fOI .f64 (f2iV .f64 q17 .i64))) 4607182418800017408) 4602678819172646912) 4598175219545276416) (grd (z15 (fop .mul .f64 (fop .mul .f64 (fop .sub .f64 4602678819172646912 (fop .sub .f64 (fop .add .f64 (fop .sub .f64 q17 (fOI .f64 (f2iV .f64 q17 .i64))) 4607182418800017408) 4602678819172646912)) 4618760256179416344) (fop .mul .f64 (fop .sub .f64 4602678819172646912 (fop .sub .f64 (fop .add .f64 (fop .sub .f64 q17 (fOI .f64 (f2iV .f64 q17 .i64))) 4607182418800017408) 4602678819172646912)) 4618760256179416344)) 4607182418800017408 8) (br (fcmp .geq .f64 (fop .add .f64 (fop .sub .f64 q17 (fOI .f64 (f2iV .f64 q17 .i64))) 4607182418800017408) 4602678819172646912) (k_ (fneg .f64 (fop .mul .f64 (fop .mul .f64 (fop .sub .f64 4602678819172646912 (fop .sub .f64 (fop .add .f64 (fop .sub .f64 q17 (fOI .f64 (f2iV .f64 q17 .i64))) 4607182418800017408) 4602678819172646912)) 4618760256179416344) (z0a (fop .mul .f64 (fop .mul .f64 (fop .sub .f64 4602678819172646912 (fop .sub .f64 (fop .add .f64 (fop .sub .f64 q17 (fOI .f64 (f2iV .f64 q17 .i64))) 4607182418800017408) 4602678819172646912)) 4618760256179416344) (fop .mul .f64 (fop .sub .f64 4602678819172646912 (fop .sub .f64 (fop .add .f64 (fop .sub .f64 q17 (fOI .f64 (f2iV .f64 q17 .i64))) 4607182418800017408) 4602678819172646912)) 4618760256179416344)) 4607182418800017408 8)))) (k_ (fop .mul .f64 (fop .mul .f64 (fop .sub .f64 4602678819172646912 (fop .sub .f64 (fop .add .f64 (fop .sub .f64 q17 (fOI .f64 (f2iV .f64 q17 .i64))) 4607182418800017408) 4602678819172646912)) 4618760256179416344) (z0a (fop .mul .f64 (fop .mul .f64 (fop .sub .f64 4602678819172646912 (fop .sub .f64 (fop .add .f64 (fop .sub .f64 q17 (fOI .f64 (f2iV .f64 q17 .i64))) 4607182418800017408) 4602678819172646912)) 4618760256179416344) (fop .mul .f64 (fop .sub .f64 4602678819172646912 (fop .sub .f64 (fop .add .f64 (fop .sub .f64 q17 (fOI .f64 (f2iV .f64 q17 .i64))) 4607182418800017408) 4602678819172646912)) 4618760256179416344)) 4607182418800017408 8))))) (grd (z15 (fop .mul .f64 (fop .mul .f64 (fop .sub .f64 (fop .add .f64 (fop .sub .f64 q17 (fOI .f64 (f2iV .f64 q17 .i64))) 4607182418800017408) 4602678819172646912) 4618760256179416344) (fop .mul .f64 (fop .sub .f64 (fop .add .f64 (fop .sub .f64 q17 (fOI .f64 (f2iV .f64 q17 .i64))) 4607182418800017408) 4602678819172646912) 4618760256179416344)) 4607182418800017408 8) (br (fcmp .geq .f64 (fop .add .f64 (fop .sub .f64 q17 (fOI .f64 (f2iV .f64 q17 .i64))) 4607182418800017408) 4602678819172646912) (k_ (fneg .f64 (fop .mul .f64 (fop .mul .f64 (fop .sub .f64 (fop .add .f64 (fop .sub .f64 q17 (fOI .f64 (f2iV .f64 q17 .i64))) 4607182418800017408) 4602678819172646912) 4618760256179416344) (z0a (fop .mul .f64 (fop .mul .f64 (fop .sub .f64 (fop .add .f64 (fop .sub .f64 q17 (fOI .f64 (f2iV .f64 q17 .i64))) 4607182418800017408) 4602678819172646912) 4618760256179416344) (fop .mul .f64 (fop .sub .f64 (fop .add .f64 (fop .sub .f64 q17 (fOI .f64 (f2iV .f64 q17 .i64))) 4607182418800017408) 4602678819172646912) 4618760256179416344)) 4607182418800017408 8)))) (k_ (fop .mul .f64 (fop .mul .f64 (fop .sub .f64 (fop .add .f64 (fop .sub .f64 q17 (fOI .f64 (f2iV .f64 q17 .i64))) 4607182418800017408) 4602678819172646912) 4618760256179416344) (z0a (fop .mul .f64 (fop .mul .f64 (fop .sub .f64 (fop .add .f64 (fop .sub .f64 q17 (fOI .f64 (f2iV .f64 q17 .i64))) 4607182418800017408) 4602678819172646912) 4618760256179416344) (fop .mul .f64 (fop .sub .f64 (fop .add .f64 (fop .sub .f64 q17 (fOI .f64 (f2iV .f64 q17 .i64))) 4607182418800017408) 4602678819172646912) 4618760256179416344)) 4607182418800017408 8)))))) (br (fcmp .gtr .f64 (fop .add .f64 (fop .sub .f64 q17 (fOI .f64 (f2iV .f64 q17 .i64))) 4607182418800017408) 4598175219545276416) (grd (z15 (fop .mul .f64 (fop .mul .f64 (fop .sub .f64 4602678819172646912 (fop .add .f64 (fop .sub .f64 q17 (fOI .f64 (f2iV .f64 q17 .i64))) 4607182418800017408)) 4618760256179416344) (fop .mul .f64 (fop .sub .f64 4602678819172646912 (fop .add .f64 (fop .sub .f64 q17 (fOI .f64 (f2iV .f64 q17 .i64))) 4607182418800017408)) 4618760256179416344)) 4607182418800017408 8) (br (fcmp .geq .f64 (fop .add .f64 (fop .sub .f64 q17 (fOI .f64 (f2iV .f64 q17 .i64))) 4607182418800017408) 4602678819172646912) (k_ (fneg .f64 (fop .mul .f64 (fop .mul .f64 (fop .sub .f64 4602678819172646912 (fop .add .f64 (fop .sub .f64 q17 (fOI .f64 (f2iV .f64 q17 .i64))) 4607182418800017408)) 4618760256179416344) (z0a (fop .mul .f64 (fop .mul .f64 (fop .sub .f64 4602678819172646912 (fop .add .f64 (fop .sub .f64 q17 (fOI .f64 (f2iV .f64 q17 .i64))) 4607182418800017408)) 4618760256179416344) (fop .mul .f64 (fop .sub .f64 4602678819172646912 (fop .add .f64 (fop .sub .f64 q17 (fOI .f64 (f2iV .f64 q17 .i64))) 4607182418800017408)) 4618760256179416344)) 4607182418800017408 8)))) (k_ (fop .mul .f64 (fop .mul .f64 (fop .sub .f64 4602678819172646912 (fop .add .f64 (fop .sub .f64 q17 (fOI .f64 (f2iV .f64 q17 .i64))) 4607182418800017408)) 4618760256179416344) (z0a (fop .mul .f64 (fop .mul .f64 (fop .sub .f64 4602678819172646912 (fop .add .f64 (fop .sub .f64 q17 (fOI .f64 (f2iV .f64 q17 .i64))) 4607182418800017408)) 4618760256179416344) (fop .mul .f64 (fop .sub .f64 4602678819172646912 (fop .add .f64 (fop .sub .f64 q17 (fOI .f64 (f2iV .f64 q17 .i64))) 4607182418800017408)) 4618760256179416344)) 4607182418800017408 8))))) (grd (z15 (fop .mul .f64 (fop .mul .f64 (fop .add .f64 (fop .sub .f64 q17 (fOI .f64 (f2iV .f64 q17 .i64))) 4607182418800017408) 4618760256179416344) (fop .mul .f64 (fop .add .f64 (fop .sub .f64 q17 (fOI .f64 (f2iV .f64 q17 .i64))) 4607182418800017408) 4618760256179416344)) 4607182418800017408 8) (br (fcmp .geq .f64 (fop .add .f64 (fop .sub .f64 q17 (fOI .f64 (f2iV .f64 q17 .i64))) 4607182418800017408) 4602678819172646912) (k_ (fneg .f64 (fop .mul .f64 (fop .mul .f64 (fop .add .f64 (fop .sub .f64 q17 (fOI .f64 (f2iV .f64 q17 .i64))) 4607182418800017408) 4618760256179416344) (z0a (fop .mul .f64 (fop .mul .f64 (fop .add .f64 (fop .sub .f64 q17 (fOI .f64 (f2iV .f64 q17 .i64))) 4607182418800017408) 4618760256179416344) (fop .mul .f64 (fop .add .f64 (fop .sub .f64 q17 (fOI .f64 (f2iV .f64 q17 .i64))) 4607182418800017408) 4618760256179416344)) 4607182418800017408 8)))) (k_ (fop .mul .f64 (fop .mul .f64 (fop .add .f64 (fop .sub .f64 q17 (fOI .f64 (f2iV .f64 q17 .i64))) 4607182418800017408) 4618760256179416344) (z0a (fop .mul .f64 (fop .mul .f64 (fop .add .f64 (fop .sub .f64 q17 (fOI .f64 (f2iV .f64 q17 .i64))) 4607182418800017408) 4618760256179416344) (fop .mul .f64 (fop .add .f64 (fop .sub .f64 q17 (fOI .f64 (f2iV .f64 q17 .i64))) 4607182418800017408) 4618760256179416344)) 4607182418800017408 8))))))) (br (fcmp .geq .f64 (fop .sub .f64 q17 (fOI .f64 (f2iV .f64 q17 .i64))) 4602678819172646912) (br (fcmp .gtr .f64 (fop .sub .f64 (fop .sub .f64 q17 (fOI .f64 (f2iV .f64 q17 .i64))) 4602678819172646912) 4598175219545276416) (grd (z15 (fop .mul .f64 (fop .mul .f64 (fop .sub .f64 4602678819172646912 (fop .sub .f64 (fop .sub .f64 q17 (fOI .f64 (f2iV .f64 q17 .i64))) 4602678819172646912)) 4618760256179416344) (fop .mul .f64 (fop .sub .f64 4602678819172646912 (fop .sub .f64 (fop .sub .f64 q17 (fOI .f64 (f2iV .f64 q17 .i64))) 4602678819172646912)) 4618760256179416344)) 4607182418800017408 8) (br (fcmp .geq .f64 (fop .sub .f64 q17 (fOI .f64 (f2iV .f64 q17 .i64))) 4602678819172646912) (k_ (fneg .f64 (fop .mul .f64 (fop .mul .f64 (fop .sub .f64 4602678819172646912 (fop .sub .f64 (fop .sub .f64 q17 (fOI .f64 (f2iV .f64 q17 .i64))) 4602678819172646912)) 4618760256179416344) (z0a (fop .mul .f64 (fop .mul .f64 (fop .sub .f64 4602678819172646912 (fop .sub .f64 (fop .sub .f64 q17 (fOI .f64 (f2iV .f64 q17 .i64))) 4602678819172646912)) 4618760256179416344) (fop .mul .f64 (fop .sub .f64 4602678819172646912 (fop .sub .f64 (fop .sub .f64 q17 (fOI .f64 (f2iV .f64 q17 .i64))) 4602678819172646912)) 4618760256179416344)) 4607182418800017408 8)))) (k_ (fop .mul .f64 (fop .mul .f64 (fop .sub .f64 4602678819172646912 (fop .sub .f64 (fop .sub .f64 q17 (fOI .f64 (f2iV .f64 q17 .i64))) 4602678819172646912)) 4618760256179416344) (z0a (fop .mul .f64 (fop .mul .f64 (fop .sub .f64 4602678819172646912 (fop .sub .f64 (fop .sub .f64 q17 (fOI .f64 (f2iV .f64 q17 .i64))) 4602678819172646912)) 4618760256179416344) (fop .mul .f64 (fop .sub .f64 4602678819172646912 (fop .sub .f64 (fop .sub .f64 q17 (fOI .f64 (f2iV .f64 q17 .i64))) 4602678819172646912)) 4618760256179416344)) 4607182418800017408 8))))) (grd (z15 (fop .mul .f64 (fop .mul .f64 (fop .sub .f64 (fop .sub .f64 q17 (fOI .f64 (f2iV .f64 q17 .i64))) 4602678819172646912) 4618760256179416344) (fop .mul .f64 (fop .sub .f64 (fop .sub .f64 q17 (fOI .f64 (f2iV .f64 q17 .i64))) 4602678819172646912) 4618760256179416344)) 4607182418800017408 8) (br (fcmp .geq .f64 (fop .sub .f64 q17 (fOI .f64 (f2iV .f64 q17 .i64))) 4602678819172646912) (k_ (fneg .f64 (fop .mul .f64 (fop .mul .f64 (fop .sub .f64 (fop .sub .f64 q17 (fOI .f64 (f2iV .f64 q17 .i64))) 4602678819172646912) 4618760256179416344) (z0a (fop .mul .f64 (fop .mul .f64 (fop .sub .f64 (fop .sub .f64 q17 (fOI .f64 (f2iV .f64 q17 .i64))) 4602678819172646912) 4618760256179416344) (fop .mul .f64 (fop .sub .f64 (fop .sub .f64 q17 (fOI .f64 (f2iV .f64 q17 .i64))) 4602678819172646912) 4618760256179416344)) 4607182418800017408 8)))) (k_ (fop .mul .f64 (fop .mul .f64 (fop .sub .f64 (fop .sub .f64 q17 (fOI .f64 (f2iV .f64 q17 .i64))) 4602678819172646912) 4618760256179416344) (z0a (fop .mul .f64 (fop .mul .f64 (fop .sub .f64 (fop .sub .f64 q17 (fOI .f64 (f2iV .f64 q17 .i64))) 4602678819172646912) 4618760256179416344) (fop .mul .f64 (fop .sub .f64 (fop .sub .f64 q17 (fOI .f64 (f2iV .f64 q17 .i64))) 4602678819172646912) 4618760256179416344)) 4607182418800017408 8)))))) (br (fcmp .gtr .f64 (fop .sub .f64 q17 (fOI .f64 (f2iV .f64 q17 .i64))) 4598175219545276416) (grd (z15 (fop .mul .f64 (fop .mul .f64 (fop .sub .f64 4602678819172646912 (fop .sub .f64 q17 (fOI .f64 (f2iV .f64 q17 .i64)))) 4618760256179416344) (fop .mul .f64 (fop .sub .f64 4602678819172646912 (fop .sub .f64 q17 (fOI .f64 (f2iV .f64 q17 .i64)))) 4618760256179416344)) 4607182418800017408 8) (br (fcmp .geq .f64 (fop .sub .f64 q17 (fOI .f64 (f2iV .f64 q17 .i64))) 4602678819172646912) (k_ (fneg .f64 (fop .mul .f64 (fop .mul .f64 (fop .sub .f64 4602678819172646912 (fop .sub .f64 q17 (fOI .f64 (f2iV .f64 q17 .i64)))) 4618760256179416344) (z0a (fop .mul .f64 (fop .mul .f64 (fop .sub .f64 4602678819172646912 (fop .sub .f64 q17 (fOI .f64 (f2iV .f64 q17 .i64)))) 4618760256179416344) (fop .mul .f64 (fop .sub .f64 4602678819172646912 (fop .sub .f64 q17 (fOI .f64 (f2iV .f64 q17 .i64)))) 4618760256179416344)) 4607182418800017408 8)))) (k_ (fop .mul .f64 (fop .mul .f64 (fop .sub .f64 4602678819172646912 (fop .sub .f64 q17 (fOI .f64 (f2iV .f64 q17 .i64)))) 4618760256179416344) (z0a (fop .mul .f64 (fop .mul .f64 (fop .sub .f64 4602678819172646912 (fop .sub .f64 q17 (fOI .f64 (f2iV .f64 q17 .i64)))) 4618760256179416344) (fop .mul .f64 (fop .sub .f64 4602678819172646912 (fop .sub .f64 q17 (fOI .f64 (f2iV .f64 q17 .i64)))) 4618760256179416344)) 4607182418800017408 8))))) (grd (z15 (fop .mul .f64 (fop .mul .f64 (fop .sub .f64 q17 (fOI .f64 (f2iV .f64 q17 .i64))) 4618760256179416344) (fop .mul .f64 (fop .sub .f64 q17 (fOI .f64 (f2iV .f64 q17 .i64))) 4618760256179416344)) 4607182418800017408 8) (br (fcmp .geq .f64 (fop .sub .f64 q17 (fOI .f64 (f2iV .f64 q17 .i64))) 4602678819172646912) (k_ (fneg .f64 (fop .mul .f64 (fop .mul .f64 (fop .sub .f64 q17 (fOI .f64 (f2iV .f64 q17 .i64))) 4618760256179416344) (z0a (fop .mul .f64 (fop .mul .f64 (fop .sub .f64 q17 (fOI .f64 (f2iV .f64 q17 .i64))) 4618760256179416344) (fop .mul .f64 (fop .sub .f64 q17 (fOI .f64 (f2iV .f64 q17 .i64))) 4618760256179416344)) 4607182418800017408 8)))) (k_ (fop .mul .f64 (fop .mul .f64 (fop .sub .f64 q17 (fOI .f64 (f2iV .f64 q17 .i64))) 4618760256179416344) (z0a (fop .mul .f64 (fop .mul .f64 (fop .sub .f64 q17 (fOI .f64 (f2iV .f64 q17 .i64))) 4618760256179416344) (fop .mul .f64 (fop .sub .f64 q17 (fOI .f64 (f2iV .f64 q17 .i64))) 4618760256179416344)) 4607182418800017408 8))))))))))))
noncomputable def z3t (q17:Nat):Option (Nat):=z5s q17 (fun c0_=>some c0_)
theorem zti {R R':Type} (o:Option R→Option R') (h0:o none=none) (q17:Nat) (k_:Nat→Option R):z5s q17 (fun c0_=>o (k_ c0_))=o (z5s q17 k_):=by
 unfold z5s
 repeat (first | refine z02 h0 ?_ | refine z07 ?_ ?_ | rfl | exact h0.symm)
noncomputable def zdq (q17:Nat):Bool:=(z3t q17).isSome
noncomputable def z8u (q17:Nat):Nat:=((z3t q17).getD default)
theorem zxu {q17 r:Nat} (h:z3t q17=some r):zdq q17=true∧z8u q17=r:=by
 unfold zdq z8u
 rw[h]
 exact⟨rfl,rfl⟩
noncomputable def zai {R:Type} (q1k:Nat) (k_:Nat→Option R):Option R:=(grd (znw q1k) (br (fcmp .eql .f64 (zac q1k) 0) (br (fcmp .lss .f64 (fop .sub .f64 q1k 0) 0) (k_ (fop .add .f64 (fop .sub .f64 q1k 0) 4607182418800017408)) (k_ (fop .sub .f64 q1k 0))) (br (fcmp .lss .f64 (fop .sub .f64 q1k (zac q1k)) 0) (k_ (fop .add .f64 (fop .sub .f64 q1k (zac q1k)) 4607182418800017408)) (k_ (fop .sub .f64 q1k (zac q1k))))))
noncomputable def z7y (q1k:Nat):Option (Nat):=zai q1k (fun c0_=>some c0_)
theorem zuf {R R':Type} (o:Option R→Option R') (h0:o none=none) (q1k:Nat) (k_:Nat→Option R):zai q1k (fun c0_=>o (k_ c0_))=o (zai q1k k_):=by
 unfold zai
 repeat (first | refine z02 h0 ?_ | refine z07 ?_ ?_ | rfl | exact h0.symm)
noncomputable def zfp (q1k:Nat):Bool:=(z7y q1k).isSome
noncomputable def z0c (q1k:Nat):Nat:=((z7y q1k).getD default)
theorem zyx {q1k r:Nat} (h:z7y q1k=some r):zfp q1k=true∧z0c q1k=r:=by
 unfold zfp z0c
 rw[h]
 exact⟨rfl,rfl⟩
noncomputable def z5a {R:Type} (t3:Int) (b0 b1 b2:List Nat) (q1b q1g q1h:Nat) (t4:Int) (kn_:Int→Option R) (k0_:Unit→Option R) (k1_:Int→Bool→Option R):Option R:=(br (ltI t4 t3) (grd (okIx t4 q1b) (br (fcmp .geq .f32 (gF b0 (ixO 0 t4 1)) 3204448256) (grd (okIx t4 q1b) (br (bnot (fcmp .leq .f32 (gF b0 (ixO 0 t4 1)) 1056964608)) (k0_ ()) (br (ltI 0 t4) (grd (okIx t4 q1b) (grd (okIx (subI .i64 t4 1) q1b) (br (fcmp .leq .f32 (gF b0 (ixO 0 t4 1)) (gF b0 (ixO 0 (subI .i64 t4 1) 1))) (k0_ ()) (grd (okIx t4 q1g) (grd (z10 (gF b1 (ixO 0 t4 1))) (br (bnot (z0u (gF b1 (ixO 0 t4 1)))) (k0_ ()) (grd (okIx t4 q1h) (grd (z6e (gF b2 (ixO 0 t4 1))) (br (bnot (z5q (gF b2 (ixO 0 t4 1)))) (k0_ ()) (kn_ (addI .i64 t4 1))))))))))) (grd (okIx t4 q1g) (grd (z10 (gF b1 (ixO 0 t4 1))) (br (bnot (z0u (gF b1 (ixO 0 t4 1)))) (k0_ ()) (grd (okIx t4 q1h) (grd (z6e (gF b2 (ixO 0 t4 1))) (br (bnot (z5q (gF b2 (ixO 0 t4 1)))) (k0_ ()) (kn_ (addI .i64 t4 1))))))))))) (br (bnot Bool.false) (k0_ ()) (br (ltI 0 t4) (grd (okIx t4 q1b) (grd (okIx (subI .i64 t4 1) q1b) (br (fcmp .leq .f32 (gF b0 (ixO 0 t4 1)) (gF b0 (ixO 0 (subI .i64 t4 1) 1))) (k0_ ()) (grd (okIx t4 q1g) (grd (z10 (gF b1 (ixO 0 t4 1))) (br (bnot (z0u (gF b1 (ixO 0 t4 1)))) (k0_ ()) (grd (okIx t4 q1h) (grd (z6e (gF b2 (ixO 0 t4 1))) (br (bnot (z5q (gF b2 (ixO 0 t4 1)))) (k0_ ()) (kn_ (addI .i64 t4 1))))))))))) (grd (okIx t4 q1g) (grd (z10 (gF b1 (ixO 0 t4 1))) (br (bnot (z0u (gF b1 (ixO 0 t4 1)))) (k0_ ()) (grd (okIx t4 q1h) (grd (z6e (gF b2 (ixO 0 t4 1))) (br (bnot (z5q (gF b2 (ixO 0 t4 1)))) (k0_ ()) (kn_ (addI .i64 t4 1)))))))))))) (k1_ t4 (ltI t4 t3)))
theorem zxh {R R':Type} (o:Option R→Option R') (h0:o none=none) (t3:Int) (b0 b1 b2:List Nat) (q1b q1g q1h:Nat) (t4:Int) (kn_:Int→Option R) (k0_:Unit→Option R) (k1_:Int→Bool→Option R):z5a t3 b0 b1 b2 q1b q1g q1h t4 (fun t4'=>o (kn_ t4')) (fun _=>o (k0_ ())) (fun c0_ c1_=>o (k1_ c0_ c1_))=o (z5a t3 b0 b1 b2 q1b q1g q1h t4 kn_ k0_ k1_):=by
 unfold z5a
 repeat (first | refine z02 h0 ?_ | refine z07 ?_ ?_ | rfl | exact h0.symm)
noncomputable def z39 (t3:Int) (b0 b1 b2:List Nat) (q1b q1g q1h:Nat):Nat→Int→Option ((Unit)⊕(Int×Bool))
 | 0,_=>none
 | n+1,t4=>z5a t3 b0 b1 b2 q1b q1g q1h  t4  (fun t4'=>z39 t3 b0 b1 b2 q1b q1g q1h n t4') (fun _=>some (Sum.inl ())) (fun c0_ c1_=>some (Sum.inr (c0_,c1_)))
theorem zne (t3:Int) (b0 b1 b2:List Nat) (q1b q1g q1h n:Nat) (t4:Int):z39 t3 b0 b1 b2 q1b q1g q1h (n+1) t4=z5a t3 b0 b1 b2 q1b q1g q1h  t4  (fun t4'=>z39 t3 b0 b1 b2 q1b q1g q1h n t4') (fun _=>some (Sum.inl ())) (fun c0_ c1_=>some (Sum.inr (c0_,c1_))):=rfl
noncomputable def z6c (t3:Int) (b0 b1 b2:List Nat) (q1b q1g q1h:Nat) (t4:Int):Bool:=(z39 t3 b0 b1 b2 q1b q1g q1h big t4).isSome
noncomputable def z5t (t3:Int) (b0 b1 b2:List Nat) (q1b q1g q1h:Nat) (t4:Int):Bool:=oL (z39 t3 b0 b1 b2 q1b q1g q1h big t4)
noncomputable def zk3 (t3:Int) (b0 b1 b2:List Nat) (q1b q1g q1h:Nat) (t4:Int):Int:=((tR (z39 t3 b0 b1 b2 q1b q1g q1h big t4)).getD default).1
noncomputable def zjn (t3:Int) (b0 b1 b2:List Nat) (q1b q1g q1h:Nat) (t4:Int):Bool:=((tR (z39 t3 b0 b1 b2 q1b q1g q1h big t4)).getD default).2
theorem y0v {t3:Int} {b0 b1 b2:List Nat} {q1b q1g q1h:Nat} {t4:Int} {m:Nat} {r:Unit} (hm:m=big) (h:z39 t3 b0 b1 b2 q1b q1g q1h m t4=some (Sum.inl r)):z6c t3 b0 b1 b2 q1b q1g q1h t4=true∧z5t t3 b0 b1 b2 q1b q1g q1h t4=true:=by
 subst hm
 unfold z6c z5t
 rw[h]
 exact⟨rfl,rfl⟩
theorem y0d {t3:Int} {b0 b1 b2:List Nat} {q1b q1g q1h:Nat} {t4:Int} {m:Nat} {r:Int×Bool} (hm:m=big) (h:z39 t3 b0 b1 b2 q1b q1g q1h m t4=some (Sum.inr r)):z6c t3 b0 b1 b2 q1b q1g q1h t4=true∧z5t t3 b0 b1 b2 q1b q1g q1h t4=false∧zk3 t3 b0 b1 b2 q1b q1g q1h t4=r.1∧zjn t3 b0 b1 b2 q1b q1g q1h t4=r.2:=by
 subst hm
 unfold z6c z5t zk3 zjn
 rw[h]
 exact⟨rfl,rfl,rfl,rfl⟩
noncomputable def z0e {R:Type} (sn:Nat) (t7:Int) (b0:List Nat) (t8:Int) (kn_:Int→Option R) (k0_:Int→Option R) (k1_:Int→Bool→Option R):Option R:=(br (ltI t8 t7) (grd (okIx t8 sn) (grd (zar (gF b0 (ixO 0 t8 1))) (br (z9v (gF b0 (ixO 0 t8 1))) (k0_ t8) (kn_ (addI .i64 t8 1))))) (k1_ t8 (ltI t8 t7)))
theorem zcc {R R':Type} (o:Option R→Option R') (h0:o none=none) (sn:Nat) (t7:Int) (b0:List Nat) (t8:Int) (kn_:Int→Option R) (k0_:Int→Option R) (k1_:Int→Bool→Option R):z0e sn t7 b0 t8 (fun t8'=>o (kn_ t8')) (fun c0_=>o (k0_ c0_)) (fun c0_ c1_=>o (k1_ c0_ c1_))=o (z0e sn t7 b0 t8 kn_ k0_ k1_):=by
 unfold z0e
 repeat (first | refine z02 h0 ?_ | refine z07 ?_ ?_ | rfl | exact h0.symm)
noncomputable def z03 (sn:Nat) (t7:Int) (b0:List Nat):Nat→Int→Option ((Int)⊕(Int×Bool))
 | 0,_=>none
 | n+1,t8=>z0e sn t7 b0  t8  (fun t8'=>z03 sn t7 b0 n t8') (fun c0_=>some (Sum.inl c0_)) (fun c0_ c1_=>some (Sum.inr (c0_,c1_)))
theorem z5g (sn:Nat) (t7:Int) (b0:List Nat) (n:Nat) (t8:Int):z03 sn t7 b0 (n+1) t8=z0e sn t7 b0  t8  (fun t8'=>z03 sn t7 b0 n t8') (fun c0_=>some (Sum.inl c0_)) (fun c0_ c1_=>some (Sum.inr (c0_,c1_))):=rfl
noncomputable def z0p (sn:Nat) (t7:Int) (b0:List Nat) (t8:Int):Bool:=(z03 sn t7 b0 big t8).isSome
noncomputable def z0o (sn:Nat) (t7:Int) (b0:List Nat) (t8:Int):Bool:=oL (z03 sn t7 b0 big t8)
noncomputable def z1o (sn:Nat) (t7:Int) (b0:List Nat) (t8:Int):Int:=((tL (z03 sn t7 b0 big t8)).getD default)
noncomputable def z3m (sn:Nat) (t7:Int) (b0:List Nat) (t8:Int):Int:=((tR (z03 sn t7 b0 big t8)).getD default).1
noncomputable def z3n (sn:Nat) (t7:Int) (b0:List Nat) (t8:Int):Bool:=((tR (z03 sn t7 b0 big t8)).getD default).2
theorem zd2 {sn:Nat} {t7:Int} {b0:List Nat} {t8:Int} {m:Nat} {r:Int} (hm:m=big) (h:z03 sn t7 b0 m t8=some (Sum.inl r)):z0p sn t7 b0 t8=true∧z0o sn t7 b0 t8=true∧z1o sn t7 b0 t8=r:=by
 subst hm
 unfold z0p z0o z1o
 rw[h]
 exact⟨rfl,rfl,rfl⟩
theorem zcw {sn:Nat} {t7:Int} {b0:List Nat} {t8:Int} {m:Nat} {r:Int×Bool} (hm:m=big) (h:z03 sn t7 b0 m t8=some (Sum.inr r)):z0p sn t7 b0 t8=true∧z0o sn t7 b0 t8=false∧z3m sn t7 b0 t8=r.1∧z3n sn t7 b0 t8=r.2:=by
 subst hm
 unfold z0p z0o z3m z3n
 rw[h]
 exact⟨rfl,rfl,rfl,rfl⟩
noncomputable def z0g {R:Type} (sn:Nat) (t7:Int) (b0:List Nat) (t8:Int) (kn_:Int→Option R) (k0_:Int→Option R) (k1_:Int→Bool→Option R):Option R:=(br (ltI t8 t7) (grd (okIx t8 sn) (grd (zdm (gF b0 (ixO 0 t8 1))) (br (zci (gF b0 (ixO 0 t8 1))) (k0_ t8) (kn_ (addI .i64 t8 1))))) (k1_ t8 (ltI t8 t7)))
theorem zcx {R R':Type} (o:Option R→Option R') (h0:o none=none) (sn:Nat) (t7:Int) (b0:List Nat) (t8:Int) (kn_:Int→Option R) (k0_:Int→Option R) (k1_:Int→Bool→Option R):z0g sn t7 b0 t8 (fun t8'=>o (kn_ t8')) (fun c0_=>o (k0_ c0_)) (fun c0_ c1_=>o (k1_ c0_ c1_))=o (z0g sn t7 b0 t8 kn_ k0_ k1_):=by
 unfold z0g
 repeat (first | refine z02 h0 ?_ | refine z07 ?_ ?_ | rfl | exact h0.symm)
noncomputable def z04 (sn:Nat) (t7:Int) (b0:List Nat):Nat→Int→Option ((Int)⊕(Int×Bool))
 | 0,_=>none
 | n+1,t8=>z0g sn t7 b0  t8  (fun t8'=>z04 sn t7 b0 n t8') (fun c0_=>some (Sum.inl c0_)) (fun c0_ c1_=>some (Sum.inr (c0_,c1_)))
theorem z5v (sn:Nat) (t7:Int) (b0:List Nat) (n:Nat) (t8:Int):z04 sn t7 b0 (n+1) t8=z0g sn t7 b0  t8  (fun t8'=>z04 sn t7 b0 n t8') (fun c0_=>some (Sum.inl c0_)) (fun c0_ c1_=>some (Sum.inr (c0_,c1_))):=rfl
noncomputable def z0z (sn:Nat) (t7:Int) (b0:List Nat) (t8:Int):Bool:=(z04 sn t7 b0 big t8).isSome
noncomputable def z0v (sn:Nat) (t7:Int) (b0:List Nat) (t8:Int):Bool:=oL (z04 sn t7 b0 big t8)
noncomputable def z20 (sn:Nat) (t7:Int) (b0:List Nat) (t8:Int):Int:=((tL (z04 sn t7 b0 big t8)).getD default)
noncomputable def z3s (sn:Nat) (t7:Int) (b0:List Nat) (t8:Int):Int:=((tR (z04 sn t7 b0 big t8)).getD default).1
noncomputable def z3r (sn:Nat) (t7:Int) (b0:List Nat) (t8:Int):Bool:=((tR (z04 sn t7 b0 big t8)).getD default).2
theorem zf5 {sn:Nat} {t7:Int} {b0:List Nat} {t8:Int} {m:Nat} {r:Int} (hm:m=big) (h:z04 sn t7 b0 m t8=some (Sum.inl r)):z0z sn t7 b0 t8=true∧z0v sn t7 b0 t8=true∧z20 sn t7 b0 t8=r:=by
 subst hm
 unfold z0z z0v z20
 rw[h]
 exact⟨rfl,rfl,rfl⟩
theorem zf2 {sn:Nat} {t7:Int} {b0:List Nat} {t8:Int} {m:Nat} {r:Int×Bool} (hm:m=big) (h:z04 sn t7 b0 m t8=some (Sum.inr r)):z0z sn t7 b0 t8=true∧z0v sn t7 b0 t8=false∧z3s sn t7 b0 t8=r.1∧z3r sn t7 b0 t8=r.2:=by
 subst hm
 unfold z0z z0v z3s z3r
 rw[h]
 exact⟨rfl,rfl,rfl,rfl⟩
noncomputable def zjb {R:Type} (q0g:Nat) (q0l:List Nat) (q0q:Nat) (q0t:List Nat) (q0p:Nat) (q0u:List Nat) (k_:Bool→Option R):Option R:=(br (ltI (Int.ofNat q0g) 2) (k_ Bool.false) (br (ltI 24 (Int.ofNat q0g)) (k_ Bool.false) (br (neI (Int.ofNat q0q) (Int.ofNat q0g)) (k_ Bool.false) (br (neI (Int.ofNat q0p) (Int.ofNat q0g)) (k_ Bool.false) (grd (z6c (Int.ofNat q0g) q0l q0t q0u q0g q0q q0p 0) (br (z5t (Int.ofNat q0g) q0l q0t q0u q0g q0q q0p 0) (k_ Bool.false) (k_ Bool.true)))))))
noncomputable def zg8 (q0g:Nat) (q0l:List Nat) (q0q:Nat) (q0t:List Nat) (q0p:Nat) (q0u:List Nat):Option (Bool):=zjb q0g q0l q0q q0t q0p q0u (fun c0_=>some c0_)
theorem y1p {R R':Type} (o:Option R→Option R') (h0:o none=none) (q0g:Nat) (q0l:List Nat) (q0q:Nat) (q0t:List Nat) (q0p:Nat) (q0u:List Nat) (k_:Bool→Option R):zjb q0g q0l q0q q0t q0p q0u (fun c0_=>o (k_ c0_))=o (zjb q0g q0l q0q q0t q0p q0u k_):=by
 unfold zjb
 repeat (first | refine z02 h0 ?_ | refine z07 ?_ ?_ | rfl | exact h0.symm)
noncomputable def znp (q0g:Nat) (q0l:List Nat) (q0q:Nat) (q0t:List Nat) (q0p:Nat) (q0u:List Nat):Bool:=(zg8 q0g q0l q0q q0t q0p q0u).isSome
noncomputable def zlq (q0g:Nat) (q0l:List Nat) (q0q:Nat) (q0t:List Nat) (q0p:Nat) (q0u:List Nat):Bool:=((zg8 q0g q0l q0q q0t q0p q0u).getD default)
theorem y7u {q0g:Nat} {q0l:List Nat} {q0q:Nat} {q0t:List Nat} {q0p:Nat} {q0u:List Nat} {r:Bool} (h:zg8 q0g q0l q0q q0t q0p q0u=some r):znp q0g q0l q0q q0t q0p q0u=true∧zlq q0g q0l q0q q0t q0p q0u=r:=by
 unfold znp zlq
 rw[h]
 exact⟨rfl,rfl⟩
noncomputable def z1l {R:Type} (s_n:Nat) (s:List Nat) (k_:Int→Option R):Option R:=(grd (z0p s_n (Int.ofNat s_n) s 0) (br (z0o s_n (Int.ofNat s_n) s 0) (k_ (z1o s_n (Int.ofNat s_n) s 0)) (k_ (Int.negSucc 0))))
noncomputable def z12 (s_n:Nat) (s:List Nat):Option (Int):=z1l s_n s (fun c0_=>some c0_)
theorem ze8 {R R':Type} (o:Option R→Option R') (h0:o none=none) (s_n:Nat) (s:List Nat) (k_:Int→Option R):z1l s_n s (fun c0_=>o (k_ c0_))=o (z1l s_n s k_):=by
 unfold z1l
 repeat (first | refine z02 h0 ?_ | refine z07 ?_ ?_ | rfl | exact h0.symm)
noncomputable def z2n (s_n:Nat) (s:List Nat):Bool:=(z12 s_n s).isSome
noncomputable def z2d (s_n:Nat) (s:List Nat):Int:=((z12 s_n s).getD default)
theorem zfz {s_n:Nat} {s:List Nat} {r:Int} (h:z12 s_n s=some r):z2n s_n s=true∧z2d s_n s=r:=by
 unfold z2n z2d
 rw[h]
 exact⟨rfl,rfl⟩
noncomputable def z1q {R:Type} (s_n:Nat) (s:List Nat) (k_:Int→Option R):Option R:=(grd (z0z s_n (Int.ofNat s_n) s 0) (br (z0v s_n (Int.ofNat s_n) s 0) (k_ (z20 s_n (Int.ofNat s_n) s 0)) (k_ (Int.negSucc 0))))
noncomputable def z17 (s_n:Nat) (s:List Nat):Option (Int):=z1q s_n s (fun c0_=>some c0_)
theorem zf9 {R R':Type} (o:Option R→Option R') (h0:o none=none) (s_n:Nat) (s:List Nat) (k_:Int→Option R):z1q s_n s (fun c0_=>o (k_ c0_))=o (z1q s_n s k_):=by
 unfold z1q
 repeat (first | refine z02 h0 ?_ | refine z07 ?_ ?_ | rfl | exact h0.symm)
noncomputable def z38 (s_n:Nat) (s:List Nat):Bool:=(z17 s_n s).isSome
noncomputable def z2w (s_n:Nat) (s:List Nat):Int:=((z17 s_n s).getD default)
theorem zht {s_n:Nat} {s:List Nat} {r:Int} (h:z17 s_n s=some r):z38 s_n s=true∧z2w s_n s=r:=by
 unfold z38 z2w
 rw[h]
 exact⟨rfl,rfl⟩
noncomputable def zgo {R:Type} (x:Nat) (k_:Nat→Option R):Option R:=(grd (zdq (fcvV .f32 .f64 x)) (grd (zc8 (z8u (fcvV .f32 .f64 x))) (k_ (z7z (z8u (fcvV .f32 .f64 x))))))
noncomputable def z8x (x:Nat):Option (Nat):=zgo x (fun c0_=>some c0_)
theorem zyz {R R':Type} (o:Option R→Option R') (h0:o none=none) (x:Nat) (k_:Nat→Option R):zgo x (fun c0_=>o (k_ c0_))=o (zgo x k_):=by
 unfold zgo
 repeat (first | refine z02 h0 ?_ | refine z07 ?_ ?_ | rfl | exact h0.symm)
noncomputable def z61 (x:Nat):Bool:=(z8x x).isSome
noncomputable def z1f (x:Nat):Nat:=((z8x x).getD default)
theorem za4 {x r:Nat} (h:z8x x=some r):z61 x=true∧z1f x=r:=by
 unfold z61 z1f
 rw[h]
 exact⟨rfl,rfl⟩
noncomputable def z0h {R:Type} (sn:Nat) (t7:Int) (b0:List Nat) (t8:Int) (kn_:Int→Option R) (k0_:Int→Option R) (k1_:Int→Bool→Option R):Option R:=(br (ltI t8 t7) (grd (okIx t8 sn) (grd (zfq (gF b0 (ixO 0 t8 1))) (br (zdw (gF b0 (ixO 0 t8 1))) (k0_ t8) (kn_ (addI .i64 t8 1))))) (k1_ t8 (ltI t8 t7)))
theorem ze3 {R R':Type} (o:Option R→Option R') (h0:o none=none) (sn:Nat) (t7:Int) (b0:List Nat) (t8:Int) (kn_:Int→Option R) (k0_:Int→Option R) (k1_:Int→Bool→Option R):z0h sn t7 b0 t8 (fun t8'=>o (kn_ t8')) (fun c0_=>o (k0_ c0_)) (fun c0_ c1_=>o (k1_ c0_ c1_))=o (z0h sn t7 b0 t8 kn_ k0_ k1_):=by
 unfold z0h
 repeat (first | refine z02 h0 ?_ | refine z07 ?_ ?_ | rfl | exact h0.symm)
noncomputable def z06 (sn:Nat) (t7:Int) (b0:List Nat):Nat→Int→Option ((Int)⊕(Int×Bool))
 | 0,_=>none
 | n+1,t8=>z0h sn t7 b0  t8  (fun t8'=>z06 sn t7 b0 n t8') (fun c0_=>some (Sum.inl c0_)) (fun c0_ c1_=>some (Sum.inr (c0_,c1_)))
theorem z67 (sn:Nat) (t7:Int) (b0:List Nat) (n:Nat) (t8:Int):z06 sn t7 b0 (n+1) t8=z0h sn t7 b0  t8  (fun t8'=>z06 sn t7 b0 n t8') (fun c0_=>some (Sum.inl c0_)) (fun c0_ c1_=>some (Sum.inr (c0_,c1_))):=rfl
noncomputable def z11 (sn:Nat) (t7:Int) (b0:List Nat) (t8:Int):Bool:=(z06 sn t7 b0 big t8).isSome
noncomputable def z0w (sn:Nat) (t7:Int) (b0:List Nat) (t8:Int):Bool:=oL (z06 sn t7 b0 big t8)
noncomputable def z26 (sn:Nat) (t7:Int) (b0:List Nat) (t8:Int):Int:=((tL (z06 sn t7 b0 big t8)).getD default)
noncomputable def z3z (sn:Nat) (t7:Int) (b0:List Nat) (t8:Int):Int:=((tR (z06 sn t7 b0 big t8)).getD default).1
noncomputable def z41 (sn:Nat) (t7:Int) (b0:List Nat) (t8:Int):Bool:=((tR (z06 sn t7 b0 big t8)).getD default).2
theorem zfb {sn:Nat} {t7:Int} {b0:List Nat} {t8:Int} {m:Nat} {r:Int} (hm:m=big) (h:z06 sn t7 b0 m t8=some (Sum.inl r)):z11 sn t7 b0 t8=true∧z0w sn t7 b0 t8=true∧z26 sn t7 b0 t8=r:=by
 subst hm
 unfold z11 z0w z26
 rw[h]
 exact⟨rfl,rfl,rfl⟩
theorem zfa {sn:Nat} {t7:Int} {b0:List Nat} {t8:Int} {m:Nat} {r:Int×Bool} (hm:m=big) (h:z06 sn t7 b0 m t8=some (Sum.inr r)):z11 sn t7 b0 t8=true∧z0w sn t7 b0 t8=false∧z3z sn t7 b0 t8=r.1∧z41 sn t7 b0 t8=r.2:=by
 subst hm
 unfold z11 z0w z3z z41
 rw[h]
 exact⟨rfl,rfl,rfl,rfl⟩
noncomputable def z1w {R:Type} (s_n:Nat) (s:List Nat) (k_:Int→Option R):Option R:=(grd (z11 s_n (Int.ofNat s_n) s 0) (br (z0w s_n (Int.ofNat s_n) s 0) (k_ (z26 s_n (Int.ofNat s_n) s 0)) (k_ (Int.negSucc 0))))
noncomputable def z1a (s_n:Nat) (s:List Nat):Option (Int):=z1w s_n s (fun c0_=>some c0_)
theorem zgd {R R':Type} (o:Option R→Option R') (h0:o none=none) (s_n:Nat) (s:List Nat) (k_:Int→Option R):z1w s_n s (fun c0_=>o (k_ c0_))=o (z1w s_n s k_):=by
 unfold z1w
 repeat (first | refine z02 h0 ?_ | refine z07 ?_ ?_ | rfl | exact h0.symm)
noncomputable def z3l (s_n:Nat) (s:List Nat):Bool:=(z1a s_n s).isSome
noncomputable def z3a (s_n:Nat) (s:List Nat):Int:=((z1a s_n s).getD default)
theorem zi7 {s_n:Nat} {s:List Nat} {r:Int} (h:z1a s_n s=some r):z3l s_n s=true∧z3a s_n s=r:=by
 unfold z3l z3a
 rw[h]
 exact⟨rfl,rfl⟩
noncomputable def zjh {R:Type} (x:Nat) (k_:Nat→Option R):Option R:=(grd (bnot (nanQ .f64 x)) (k_ (fint Ieee.Toward.down x)))
noncomputable def zgn (x:Nat):Option (Nat):=zjh x (fun c0_=>some c0_)
theorem y2h {R R':Type} (o:Option R→Option R') (h0:o none=none) (x:Nat) (k_:Nat→Option R):zjh x (fun c0_=>o (k_ c0_))=o (zjh x k_):=by
 unfold zjh
 repeat (first | refine z02 h0 ?_ | refine z07 ?_ ?_ | rfl | exact h0.symm)
noncomputable def zjv (x:Nat):Bool:=(zgn x).isSome
noncomputable def z6p (x:Nat):Nat:=((zgn x).getD default)
theorem zwv {x r:Nat} (h:zgn x=some r):zjv x=true∧z6p x=r:=by
 unfold zjv z6p
 rw[h]
 exact⟨rfl,rfl⟩
noncomputable def z5x {R:Type} (u p k:Nat) (kn_:Nat→Nat→Option R) (k0_:Nat→Nat→Bool→Option R):Option R:=(br (fcmp .geq .f64 k 4607182418800017408) (kn_ (fop .sub .f64 4607182418800017408 (fop .quo .f64 (fop .mul .f64 u p) (fop .mul .f64 (fop .mul .f64 4611686018427387904 k) (fop .add .f64 (fop .mul .f64 4611686018427387904 k) 4607182418800017408)))) (fop .sub .f64 k 4607182418800017408)) (k0_ p k (fcmp .geq .f64 k 4607182418800017408)))
theorem zz3 {R R':Type} (o:Option R→Option R') (h0:o none=none) (u p k:Nat) (kn_:Nat→Nat→Option R) (k0_:Nat→Nat→Bool→Option R):z5x u p k (fun p' k'=>o (kn_ p' k')) (fun c0_ c1_ c2_=>o (k0_ c0_ c1_ c2_))=o (z5x u p k kn_ k0_):=by
 unfold z5x
 repeat (first | refine z02 h0 ?_ | refine z07 ?_ ?_ | rfl | exact h0.symm)
noncomputable def z35 (u:Nat):Nat→Nat→Nat→Option ((Nat×Nat×Bool))
 | 0,_,_=>none
 | n+1,p,k=>z5x u  p k  (fun p' k'=>z35 u n p' k') (fun c0_ c1_ c2_=>some (c0_,c1_,c2_))
theorem zoc (u n p k:Nat):z35 u (n+1) p k=z5x u  p k  (fun p' k'=>z35 u n p' k') (fun c0_ c1_ c2_=>some (c0_,c1_,c2_)):=rfl
noncomputable def z7f (u p k:Nat):Bool:=(z35 u big p k).isSome
noncomputable def z4z (u p k:Nat):Nat:=((z35 u big p k).getD default).1
noncomputable def zl3 (u p k:Nat):Nat:=((z35 u big p k).getD default).2.1
noncomputable def zlc (u p k:Nat):Bool:=((z35 u big p k).getD default).2.2
theorem y1w {u p k m:Nat} {r:Nat×Nat×Bool} (hm:m=big) (h:z35 u m p k=some r):z7f u p k=true∧z4z u p k=r.1∧zl3 u p k=r.2.1∧zlc u p k=r.2.2:=by
 subst hm
 unfold z7f z4z zl3 zlc
 rw[h]
 exact⟨rfl,rfl,rfl,rfl⟩
noncomputable def z1d {R:Type} (s_n:Nat) (s:List Nat) (k_:Bool→Option R):Option R:=(grd (z2n s_n (pF s 0 (muN s_n 1))) (k_ (leI 0 (z2d s_n (pF s 0 (muN s_n 1))))))
noncomputable def z0r (s_n:Nat) (s:List Nat):Option (Bool):=z1d s_n s (fun c0_=>some c0_)
theorem zbw {R R':Type} (o:Option R→Option R') (h0:o none=none) (s_n:Nat) (s:List Nat) (k_:Bool→Option R):z1d s_n s (fun c0_=>o (k_ c0_))=o (z1d s_n s k_):=by
 unfold z1d
 repeat (first | refine z02 h0 ?_ | refine z07 ?_ ?_ | rfl | exact h0.symm)
noncomputable def z24 (s_n:Nat) (s:List Nat):Bool:=(z0r s_n s).isSome
noncomputable def z1x (s_n:Nat) (s:List Nat):Bool:=((z0r s_n s).getD default)
theorem zdf {s_n:Nat} {s:List Nat} {r:Bool} (h:z0r s_n s=some r):z24 s_n s=true∧z1x s_n s=r:=by
 unfold z24 z1x
 rw[h]
 exact⟨rfl,rfl⟩
noncomputable def z1i {R:Type} (s_n:Nat) (s:List Nat) (k_:Bool→Option R):Option R:=(grd (z38 s_n (pF s 0 (muN s_n 1))) (k_ (leI 0 (z2w s_n (pF s 0 (muN s_n 1))))))
noncomputable def z0y (s_n:Nat) (s:List Nat):Option (Bool):=z1i s_n s (fun c0_=>some c0_)
theorem zcz {R R':Type} (o:Option R→Option R') (h0:o none=none) (s_n:Nat) (s:List Nat) (k_:Bool→Option R):z1i s_n s (fun c0_=>o (k_ c0_))=o (z1i s_n s k_):=by
 unfold z1i
 repeat (first | refine z02 h0 ?_ | refine z07 ?_ ?_ | rfl | exact h0.symm)
noncomputable def z2c (s_n:Nat) (s:List Nat):Bool:=(z0y s_n s).isSome
noncomputable def z28 (s_n:Nat) (s:List Nat):Bool:=((z0y s_n s).getD default)
theorem zfc {s_n:Nat} {s:List Nat} {r:Bool} (h:z0y s_n s=some r):z2c s_n s=true∧z28 s_n s=r:=by
 unfold z2c z28
 rw[h]
 exact⟨rfl,rfl⟩
noncomputable def z1n {R:Type} (s_n:Nat) (s:List Nat) (k_:Bool→Option R):Option R:=(grd (z3l s_n (pF s 0 (muN s_n 1))) (k_ (leI 0 (z3a s_n (pF s 0 (muN s_n 1))))))
noncomputable def z13 (s_n:Nat) (s:List Nat):Option (Bool):=z1n s_n s (fun c0_=>some c0_)
theorem zdn {R R':Type} (o:Option R→Option R') (h0:o none=none) (s_n:Nat) (s:List Nat) (k_:Bool→Option R):z1n s_n s (fun c0_=>o (k_ c0_))=o (z1n s_n s k_):=by
 unfold z1n
 repeat (first | refine z02 h0 ?_ | refine z07 ?_ ?_ | rfl | exact h0.symm)
noncomputable def z2m (s_n:Nat) (s:List Nat):Bool:=(z13 s_n s).isSome
noncomputable def z2e (s_n:Nat) (s:List Nat):Bool:=((z13 s_n s).getD default)
theorem zgs {s_n:Nat} {s:List Nat} {r:Bool} (h:z13 s_n s=some r):z2m s_n s=true∧z2e s_n s=r:=by
 unfold z2m z2e
 rw[h]
 exact⟨rfl,rfl⟩
noncomputable def zlk {R:Type} (q1k:Nat) (k_:Nat→Option R):Option R:=(grd (zfp q1k) (br (fcmp .geq .f64 (z0c q1k) 4602678819172646912) (br (fcmp .gtr .f64 (fop .sub .f64 (z0c q1k) 4602678819172646912) 4598175219545276416) (grd (z7f (fop .mul .f64 (fop .mul .f64 (fop .sub .f64 4602678819172646912 (fop .sub .f64 (z0c q1k) 4602678819172646912)) 4618760256179416344) (fop .mul .f64 (fop .sub .f64 4602678819172646912 (fop .sub .f64 (z0c q1k) 4602678819172646912)) 4618760256179416344)) 4607182418800017408 4620693217682128896) (k_ (fneg .f64 (fop .mul .f64 (fop .mul .f64 (fop .sub .f64 4602678819172646912 (fop .sub .f64 (z0c q1k) 4602678819172646912)) 4618760256179416344) (z4z (fop .mul .f64 (fop .mul .f64 (fop .sub .f64 4602678819172646912 (fop .sub .f64 (z0c q1k) 4602678819172646912)) 4618760256179416344) (fop .mul .f64 (fop .sub .f64 4602678819172646912 (fop .sub .f64 (z0c q1k) 4602678819172646912)) 4618760256179416344)) 4607182418800017408 4620693217682128896))))) (grd (z7f (fop .mul .f64 (fop .mul .f64 (fop .sub .f64 (z0c q1k) 4602678819172646912) 4618760256179416344) (fop .mul .f64 (fop .sub .f64 (z0c q1k) 4602678819172646912) 4618760256179416344)) 4607182418800017408 4620693217682128896) (k_ (fneg .f64 (fop .mul .f64 (fop .mul .f64 (fop .sub .f64 (z0c q1k) 4602678819172646912) 4618760256179416344) (z4z (fop .mul .f64 (fop .mul .f64 (fop .sub .f64 (z0c q1k) 4602678819172646912) 4618760256179416344) (fop .mul .f64 (fop .sub .f64 (z0c q1k) 4602678819172646912) 4618760256179416344)) 4607182418800017408 4620693217682128896)))))) (br (fcmp .gtr .f64 (z0c q1k) 4598175219545276416) (grd (z7f (fop .mul .f64 (fop .mul .f64 (fop .sub .f64 4602678819172646912 (z0c q1k)) 4618760256179416344) (fop .mul .f64 (fop .sub .f64 4602678819172646912 (z0c q1k)) 4618760256179416344)) 4607182418800017408 4620693217682128896) (k_ (fop .mul .f64 (fop .mul .f64 (fop .sub .f64 4602678819172646912 (z0c q1k)) 4618760256179416344) (z4z (fop .mul .f64 (fop .mul .f64 (fop .sub .f64 4602678819172646912 (z0c q1k)) 4618760256179416344) (fop .mul .f64 (fop .sub .f64 4602678819172646912 (z0c q1k)) 4618760256179416344)) 4607182418800017408 4620693217682128896)))) (grd (z7f (fop .mul .f64 (fop .mul .f64 (z0c q1k) 4618760256179416344) (fop .mul .f64 (z0c q1k) 4618760256179416344)) 4607182418800017408 4620693217682128896) (k_ (fop .mul .f64 (fop .mul .f64 (z0c q1k) 4618760256179416344) (z4z (fop .mul .f64 (fop .mul .f64 (z0c q1k) 4618760256179416344) (fop .mul .f64 (z0c q1k) 4618760256179416344)) 4607182418800017408 4620693217682128896)))))))
noncomputable def zib (q1k:Nat):Option (Nat):=zlk q1k (fun c0_=>some c0_)
theorem y50 {R R':Type} (o:Option R→Option R') (h0:o none=none) (q1k:Nat) (k_:Nat→Option R):zlk q1k (fun c0_=>o (k_ c0_))=o (zlk q1k k_):=by
 unfold zlk
 repeat (first | refine z02 h0 ?_ | refine z07 ?_ ?_ | rfl | exact h0.symm)
noncomputable def zpe (q1k:Nat):Bool:=(zib q1k).isSome
noncomputable def zk6 (q1k:Nat):Nat:=((zib q1k).getD default)
theorem y99 {q1k r:Nat} (h:zib q1k=some r):zpe q1k=true∧zk6 q1k=r:=by
 unfold zpe zk6
 rw[h]
 exact⟨rfl,rfl⟩
noncomputable def zcb {R:Type} (x:Nat) (k_:Nat→Option R):Option R:=(grd (zjv (fop .add .f64 (fcvV .f32 .f64 x) 4602678819172646912)) (grd (fcvB .f64 .f32 (fop .sub .f64 (fcvV .f32 .f64 x) (z6p (fop .add .f64 (fcvV .f32 .f64 x) 4602678819172646912)))) (br (fcmp .geq .f32 (fcvV .f64 .f32 (fop .sub .f64 (fcvV .f32 .f64 x) (z6p (fop .add .f64 (fcvV .f32 .f64 x) 4602678819172646912)))) 1056964608) (k_ 3204448256) (k_ (fcvV .f64 .f32 (fop .sub .f64 (fcvV .f32 .f64 x) (z6p (fop .add .f64 (fcvV .f32 .f64 x) 4602678819172646912))))))))
noncomputable def z94 (x:Nat):Option (Nat):=zcb x (fun c0_=>some c0_)
theorem zwk {R R':Type} (o:Option R→Option R') (h0:o none=none) (x:Nat) (k_:Nat→Option R):zcb x (fun c0_=>o (k_ c0_))=o (zcb x k_):=by
 unfold zcb
 repeat (first | refine z02 h0 ?_ | refine z07 ?_ ?_ | rfl | exact h0.symm)
noncomputable def zhf (x:Nat):Bool:=(z94 x).isSome
noncomputable def z0s (x:Nat):Nat:=((z94 x).getD default)
theorem y08 {x r:Nat} (h:z94 x=some r):zhf x=true∧z0s x=r:=by
 unfold zhf z0s
 rw[h]
 exact⟨rfl,rfl⟩
noncomputable def zgg {R:Type} (x:Nat) (k_:Nat→Option R):Option R:=(grd (zjv (fop .add .f64 (fcvV .f32 .f64 x) 4602678819172646912)) (grd (zc8 (fop .sub .f64 (fcvV .f32 .f64 x) (z6p (fop .add .f64 (fcvV .f32 .f64 x) 4602678819172646912)))) (br (fcmp .geq .f32 (z7z (fop .sub .f64 (fcvV .f32 .f64 x) (z6p (fop .add .f64 (fcvV .f32 .f64 x) 4602678819172646912)))) 1056964608) (k_ 3204448256) (k_ (z7z (fop .sub .f64 (fcvV .f32 .f64 x) (z6p (fop .add .f64 (fcvV .f32 .f64 x) 4602678819172646912))))))))
noncomputable def zbi (x:Nat):Option (Nat):=zgg x (fun c0_=>some c0_)
theorem zzn {R R':Type} (o:Option R→Option R') (h0:o none=none) (x:Nat) (k_:Nat→Option R):zgg x (fun c0_=>o (k_ c0_))=o (zgg x k_):=by
 unfold zgg
 repeat (first | refine z02 h0 ?_ | refine z07 ?_ ?_ | rfl | exact h0.symm)
noncomputable def zky (x:Nat):Bool:=(zbi x).isSome
noncomputable def z3u (x:Nat):Nat:=((zbi x).getD default)
theorem y3k {x r:Nat} (h:zbi x=some r):zky x=true∧z3u x=r:=by
 unfold zky z3u
 rw[h]
 exact⟨rfl,rfl⟩
noncomputable def z5e {R:Type} (t57:Int) (b3:List Nat) (q0s q15 t4:Nat) (t58:Int) (kn_:Nat→Int→Option R) (k0_:Unit→Option R) (k1_:Nat→Int→Bool→Option R):Option R:=(br (ltI t58 t57) (grd (okIx t58 q0s) (br (bnot (fcmp .gtr .f32 (gF b3 (ixO 0 t58 3)) t4)) (k0_ ()) (br (bnot (fcmp .lss .f32 (gF b3 (ixO 0 t58 3)) q15)) (k0_ ()) (grd (z7x (gF b3 (Nat.succ (ixO 0 t58 3)))) (br (bnot (z71 (gF b3 (Nat.succ (ixO 0 t58 3))))) (k0_ ()) (grd (z10 (gF b3 (Nat.succ (Nat.succ (ixO 0 t58 3))))) (br (bnot (z0u (gF b3 (Nat.succ (Nat.succ (ixO 0 t58 3)))))) (k0_ ()) (kn_ (gF b3 (ixO 0 t58 3)) (addI .i64 t58 1))))))))) (k1_ t4 t58 (ltI t58 t57)))
theorem zxz {R R':Type} (o:Option R→Option R') (h0:o none=none) (t57:Int) (b3:List Nat) (q0s q15 t4:Nat) (t58:Int) (kn_:Nat→Int→Option R) (k0_:Unit→Option R) (k1_:Nat→Int→Bool→Option R):z5e t57 b3 q0s q15 t4 t58 (fun t4' t58'=>o (kn_ t4' t58')) (fun _=>o (k0_ ())) (fun c0_ c1_ c2_=>o (k1_ c0_ c1_ c2_))=o (z5e t57 b3 q0s q15 t4 t58 kn_ k0_ k1_):=by
 unfold z5e
 repeat (first | refine z02 h0 ?_ | refine z07 ?_ ?_ | rfl | exact h0.symm)
noncomputable def z1g (t57:Int) (b3:List Nat) (q0s q15:Nat):Nat→Nat→Int→Option ((Unit)⊕(Nat×Int×Bool))
 | 0,_,_=>none
 | n+1,t4,t58=>z5e t57 b3 q0s q15  t4 t58  (fun t4' t58'=>z1g t57 b3 q0s q15 n t4' t58') (fun _=>some (Sum.inl ())) (fun c0_ c1_ c2_=>some (Sum.inr (c0_,c1_,c2_)))
theorem zo0 (t57:Int) (b3:List Nat) (q0s q15 n t4:Nat) (t58:Int):z1g t57 b3 q0s q15 (n+1) t4 t58=z5e t57 b3 q0s q15  t4 t58  (fun t4' t58'=>z1g t57 b3 q0s q15 n t4' t58') (fun _=>some (Sum.inl ())) (fun c0_ c1_ c2_=>some (Sum.inr (c0_,c1_,c2_))):=rfl
noncomputable def z7r (t57:Int) (b3:List Nat) (q0s q15 t4:Nat) (t58:Int):Bool:=(z1g t57 b3 q0s q15 big t4 t58).isSome
noncomputable def z6z (t57:Int) (b3:List Nat) (q0s q15 t4:Nat) (t58:Int):Bool:=oL (z1g t57 b3 q0s q15 big t4 t58)
noncomputable def zk8 (t57:Int) (b3:List Nat) (q0s q15 t4:Nat) (t58:Int):Nat:=((tR (z1g t57 b3 q0s q15 big t4 t58)).getD default).1
noncomputable def zjw (t57:Int) (b3:List Nat) (q0s q15 t4:Nat) (t58:Int):Int:=((tR (z1g t57 b3 q0s q15 big t4 t58)).getD default).2.1
noncomputable def zjl (t57:Int) (b3:List Nat) (q0s q15 t4:Nat) (t58:Int):Bool:=((tR (z1g t57 b3 q0s q15 big t4 t58)).getD default).2.2
theorem y02 {t57:Int} {b3:List Nat} {q0s q15 t4:Nat} {t58:Int} {m:Nat} {r:Unit} (hm:m=big) (h:z1g t57 b3 q0s q15 m t4 t58=some (Sum.inl r)):z7r t57 b3 q0s q15 t4 t58=true∧z6z t57 b3 q0s q15 t4 t58=true:=by
 subst hm
 unfold z7r z6z
 rw[h]
 exact⟨rfl,rfl⟩
theorem y0y {t57:Int} {b3:List Nat} {q0s q15 t4:Nat} {t58:Int} {m:Nat} {r:Nat×Int×Bool} (hm:m=big) (h:z1g t57 b3 q0s q15 m t4 t58=some (Sum.inr r)):z7r t57 b3 q0s q15 t4 t58=true∧z6z t57 b3 q0s q15 t4 t58=false∧zk8 t57 b3 q0s q15 t4 t58=r.1∧zjw t57 b3 q0s q15 t4 t58=r.2.1∧zjl t57 b3 q0s q15 t4 t58=r.2.2:=by
 subst hm
 unfold z7r z6z zk8 zjw zjl
 rw[h]
 exact⟨rfl,rfl,rfl,rfl,rfl⟩
noncomputable def z9j {R:Type} (q1e:Nat) (q1j:List Nat) (k_:Bool→Option R):Option R:=(grd (z24 q1e (pF q1j 0 (muN q1e 1))) (k_ (bnot (z1x q1e (pF q1j 0 (muN q1e 1))))))
noncomputable def z33 (q1e:Nat) (q1j:List Nat):Option (Bool):=z9j q1e q1j (fun c0_=>some c0_)
theorem ztp {R R':Type} (o:Option R→Option R') (h0:o none=none) (q1e:Nat) (q1j:List Nat) (k_:Bool→Option R):z9j q1e q1j (fun c0_=>o (k_ c0_))=o (z9j q1e q1j k_):=by
 unfold z9j
 repeat (first | refine z02 h0 ?_ | refine z07 ?_ ?_ | rfl | exact h0.symm)
noncomputable def z5p (q1e:Nat) (q1j:List Nat):Bool:=(z33 q1e q1j).isSome
noncomputable def z56 (q1e:Nat) (q1j:List Nat):Bool:=((z33 q1e q1j).getD default)
theorem zih {q1e:Nat} {q1j:List Nat} {r:Bool} (h:z33 q1e q1j=some r):z5p q1e q1j=true∧z56 q1e q1j=r:=by
 unfold z5p z56
 rw[h]
 exact⟨rfl,rfl⟩
noncomputable def zk9 {R:Type} (q03:Nat) (q09:List Nat) (q06:Nat) (q0b:List Nat) (q05:Nat) (q0c:List Nat) (q0d:Nat) (q0f:List Nat) (q0h:Int) (q0j q0k:Nat) (k_:Bool→Option R):Option R:=(grd (znp q03 (pF q09 0 (muN q03 1)) q06 (pF q0b 0 (muN q06 1)) q05 (pF q0c 0 (muN q05 1))) (br (bnot (zlq q03 (pF q09 0 (muN q03 1)) q06 (pF q0b 0 (muN q06 1)) q05 (pF q0c 0 (muN q05 1)))) (k_ Bool.false) (br (ltI (Int.ofNat q0d) 2) (k_ Bool.false) (br (ltI 12 (Int.ofNat q0d)) (k_ Bool.false) (grd (zgf q0h 1 6) (br (bnot (zd9 q0h 1 6)) (k_ Bool.false) (grd (z6e q0j) (br (bnot (z5q q0j)) (k_ Bool.false) (grd (z10 q0k) (br (bnot (z0u q0k)) (k_ Bool.false) (grd (z7r (Int.ofNat q0d) q0f q0d q0k q0j 0) (br (z6z (Int.ofNat q0d) q0f q0d q0k q0j 0) (k_ Bool.false) (k_ Bool.true)))))))))))))
noncomputable def zgk (q03:Nat) (q09:List Nat) (q06:Nat) (q0b:List Nat) (q05:Nat) (q0c:List Nat) (q0d:Nat) (q0f:List Nat) (q0h:Int) (q0j q0k:Nat):Option (Bool):=zk9 q03 q09 q06 q0b q05 q0c q0d q0f q0h q0j q0k (fun c0_=>some c0_)
theorem y2z {R R':Type} (o:Option R→Option R') (h0:o none=none) (q03:Nat) (q09:List Nat) (q06:Nat) (q0b:List Nat) (q05:Nat) (q0c:List Nat) (q0d:Nat) (q0f:List Nat) (q0h:Int) (q0j q0k:Nat) (k_:Bool→Option R):zk9 q03 q09 q06 q0b q05 q0c q0d q0f q0h q0j q0k (fun c0_=>o (k_ c0_))=o (zk9 q03 q09 q06 q0b q05 q0c q0d q0f q0h q0j q0k k_):=by
 unfold zk9
 repeat (first | refine z02 h0 ?_ | refine z07 ?_ ?_ | rfl | exact h0.symm)
noncomputable def zje (q03:Nat) (q09:List Nat) (q06:Nat) (q0b:List Nat) (q05:Nat) (q0c:List Nat) (q0d:Nat) (q0f:List Nat) (q0h:Int) (q0j q0k:Nat):Bool:=(zgk q03 q09 q06 q0b q05 q0c q0d q0f q0h q0j q0k).isSome
noncomputable def zi6 (q03:Nat) (q09:List Nat) (q06:Nat) (q0b:List Nat) (q05:Nat) (q0c:List Nat) (q0d:Nat) (q0f:List Nat) (q0h:Int) (q0j q0k:Nat):Bool:=((zgk q03 q09 q06 q0b q05 q0c q0d q0f q0h q0j q0k).getD default)
theorem zq0 {q03:Nat} {q09:List Nat} {q06:Nat} {q0b:List Nat} {q05:Nat} {q0c:List Nat} {q0d:Nat} {q0f:List Nat} {q0h:Int} {q0j q0k:Nat} {r:Bool} (h:zgk q03 q09 q06 q0b q05 q0c q0d q0f q0h q0j q0k=some r):zje q03 q09 q06 q0b q05 q0c q0d q0f q0h q0j q0k=true∧zi6 q03 q09 q06 q0b q05 q0c q0d q0f q0h q0j q0k=r:=by
 unfold zje zi6
 rw[h]
 exact⟨rfl,rfl⟩
noncomputable def zc6 {R:Type} (q1e:Nat) (q1j:List Nat) (k_:Bool→Option R):Option R:=(grd (z2c q1e (pF q1j 0 (muN q1e 1))) (k_ (bnot (z28 q1e (pF q1j 0 (muN q1e 1))))))
noncomputable def z6w (q1e:Nat) (q1j:List Nat):Option (Bool):=zc6 q1e q1j (fun c0_=>some c0_)
theorem zwd {R R':Type} (o:Option R→Option R') (h0:o none=none) (q1e:Nat) (q1j:List Nat) (k_:Bool→Option R):zc6 q1e q1j (fun c0_=>o (k_ c0_))=o (zc6 q1e q1j k_):=by
 unfold zc6
 repeat (first | refine z02 h0 ?_ | refine z07 ?_ ?_ | rfl | exact h0.symm)
noncomputable def zc4 (q1e:Nat) (q1j:List Nat):Bool:=(z6w q1e q1j).isSome
noncomputable def zao (q1e:Nat) (q1j:List Nat):Bool:=((z6w q1e q1j).getD default)
theorem zqv {q1e:Nat} {q1j:List Nat} {r:Bool} (h:z6w q1e q1j=some r):zc4 q1e q1j=true∧zao q1e q1j=r:=by
 unfold zc4 zao
 rw[h]
 exact⟨rfl,rfl⟩
noncomputable def zee {R:Type} (q1e:Nat) (q1j:List Nat) (k_:Bool→Option R):Option R:=(grd (z2m q1e (pF q1j 0 (muN q1e 1))) (k_ (bnot (z2e q1e (pF q1j 0 (muN q1e 1))))))
noncomputable def za1 (q1e:Nat) (q1j:List Nat):Option (Bool):=zee q1e q1j (fun c0_=>some c0_)
theorem zxb {R R':Type} (o:Option R→Option R') (h0:o none=none) (q1e:Nat) (q1j:List Nat) (k_:Bool→Option R):zee q1e q1j (fun c0_=>o (k_ c0_))=o (zee q1e q1j k_):=by
 unfold zee
 repeat (first | refine z02 h0 ?_ | refine z07 ?_ ?_ | rfl | exact h0.symm)
noncomputable def zj5 (q1e:Nat) (q1j:List Nat):Bool:=(za1 q1e q1j).isSome
noncomputable def zhb (q1e:Nat) (q1j:List Nat):Bool:=((za1 q1e q1j).getD default)
theorem y1x {q1e:Nat} {q1j:List Nat} {r:Bool} (h:za1 q1e q1j=some r):zj5 q1e q1j=true∧zhb q1e q1j=r:=by
 unfold zj5 zhb
 rw[h]
 exact⟨rfl,rfl⟩
noncomputable def zc1 {R:Type} (x:Nat) (k_:Nat→Option R):Option R:=(grd (z2i x) (br (bnot (z22 x)) (grd zn3 (grd (fcvB .f64 .f32 zic) (k_ (fcvV .f64 .f32 zic)))) (grd (zlx (fcvV .f32 .f64 x)) (br (zkv (fcvV .f32 .f64 x)) (k_ 0) (grd (zpe (fcvV .f32 .f64 x)) (grd (fcvB .f64 .f32 (zk6 (fcvV .f32 .f64 x))) (k_ (fcvV .f64 .f32 (zk6 (fcvV .f32 .f64 x))))))))))
noncomputable def z96 (x:Nat):Option (Nat):=zc1 x (fun c0_=>some c0_)
theorem zvo {R R':Type} (o:Option R→Option R') (h0:o none=none) (x:Nat) (k_:Nat→Option R):zc1 x (fun c0_=>o (k_ c0_))=o (zc1 x k_):=by
 unfold zc1
 repeat (first | refine z02 h0 ?_ | refine z07 ?_ ?_ | rfl | exact h0.symm)
noncomputable def z3w (x:Nat):Bool:=(z96 x).isSome
noncomputable def z1h (x:Nat):Nat:=((z96 x).getD default)
theorem z81 {x r:Nat} (h:z96 x=some r):z3w x=true∧z1h x=r:=by
 unfold z3w z1h
 rw[h]
 exact⟨rfl,rfl⟩
noncomputable def zag {R:Type} (x y:Nat) (k_:Nat→Nat→Bool→Option R):Option R:=(grd (zc4 2 (pF [x,y] 0 (muN 2 1))) (br (bnot (zao 2 (pF [x,y] 0 (muN 2 1)))) (k_ 0 0 Bool.false) (k_ x y Bool.true)))
noncomputable def z52 (x y:Nat):Option (Nat×Nat×Bool):=zag x y (fun c0_ c1_ c2_=>some (c0_,c1_,c2_))
theorem zug {R R':Type} (o:Option R→Option R') (h0:o none=none) (x y:Nat) (k_:Nat→Nat→Bool→Option R):zag x y (fun c0_ c1_ c2_=>o (k_ c0_ c1_ c2_))=o (zag x y k_):=by
 unfold zag
 repeat (first | refine z02 h0 ?_ | refine z07 ?_ ?_ | rfl | exact h0.symm)
noncomputable def zaf (x y:Nat):Bool:=(z52 x y).isSome
noncomputable def z9o (x y:Nat):Nat:=((z52 x y).getD default).1
noncomputable def z9q (x y:Nat):Nat:=((z52 x y).getD default).2.1
noncomputable def z9n (x y:Nat):Bool:=((z52 x y).getD default).2.2
theorem zy5 {x y:Nat} {r:Nat×Nat×Bool} (h:z52 x y=some r):zaf x y=true∧z9o x y=r.1∧z9q x y=r.2.1∧z9n x y=r.2.2:=by
 unfold zaf z9o z9q z9n
 rw[h]
 exact⟨rfl,rfl,rfl,rfl⟩
noncomputable def zap {R:Type} (q00:Nat) (q04:List Nat) (q02:Nat) (q07:List Nat) (q01:Nat) (q08:List Nat) (q0a:Nat) (q0e:List Nat) (q0i:Int) (q0n q0m:Nat) (i:Int) (k_:Bool→Option R):Option R:=(grd (zje q00 (pF q04 0 (muN q00 1)) q02 (pF q07 0 (muN q02 1)) q01 (pF q08 0 (muN q01 1)) q0a (pF q0e 0 (muN q0a 3)) q0i q0n q0m) (br (zi6 q00 (pF q04 0 (muN q00 1)) q02 (pF q07 0 (muN q02 1)) q01 (pF q08 0 (muN q01 1)) q0a (pF q0e 0 (muN q0a 3)) q0i q0n q0m) (grd (zgf i 0 (subI .i64 (Int.ofNat q0a) 1)) (k_ (zd9 i 0 (subI .i64 (Int.ofNat q0a) 1)))) (k_ Bool.false)))
noncomputable def z8a (q00:Nat) (q04:List Nat) (q02:Nat) (q07:List Nat) (q01:Nat) (q08:List Nat) (q0a:Nat) (q0e:List Nat) (q0i:Int) (q0n q0m:Nat) (i:Int):Option (Bool):=zap q00 q04 q02 q07 q01 q08 q0a q0e q0i q0n q0m i (fun c0_=>some c0_)
theorem zuc {R R':Type} (o:Option R→Option R') (h0:o none=none) (q00:Nat) (q04:List Nat) (q02:Nat) (q07:List Nat) (q01:Nat) (q08:List Nat) (q0a:Nat) (q0e:List Nat) (q0i:Int) (q0n q0m:Nat) (i:Int) (k_:Bool→Option R):zap q00 q04 q02 q07 q01 q08 q0a q0e q0i q0n q0m i (fun c0_=>o (k_ c0_))=o (zap q00 q04 q02 q07 q01 q08 q0a q0e q0i q0n q0m i k_):=by
 unfold zap
 repeat (first | refine z02 h0 ?_ | refine z07 ?_ ?_ | rfl | exact h0.symm)
noncomputable def zfm (q00:Nat) (q04:List Nat) (q02:Nat) (q07:List Nat) (q01:Nat) (q08:List Nat) (q0a:Nat) (q0e:List Nat) (q0i:Int) (q0n q0m:Nat) (i:Int):Bool:=(z8a q00 q04 q02 q07 q01 q08 q0a q0e q0i q0n q0m i).isSome
noncomputable def zds (q00:Nat) (q04:List Nat) (q02:Nat) (q07:List Nat) (q01:Nat) (q08:List Nat) (q0a:Nat) (q0e:List Nat) (q0i:Int) (q0n q0m:Nat) (i:Int):Bool:=((z8a q00 q04 q02 q07 q01 q08 q0a q0e q0i q0n q0m i).getD default)
theorem zy9 {q00:Nat} {q04:List Nat} {q02:Nat} {q07:List Nat} {q01:Nat} {q08:List Nat} {q0a:Nat} {q0e:List Nat} {q0i:Int} {q0n q0m:Nat} {i:Int} {r:Bool} (h:z8a q00 q04 q02 q07 q01 q08 q0a q0e q0i q0n q0m i=some r):zfm q00 q04 q02 q07 q01 q08 q0a q0e q0i q0n q0m i=true∧zds q00 q04 q02 q07 q01 q08 q0a q0e q0i q0n q0m i=r:=by
 unfold zfm zds
 rw[h]
 exact⟨rfl,rfl⟩
noncomputable def z7g {R:Type} (q00:Nat) (q04:List Nat) (q02:Nat) (q07:List Nat) (q01:Nat) (q08:List Nat) (q0a:Nat) (q0e:List Nat) (q0i:Int) (q0n q0m:Nat) (i:Int) (q16:Nat) (k_:Nat→Option R):Option R:=(grd (okIx i q0a) (grd (z3w q16) (k_ (fop .quo .f32 (fop .quo .f32 (fop .mul .f32 (fOI .f32 q0i) (fop .sub .f32 q0m (gF q0e (ixO 0 i 3)))) (fop .mul .f32 1073741824 (gF q0e (ixO 0 i 3)))) (fop .add .f32 (fop .quo .f32 (fop .mul .f32 (fOI .f32 q0i) (fop .sub .f32 q0m (gF q0e (ixO 0 i 3)))) (fop .mul .f32 1073741824 (gF q0e (ixO 0 i 3)))) (z1h q16))))))
noncomputable def z5l (q00:Nat) (q04:List Nat) (q02:Nat) (q07:List Nat) (q01:Nat) (q08:List Nat) (q0a:Nat) (q0e:List Nat) (q0i:Int) (q0n q0m:Nat) (i:Int) (q16:Nat):Option (Nat):=z7g q00 q04 q02 q07 q01 q08 q0a q0e q0i q0n q0m i q16 (fun c0_=>some c0_)
theorem zrj {R R':Type} (o:Option R→Option R') (h0:o none=none) (q00:Nat) (q04:List Nat) (q02:Nat) (q07:List Nat) (q01:Nat) (q08:List Nat) (q0a:Nat) (q0e:List Nat) (q0i:Int) (q0n q0m:Nat) (i:Int) (q16:Nat) (k_:Nat→Option R):z7g q00 q04 q02 q07 q01 q08 q0a q0e q0i q0n q0m i q16 (fun c0_=>o (k_ c0_))=o (z7g q00 q04 q02 q07 q01 q08 q0a q0e q0i q0n q0m i q16 k_):=by
 unfold z7g
 repeat (first | refine z02 h0 ?_ | refine z07 ?_ ?_ | rfl | exact h0.symm)
noncomputable def za0 (q00:Nat) (q04:List Nat) (q02:Nat) (q07:List Nat) (q01:Nat) (q08:List Nat) (q0a:Nat) (q0e:List Nat) (q0i:Int) (q0n q0m:Nat) (i:Int) (q16:Nat):Bool:=(z5l q00 q04 q02 q07 q01 q08 q0a q0e q0i q0n q0m i q16).isSome
noncomputable def z6l (q00:Nat) (q04:List Nat) (q02:Nat) (q07:List Nat) (q01:Nat) (q08:List Nat) (q0a:Nat) (q0e:List Nat) (q0i:Int) (q0n q0m:Nat) (i:Int) (q16:Nat):Nat:=((z5l q00 q04 q02 q07 q01 q08 q0a q0e q0i q0n q0m i q16).getD default)
theorem zua {q00:Nat} {q04:List Nat} {q02:Nat} {q07:List Nat} {q01:Nat} {q08:List Nat} {q0a:Nat} {q0e:List Nat} {q0i:Int} {q0n q0m:Nat} {i:Int} {q16 r:Nat} (h:z5l q00 q04 q02 q07 q01 q08 q0a q0e q0i q0n q0m i q16=some r):za0 q00 q04 q02 q07 q01 q08 q0a q0e q0i q0n q0m i q16=true∧z6l q00 q04 q02 q07 q01 q08 q0a q0e q0i q0n q0m i q16=r:=by
 unfold za0 z6l
 rw[h]
 exact⟨rfl,rfl⟩
noncomputable def z0d {R:Type} (sn:Nat) (t7:Int) (b0:List Nat) (b4:Nat) (t8:Int) (kn_:Int→Option R) (k0_:Int→Option R) (k1_:Int→Bool→Option R):Option R:=(br (ltI t8 t7) (grd (okIx t8 sn) (br (fcmp .gtr .f32 (gF b0 (ixO 0 t8 1)) b4) (k0_ t8) (kn_ (addI .i64 t8 1)))) (k1_ t8 (ltI t8 t7)))
theorem zbq {R R':Type} (o:Option R→Option R') (h0:o none=none) (sn:Nat) (t7:Int) (b0:List Nat) (b4:Nat) (t8:Int) (kn_:Int→Option R) (k0_:Int→Option R) (k1_:Int→Bool→Option R):z0d sn t7 b0 b4 t8 (fun t8'=>o (kn_ t8')) (fun c0_=>o (k0_ c0_)) (fun c0_ c1_=>o (k1_ c0_ c1_))=o (z0d sn t7 b0 b4 t8 kn_ k0_ k1_):=by
 unfold z0d
 repeat (first | refine z02 h0 ?_ | refine z07 ?_ ?_ | rfl | exact h0.symm)
noncomputable def z01 (sn:Nat) (t7:Int) (b0:List Nat) (b4:Nat):Nat→Int→Option ((Int)⊕(Int×Bool))
 | 0,_=>none
 | n+1,t8=>z0d sn t7 b0 b4  t8  (fun t8'=>z01 sn t7 b0 b4 n t8') (fun c0_=>some (Sum.inl c0_)) (fun c0_ c1_=>some (Sum.inr (c0_,c1_)))
theorem z5b (sn:Nat) (t7:Int) (b0:List Nat) (b4 n:Nat) (t8:Int):z01 sn t7 b0 b4 (n+1) t8=z0d sn t7 b0 b4  t8  (fun t8'=>z01 sn t7 b0 b4 n t8') (fun c0_=>some (Sum.inl c0_)) (fun c0_ c1_=>some (Sum.inr (c0_,c1_))):=rfl
noncomputable def z0n (sn:Nat) (t7:Int) (b0:List Nat) (b4:Nat) (t8:Int):Bool:=(z01 sn t7 b0 b4 big t8).isSome
noncomputable def z0m (sn:Nat) (t7:Int) (b0:List Nat) (b4:Nat) (t8:Int):Bool:=oL (z01 sn t7 b0 b4 big t8)
noncomputable def z05 (sn:Nat) (t7:Int) (b0:List Nat) (b4:Nat) (t8:Int):Int:=((tL (z01 sn t7 b0 b4 big t8)).getD default)
noncomputable def z3c (sn:Nat) (t7:Int) (b0:List Nat) (b4:Nat) (t8:Int):Int:=((tR (z01 sn t7 b0 b4 big t8)).getD default).1
noncomputable def z3h (sn:Nat) (t7:Int) (b0:List Nat) (b4:Nat) (t8:Int):Bool:=((tR (z01 sn t7 b0 b4 big t8)).getD default).2
theorem zcv {sn:Nat} {t7:Int} {b0:List Nat} {b4:Nat} {t8:Int} {m:Nat} {r:Int} (hm:m=big) (h:z01 sn t7 b0 b4 m t8=some (Sum.inl r)):z0n sn t7 b0 b4 t8=true∧z0m sn t7 b0 b4 t8=true∧z05 sn t7 b0 b4 t8=r:=by
 subst hm
 unfold z0n z0m z05
 rw[h]
 exact⟨rfl,rfl,rfl⟩
theorem zcs {sn:Nat} {t7:Int} {b0:List Nat} {b4:Nat} {t8:Int} {m:Nat} {r:Int×Bool} (hm:m=big) (h:z01 sn t7 b0 b4 m t8=some (Sum.inr r)):z0n sn t7 b0 b4 t8=true∧z0m sn t7 b0 b4 t8=false∧z3c sn t7 b0 b4 t8=r.1∧z3h sn t7 b0 b4 t8=r.2:=by
 subst hm
 unfold z0n z0m z3c z3h
 rw[h]
 exact⟨rfl,rfl,rfl,rfl⟩
noncomputable def z46 {R:Type} (t8:Nat) (b0:List Nat) (q1b:Nat) (t10:Int) (kn_:Int→Option R) (k0_:Int→Bool→Option R):Option R:=(br (leI 0 t10) (grd (okIx t10 q1b) (br (fcmp .gtr .f32 (gF b0 (ixO 0 t10 1)) t8) (kn_ (subI .i64 t10 1)) (k0_ t10 (fcmp .gtr .f32 (gF b0 (ixO 0 t10 1)) t8)))) (k0_ t10 Bool.false))
theorem zut {R R':Type} (o:Option R→Option R') (h0:o none=none) (t8:Nat) (b0:List Nat) (q1b:Nat) (t10:Int) (kn_:Int→Option R) (k0_:Int→Bool→Option R):z46 t8 b0 q1b t10 (fun t10'=>o (kn_ t10')) (fun c0_ c1_=>o (k0_ c0_ c1_))=o (z46 t8 b0 q1b t10 kn_ k0_):=by
 unfold z46
 repeat (first | refine z02 h0 ?_ | refine z07 ?_ ?_ | rfl | exact h0.symm)
noncomputable def z2p (t8:Nat) (b0:List Nat) (q1b:Nat):Nat→Int→Option ((Int×Bool))
 | 0,_=>none
 | n+1,t10=>z46 t8 b0 q1b  t10  (fun t10'=>z2p t8 b0 q1b n t10') (fun c0_ c1_=>some (c0_,c1_))
theorem zlj (t8:Nat) (b0:List Nat) (q1b n:Nat) (t10:Int):z2p t8 b0 q1b (n+1) t10=z46 t8 b0 q1b  t10  (fun t10'=>z2p t8 b0 q1b n t10') (fun c0_ c1_=>some (c0_,c1_)):=rfl
noncomputable def zfg (t8:Nat) (b0:List Nat) (q1b:Nat) (t10:Int):Bool:=(z2p t8 b0 q1b big t10).isSome
noncomputable def zas (t8:Nat) (b0:List Nat) (q1b:Nat) (t10:Int):Int:=((z2p t8 b0 q1b big t10).getD default).1
noncomputable def zhr (t8:Nat) (b0:List Nat) (q1b:Nat) (t10:Int):Bool:=((z2p t8 b0 q1b big t10).getD default).2
theorem zod {t8:Nat} {b0:List Nat} {q1b:Nat} {t10:Int} {m:Nat} {r:Int×Bool} (hm:m=big) (h:z2p t8 b0 q1b m t10=some r):zfg t8 b0 q1b t10=true∧zas t8 b0 q1b t10=r.1∧zhr t8 b0 q1b t10=r.2:=by
 subst hm
 unfold zfg zas zhr
 rw[h]
 exact⟨rfl,rfl,rfl⟩
noncomputable def zhz {R:Type} (q00:Nat) (q04:List Nat) (q02:Nat) (q07:List Nat) (q01:Nat) (q08:List Nat) (q0a:Nat) (q0e:List Nat) (q0i:Int) (q0n q0m:Nat) (i:Int) (q0w q0r q0o:Nat) (k_:Bool→Option R):Option R:=(grd (zfm q00 (pF q04 0 (muN q00 1)) q02 (pF q07 0 (muN q02 1)) q01 (pF q08 0 (muN q01 1)) q0a (pF q0e 0 (muN q0a 3)) q0i q0n q0m i) (br (zds q00 (pF q04 0 (muN q00 1)) q02 (pF q07 0 (muN q02 1)) q01 (pF q08 0 (muN q01 1)) q0a (pF q0e 0 (muN q0a 3)) q0i q0n q0m i) (grd (z7x q0w) (br (z71 q0w) (grd (z7x q0r) (br (z71 q0r) (grd (z10 q0o) (br (z0u q0o) (grd (zj4 q00 (pF q04 0 (muN q00 1)) q02 (pF q07 0 (muN q02 1)) q01 (pF q08 0 (muN q01 1)) q0a (pF q0e 0 (muN q0a 3)) q0i q0n q0m i q0o) (k_ (zhm q00 (pF q04 0 (muN q00 1)) q02 (pF q07 0 (muN q02 1)) q01 (pF q08 0 (muN q01 1)) q0a (pF q0e 0 (muN q0a 3)) q0i q0n q0m i q0o))) (k_ Bool.false))) (k_ Bool.false))) (k_ Bool.false))) (k_ Bool.false)))
noncomputable def zd4 (q00:Nat) (q04:List Nat) (q02:Nat) (q07:List Nat) (q01:Nat) (q08:List Nat) (q0a:Nat) (q0e:List Nat) (q0i:Int) (q0n q0m:Nat) (i:Int) (q0w q0r q0o:Nat):Option (Bool):=zhz q00 q04 q02 q07 q01 q08 q0a q0e q0i q0n q0m i q0w q0r q0o (fun c0_=>some c0_)
theorem y0p {R R':Type} (o:Option R→Option R') (h0:o none=none) (q00:Nat) (q04:List Nat) (q02:Nat) (q07:List Nat) (q01:Nat) (q08:List Nat) (q0a:Nat) (q0e:List Nat) (q0i:Int) (q0n q0m:Nat) (i:Int) (q0w q0r q0o:Nat) (k_:Bool→Option R):zhz q00 q04 q02 q07 q01 q08 q0a q0e q0i q0n q0m i q0w q0r q0o (fun c0_=>o (k_ c0_))=o (zhz q00 q04 q02 q07 q01 q08 q0a q0e q0i q0n q0m i q0w q0r q0o k_):=by
 unfold zhz
 repeat (first | refine z02 h0 ?_ | refine z07 ?_ ?_ | rfl | exact h0.symm)
noncomputable def zlu (q00:Nat) (q04:List Nat) (q02:Nat) (q07:List Nat) (q01:Nat) (q08:List Nat) (q0a:Nat) (q0e:List Nat) (q0i:Int) (q0n q0m:Nat) (i:Int) (q0w q0r q0o:Nat):Bool:=(zd4 q00 q04 q02 q07 q01 q08 q0a q0e q0i q0n q0m i q0w q0r q0o).isSome
noncomputable def zl0 (q00:Nat) (q04:List Nat) (q02:Nat) (q07:List Nat) (q01:Nat) (q08:List Nat) (q0a:Nat) (q0e:List Nat) (q0i:Int) (q0n q0m:Nat) (i:Int) (q0w q0r q0o:Nat):Bool:=((zd4 q00 q04 q02 q07 q01 q08 q0a q0e q0i q0n q0m i q0w q0r q0o).getD default)
theorem y5t {q00:Nat} {q04:List Nat} {q02:Nat} {q07:List Nat} {q01:Nat} {q08:List Nat} {q0a:Nat} {q0e:List Nat} {q0i:Int} {q0n q0m:Nat} {i:Int} {q0w q0r q0o:Nat} {r:Bool} (h:zd4 q00 q04 q02 q07 q01 q08 q0a q0e q0i q0n q0m i q0w q0r q0o=some r):zlu q00 q04 q02 q07 q01 q08 q0a q0e q0i q0n q0m i q0w q0r q0o=true∧zl0 q00 q04 q02 q07 q01 q08 q0a q0e q0i q0n q0m i q0w q0r q0o=r:=by
 unfold zlu zl0
 rw[h]
 exact⟨rfl,rfl⟩
noncomputable def z4u {R:Type} (q0g:Nat) (q0l:List Nat) (q0q:Nat) (q0t:List Nat) (q0p:Nat) (q0u:List Nat) (x1:Nat) (k_:Int→Int→Nat→Nat→Nat→Option R):Option R:=(grd (zhf x1) (grd (z0n q0g (Int.ofNat q0g) q0l (z0s x1) 0) (br (z0m q0g (Int.ofNat q0g) q0l (z0s x1) 0) (br (eqI (z05 q0g (Int.ofNat q0g) q0l (z0s x1) 0) 0) (grd (okIx (subI .i64 (Int.ofNat q0g) 1) q0g) (grd (okIx 0 q0g) (k_ (subI .i64 (Int.ofNat q0g) 1) 0 (fop .sub .f32 (gF q0l (ixO 0 (subI .i64 (Int.ofNat q0g) 1) 1)) 1065353216) (gF q0l (ixO 0 0 1)) (z0s x1)))) (br (ltI (z05 q0g (Int.ofNat q0g) q0l (z0s x1) 0) 0) (grd (okIx (subI .i64 (Int.ofNat q0g) 1) q0g) (grd (okIx 0 q0g) (k_ (subI .i64 (Int.ofNat q0g) 1) 0 (gF q0l (ixO 0 (subI .i64 (Int.ofNat q0g) 1) 1)) (fop .add .f32 (gF q0l (ixO 0 0 1)) 1065353216) (z0s x1)))) (grd (okIx (subI .i64 (z05 q0g (Int.ofNat q0g) q0l (z0s x1) 0) 1) q0g) (grd (okIx (z05 q0g (Int.ofNat q0g) q0l (z0s x1) 0) q0g) (k_ (subI .i64 (z05 q0g (Int.ofNat q0g) q0l (z0s x1) 0) 1) (z05 q0g (Int.ofNat q0g) q0l (z0s x1) 0) (gF q0l (ixO 0 (subI .i64 (z05 q0g (Int.ofNat q0g) q0l (z0s x1) 0) 1) 1)) (gF q0l (ixO 0 (z05 q0g (Int.ofNat q0g) q0l (z0s x1) 0) 1)) (z0s x1)))))) (grd (okIx (subI .i64 (Int.ofNat q0g) 1) q0g) (grd (okIx 0 q0g) (k_ (subI .i64 (Int.ofNat q0g) 1) 0 (gF q0l (ixO 0 (subI .i64 (Int.ofNat q0g) 1) 1)) (fop .add .f32 (gF q0l (ixO 0 0 1)) 1065353216) (z0s x1)))))))
noncomputable def z1c (q0g:Nat) (q0l:List Nat) (q0q:Nat) (q0t:List Nat) (q0p:Nat) (q0u:List Nat) (x1:Nat):Option (Int×Int×Nat×Nat×Nat):=z4u q0g q0l q0q q0t q0p q0u x1 (fun c0_ c1_ c2_ c3_ c4_=>some (c0_,c1_,c2_,c3_,c4_))
theorem zqe {R R':Type} (o:Option R→Option R') (h0:o none=none) (q0g:Nat) (q0l:List Nat) (q0q:Nat) (q0t:List Nat) (q0p:Nat) (q0u:List Nat) (x1:Nat) (k_:Int→Int→Nat→Nat→Nat→Option R):z4u q0g q0l q0q q0t q0p q0u x1 (fun c0_ c1_ c2_ c3_ c4_=>o (k_ c0_ c1_ c2_ c3_ c4_))=o (z4u q0g q0l q0q q0t q0p q0u x1 k_):=by
 unfold z4u
 repeat (first | refine z02 h0 ?_ | refine z07 ?_ ?_ | rfl | exact h0.symm)
noncomputable def z9i (q0g:Nat) (q0l:List Nat) (q0q:Nat) (q0t:List Nat) (q0p:Nat) (q0u:List Nat) (x1:Nat):Bool:=(z1c q0g q0l q0q q0t q0p q0u x1).isSome
noncomputable def z1u (q0g:Nat) (q0l:List Nat) (q0q:Nat) (q0t:List Nat) (q0p:Nat) (q0u:List Nat) (x1:Nat):Int:=((z1c q0g q0l q0q q0t q0p q0u x1).getD default).1
noncomputable def z1r (q0g:Nat) (q0l:List Nat) (q0q:Nat) (q0t:List Nat) (q0p:Nat) (q0u:List Nat) (x1:Nat):Int:=((z1c q0g q0l q0q q0t q0p q0u x1).getD default).2.1
noncomputable def z2l (q0g:Nat) (q0l:List Nat) (q0q:Nat) (q0t:List Nat) (q0p:Nat) (q0u:List Nat) (x1:Nat):Nat:=((z1c q0g q0l q0q q0t q0p q0u x1).getD default).2.2.1
noncomputable def z4j (q0g:Nat) (q0l:List Nat) (q0q:Nat) (q0t:List Nat) (q0p:Nat) (q0u:List Nat) (x1:Nat):Nat:=((z1c q0g q0l q0q q0t q0p q0u x1).getD default).2.2.2.1
noncomputable def z65 (q0g:Nat) (q0l:List Nat) (q0q:Nat) (q0t:List Nat) (q0p:Nat) (q0u:List Nat) (x1:Nat):Nat:=((z1c q0g q0l q0q q0t q0p q0u x1).getD default).2.2.2.2
theorem zt4 {q0g:Nat} {q0l:List Nat} {q0q:Nat} {q0t:List Nat} {q0p:Nat} {q0u:List Nat} {x1:Nat} {r:Int×Int×Nat×Nat×Nat} (h:z1c q0g q0l q0q q0t q0p q0u x1=some r):z9i q0g q0l q0q q0t q0p q0u x1=true∧z1u q0g q0l q0q q0t q0p q0u x1=r.1∧z1r q0g q0l q0q q0t q0p q0u x1=r.2.1∧z2l q0g q0l q0q q0t q0p q0u x1=r.2.2.1∧z4j q0g q0l q0q q0t q0p q0u x1=r.2.2.2.1∧z65 q0g q0l q0q q0t q0p q0u x1=r.2.2.2.2:=by
 unfold z9i z1u z1r z2l z4j z65
 rw[h]
 exact⟨rfl,rfl,rfl,rfl,rfl,rfl⟩
noncomputable def ze1 (q0l:List Nat):=(fop .add .f32 (gF q0l (ixO 0 0 1)) 1065353216)
noncomputable def z09 (q0g:Nat) (q0l:List Nat) (x1:Nat):=(zas (z3u x1) q0l q0g (subI .i64 (Int.ofNat q0g) 1))
noncomputable def z9s (q0g:Nat) (q0l:List Nat):=(gF q0l (ixO 0 (subI .i64 (Int.ofNat q0g) 1) 1))
noncomputable def zed (q0l:List Nat) (x1:Nat):=(fcmp .lss .f32 (z3u x1) (gF q0l (ixO 0 0 1)))
noncomputable def zdu (q0g:Nat) (q0l:List Nat) (x1:Nat):=(okIx (z09 q0g q0l x1) q0g)
noncomputable def zdp (q0g:Nat) (q0l:List Nat):=(fop .sub .f32 (z9s q0g q0l) 1065353216)
noncomputable def za6 (q0g:Nat) (q0l:List Nat) (x1:Nat):=(eqI (addI .i64 (z09 q0g q0l x1) 1) 0)
noncomputable def z6a (q0g:Nat) (q0l:List Nat) (x1:Nat):=(gF q0l (ixO 0 (z09 q0g q0l x1) 1))
noncomputable def z7p (q0g:Nat) (q0l:List Nat) (x1:Nat):=(gF q0l (ixO 0 (addI .i64 (z09 q0g q0l x1) 1) 1))
noncomputable def za2 (q0g:Nat) (q0l:List Nat) (x1:Nat):=(fop .sub .f32 (z6a q0g q0l x1) 1065353216)
noncomputable def z5r (q0g:Nat) (q0l:List Nat) (x1:Nat):=(fop .sub .f32 (z3u x1) (z6a q0g q0l x1))
noncomputable def z6y (q0g:Nat) (q0l:List Nat):=(fop .sub .f32 (ze1 q0l) (z9s q0g q0l))
noncomputable def z75 (q0g:Nat) (q0l:List Nat):=(fop .sub .f32 (gF q0l (ixO 0 0 1)) (zdp q0g q0l))
noncomputable def zc0 (q0g:Nat) (q0l:List Nat) (x1:Nat):=(fop .sub .f32 (z3u x1) (za2 q0g q0l x1))
noncomputable def z73 (q0g:Nat) (q0l:List Nat) (x1:Nat):=(fop .sub .f32 (ze1 q0l) (z6a q0g q0l x1))
noncomputable def z6v (q0g:Nat) (q0l:List Nat) (x1:Nat):=(fop .sub .f32 (gF q0l (ixO 0 0 1)) (za2 q0g q0l x1))
noncomputable def z3g (q0g:Nat) (q0l:List Nat) (x1:Nat):=(fop .sub .f32 (z7p q0g q0l x1) (z6a q0g q0l x1))
noncomputable def z70 (q0g:Nat) (q0l:List Nat) (x1:Nat):=(fop .sub .f32 (z7p q0g q0l x1) (za2 q0g q0l x1))
noncomputable def z3b (q0g:Nat) (q0l:List Nat) (x1:Nat):=(fop .sub .f32 (fop .add .f32 (z7p q0g q0l x1) 1065353216) (z6a q0g q0l x1))
noncomputable def zbn {R:Type} (q0g:Nat) (q0l:List Nat) (q0q:Nat) (q0t:List Nat) (q0p:Nat) (q0u:List Nat) (x1:Nat) (k_:Int→Int→Nat→Nat→Option R):Option R:=(grd (zky x1) (grd (zfg (z3u x1) q0l q0g (subI .i64 (Int.ofNat q0g) 1)) (br (ltI (z09 q0g q0l x1) 0) (grd (okIx (subI .i64 (Int.ofNat q0g) 1) q0g) (grd (okIx 0 q0g) (br (zed q0l x1) (br (fcmp .eql .f32 (z75 q0g q0l) 0) (k_ (subI .i64 (Int.ofNat q0g) 1) 0 0 (z75 q0g q0l)) (k_ (subI .i64 (Int.ofNat q0g) 1) 0 (fop .quo .f32 (fop .sub .f32 (z3u x1) (zdp q0g q0l)) (z75 q0g q0l)) (z75 q0g q0l))) (br (fcmp .eql .f32 (z6y q0g q0l) 0) (k_ (subI .i64 (Int.ofNat q0g) 1) 0 0 (z6y q0g q0l)) (k_ (subI .i64 (Int.ofNat q0g) 1) 0 (fop .quo .f32 (fop .sub .f32 (z3u x1) (z9s q0g q0l)) (z6y q0g q0l)) (z6y q0g q0l)))))) (br (eqI (addI .i64 (z09 q0g q0l x1) 1) (Int.ofNat q0g)) (grd (zdu q0g q0l x1) (grd (okIx 0 q0g) (br (zed q0l x1) (br (fcmp .eql .f32 (z6v q0g q0l x1) 0) (k_ (z09 q0g q0l x1) 0 0 (z6v q0g q0l x1)) (k_ (z09 q0g q0l x1) 0 (fop .quo .f32 (zc0 q0g q0l x1) (z6v q0g q0l x1)) (z6v q0g q0l x1))) (br (fcmp .eql .f32 (z73 q0g q0l x1) 0) (k_ (z09 q0g q0l x1) 0 0 (z73 q0g q0l x1)) (k_ (z09 q0g q0l x1) 0 (fop .quo .f32 (z5r q0g q0l x1) (z73 q0g q0l x1)) (z73 q0g q0l x1)))))) (grd (zdu q0g q0l x1) (grd (okIx (addI .i64 (z09 q0g q0l x1) 1) q0g) (br (za6 q0g q0l x1) (br (fcmp .lss .f32 (z3u x1) (z7p q0g q0l x1)) (br (fcmp .eql .f32 (z70 q0g q0l x1) 0) (k_ (z09 q0g q0l x1) (addI .i64 (z09 q0g q0l x1) 1) 0 (z70 q0g q0l x1)) (k_ (z09 q0g q0l x1) (addI .i64 (z09 q0g q0l x1) 1) (fop .quo .f32 (zc0 q0g q0l x1) (z70 q0g q0l x1)) (z70 q0g q0l x1))) (br (za6 q0g q0l x1) (br (fcmp .eql .f32 (z3b q0g q0l x1) 0) (k_ (z09 q0g q0l x1) (addI .i64 (z09 q0g q0l x1) 1) 0 (z3b q0g q0l x1)) (k_ (z09 q0g q0l x1) (addI .i64 (z09 q0g q0l x1) 1) (fop .quo .f32 (z5r q0g q0l x1) (z3b q0g q0l x1)) (z3b q0g q0l x1))) (br (fcmp .eql .f32 (z3g q0g q0l x1) 0) (k_ (z09 q0g q0l x1) (addI .i64 (z09 q0g q0l x1) 1) 0 (z3g q0g q0l x1)) (k_ (z09 q0g q0l x1) (addI .i64 (z09 q0g q0l x1) 1) (fop .quo .f32 (z5r q0g q0l x1) (z3g q0g q0l x1)) (z3g q0g q0l x1))))) (br (za6 q0g q0l x1) (br (fcmp .eql .f32 (z3b q0g q0l x1) 0) (k_ (z09 q0g q0l x1) (addI .i64 (z09 q0g q0l x1) 1) 0 (z3b q0g q0l x1)) (k_ (z09 q0g q0l x1) (addI .i64 (z09 q0g q0l x1) 1) (fop .quo .f32 (z5r q0g q0l x1) (z3b q0g q0l x1)) (z3b q0g q0l x1))) (br (fcmp .eql .f32 (z3g q0g q0l x1) 0) (k_ (z09 q0g q0l x1) (addI .i64 (z09 q0g q0l x1) 1) 0 (z3g q0g q0l x1)) (k_ (z09 q0g q0l x1) (addI .i64 (z09 q0g q0l x1) 1) (fop .quo .f32 (z5r q0g q0l x1) (z3g q0g q0l x1)) (z3g q0g q0l x1)))))))))))
noncomputable def z4w (q0g:Nat) (q0l:List Nat) (q0q:Nat) (q0t:List Nat) (q0p:Nat) (q0u:List Nat) (x1:Nat):Option (Int×Int×Nat×Nat):=zbn q0g q0l q0q q0t q0p q0u x1 (fun c0_ c1_ c2_ c3_=>some (c0_,c1_,c2_,c3_))
theorem zys {R R':Type} (o:Option R→Option R') (h0:o none=none) (q0g:Nat) (q0l:List Nat) (q0q:Nat) (q0t:List Nat) (q0p:Nat) (q0u:List Nat) (x1:Nat) (k_:Int→Int→Nat→Nat→Option R):zbn q0g q0l q0q q0t q0p q0u x1 (fun c0_ c1_ c2_ c3_=>o (k_ c0_ c1_ c2_ c3_))=o (zbn q0g q0l q0q q0t q0p q0u x1 k_):=by
 unfold zbn
 repeat (first | refine z02 h0 ?_ | refine z07 ?_ ?_ | rfl | exact h0.symm)
noncomputable def zkw (q0g:Nat) (q0l:List Nat) (q0q:Nat) (q0t:List Nat) (q0p:Nat) (q0u:List Nat) (x1:Nat):Bool:=(z4w q0g q0l q0q q0t q0p q0u x1).isSome
noncomputable def z7o (q0g:Nat) (q0l:List Nat) (q0q:Nat) (q0t:List Nat) (q0p:Nat) (q0u:List Nat) (x1:Nat):Int:=((z4w q0g q0l q0q q0t q0p q0u x1).getD default).1
noncomputable def ze6 (q0g:Nat) (q0l:List Nat) (q0q:Nat) (q0t:List Nat) (q0p:Nat) (q0u:List Nat) (x1:Nat):Int:=((z4w q0g q0l q0q q0t q0p q0u x1).getD default).2.1
noncomputable def zj7 (q0g:Nat) (q0l:List Nat) (q0q:Nat) (q0t:List Nat) (q0p:Nat) (q0u:List Nat) (x1:Nat):Nat:=((z4w q0g q0l q0q q0t q0p q0u x1).getD default).2.2.1
noncomputable def znd (q0g:Nat) (q0l:List Nat) (q0q:Nat) (q0t:List Nat) (q0p:Nat) (q0u:List Nat) (x1:Nat):Nat:=((z4w q0g q0l q0q q0t q0p q0u x1).getD default).2.2.2
theorem y3j {q0g:Nat} {q0l:List Nat} {q0q:Nat} {q0t:List Nat} {q0p:Nat} {q0u:List Nat} {x1:Nat} {r:Int×Int×Nat×Nat} (h:z4w q0g q0l q0q q0t q0p q0u x1=some r):zkw q0g q0l q0q q0t q0p q0u x1=true∧z7o q0g q0l q0q q0t q0p q0u x1=r.1∧ze6 q0g q0l q0q q0t q0p q0u x1=r.2.1∧zj7 q0g q0l q0q q0t q0p q0u x1=r.2.2.1∧znd q0g q0l q0q q0t q0p q0u x1=r.2.2.2:=by
 unfold zkw z7o ze6 zj7 znd
 rw[h]
 exact⟨rfl,rfl,rfl,rfl,rfl⟩
noncomputable def z25 {R:Type} (q1q:Nat) (t43:Int) (b0:List Nat) (q1b:Nat) (t44:Int) (kn_:Int→Option R) (k0_:Unit→Option R) (k1_:Int→Bool→Option R):Option R:=(br (ltI t44 t43) (grd (okIx t44 q1q) (grd (zeh (gF b0 (ixO 0 t44 1)) 3204448256 1056964608) (br (bnot (zbx (gF b0 (ixO 0 t44 1)) 3204448256 1056964608)) (k0_ ()) (br (ltI 0 t44) (grd (okIx (subI .i64 t44 1) q1b) (br (fcmp .geq .f32 (gF b0 (ixO 0 (subI .i64 t44 1) 1)) (gF b0 (ixO 0 t44 1))) (k0_ ()) (kn_ (addI .i64 t44 1)))) (kn_ (addI .i64 t44 1)))))) (k1_ t44 (ltI t44 t43)))
theorem zqh {R R':Type} (o:Option R→Option R') (h0:o none=none) (q1q:Nat) (t43:Int) (b0:List Nat) (q1b:Nat) (t44:Int) (kn_:Int→Option R) (k0_:Unit→Option R) (k1_:Int→Bool→Option R):z25 q1q t43 b0 q1b t44 (fun t44'=>o (kn_ t44')) (fun _=>o (k0_ ())) (fun c0_ c1_=>o (k1_ c0_ c1_))=o (z25 q1q t43 b0 q1b t44 kn_ k0_ k1_):=by
 unfold z25
 repeat (first | refine z02 h0 ?_ | refine z07 ?_ ?_ | rfl | exact h0.symm)
noncomputable def z14 (q1q:Nat) (t43:Int) (b0:List Nat) (q1b:Nat):Nat→Int→Option ((Unit)⊕(Int×Bool))
 | 0,_=>none
 | n+1,t44=>z25 q1q t43 b0 q1b  t44  (fun t44'=>z14 q1q t43 b0 q1b n t44') (fun _=>some (Sum.inl ())) (fun c0_ c1_=>some (Sum.inr (c0_,c1_)))
theorem zh6 (q1q:Nat) (t43:Int) (b0:List Nat) (q1b n:Nat) (t44:Int):z14 q1q t43 b0 q1b (n+1) t44=z25 q1q t43 b0 q1b  t44  (fun t44'=>z14 q1q t43 b0 q1b n t44') (fun _=>some (Sum.inl ())) (fun c0_ c1_=>some (Sum.inr (c0_,c1_))):=rfl
noncomputable def z42 (q1q:Nat) (t43:Int) (b0:List Nat) (q1b:Nat) (t44:Int):Bool:=(z14 q1q t43 b0 q1b big t44).isSome
noncomputable def z3o (q1q:Nat) (t43:Int) (b0:List Nat) (q1b:Nat) (t44:Int):Bool:=oL (z14 q1q t43 b0 q1b big t44)
noncomputable def zax (q1q:Nat) (t43:Int) (b0:List Nat) (q1b:Nat) (t44:Int):Int:=((tR (z14 q1q t43 b0 q1b big t44)).getD default).1
noncomputable def zbe (q1q:Nat) (t43:Int) (b0:List Nat) (q1b:Nat) (t44:Int):Bool:=((tR (z14 q1q t43 b0 q1b big t44)).getD default).2
theorem zrs {q1q:Nat} {t43:Int} {b0:List Nat} {q1b:Nat} {t44:Int} {m:Nat} {r:Unit} (hm:m=big) (h:z14 q1q t43 b0 q1b m t44=some (Sum.inl r)):z42 q1q t43 b0 q1b t44=true∧z3o q1q t43 b0 q1b t44=true:=by
 subst hm
 unfold z42 z3o
 rw[h]
 exact⟨rfl,rfl⟩
theorem zs6 {q1q:Nat} {t43:Int} {b0:List Nat} {q1b:Nat} {t44:Int} {m:Nat} {r:Int×Bool} (hm:m=big) (h:z14 q1q t43 b0 q1b m t44=some (Sum.inr r)):z42 q1q t43 b0 q1b t44=true∧z3o q1q t43 b0 q1b t44=false∧zax q1q t43 b0 q1b t44=r.1∧zbe q1q t43 b0 q1b t44=r.2:=by
 subst hm
 unfold z42 z3o zax zbe
 rw[h]
 exact⟨rfl,rfl,rfl,rfl⟩
noncomputable def z58 {R:Type} (q0g:Nat) (q0l:List Nat) (q0q:Nat) (q0t:List Nat) (q0p:Nat) (q0u:List Nat) (k_:Bool→Option R):Option R:=(br (ltI (Int.ofNat q0g) 2) (k_ Bool.false) (br (ltI 24 (Int.ofNat q0g)) (k_ Bool.false) (br (neI (Int.ofNat q0q) (Int.ofNat q0g)) (k_ Bool.false) (br (neI (Int.ofNat q0p) (Int.ofNat q0g)) (k_ Bool.false) (grd (zc4 q0q (pF q0t 0 (muN q0q 1))) (br (bnot (zao q0q (pF q0t 0 (muN q0q 1)))) (k_ Bool.false) (grd (zj5 q0p (pF q0u 0 (muN q0p 1))) (br (bnot (zhb q0p (pF q0u 0 (muN q0p 1)))) (k_ Bool.false) (grd (z42 q0g (Int.ofNat q0g) q0l q0g 0) (br (z3o q0g (Int.ofNat q0g) q0l q0g 0) (k_ Bool.false) (k_ Bool.true)))))))))))
noncomputable def z3k (q0g:Nat) (q0l:List Nat) (q0q:Nat) (q0t:List Nat) (q0p:Nat) (q0u:List Nat):Option (Bool):=z58 q0g q0l q0q q0t q0p q0u (fun c0_=>some c0_)
theorem zss {R R':Type} (o:Option R→Option R') (h0:o none=none) (q0g:Nat) (q0l:List Nat) (q0q:Nat) (q0t:List Nat) (q0p:Nat) (q0u:List Nat) (k_:Bool→Option R):z58 q0g q0l q0q q0t q0p q0u (fun c0_=>o (k_ c0_))=o (z58 q0g q0l q0q q0t q0p q0u k_):=by
 unfold z58
 repeat (first | refine z02 h0 ?_ | refine z07 ?_ ?_ | rfl | exact h0.symm)
noncomputable def zcn (q0g:Nat) (q0l:List Nat) (q0q:Nat) (q0t:List Nat) (q0p:Nat) (q0u:List Nat):Bool:=(z3k q0g q0l q0q q0t q0p q0u).isSome
noncomputable def zat (q0g:Nat) (q0l:List Nat) (q0q:Nat) (q0t:List Nat) (q0p:Nat) (q0u:List Nat):Bool:=((z3k q0g q0l q0q q0t q0p q0u).getD default)
theorem zo3 {q0g:Nat} {q0l:List Nat} {q0q:Nat} {q0t:List Nat} {q0p:Nat} {q0u:List Nat} {r:Bool} (h:z3k q0g q0l q0q q0t q0p q0u=some r):zcn q0g q0l q0q q0t q0p q0u=true∧zat q0g q0l q0q q0t q0p q0u=r:=by
 unfold zcn zat
 rw[h]
 exact⟨rfl,rfl⟩
noncomputable def zal {R:Type} (q0v:Nat) (q1a:List Nat) (q0x:Nat) (q1d:List Nat) (q0y:Nat) (q1c:List Nat) (q1e:Nat) (q1j:List Nat) (q1i:Nat) (k_:Nat→Option R):Option R:=(grd (z9i q0v (pF q1a 0 (muN q0v 1)) q0x (pF q1d 0 (muN q0x 1)) q0y (pF q1c 0 (muN q0y 1)) q1i) (br (fcmp .neq .f32 (z2l q0v (pF q1a 0 (muN q0v 1)) q0x (pF q1d 0 (muN q0x 1)) q0y (pF q1c 0 (muN q0y 1)) q1i) (z4j q0v (pF q1a 0 (muN q0v 1)) q0x (pF q1d 0 (muN q0x 1)) q0y (pF q1c 0 (muN q0y 1)) q1i)) (grd (okIx (z1u q0v (pF q1a 0 (muN q0v 1)) q0x (pF q1d 0 (muN q0x 1)) q0y (pF q1c 0 (muN q0y 1)) q1i) q1e) (grd (okIx (z1r q0v (pF q1a 0 (muN q0v 1)) q0x (pF q1d 0 (muN q0x 1)) q0y (pF q1c 0 (muN q0y 1)) q1i) q1e) (grd (zjp (gF q1j (ixO 0 (z1u q0v (pF q1a 0 (muN q0v 1)) q0x (pF q1d 0 (muN q0x 1)) q0y (pF q1c 0 (muN q0y 1)) q1i) 1)) (gF q1j (ixO 0 (z1r q0v (pF q1a 0 (muN q0v 1)) q0x (pF q1d 0 (muN q0x 1)) q0y (pF q1c 0 (muN q0y 1)) q1i) 1)) (fop .quo .f32 (fop .sub .f32 (z65 q0v (pF q1a 0 (muN q0v 1)) q0x (pF q1d 0 (muN q0x 1)) q0y (pF q1c 0 (muN q0y 1)) q1i) (z2l q0v (pF q1a 0 (muN q0v 1)) q0x (pF q1d 0 (muN q0x 1)) q0y (pF q1c 0 (muN q0y 1)) q1i)) (fop .sub .f32 (z4j q0v (pF q1a 0 (muN q0v 1)) q0x (pF q1d 0 (muN q0x 1)) q0y (pF q1c 0 (muN q0y 1)) q1i) (z2l q0v (pF q1a 0 (muN q0v 1)) q0x (pF q1d 0 (muN q0x 1)) q0y (pF q1c 0 (muN q0y 1)) q1i)))) (k_ (zi2 (gF q1j (ixO 0 (z1u q0v (pF q1a 0 (muN q0v 1)) q0x (pF q1d 0 (muN q0x 1)) q0y (pF q1c 0 (muN q0y 1)) q1i) 1)) (gF q1j (ixO 0 (z1r q0v (pF q1a 0 (muN q0v 1)) q0x (pF q1d 0 (muN q0x 1)) q0y (pF q1c 0 (muN q0y 1)) q1i) 1)) (fop .quo .f32 (fop .sub .f32 (z65 q0v (pF q1a 0 (muN q0v 1)) q0x (pF q1d 0 (muN q0x 1)) q0y (pF q1c 0 (muN q0y 1)) q1i) (z2l q0v (pF q1a 0 (muN q0v 1)) q0x (pF q1d 0 (muN q0x 1)) q0y (pF q1c 0 (muN q0y 1)) q1i)) (fop .sub .f32 (z4j q0v (pF q1a 0 (muN q0v 1)) q0x (pF q1d 0 (muN q0x 1)) q0y (pF q1c 0 (muN q0y 1)) q1i) (z2l q0v (pF q1a 0 (muN q0v 1)) q0x (pF q1d 0 (muN q0x 1)) q0y (pF q1c 0 (muN q0y 1)) q1i)))))))) (grd (okIx (z1u q0v (pF q1a 0 (muN q0v 1)) q0x (pF q1d 0 (muN q0x 1)) q0y (pF q1c 0 (muN q0y 1)) q1i) q1e) (grd (okIx (z1r q0v (pF q1a 0 (muN q0v 1)) q0x (pF q1d 0 (muN q0x 1)) q0y (pF q1c 0 (muN q0y 1)) q1i) q1e) (grd (zjp (gF q1j (ixO 0 (z1u q0v (pF q1a 0 (muN q0v 1)) q0x (pF q1d 0 (muN q0x 1)) q0y (pF q1c 0 (muN q0y 1)) q1i) 1)) (gF q1j (ixO 0 (z1r q0v (pF q1a 0 (muN q0v 1)) q0x (pF q1d 0 (muN q0x 1)) q0y (pF q1c 0 (muN q0y 1)) q1i) 1)) 0) (k_ (zi2 (gF q1j (ixO 0 (z1u q0v (pF q1a 0 (muN q0v 1)) q0x (pF q1d 0 (muN q0x 1)) q0y (pF q1c 0 (muN q0y 1)) q1i) 1)) (gF q1j (ixO 0 (z1r q0v (pF q1a 0 (muN q0v 1)) q0x (pF q1d 0 (muN q0x 1)) q0y (pF q1c 0 (muN q0y 1)) q1i) 1)) 0)))))))
noncomputable def z8c (q0v:Nat) (q1a:List Nat) (q0x:Nat) (q1d:List Nat) (q0y:Nat) (q1c:List Nat) (q1e:Nat) (q1j:List Nat) (q1i:Nat):Option (Nat):=zal q0v q1a q0x q1d q0y q1c q1e q1j q1i (fun c0_=>some c0_)
theorem zuj {R R':Type} (o:Option R→Option R') (h0:o none=none) (q0v:Nat) (q1a:List Nat) (q0x:Nat) (q1d:List Nat) (q0y:Nat) (q1c:List Nat) (q1e:Nat) (q1j:List Nat) (q1i:Nat) (k_:Nat→Option R):zal q0v q1a q0x q1d q0y q1c q1e q1j q1i (fun c0_=>o (k_ c0_))=o (zal q0v q1a q0x q1d q0y q1c q1e q1j q1i k_):=by
 unfold zal
 repeat (first | refine z02 h0 ?_ | refine z07 ?_ ?_ | rfl | exact h0.symm)
noncomputable def zae (q0v:Nat) (q1a:List Nat) (q0x:Nat) (q1d:List Nat) (q0y:Nat) (q1c:List Nat) (q1e:Nat) (q1j:List Nat) (q1i:Nat):Bool:=(z8c q0v q1a q0x q1d q0y q1c q1e q1j q1i).isSome
noncomputable def z5u (q0v:Nat) (q1a:List Nat) (q0x:Nat) (q1d:List Nat) (q0y:Nat) (q1c:List Nat) (q1e:Nat) (q1j:List Nat) (q1i:Nat):Nat:=((z8c q0v q1a q0x q1d q0y q1c q1e q1j q1i).getD default)
theorem zps {q0v:Nat} {q1a:List Nat} {q0x:Nat} {q1d:List Nat} {q0y:Nat} {q1c:List Nat} {q1e:Nat} {q1j:List Nat} {q1i r:Nat} (h:z8c q0v q1a q0x q1d q0y q1c q1e q1j q1i=some r):zae q0v q1a q0x q1d q0y q1c q1e q1j q1i=true∧z5u q0v q1a q0x q1d q0y q1c q1e q1j q1i=r:=by
 unfold zae z5u
 rw[h]
 exact⟨rfl,rfl⟩
noncomputable def zjj {R:Type} (q0v:Nat) (q1a:List Nat) (q0x:Nat) (q1d:List Nat) (q0y:Nat) (q1c:List Nat) (q1e:Nat) (q1j:List Nat) (q1i:Nat) (k_:Nat→Option R):Option R:=(grd (zkw q0v (pF q1a 0 (muN q0v 1)) q0x (pF q1d 0 (muN q0x 1)) q0y (pF q1c 0 (muN q0y 1)) q1i) (grd (okIx (z7o q0v (pF q1a 0 (muN q0v 1)) q0x (pF q1d 0 (muN q0x 1)) q0y (pF q1c 0 (muN q0y 1)) q1i) q1e) (grd (okIx (ze6 q0v (pF q1a 0 (muN q0v 1)) q0x (pF q1d 0 (muN q0x 1)) q0y (pF q1c 0 (muN q0y 1)) q1i) q1e) (grd (okIx (z7o q0v (pF q1a 0 (muN q0v 1)) q0x (pF q1d 0 (muN q0x 1)) q0y (pF q1c 0 (muN q0y 1)) q1i) q1e) (k_ (fop .add .f32 (gF q1j (ixO 0 (z7o q0v (pF q1a 0 (muN q0v 1)) q0x (pF q1d 0 (muN q0x 1)) q0y (pF q1c 0 (muN q0y 1)) q1i) 1)) (fop .mul .f32 (zj7 q0v (pF q1a 0 (muN q0v 1)) q0x (pF q1d 0 (muN q0x 1)) q0y (pF q1c 0 (muN q0y 1)) q1i) (fop .sub .f32 (gF q1j (ixO 0 (ze6 q0v (pF q1a 0 (muN q0v 1)) q0x (pF q1d 0 (muN q0x 1)) q0y (pF q1c 0 (muN q0y 1)) q1i) 1)) (gF q1j (ixO 0 (z7o q0v (pF q1a 0 (muN q0v 1)) q0x (pF q1d 0 (muN q0x 1)) q0y (pF q1c 0 (muN q0y 1)) q1i) 1))))))))))
noncomputable def zg7 (q0v:Nat) (q1a:List Nat) (q0x:Nat) (q1d:List Nat) (q0y:Nat) (q1c:List Nat) (q1e:Nat) (q1j:List Nat) (q1i:Nat):Option (Nat):=zjj q0v q1a q0x q1d q0y q1c q1e q1j q1i (fun c0_=>some c0_)
theorem y1u {R R':Type} (o:Option R→Option R') (h0:o none=none) (q0v:Nat) (q1a:List Nat) (q0x:Nat) (q1d:List Nat) (q0y:Nat) (q1c:List Nat) (q1e:Nat) (q1j:List Nat) (q1i:Nat) (k_:Nat→Option R):zjj q0v q1a q0x q1d q0y q1c q1e q1j q1i (fun c0_=>o (k_ c0_))=o (zjj q0v q1a q0x q1d q0y q1c q1e q1j q1i k_):=by
 unfold zjj
 repeat (first | refine z02 h0 ?_ | refine z07 ?_ ?_ | rfl | exact h0.symm)
noncomputable def zjr (q0v:Nat) (q1a:List Nat) (q0x:Nat) (q1d:List Nat) (q0y:Nat) (q1c:List Nat) (q1e:Nat) (q1j:List Nat) (q1i:Nat):Bool:=(zg7 q0v q1a q0x q1d q0y q1c q1e q1j q1i).isSome
noncomputable def zhv (q0v:Nat) (q1a:List Nat) (q0x:Nat) (q1d:List Nat) (q0y:Nat) (q1c:List Nat) (q1e:Nat) (q1j:List Nat) (q1i:Nat):Nat:=((zg7 q0v q1a q0x q1d q0y q1c q1e q1j q1i).getD default)
theorem zwu {q0v:Nat} {q1a:List Nat} {q0x:Nat} {q1d:List Nat} {q0y:Nat} {q1c:List Nat} {q1e:Nat} {q1j:List Nat} {q1i r:Nat} (h:zg7 q0v q1a q0x q1d q0y q1c q1e q1j q1i=some r):zjr q0v q1a q0x q1d q0y q1c q1e q1j q1i=true∧zhv q0v q1a q0x q1d q0y q1c q1e q1j q1i=r:=by
 unfold zjr zhv
 rw[h]
 exact⟨rfl,rfl⟩
noncomputable def z8p {R:Type} (q00:Nat) (q04:List Nat) (q02:Nat) (q07:List Nat) (q01:Nat) (q08:List Nat) (q0a:Nat) (q0e:List Nat) (q0i:Int) (q0n q0m:Nat) (i:Int) (q16 q0o:Nat) (k_:Nat→Nat→Option R):Option R:=(grd (okIx i q0a) (grd (zae q00 (pF q04 0 (muN q00 1)) q02 (pF q07 0 (muN q02 1)) q01 (pF q08 0 (muN q01 1)) q02 (pF q07 0 (muN q02 1)) (fop .sub .f32 (fop .sub .f32 q16 (gF q0e (Nat.succ (Nat.succ (ixO 0 i 3))))) q0o)) (grd (zae q00 (pF q04 0 (muN q00 1)) q02 (pF q07 0 (muN q02 1)) q01 (pF q08 0 (muN q01 1)) q01 (pF q08 0 (muN q01 1)) (fop .sub .f32 (fop .sub .f32 q16 (gF q0e (Nat.succ (Nat.succ (ixO 0 i 3))))) q0o)) (grd (z3w q16) (grd (z3w (fop .add .f32 q16 1048576000)) (k_ (fop .add .f32 (fop .mul .f32 (z5u q00 (pF q04 0 (muN q00 1)) q02 (pF q07 0 (muN q02 1)) q01 (pF q08 0 (muN q01 1)) q02 (pF q07 0 (muN q02 1)) (fop .sub .f32 (fop .sub .f32 q16 (gF q0e (Nat.succ (Nat.succ (ixO 0 i 3))))) q0o)) (z1h (fop .add .f32 q16 1048576000))) (fop .mul .f32 (z5u q00 (pF q04 0 (muN q00 1)) q02 (pF q07 0 (muN q02 1)) q01 (pF q08 0 (muN q01 1)) q01 (pF q08 0 (muN q01 1)) (fop .sub .f32 (fop .sub .f32 q16 (gF q0e (Nat.succ (Nat.succ (ixO 0 i 3))))) q0o)) (z1h q16))) (fop .sub .f32 (fop .mul .f32 (z5u q00 (pF q04 0 (muN q00 1)) q02 (pF q07 0 (muN q02 1)) q01 (pF q08 0 (muN q01 1)) q02 (pF q07 0 (muN q02 1)) (fop .sub .f32 (fop .sub .f32 q16 (gF q0e (Nat.succ (Nat.succ (ixO 0 i 3))))) q0o)) (z1h q16)) (fop .mul .f32 (z5u q00 (pF q04 0 (muN q00 1)) q02 (pF q07 0 (muN q02 1)) q01 (pF q08 0 (muN q01 1)) q01 (pF q08 0 (muN q01 1)) (fop .sub .f32 (fop .sub .f32 q16 (gF q0e (Nat.succ (Nat.succ (ixO 0 i 3))))) q0o)) (z1h (fop .add .f32 q16 1048576000))))))))))
noncomputable def z44 (q00:Nat) (q04:List Nat) (q02:Nat) (q07:List Nat) (q01:Nat) (q08:List Nat) (q0a:Nat) (q0e:List Nat) (q0i:Int) (q0n q0m:Nat) (i:Int) (q16 q0o:Nat):Option (Nat×Nat):=z8p q00 q04 q02 q07 q01 q08 q0a q0e q0i q0n q0m i q16 q0o (fun c0_ c1_=>some (c0_,c1_))
theorem zt3 {R R':Type} (o:Option R→Option R') (h0:o none=none) (q00:Nat) (q04:List Nat) (q02:Nat) (q07:List Nat) (q01:Nat) (q08:List Nat) (q0a:Nat) (q0e:List Nat) (q0i:Int) (q0n q0m:Nat) (i:Int) (q16 q0o:Nat) (k_:Nat→Nat→Option R):z8p q00 q04 q02 q07 q01 q08 q0a q0e q0i q0n q0m i q16 q0o (fun c0_ c1_=>o (k_ c0_ c1_))=o (z8p q00 q04 q02 q07 q01 q08 q0a q0e q0i q0n q0m i q16 q0o k_):=by
 unfold z8p
 repeat (first | refine z02 h0 ?_ | refine z07 ?_ ?_ | rfl | exact h0.symm)
noncomputable def z8m (q00:Nat) (q04:List Nat) (q02:Nat) (q07:List Nat) (q01:Nat) (q08:List Nat) (q0a:Nat) (q0e:List Nat) (q0i:Int) (q0n q0m:Nat) (i:Int) (q16 q0o:Nat):Bool:=(z44 q00 q04 q02 q07 q01 q08 q0a q0e q0i q0n q0m i q16 q0o).isSome
noncomputable def z7q (q00:Nat) (q04:List Nat) (q02:Nat) (q07:List Nat) (q01:Nat) (q08:List Nat) (q0a:Nat) (q0e:List Nat) (q0i:Int) (q0n q0m:Nat) (i:Int) (q16 q0o:Nat):Nat:=((z44 q00 q04 q02 q07 q01 q08 q0a q0e q0i q0n q0m i q16 q0o).getD default).1
noncomputable def z7w (q00:Nat) (q04:List Nat) (q02:Nat) (q07:List Nat) (q01:Nat) (q08:List Nat) (q0a:Nat) (q0e:List Nat) (q0i:Int) (q0n q0m:Nat) (i:Int) (q16 q0o:Nat):Nat:=((z44 q00 q04 q02 q07 q01 q08 q0a q0e q0i q0n q0m i q16 q0o).getD default).2
theorem znh {q00:Nat} {q04:List Nat} {q02:Nat} {q07:List Nat} {q01:Nat} {q08:List Nat} {q0a:Nat} {q0e:List Nat} {q0i:Int} {q0n q0m:Nat} {i:Int} {q16 q0o:Nat} {r:Nat×Nat} (h:z44 q00 q04 q02 q07 q01 q08 q0a q0e q0i q0n q0m i q16 q0o=some r):z8m q00 q04 q02 q07 q01 q08 q0a q0e q0i q0n q0m i q16 q0o=true∧z7q q00 q04 q02 q07 q01 q08 q0a q0e q0i q0n q0m i q16 q0o=r.1∧z7w q00 q04 q02 q07 q01 q08 q0a q0e q0i q0n q0m i q16 q0o=r.2:=by
 unfold z8m z7q z7w
 rw[h]
 exact⟨rfl,rfl,rfl⟩
noncomputable def zgi {R:Type} (q0v:Nat) (q1a:List Nat) (q0x:Nat) (q1d:List Nat) (q0y:Nat) (q1c:List Nat) (q1i:Nat) (k_:Nat→Option R):Option R:=(grd (zjr q0v (pF q1a 0 (muN q0v 1)) q0x (pF q1d 0 (muN q0x 1)) q0y (pF q1c 0 (muN q0y 1)) q0x (pF q1d 0 (muN q0x 1)) q1i) (k_ (zhv q0v (pF q1a 0 (muN q0v 1)) q0x (pF q1d 0 (muN q0x 1)) q0y (pF q1c 0 (muN q0y 1)) q0x (pF q1d 0 (muN q0x 1)) q1i)))
noncomputable def zbp (q0v:Nat) (q1a:List Nat) (q0x:Nat) (q1d:List Nat) (q0y:Nat) (q1c:List Nat) (q1i:Nat):Option (Nat):=zgi q0v q1a q0x q1d q0y q1c q1i (fun c0_=>some c0_)
theorem zy4 {R R':Type} (o:Option R→Option R') (h0:o none=none) (q0v:Nat) (q1a:List Nat) (q0x:Nat) (q1d:List Nat) (q0y:Nat) (q1c:List Nat) (q1i:Nat) (k_:Nat→Option R):zgi q0v q1a q0x q1d q0y q1c q1i (fun c0_=>o (k_ c0_))=o (zgi q0v q1a q0x q1d q0y q1c q1i k_):=by
 unfold zgi
 repeat (first | refine z02 h0 ?_ | refine z07 ?_ ?_ | rfl | exact h0.symm)
noncomputable def zkt (q0v:Nat) (q1a:List Nat) (q0x:Nat) (q1d:List Nat) (q0y:Nat) (q1c:List Nat) (q1i:Nat):Bool:=(zbp q0v q1a q0x q1d q0y q1c q1i).isSome
noncomputable def ze5 (q0v:Nat) (q1a:List Nat) (q0x:Nat) (q1d:List Nat) (q0y:Nat) (q1c:List Nat) (q1i:Nat):Nat:=((zbp q0v q1a q0x q1d q0y q1c q1i).getD default)
theorem y3n {q0v:Nat} {q1a:List Nat} {q0x:Nat} {q1d:List Nat} {q0y:Nat} {q1c:List Nat} {q1i r:Nat} (h:zbp q0v q1a q0x q1d q0y q1c q1i=some r):zkt q0v q1a q0x q1d q0y q1c q1i=true∧ze5 q0v q1a q0x q1d q0y q1c q1i=r:=by
 unfold zkt ze5
 rw[h]
 exact⟨rfl,rfl⟩
noncomputable def zfv {R:Type} (q0v:Nat) (q1a:List Nat) (q0x:Nat) (q1d:List Nat) (q0y:Nat) (q1c:List Nat) (q1i:Nat) (k_:Nat→Option R):Option R:=(grd (zjr q0v (pF q1a 0 (muN q0v 1)) q0x (pF q1d 0 (muN q0x 1)) q0y (pF q1c 0 (muN q0y 1)) q0y (pF q1c 0 (muN q0y 1)) q1i) (k_ (zhv q0v (pF q1a 0 (muN q0v 1)) q0x (pF q1d 0 (muN q0x 1)) q0y (pF q1c 0 (muN q0y 1)) q0y (pF q1c 0 (muN q0y 1)) q1i)))
noncomputable def zbj (q0v:Nat) (q1a:List Nat) (q0x:Nat) (q1d:List Nat) (q0y:Nat) (q1c:List Nat) (q1i:Nat):Option (Nat):=zfv q0v q1a q0x q1d q0y q1c q1i (fun c0_=>some c0_)
theorem zza {R R':Type} (o:Option R→Option R') (h0:o none=none) (q0v:Nat) (q1a:List Nat) (q0x:Nat) (q1d:List Nat) (q0y:Nat) (q1c:List Nat) (q1i:Nat) (k_:Nat→Option R):zfv q0v q1a q0x q1d q0y q1c q1i (fun c0_=>o (k_ c0_))=o (zfv q0v q1a q0x q1d q0y q1c q1i k_):=by
 unfold zfv
 repeat (first | refine z02 h0 ?_ | refine z07 ?_ ?_ | rfl | exact h0.symm)
noncomputable def zkd (q0v:Nat) (q1a:List Nat) (q0x:Nat) (q1d:List Nat) (q0y:Nat) (q1c:List Nat) (q1i:Nat):Bool:=(zbj q0v q1a q0x q1d q0y q1c q1i).isSome
noncomputable def zdl (q0v:Nat) (q1a:List Nat) (q0x:Nat) (q1d:List Nat) (q0y:Nat) (q1c:List Nat) (q1i:Nat):Nat:=((zbj q0v q1a q0x q1d q0y q1c q1i).getD default)
theorem y4s {q0v:Nat} {q1a:List Nat} {q0x:Nat} {q1d:List Nat} {q0y:Nat} {q1c:List Nat} {q1i r:Nat} (h:zbj q0v q1a q0x q1d q0y q1c q1i=some r):zkd q0v q1a q0x q1d q0y q1c q1i=true∧zdl q0v q1a q0x q1d q0y q1c q1i=r:=by
 unfold zkd zdl
 rw[h]
 exact⟨rfl,rfl⟩
noncomputable def z8k {R:Type} (q00:Nat) (q04:List Nat) (q02:Nat) (q07:List Nat) (q01:Nat) (q08:List Nat) (q0a:Nat) (q0e:List Nat) (q0i:Int) (q0n q0m:Nat) (i:Int) (q16 q0o:Nat) (k_:Nat→Nat→Option R):Option R:=(grd (z8m q00 (pF q04 0 (muN q00 1)) q02 (pF q07 0 (muN q02 1)) q01 (pF q08 0 (muN q01 1)) q0a (pF q0e 0 (muN q0a 3)) q0i q0n q0m i q16 q0o) (grd (z3w q16) (grd (z3w (fop .add .f32 q16 1048576000)) (grd (z9r q00 (pF q04 0 (muN q00 1)) q02 (pF q07 0 (muN q02 1)) q01 (pF q08 0 (muN q01 1)) q0a (pF q0e 0 (muN q0a 3)) q0i q0n q0m i) (grd (za0 q00 (pF q04 0 (muN q00 1)) q02 (pF q07 0 (muN q02 1)) q01 (pF q08 0 (muN q01 1)) q0a (pF q0e 0 (muN q0a 3)) q0i q0n q0m i q16) (k_ (fop .quo .f32 (fop .mul .f32 (z6k q00 (pF q04 0 (muN q00 1)) q02 (pF q07 0 (muN q02 1)) q01 (pF q08 0 (muN q01 1)) q0a (pF q0e 0 (muN q0a 3)) q0i q0n q0m i) (z7q q00 (pF q04 0 (muN q00 1)) q02 (pF q07 0 (muN q02 1)) q01 (pF q08 0 (muN q01 1)) q0a (pF q0e 0 (muN q0a 3)) q0i q0n q0m i q16 q0o)) (fop .mul .f32 (fop .mul .f32 (fop .mul .f32 1082130432 (z6l q00 (pF q04 0 (muN q00 1)) q02 (pF q07 0 (muN q02 1)) q01 (pF q08 0 (muN q01 1)) q0a (pF q0e 0 (muN q0a 3)) q0i q0n q0m i q16)) (z1h q16)) (z1h q16))) (fop .quo .f32 (fop .mul .f32 (z6k q00 (pF q04 0 (muN q00 1)) q02 (pF q07 0 (muN q02 1)) q01 (pF q08 0 (muN q01 1)) q0a (pF q0e 0 (muN q0a 3)) q0i q0n q0m i) (z7w q00 (pF q04 0 (muN q00 1)) q02 (pF q07 0 (muN q02 1)) q01 (pF q08 0 (muN q01 1)) q0a (pF q0e 0 (muN q0a 3)) q0i q0n q0m i q16 q0o)) (fop .mul .f32 (fop .mul .f32 (fop .mul .f32 1082130432 (z6l q00 (pF q04 0 (muN q00 1)) q02 (pF q07 0 (muN q02 1)) q01 (pF q08 0 (muN q01 1)) q0a (pF q0e 0 (muN q0a 3)) q0i q0n q0m i q16)) (z1h q16)) (z1h (fop .add .f32 q16 1048576000))))))))))
noncomputable def z57 (q00:Nat) (q04:List Nat) (q02:Nat) (q07:List Nat) (q01:Nat) (q08:List Nat) (q0a:Nat) (q0e:List Nat) (q0i:Int) (q0n q0m:Nat) (i:Int) (q16 q0o:Nat):Option (Nat×Nat):=z8k q00 q04 q02 q07 q01 q08 q0a q0e q0i q0n q0m i q16 q0o (fun c0_ c1_=>some (c0_,c1_))
theorem zt0 {R R':Type} (o:Option R→Option R') (h0:o none=none) (q00:Nat) (q04:List Nat) (q02:Nat) (q07:List Nat) (q01:Nat) (q08:List Nat) (q0a:Nat) (q0e:List Nat) (q0i:Int) (q0n q0m:Nat) (i:Int) (q16 q0o:Nat) (k_:Nat→Nat→Option R):z8k q00 q04 q02 q07 q01 q08 q0a q0e q0i q0n q0m i q16 q0o (fun c0_ c1_=>o (k_ c0_ c1_))=o (z8k q00 q04 q02 q07 q01 q08 q0a q0e q0i q0n q0m i q16 q0o k_):=by
 unfold z8k
 repeat (first | refine z02 h0 ?_ | refine z07 ?_ ?_ | rfl | exact h0.symm)
noncomputable def z8q (q00:Nat) (q04:List Nat) (q02:Nat) (q07:List Nat) (q01:Nat) (q08:List Nat) (q0a:Nat) (q0e:List Nat) (q0i:Int) (q0n q0m:Nat) (i:Int) (q16 q0o:Nat):Bool:=(z57 q00 q04 q02 q07 q01 q08 q0a q0e q0i q0n q0m i q16 q0o).isSome
noncomputable def z7n (q00:Nat) (q04:List Nat) (q02:Nat) (q07:List Nat) (q01:Nat) (q08:List Nat) (q0a:Nat) (q0e:List Nat) (q0i:Int) (q0n q0m:Nat) (i:Int) (q16 q0o:Nat):Nat:=((z57 q00 q04 q02 q07 q01 q08 q0a q0e q0i q0n q0m i q16 q0o).getD default).1
noncomputable def z7t (q00:Nat) (q04:List Nat) (q02:Nat) (q07:List Nat) (q01:Nat) (q08:List Nat) (q0a:Nat) (q0e:List Nat) (q0i:Int) (q0n q0m:Nat) (i:Int) (q16 q0o:Nat):Nat:=((z57 q00 q04 q02 q07 q01 q08 q0a q0e q0i q0n q0m i q16 q0o).getD default).2
theorem znl {q00:Nat} {q04:List Nat} {q02:Nat} {q07:List Nat} {q01:Nat} {q08:List Nat} {q0a:Nat} {q0e:List Nat} {q0i:Int} {q0n q0m:Nat} {i:Int} {q16 q0o:Nat} {r:Nat×Nat} (h:z57 q00 q04 q02 q07 q01 q08 q0a q0e q0i q0n q0m i q16 q0o=some r):z8q q00 q04 q02 q07 q01 q08 q0a q0e q0i q0n q0m i q16 q0o=true∧z7n q00 q04 q02 q07 q01 q08 q0a q0e q0i q0n q0m i q16 q0o=r.1∧z7t q00 q04 q02 q07 q01 q08 q0a q0e q0i q0n q0m i q16 q0o=r.2:=by
 unfold z8q z7n z7t
 rw[h]
 exact⟨rfl,rfl,rfl⟩
noncomputable def zc2 {R:Type} (q00:Nat) (q04:List Nat) (q02:Nat) (q07:List Nat) (q01:Nat) (q08:List Nat) (q0a:Nat) (q0e:List Nat) (q0i:Int) (q0n q0m:Nat) (i:Int) (q16 q0o:Nat) (k_:Nat→Nat→Option R):Option R:=(grd (okIx i q0a) (grd (zkt q00 (pF q04 0 (muN q00 1)) q02 (pF q07 0 (muN q02 1)) q01 (pF q08 0 (muN q01 1)) (fop .sub .f32 (fop .sub .f32 q16 (gF q0e (Nat.succ (Nat.succ (ixO 0 i 3))))) q0o)) (grd (zkd q00 (pF q04 0 (muN q00 1)) q02 (pF q07 0 (muN q02 1)) q01 (pF q08 0 (muN q01 1)) (fop .sub .f32 (fop .sub .f32 q16 (gF q0e (Nat.succ (Nat.succ (ixO 0 i 3))))) q0o)) (grd (z61 q16) (grd (z61 (fop .add .f32 q16 1048576000)) (k_ (fop .add .f32 (fop .mul .f32 (ze5 q00 (pF q04 0 (muN q00 1)) q02 (pF q07 0 (muN q02 1)) q01 (pF q08 0 (muN q01 1)) (fop .sub .f32 (fop .sub .f32 q16 (gF q0e (Nat.succ (Nat.succ (ixO 0 i 3))))) q0o)) (z1f (fop .add .f32 q16 1048576000))) (fop .mul .f32 (zdl q00 (pF q04 0 (muN q00 1)) q02 (pF q07 0 (muN q02 1)) q01 (pF q08 0 (muN q01 1)) (fop .sub .f32 (fop .sub .f32 q16 (gF q0e (Nat.succ (Nat.succ (ixO 0 i 3))))) q0o)) (z1f q16))) (fop .sub .f32 (fop .mul .f32 (ze5 q00 (pF q04 0 (muN q00 1)) q02 (pF q07 0 (muN q02 1)) q01 (pF q08 0 (muN q01 1)) (fop .sub .f32 (fop .sub .f32 q16 (gF q0e (Nat.succ (Nat.succ (ixO 0 i 3))))) q0o)) (z1f q16)) (fop .mul .f32 (zdl q00 (pF q04 0 (muN q00 1)) q02 (pF q07 0 (muN q02 1)) q01 (pF q08 0 (muN q01 1)) (fop .sub .f32 (fop .sub .f32 q16 (gF q0e (Nat.succ (Nat.succ (ixO 0 i 3))))) q0o)) (z1f (fop .add .f32 q16 1048576000))))))))))
noncomputable def z6x (q00:Nat) (q04:List Nat) (q02:Nat) (q07:List Nat) (q01:Nat) (q08:List Nat) (q0a:Nat) (q0e:List Nat) (q0i:Int) (q0n q0m:Nat) (i:Int) (q16 q0o:Nat):Option (Nat×Nat):=zc2 q00 q04 q02 q07 q01 q08 q0a q0e q0i q0n q0m i q16 q0o (fun c0_ c1_=>some (c0_,c1_))
theorem zve {R R':Type} (o:Option R→Option R') (h0:o none=none) (q00:Nat) (q04:List Nat) (q02:Nat) (q07:List Nat) (q01:Nat) (q08:List Nat) (q0a:Nat) (q0e:List Nat) (q0i:Int) (q0n q0m:Nat) (i:Int) (q16 q0o:Nat) (k_:Nat→Nat→Option R):zc2 q00 q04 q02 q07 q01 q08 q0a q0e q0i q0n q0m i q16 q0o (fun c0_ c1_=>o (k_ c0_ c1_))=o (zc2 q00 q04 q02 q07 q01 q08 q0a q0e q0i q0n q0m i q16 q0o k_):=by
 unfold zc2
 repeat (first | refine z02 h0 ?_ | refine z07 ?_ ?_ | rfl | exact h0.symm)
noncomputable def zho (q00:Nat) (q04:List Nat) (q02:Nat) (q07:List Nat) (q01:Nat) (q08:List Nat) (q0a:Nat) (q0e:List Nat) (q0i:Int) (q0n q0m:Nat) (i:Int) (q16 q0o:Nat):Bool:=(z6x q00 q04 q02 q07 q01 q08 q0a q0e q0i q0n q0m i q16 q0o).isSome
noncomputable def zad (q00:Nat) (q04:List Nat) (q02:Nat) (q07:List Nat) (q01:Nat) (q08:List Nat) (q0a:Nat) (q0e:List Nat) (q0i:Int) (q0n q0m:Nat) (i:Int) (q16 q0o:Nat):Nat:=((z6x q00 q04 q02 q07 q01 q08 q0a q0e q0i q0n q0m i q16 q0o).getD default).1
noncomputable def zam (q00:Nat) (q04:List Nat) (q02:Nat) (q07:List Nat) (q01:Nat) (q08:List Nat) (q0a:Nat) (q0e:List Nat) (q0i:Int) (q0n q0m:Nat) (i:Int) (q16 q0o:Nat):Nat:=((z6x q00 q04 q02 q07 q01 q08 q0a q0e q0i q0n q0m i q16 q0o).getD default).2
theorem y0l {q00:Nat} {q04:List Nat} {q02:Nat} {q07:List Nat} {q01:Nat} {q08:List Nat} {q0a:Nat} {q0e:List Nat} {q0i:Int} {q0n q0m:Nat} {i:Int} {q16 q0o:Nat} {r:Nat×Nat} (h:z6x q00 q04 q02 q07 q01 q08 q0a q0e q0i q0n q0m i q16 q0o=some r):zho q00 q04 q02 q07 q01 q08 q0a q0e q0i q0n q0m i q16 q0o=true∧zad q00 q04 q02 q07 q01 q08 q0a q0e q0i q0n q0m i q16 q0o=r.1∧zam q00 q04 q02 q07 q01 q08 q0a q0e q0i q0n q0m i q16 q0o=r.2:=by
 unfold zho zad zam
 rw[h]
 exact⟨rfl,rfl,rfl⟩
noncomputable def z32 {R:Type} (q1p:Nat) (t44:Int) (b3:List Nat) (q15 t4:Nat) (t45:Int) (kn_:Nat→Int→Option R) (k0_:Unit→Option R) (k1_:Nat→Int→Bool→Option R):Option R:=(br (ltI t45 t44) (grd (okIx t45 q1p) (br (fcmp .gtr .f32 (gF b3 (ixO 0 t45 3)) t4) (br (bnot (fcmp .lss .f32 (gF b3 (ixO 0 t45 3)) q15)) (k0_ ()) (grd (z5p 1 (pF [(gF b3 (Nat.succ (ixO 0 t45 3)))] 0 (muN 1 1))) (br (bnot (z56 1 (pF [(gF b3 (Nat.succ (ixO 0 t45 3)))] 0 (muN 1 1)))) (k0_ ()) (grd (z2i (gF b3 (Nat.succ (Nat.succ (ixO 0 t45 3))))) (br (bnot (z22 (gF b3 (Nat.succ (Nat.succ (ixO 0 t45 3)))))) (k0_ ()) (kn_ (gF b3 (ixO 0 t45 3)) (addI .i64 t45 1))))))) (br (bnot Bool.false) (k0_ ()) (grd (z5p 1 (pF [(gF b3 (Nat.succ (ixO 0 t45 3)))] 0 (muN 1 1))) (br (bnot (z56 1 (pF [(gF b3 (Nat.succ (ixO 0 t45 3)))] 0 (muN 1 1)))) (k0_ ()) (grd (z2i (gF b3 (Nat.succ (Nat.succ (ixO 0 t45 3))))) (br (bnot (z22 (gF b3 (Nat.succ (Nat.succ (ixO 0 t45 3)))))) (k0_ ()) (kn_ (gF b3 (ixO 0 t45 3)) (addI .i64 t45 1))))))))) (k1_ t4 t45 (ltI t45 t44)))
theorem zsh {R R':Type} (o:Option R→Option R') (h0:o none=none) (q1p:Nat) (t44:Int) (b3:List Nat) (q15 t4:Nat) (t45:Int) (kn_:Nat→Int→Option R) (k0_:Unit→Option R) (k1_:Nat→Int→Bool→Option R):z32 q1p t44 b3 q15 t4 t45 (fun t4' t45'=>o (kn_ t4' t45')) (fun _=>o (k0_ ())) (fun c0_ c1_ c2_=>o (k1_ c0_ c1_ c2_))=o (z32 q1p t44 b3 q15 t4 t45 kn_ k0_ k1_):=by
 unfold z32
 repeat (first | refine z02 h0 ?_ | refine z07 ?_ ?_ | rfl | exact h0.symm)
noncomputable def z0k (q1p:Nat) (t44:Int) (b3:List Nat) (q15:Nat):Nat→Nat→Int→Option ((Unit)⊕(Nat×Int×Bool))
 | 0,_,_=>none
 | n+1,t4,t45=>z32 q1p t44 b3 q15  t4 t45  (fun t4' t45'=>z0k q1p t44 b3 q15 n t4' t45') (fun _=>some (Sum.inl ())) (fun c0_ c1_ c2_=>some (Sum.inr (c0_,c1_,c2_)))
theorem ziw (q1p:Nat) (t44:Int) (b3:List Nat) (q15 n t4:Nat) (t45:Int):z0k q1p t44 b3 q15 (n+1) t4 t45=z32 q1p t44 b3 q15  t4 t45  (fun t4' t45'=>z0k q1p t44 b3 q15 n t4' t45') (fun _=>some (Sum.inl ())) (fun c0_ c1_ c2_=>some (Sum.inr (c0_,c1_,c2_))):=rfl
noncomputable def z4k (q1p:Nat) (t44:Int) (b3:List Nat) (q15 t4:Nat) (t45:Int):Bool:=(z0k q1p t44 b3 q15 big t4 t45).isSome
noncomputable def z4a (q1p:Nat) (t44:Int) (b3:List Nat) (q15 t4:Nat) (t45:Int):Bool:=oL (z0k q1p t44 b3 q15 big t4 t45)
noncomputable def zd3 (q1p:Nat) (t44:Int) (b3:List Nat) (q15 t4:Nat) (t45:Int):Nat:=((tR (z0k q1p t44 b3 q15 big t4 t45)).getD default).1
noncomputable def zd0 (q1p:Nat) (t44:Int) (b3:List Nat) (q15 t4:Nat) (t45:Int):Int:=((tR (z0k q1p t44 b3 q15 big t4 t45)).getD default).2.1
noncomputable def zd1 (q1p:Nat) (t44:Int) (b3:List Nat) (q15 t4:Nat) (t45:Int):Bool:=((tR (z0k q1p t44 b3 q15 big t4 t45)).getD default).2.2
theorem zu2 {q1p:Nat} {t44:Int} {b3:List Nat} {q15 t4:Nat} {t45:Int} {m:Nat} {r:Unit} (hm:m=big) (h:z0k q1p t44 b3 q15 m t4 t45=some (Sum.inl r)):z4k q1p t44 b3 q15 t4 t45=true∧z4a q1p t44 b3 q15 t4 t45=true:=by
 subst hm
 unfold z4k z4a
 rw[h]
 exact⟨rfl,rfl⟩
theorem zu9 {q1p:Nat} {t44:Int} {b3:List Nat} {q15 t4:Nat} {t45:Int} {m:Nat} {r:Nat×Int×Bool} (hm:m=big) (h:z0k q1p t44 b3 q15 m t4 t45=some (Sum.inr r)):z4k q1p t44 b3 q15 t4 t45=true∧z4a q1p t44 b3 q15 t4 t45=false∧zd3 q1p t44 b3 q15 t4 t45=r.1∧zd0 q1p t44 b3 q15 t4 t45=r.2.1∧zd1 q1p t44 b3 q15 t4 t45=r.2.2:=by
 subst hm
 unfold z4k z4a zd3 zd0 zd1
 rw[h]
 exact⟨rfl,rfl,rfl,rfl,rfl⟩
noncomputable def z85 {R:Type} (q03:Nat) (q09:List Nat) (q06:Nat) (q0b:List Nat) (q05:Nat) (q0c:List Nat) (q0d:Nat) (q0f:List Nat) (q0h:Int) (q0j q0k:Nat) (k_:Bool→Option R):Option R:=(grd (zcn q03 (pF q09 0 (muN q03 1)) q06 (pF q0b 0 (muN q06 1)) q05 (pF q0c 0 (muN q05 1))) (br (bnot (zat q03 (pF q09 0 (muN q03 1)) q06 (pF q0b 0 (muN q06 1)) q05 (pF q0c 0 (muN q05 1)))) (k_ Bool.false) (grd (z6r q0h 1 6) (br (bnot (z3p q0h 1 6)) (k_ Bool.false) (br (ltI (Int.ofNat q0d) 2) (k_ Bool.false) (br (ltI 12 (Int.ofNat q0d)) (k_ Bool.false) (grd (zgu q0j) (br (bnot (zdo q0j)) (k_ Bool.false) (grd (z2i q0k) (br (bnot (z22 q0k)) (k_ Bool.false) (grd (z4k q0d (Int.ofNat q0d) q0f q0k q0j 0) (br (z4a q0d (Int.ofNat q0d) q0f q0k q0j 0) (k_ Bool.false) (k_ Bool.true)))))))))))))
noncomputable def z50 (q03:Nat) (q09:List Nat) (q06:Nat) (q0b:List Nat) (q05:Nat) (q0c:List Nat) (q0d:Nat) (q0f:List Nat) (q0h:Int) (q0j q0k:Nat):Option (Bool):=z85 q03 q09 q06 q0b q05 q0c q0d q0f q0h q0j q0k (fun c0_=>some c0_)
theorem zup {R R':Type} (o:Option R→Option R') (h0:o none=none) (q03:Nat) (q09:List Nat) (q06:Nat) (q0b:List Nat) (q05:Nat) (q0c:List Nat) (q0d:Nat) (q0f:List Nat) (q0h:Int) (q0j q0k:Nat) (k_:Bool→Option R):z85 q03 q09 q06 q0b q05 q0c q0d q0f q0h q0j q0k (fun c0_=>o (k_ c0_))=o (z85 q03 q09 q06 q0b q05 q0c q0d q0f q0h q0j q0k k_):=by
 unfold z85
 repeat (first | refine z02 h0 ?_ | refine z07 ?_ ?_ | rfl | exact h0.symm)
noncomputable def z82 (q03:Nat) (q09:List Nat) (q06:Nat) (q0b:List Nat) (q05:Nat) (q0c:List Nat) (q0d:Nat) (q0f:List Nat) (q0h:Int) (q0j q0k:Nat):Bool:=(z50 q03 q09 q06 q0b q05 q0c q0d q0f q0h q0j q0k).isSome
noncomputable def z5o (q03:Nat) (q09:List Nat) (q06:Nat) (q0b:List Nat) (q05:Nat) (q0c:List Nat) (q0d:Nat) (q0f:List Nat) (q0h:Int) (q0j q0k:Nat):Bool:=((z50 q03 q09 q06 q0b q05 q0c q0d q0f q0h q0j q0k).getD default)
theorem zjz {q03:Nat} {q09:List Nat} {q06:Nat} {q0b:List Nat} {q05:Nat} {q0c:List Nat} {q0d:Nat} {q0f:List Nat} {q0h:Int} {q0j q0k:Nat} {r:Bool} (h:z50 q03 q09 q06 q0b q05 q0c q0d q0f q0h q0j q0k=some r):z82 q03 q09 q06 q0b q05 q0c q0d q0f q0h q0j q0k=true∧z5o q03 q09 q06 q0b q05 q0c q0d q0f q0h q0j q0k=r:=by
 unfold z82 z5o
 rw[h]
 exact⟨rfl,rfl⟩
noncomputable def zfy {R:Type} (q00:Nat) (q04:List Nat) (q02:Nat) (q07:List Nat) (q01:Nat) (q08:List Nat) (q0a:Nat) (q0e:List Nat) (q0i:Int) (q0n q0m:Nat) (i:Int) (q16 q0o:Nat) (k_:Nat→Nat→Nat→Nat→Option R):Option R:=(grd (zho q00 (pF q04 0 (muN q00 1)) q02 (pF q07 0 (muN q02 1)) q01 (pF q08 0 (muN q01 1)) q0a (pF q0e 0 (muN q0a 3)) q0i q0n q0m i q16 q0o) (grd (z61 q16) (grd (z61 (fop .add .f32 q16 1048576000)) (grd (zln q00 (pF q04 0 (muN q00 1)) q02 (pF q07 0 (muN q02 1)) q01 (pF q08 0 (muN q01 1)) q0a (pF q0e 0 (muN q0a 3)) q0i q0n q0m i (z1f q16)) (grd (zdg q00 (pF q04 0 (muN q00 1)) q02 (pF q07 0 (muN q02 1)) q01 (pF q08 0 (muN q01 1)) q0a (pF q0e 0 (muN q0a 3)) q0i q0n q0m i) (k_ (fop .quo .f32 (fop .mul .f32 (z8s q00 (pF q04 0 (muN q00 1)) q02 (pF q07 0 (muN q02 1)) q01 (pF q08 0 (muN q01 1)) q0a (pF q0e 0 (muN q0a 3)) q0i q0n q0m i) (zad q00 (pF q04 0 (muN q00 1)) q02 (pF q07 0 (muN q02 1)) q01 (pF q08 0 (muN q01 1)) q0a (pF q0e 0 (muN q0a 3)) q0i q0n q0m i q16 q0o)) (fop .mul .f32 (fop .mul .f32 (fop .mul .f32 1082130432 (zfx q00 (pF q04 0 (muN q00 1)) q02 (pF q07 0 (muN q02 1)) q01 (pF q08 0 (muN q01 1)) q0a (pF q0e 0 (muN q0a 3)) q0i q0n q0m i (z1f q16))) (z1f q16)) (z1f q16))) (fop .quo .f32 (fop .mul .f32 (z8s q00 (pF q04 0 (muN q00 1)) q02 (pF q07 0 (muN q02 1)) q01 (pF q08 0 (muN q01 1)) q0a (pF q0e 0 (muN q0a 3)) q0i q0n q0m i) (zam q00 (pF q04 0 (muN q00 1)) q02 (pF q07 0 (muN q02 1)) q01 (pF q08 0 (muN q01 1)) q0a (pF q0e 0 (muN q0a 3)) q0i q0n q0m i q16 q0o)) (fop .mul .f32 (fop .mul .f32 (fop .mul .f32 1082130432 (zfx q00 (pF q04 0 (muN q00 1)) q02 (pF q07 0 (muN q02 1)) q01 (pF q08 0 (muN q01 1)) q0a (pF q0e 0 (muN q0a 3)) q0i q0n q0m i (z1f q16))) (z1f q16)) (z1f (fop .add .f32 q16 1048576000)))) (zad q00 (pF q04 0 (muN q00 1)) q02 (pF q07 0 (muN q02 1)) q01 (pF q08 0 (muN q01 1)) q0a (pF q0e 0 (muN q0a 3)) q0i q0n q0m i q16 q0o) (zam q00 (pF q04 0 (muN q00 1)) q02 (pF q07 0 (muN q02 1)) q01 (pF q08 0 (muN q01 1)) q0a (pF q0e 0 (muN q0a 3)) q0i q0n q0m i q16 q0o)))))))
noncomputable def z62 (q00:Nat) (q04:List Nat) (q02:Nat) (q07:List Nat) (q01:Nat) (q08:List Nat) (q0a:Nat) (q0e:List Nat) (q0i:Int) (q0n q0m:Nat) (i:Int) (q16 q0o:Nat):Option (Nat×Nat×Nat×Nat):=zfy q00 q04 q02 q07 q01 q08 q0a q0e q0i q0n q0m i q16 q0o (fun c0_ c1_ c2_ c3_=>some (c0_,c1_,c2_,c3_))
theorem zy3 {R R':Type} (o:Option R→Option R') (h0:o none=none) (q00:Nat) (q04:List Nat) (q02:Nat) (q07:List Nat) (q01:Nat) (q08:List Nat) (q0a:Nat) (q0e:List Nat) (q0i:Int) (q0n q0m:Nat) (i:Int) (q16 q0o:Nat) (k_:Nat→Nat→Nat→Nat→Option R):zfy q00 q04 q02 q07 q01 q08 q0a q0e q0i q0n q0m i q16 q0o (fun c0_ c1_ c2_ c3_=>o (k_ c0_ c1_ c2_ c3_))=o (zfy q00 q04 q02 q07 q01 q08 q0a q0e q0i q0n q0m i q16 q0o k_):=by
 unfold zfy
 repeat (first | refine z02 h0 ?_ | refine z07 ?_ ?_ | rfl | exact h0.symm)
noncomputable def zg3 (q00:Nat) (q04:List Nat) (q02:Nat) (q07:List Nat) (q01:Nat) (q08:List Nat) (q0a:Nat) (q0e:List Nat) (q0i:Int) (q0n q0m:Nat) (i:Int) (q16 q0o:Nat):Bool:=(z62 q00 q04 q02 q07 q01 q08 q0a q0e q0i q0n q0m i q16 q0o).isSome
noncomputable def zea (q00:Nat) (q04:List Nat) (q02:Nat) (q07:List Nat) (q01:Nat) (q08:List Nat) (q0a:Nat) (q0e:List Nat) (q0i:Int) (q0n q0m:Nat) (i:Int) (q16 q0o:Nat):Nat:=((z62 q00 q04 q02 q07 q01 q08 q0a q0e q0i q0n q0m i q16 q0o).getD default).1
noncomputable def zeg (q00:Nat) (q04:List Nat) (q02:Nat) (q07:List Nat) (q01:Nat) (q08:List Nat) (q0a:Nat) (q0e:List Nat) (q0i:Int) (q0n q0m:Nat) (i:Int) (q16 q0o:Nat):Nat:=((z62 q00 q04 q02 q07 q01 q08 q0a q0e q0i q0n q0m i q16 q0o).getD default).2.1
noncomputable def zj2 (q00:Nat) (q04:List Nat) (q02:Nat) (q07:List Nat) (q01:Nat) (q08:List Nat) (q0a:Nat) (q0e:List Nat) (q0i:Int) (q0n q0m:Nat) (i:Int) (q16 q0o:Nat):Nat:=((z62 q00 q04 q02 q07 q01 q08 q0a q0e q0i q0n q0m i q16 q0o).getD default).2.2.1
noncomputable def zj0 (q00:Nat) (q04:List Nat) (q02:Nat) (q07:List Nat) (q01:Nat) (q08:List Nat) (q0a:Nat) (q0e:List Nat) (q0i:Int) (q0n q0m:Nat) (i:Int) (q16 q0o:Nat):Nat:=((z62 q00 q04 q02 q07 q01 q08 q0a q0e q0i q0n q0m i q16 q0o).getD default).2.2.2
theorem zt8 {q00:Nat} {q04:List Nat} {q02:Nat} {q07:List Nat} {q01:Nat} {q08:List Nat} {q0a:Nat} {q0e:List Nat} {q0i:Int} {q0n q0m:Nat} {i:Int} {q16 q0o:Nat} {r:Nat×Nat×Nat×Nat} (h:z62 q00 q04 q02 q07 q01 q08 q0a q0e q0i q0n q0m i q16 q0o=some r):zg3 q00 q04 q02 q07 q01 q08 q0a q0e q0i q0n q0m i q16 q0o=true∧zea q00 q04 q02 q07 q01 q08 q0a q0e q0i q0n q0m i q16 q0o=r.1∧zeg q00 q04 q02 q07 q01 q08 q0a q0e q0i q0n q0m i q16 q0o=r.2.1∧zj2 q00 q04 q02 q07 q01 q08 q0a q0e q0i q0n q0m i q16 q0o=r.2.2.1∧zj0 q00 q04 q02 q07 q01 q08 q0a q0e q0i q0n q0m i q16 q0o=r.2.2.2:=by
 unfold zg3 zea zeg zj2 zj0
 rw[h]
 exact⟨rfl,rfl,rfl,rfl,rfl⟩
noncomputable def z7m {R:Type} (q00:Nat) (q04:List Nat) (q02:Nat) (q07:List Nat) (q01:Nat) (q08:List Nat) (q0a:Nat) (q0e:List Nat) (q0i:Int) (q0n q0m:Nat) (i:Int) (q16 q0w q0r q0o:Nat) (k_:Nat→Option R):Option R:=(grd (z8q q00 (pF q04 0 (muN q00 1)) q02 (pF q07 0 (muN q02 1)) q01 (pF q08 0 (muN q01 1)) q0a (pF q0e 0 (muN q0a 3)) q0i q0n q0m i q16 q0o) (grd (z3w q16) (grd (z3w (fop .add .f32 q16 1048576000)) (grd (okIx i q0a) (k_ (fop .sub .f32 (fop .mul .f32 (z1h q16) (fop .add .f32 1065353216 (z7n q00 (pF q04 0 (muN q00 1)) q02 (pF q07 0 (muN q02 1)) q01 (pF q08 0 (muN q01 1)) q0a (pF q0e 0 (muN q0a 3)) q0i q0n q0m i q16 q0o))) (fop .mul .f32 (fop .mul .f32 (fop .quo .f32 q0w (fop .mul .f32 q0r (gF q0e (ixO 0 i 3)))) (z1h (fop .add .f32 q16 1048576000))) (fop .sub .f32 1065353216 (z7t q00 (pF q04 0 (muN q00 1)) q02 (pF q07 0 (muN q02 1)) q01 (pF q08 0 (muN q01 1)) q0a (pF q0e 0 (muN q0a 3)) q0i q0n q0m i q16 q0o)))))))))
noncomputable def z4n (q00:Nat) (q04:List Nat) (q02:Nat) (q07:List Nat) (q01:Nat) (q08:List Nat) (q0a:Nat) (q0e:List Nat) (q0i:Int) (q0n q0m:Nat) (i:Int) (q16 q0w q0r q0o:Nat):Option (Nat):=z7m q00 q04 q02 q07 q01 q08 q0a q0e q0i q0n q0m i q16 q0w q0r q0o (fun c0_=>some c0_)
theorem zs2 {R R':Type} (o:Option R→Option R') (h0:o none=none) (q00:Nat) (q04:List Nat) (q02:Nat) (q07:List Nat) (q01:Nat) (q08:List Nat) (q0a:Nat) (q0e:List Nat) (q0i:Int) (q0n q0m:Nat) (i:Int) (q16 q0w q0r q0o:Nat) (k_:Nat→Option R):z7m q00 q04 q02 q07 q01 q08 q0a q0e q0i q0n q0m i q16 q0w q0r q0o (fun c0_=>o (k_ c0_))=o (z7m q00 q04 q02 q07 q01 q08 q0a q0e q0i q0n q0m i q16 q0w q0r q0o k_):=by
 unfold z7m
 repeat (first | refine z02 h0 ?_ | refine z07 ?_ ?_ | rfl | exact h0.symm)
noncomputable def zaw (q00:Nat) (q04:List Nat) (q02:Nat) (q07:List Nat) (q01:Nat) (q08:List Nat) (q0a:Nat) (q0e:List Nat) (q0i:Int) (q0n q0m:Nat) (i:Int) (q16 q0w q0r q0o:Nat):Bool:=(z4n q00 q04 q02 q07 q01 q08 q0a q0e q0i q0n q0m i q16 q0w q0r q0o).isSome
noncomputable def z5k (q00:Nat) (q04:List Nat) (q02:Nat) (q07:List Nat) (q01:Nat) (q08:List Nat) (q0a:Nat) (q0e:List Nat) (q0i:Int) (q0n q0m:Nat) (i:Int) (q16 q0w q0r q0o:Nat):Nat:=((z4n q00 q04 q02 q07 q01 q08 q0a q0e q0i q0n q0m i q16 q0w q0r q0o).getD default)
theorem zui {q00:Nat} {q04:List Nat} {q02:Nat} {q07:List Nat} {q01:Nat} {q08:List Nat} {q0a:Nat} {q0e:List Nat} {q0i:Int} {q0n q0m:Nat} {i:Int} {q16 q0w q0r q0o r:Nat} (h:z4n q00 q04 q02 q07 q01 q08 q0a q0e q0i q0n q0m i q16 q0w q0r q0o=some r):zaw q00 q04 q02 q07 q01 q08 q0a q0e q0i q0n q0m i q16 q0w q0r q0o=true∧z5k q00 q04 q02 q07 q01 q08 q0a q0e q0i q0n q0m i q16 q0w q0r q0o=r:=by
 unfold zaw z5k
 rw[h]
 exact⟨rfl,rfl⟩
noncomputable def zgr {R:Type} (q00:Nat) (q04:List Nat) (q02:Nat) (q07:List Nat) (q01:Nat) (q08:List Nat) (q0a:Nat) (q0e:List Nat) (q0i:Int) (q0n q0m:Nat) (i:Int) (q0w q0r q0o:Nat) (k_:Bool→Option R):Option R:=(grd (z82 q00 (pF q04 0 (muN q00 1)) q02 (pF q07 0 (muN q02 1)) q01 (pF q08 0 (muN q01 1)) q0a (pF q0e 0 (muN q0a 3)) q0i q0n q0m) (br (z5o q00 (pF q04 0 (muN q00 1)) q02 (pF q07 0 (muN q02 1)) q01 (pF q08 0 (muN q01 1)) q0a (pF q0e 0 (muN q0a 3)) q0i q0n q0m) (grd (z9f q00 (pF q04 0 (muN q00 1)) q02 (pF q07 0 (muN q02 1)) q01 (pF q08 0 (muN q01 1)) q0a (pF q0e 0 (muN q0a 3)) q0i q0n q0m i) (br (z8j q00 (pF q04 0 (muN q00 1)) q02 (pF q07 0 (muN q02 1)) q01 (pF q08 0 (muN q01 1)) q0a (pF q0e 0 (muN q0a 3)) q0i q0n q0m i) (grd (z5p 2 (pF [q0w,q0r] 0 (muN 2 1))) (br (z56 2 (pF [q0w,q0r] 0 (muN 2 1))) (grd (z2i q0o) (br (z22 q0o) (grd (okIx i q0a) (grd (z2i (fop .sub .f32 (fop .sub .f32 981668463 (gF q0e (Nat.succ (Nat.succ (ixO 0 i 3))))) q0o)) (k_ (z22 (fop .sub .f32 (fop .sub .f32 981668463 (gF q0e (Nat.succ (Nat.succ (ixO 0 i 3))))) q0o))))) (k_ Bool.false))) (k_ Bool.false))) (k_ Bool.false))) (k_ Bool.false)))
noncomputable def zbr (q00:Nat) (q04:List Nat) (q02:Nat) (q07:List Nat) (q01:Nat) (q08:List Nat) (q0a:Nat) (q0e:List Nat) (q0i:Int) (q0n q0m:Nat) (i:Int) (q0w q0r q0o:Nat):Option (Bool):=zgr q00 q04 q02 q07 q01 q08 q0a q0e q0i q0n q0m i q0w q0r q0o (fun c0_=>some c0_)
theorem zyh {R R':Type} (o:Option R→Option R') (h0:o none=none) (q00:Nat) (q04:List Nat) (q02:Nat) (q07:List Nat) (q01:Nat) (q08:List Nat) (q0a:Nat) (q0e:List Nat) (q0i:Int) (q0n q0m:Nat) (i:Int) (q0w q0r q0o:Nat) (k_:Bool→Option R):zgr q00 q04 q02 q07 q01 q08 q0a q0e q0i q0n q0m i q0w q0r q0o (fun c0_=>o (k_ c0_))=o (zgr q00 q04 q02 q07 q01 q08 q0a q0e q0i q0n q0m i q0w q0r q0o k_):=by
 unfold zgr
 repeat (first | refine z02 h0 ?_ | refine z07 ?_ ?_ | rfl | exact h0.symm)
noncomputable def zgj (q00:Nat) (q04:List Nat) (q02:Nat) (q07:List Nat) (q01:Nat) (q08:List Nat) (q0a:Nat) (q0e:List Nat) (q0i:Int) (q0n q0m:Nat) (i:Int) (q0w q0r q0o:Nat):Bool:=(zbr q00 q04 q02 q07 q01 q08 q0a q0e q0i q0n q0m i q0w q0r q0o).isSome
noncomputable def zdt (q00:Nat) (q04:List Nat) (q02:Nat) (q07:List Nat) (q01:Nat) (q08:List Nat) (q0a:Nat) (q0e:List Nat) (q0i:Int) (q0n q0m:Nat) (i:Int) (q0w q0r q0o:Nat):Bool:=((zbr q00 q04 q02 q07 q01 q08 q0a q0e q0i q0n q0m i q0w q0r q0o).getD default)
theorem zta {q00:Nat} {q04:List Nat} {q02:Nat} {q07:List Nat} {q01:Nat} {q08:List Nat} {q0a:Nat} {q0e:List Nat} {q0i:Int} {q0n q0m:Nat} {i:Int} {q0w q0r q0o:Nat} {r:Bool} (h:zbr q00 q04 q02 q07 q01 q08 q0a q0e q0i q0n q0m i q0w q0r q0o=some r):zgj q00 q04 q02 q07 q01 q08 q0a q0e q0i q0n q0m i q0w q0r q0o=true∧zdt q00 q04 q02 q07 q01 q08 q0a q0e q0i q0n q0m i q0w q0r q0o=r:=by
 unfold zgj zdt
 rw[h]
 exact⟨rfl,rfl⟩
noncomputable def zah {R:Type} (q00:Nat) (q04:List Nat) (q02:Nat) (q07:List Nat) (q01:Nat) (q08:List Nat) (q0a:Nat) (q0e:List Nat) (q0i:Int) (q0n q0m:Nat) (i:Int) (q16 q0w q0r q0o:Nat) (k_:Nat→Option R):Option R:=(grd (zg3 q00 (pF q04 0 (muN q00 1)) q02 (pF q07 0 (muN q02 1)) q01 (pF q08 0 (muN q01 1)) q0a (pF q0e 0 (muN q0a 3)) q0i q0n q0m i q16 q0o) (grd (z61 q16) (grd (z61 (fop .add .f32 q16 1048576000)) (grd (okIx i q0a) (k_ (fop .sub .f32 (fop .mul .f32 (z1f q16) (fop .add .f32 1065353216 (zea q00 (pF q04 0 (muN q00 1)) q02 (pF q07 0 (muN q02 1)) q01 (pF q08 0 (muN q01 1)) q0a (pF q0e 0 (muN q0a 3)) q0i q0n q0m i q16 q0o))) (fop .mul .f32 (fop .mul .f32 (fop .quo .f32 q0w (fop .mul .f32 q0r (gF q0e (ixO 0 i 3)))) (z1f (fop .add .f32 q16 1048576000))) (fop .sub .f32 1065353216 (zeg q00 (pF q04 0 (muN q00 1)) q02 (pF q07 0 (muN q02 1)) q01 (pF q08 0 (muN q01 1)) q0a (pF q0e 0 (muN q0a 3)) q0i q0n q0m i q16 q0o)))))))))
noncomputable def z51 (q00:Nat) (q04:List Nat) (q02:Nat) (q07:List Nat) (q01:Nat) (q08:List Nat) (q0a:Nat) (q0e:List Nat) (q0i:Int) (q0n q0m:Nat) (i:Int) (q16 q0w q0r q0o:Nat):Option (Nat):=zah q00 q04 q02 q07 q01 q08 q0a q0e q0i q0n q0m i q16 q0w q0r q0o (fun c0_=>some c0_)
theorem zuv {R R':Type} (o:Option R→Option R') (h0:o none=none) (q00:Nat) (q04:List Nat) (q02:Nat) (q07:List Nat) (q01:Nat) (q08:List Nat) (q0a:Nat) (q0e:List Nat) (q0i:Int) (q0n q0m:Nat) (i:Int) (q16 q0w q0r q0o:Nat) (k_:Nat→Option R):zah q00 q04 q02 q07 q01 q08 q0a q0e q0i q0n q0m i q16 q0w q0r q0o (fun c0_=>o (k_ c0_))=o (zah q00 q04 q02 q07 q01 q08 q0a q0e q0i q0n q0m i q16 q0w q0r q0o k_):=by
 unfold zah
 repeat (first | refine z02 h0 ?_ | refine z07 ?_ ?_ | rfl | exact h0.symm)
noncomputable def zfu (q00:Nat) (q04:List Nat) (q02:Nat) (q07:List Nat) (q01:Nat) (q08:List Nat) (q0a:Nat) (q0e:List Nat) (q0i:Int) (q0n q0m:Nat) (i:Int) (q16 q0w q0r q0o:Nat):Bool:=(z51 q00 q04 q02 q07 q01 q08 q0a q0e q0i q0n q0m i q16 q0w q0r q0o).isSome
noncomputable def z7a (q00:Nat) (q04:List Nat) (q02:Nat) (q07:List Nat) (q01:Nat) (q08:List Nat) (q0a:Nat) (q0e:List Nat) (q0i:Int) (q0n q0m:Nat) (i:Int) (q16 q0w q0r q0o:Nat):Nat:=((z51 q00 q04 q02 q07 q01 q08 q0a q0e q0i q0n q0m i q16 q0w q0r q0o).getD default)
theorem zyu {q00:Nat} {q04:List Nat} {q02:Nat} {q07:List Nat} {q01:Nat} {q08:List Nat} {q0a:Nat} {q0e:List Nat} {q0i:Int} {q0n q0m:Nat} {i:Int} {q16 q0w q0r q0o r:Nat} (h:z51 q00 q04 q02 q07 q01 q08 q0a q0e q0i q0n q0m i q16 q0w q0r q0o=some r):zfu q00 q04 q02 q07 q01 q08 q0a q0e q0i q0n q0m i q16 q0w q0r q0o=true∧z7a q00 q04 q02 q07 q01 q08 q0a q0e q0i q0n q0m i q16 q0w q0r q0o=r:=by
 unfold zfu z7a
 rw[h]
 exact⟨rfl,rfl⟩
noncomputable def zce {R:Type} (q00:Nat) (q04:List Nat) (q02:Nat) (q07:List Nat) (q01:Nat) (q08:List Nat) (q0a:Nat) (q0e:List Nat) (q0i:Int) (q0n q0m:Nat) (i:Int) (q16 q0w q0r q0o:Nat) (k_:Nat→Bool→Option R):Option R:=(grd (zgj q00 (pF q04 0 (muN q00 1)) q02 (pF q07 0 (muN q02 1)) q01 (pF q08 0 (muN q01 1)) q0a (pF q0e 0 (muN q0a 3)) q0i q0n q0m i q0w q0r q0o) (br (bnot (zdt q00 (pF q04 0 (muN q00 1)) q02 (pF q07 0 (muN q02 1)) q01 (pF q08 0 (muN q01 1)) q0a (pF q0e 0 (muN q0a 3)) q0i q0n q0m i q0w q0r q0o)) (k_ 0 Bool.false) (grd (zlv q16) (br (bnot (zkz q16)) (k_ 0 Bool.false) (grd (zaw q00 (pF q04 0 (muN q00 1)) q02 (pF q07 0 (muN q02 1)) q01 (pF q08 0 (muN q01 1)) q0a (pF q0e 0 (muN q0a 3)) q0i q0n q0m i q16 q0w q0r q0o) (grd (zkp (z5k q00 (pF q04 0 (muN q00 1)) q02 (pF q07 0 (muN q02 1)) q01 (pF q08 0 (muN q01 1)) q0a (pF q0e 0 (muN q0a 3)) q0i q0n q0m i q16 q0w q0r q0o)) (k_ (zj3 (z5k q00 (pF q04 0 (muN q00 1)) q02 (pF q07 0 (muN q02 1)) q01 (pF q08 0 (muN q01 1)) q0a (pF q0e 0 (muN q0a 3)) q0i q0n q0m i q16 q0w q0r q0o)) (zj1 (z5k q00 (pF q04 0 (muN q00 1)) q02 (pF q07 0 (muN q02 1)) q01 (pF q08 0 (muN q01 1)) q0a (pF q0e 0 (muN q0a 3)) q0i q0n q0m i q16 q0w q0r q0o)))))))))
noncomputable def z72 (q00:Nat) (q04:List Nat) (q02:Nat) (q07:List Nat) (q01:Nat) (q08:List Nat) (q0a:Nat) (q0e:List Nat) (q0i:Int) (q0n q0m:Nat) (i:Int) (q16 q0w q0r q0o:Nat):Option (Nat×Bool):=zce q00 q04 q02 q07 q01 q08 q0a q0e q0i q0n q0m i q16 q0w q0r q0o (fun c0_ c1_=>some (c0_,c1_))
theorem zw1 {R R':Type} (o:Option R→Option R') (h0:o none=none) (q00:Nat) (q04:List Nat) (q02:Nat) (q07:List Nat) (q01:Nat) (q08:List Nat) (q0a:Nat) (q0e:List Nat) (q0i:Int) (q0n q0m:Nat) (i:Int) (q16 q0w q0r q0o:Nat) (k_:Nat→Bool→Option R):zce q00 q04 q02 q07 q01 q08 q0a q0e q0i q0n q0m i q16 q0w q0r q0o (fun c0_ c1_=>o (k_ c0_ c1_))=o (zce q00 q04 q02 q07 q01 q08 q0a q0e q0i q0n q0m i q16 q0w q0r q0o k_):=by
 unfold zce
 repeat (first | refine z02 h0 ?_ | refine z07 ?_ ?_ | rfl | exact h0.symm)
noncomputable def zhu (q00:Nat) (q04:List Nat) (q02:Nat) (q07:List Nat) (q01:Nat) (q08:List Nat) (q0a:Nat) (q0e:List Nat) (q0i:Int) (q0n q0m:Nat) (i:Int) (q16 q0w q0r q0o:Nat):Bool:=(z72 q00 q04 q02 q07 q01 q08 q0a q0e q0i q0n q0m i q16 q0w q0r q0o).isSome
noncomputable def zfe (q00:Nat) (q04:List Nat) (q02:Nat) (q07:List Nat) (q01:Nat) (q08:List Nat) (q0a:Nat) (q0e:List Nat) (q0i:Int) (q0n q0m:Nat) (i:Int) (q16 q0w q0r q0o:Nat):Nat:=((z72 q00 q04 q02 q07 q01 q08 q0a q0e q0i q0n q0m i q16 q0w q0r q0o).getD default).1
noncomputable def zfk (q00:Nat) (q04:List Nat) (q02:Nat) (q07:List Nat) (q01:Nat) (q08:List Nat) (q0a:Nat) (q0e:List Nat) (q0i:Int) (q0n q0m:Nat) (i:Int) (q16 q0w q0r q0o:Nat):Bool:=((z72 q00 q04 q02 q07 q01 q08 q0a q0e q0i q0n q0m i q16 q0w q0r q0o).getD default).2
theorem zzx {q00:Nat} {q04:List Nat} {q02:Nat} {q07:List Nat} {q01:Nat} {q08:List Nat} {q0a:Nat} {q0e:List Nat} {q0i:Int} {q0n q0m:Nat} {i:Int} {q16 q0w q0r q0o:Nat} {r:Nat×Bool} (h:z72 q00 q04 q02 q07 q01 q08 q0a q0e q0i q0n q0m i q16 q0w q0r q0o=some r):zhu q00 q04 q02 q07 q01 q08 q0a q0e q0i q0n q0m i q16 q0w q0r q0o=true∧zfe q00 q04 q02 q07 q01 q08 q0a q0e q0i q0n q0m i q16 q0w q0r q0o=r.1∧zfk q00 q04 q02 q07 q01 q08 q0a q0e q0i q0n q0m i q16 q0w q0r q0o=r.2:=by
 unfold zhu zfe zfk
 rw[h]
 exact⟨rfl,rfl,rfl⟩
noncomputable def z3j {R:Type} (i:Int) (q0w q0r q0o:Nat) (b0 b1 b2 b3:List Nat) (q13 q14 q0z q0s:Nat) (q19:Int) (q18 q15 low q1f:Nat) (k:Int) (kn_:Nat→Nat→Int→Option R) (k0_:Unit→Option R) (k1_:Nat→Nat→Int→Bool→Option R):Option R:=(br (ltI k 24) (grd (zfu q13 (pF b0 0 (muN q13 1)) q14 (pF b1 0 (muN q14 1)) q0z (pF b2 0 (muN q0z 1)) q0s (pF b3 0 (muN q0s 3)) q19 q18 q15 i (fop .mul .f32 1056964608 (fop .add .f32 low q1f)) q0w q0r q0o) (grd (z10 (z7a q13 (pF b0 0 (muN q13 1)) q14 (pF b1 0 (muN q14 1)) q0z (pF b2 0 (muN q0z 1)) q0s (pF b3 0 (muN q0s 3)) q19 q18 q15 i (fop .mul .f32 1056964608 (fop .add .f32 low q1f)) q0w q0r q0o)) (br (bnot (z0u (z7a q13 (pF b0 0 (muN q13 1)) q14 (pF b1 0 (muN q14 1)) q0z (pF b2 0 (muN q0z 1)) q0s (pF b3 0 (muN q0s 3)) q19 q18 q15 i (fop .mul .f32 1056964608 (fop .add .f32 low q1f)) q0w q0r q0o))) (k0_ ()) (br (fcmp .gtr .f32 (z7a q13 (pF b0 0 (muN q13 1)) q14 (pF b1 0 (muN q14 1)) q0z (pF b2 0 (muN q0z 1)) q0s (pF b3 0 (muN q0s 3)) q19 q18 q15 i (fop .mul .f32 1056964608 (fop .add .f32 low q1f)) q0w q0r q0o) 0) (kn_ low (fop .mul .f32 1056964608 (fop .add .f32 low q1f)) (addI .i64 k 1)) (kn_ (fop .mul .f32 1056964608 (fop .add .f32 low q1f)) q1f (addI .i64 k 1)))))) (k1_ low q1f k (ltI k 24)))
theorem zsy {R R':Type} (o:Option R→Option R') (h0:o none=none) (i:Int) (q0w q0r q0o:Nat) (b0 b1 b2 b3:List Nat) (q13 q14 q0z q0s:Nat) (q19:Int) (q18 q15 low q1f:Nat) (k:Int) (kn_:Nat→Nat→Int→Option R) (k0_:Unit→Option R) (k1_:Nat→Nat→Int→Bool→Option R):z3j i q0w q0r q0o b0 b1 b2 b3 q13 q14 q0z q0s q19 q18 q15 low q1f k (fun low' q1f' k'=>o (kn_ low' q1f' k')) (fun _=>o (k0_ ())) (fun c0_ c1_ c2_ c3_=>o (k1_ c0_ c1_ c2_ c3_))=o (z3j i q0w q0r q0o b0 b1 b2 b3 q13 q14 q0z q0s q19 q18 q15 low q1f k kn_ k0_ k1_):=by
 unfold z3j
 repeat (first | refine z02 h0 ?_ | refine z07 ?_ ?_ | rfl | exact h0.symm)
noncomputable def z0l (i:Int) (q0w q0r q0o:Nat) (b0 b1 b2 b3:List Nat) (q13 q14 q0z q0s:Nat) (q19:Int) (q18 q15:Nat):Nat→Nat→Nat→Int→Option ((Unit)⊕(Nat×Nat×Int×Bool))
 | 0,_,_,_=>none
 | n+1,low,q1f,k=>z3j i q0w q0r q0o b0 b1 b2 b3 q13 q14 q0z q0s q19 q18 q15  low q1f k  (fun low' q1f' k'=>z0l i q0w q0r q0o b0 b1 b2 b3 q13 q14 q0z q0s q19 q18 q15 n low' q1f' k') (fun _=>some (Sum.inl ())) (fun c0_ c1_ c2_ c3_=>some (Sum.inr (c0_,c1_,c2_,c3_)))
theorem zk0 (i:Int) (q0w q0r q0o:Nat) (b0 b1 b2 b3:List Nat) (q13 q14 q0z q0s:Nat) (q19:Int) (q18 q15 n low q1f:Nat) (k:Int):z0l i q0w q0r q0o b0 b1 b2 b3 q13 q14 q0z q0s q19 q18 q15 (n+1) low q1f k=z3j i q0w q0r q0o b0 b1 b2 b3 q13 q14 q0z q0s q19 q18 q15  low q1f k  (fun low' q1f' k'=>z0l i q0w q0r q0o b0 b1 b2 b3 q13 q14 q0z q0s q19 q18 q15 n low' q1f' k') (fun _=>some (Sum.inl ())) (fun c0_ c1_ c2_ c3_=>some (Sum.inr (c0_,c1_,c2_,c3_))):=rfl
noncomputable def z6f (i:Int) (q0w q0r q0o:Nat) (b0 b1 b2 b3:List Nat) (q13 q14 q0z q0s:Nat) (q19:Int) (q18 q15 low q1f:Nat) (k:Int):Bool:=(z0l i q0w q0r q0o b0 b1 b2 b3 q13 q14 q0z q0s q19 q18 q15 big low q1f k).isSome
noncomputable def z5y (i:Int) (q0w q0r q0o:Nat) (b0 b1 b2 b3:List Nat) (q13 q14 q0z q0s:Nat) (q19:Int) (q18 q15 low q1f:Nat) (k:Int):Bool:=oL (z0l i q0w q0r q0o b0 b1 b2 b3 q13 q14 q0z q0s q19 q18 q15 big low q1f k)
noncomputable def z9b (i:Int) (q0w q0r q0o:Nat) (b0 b1 b2 b3:List Nat) (q13 q14 q0z q0s:Nat) (q19:Int) (q18 q15 low q1f:Nat) (k:Int):Nat:=((tR (z0l i q0w q0r q0o b0 b1 b2 b3 q13 q14 q0z q0s q19 q18 q15 big low q1f k)).getD default).1
noncomputable def zf4 (i:Int) (q0w q0r q0o:Nat) (b0 b1 b2 b3:List Nat) (q13 q14 q0z q0s:Nat) (q19:Int) (q18 q15 low q1f:Nat) (k:Int):Nat:=((tR (z0l i q0w q0r q0o b0 b1 b2 b3 q13 q14 q0z q0s q19 q18 q15 big low q1f k)).getD default).2.1
noncomputable def zez (i:Int) (q0w q0r q0o:Nat) (b0 b1 b2 b3:List Nat) (q13 q14 q0z q0s:Nat) (q19:Int) (q18 q15 low q1f:Nat) (k:Int):Int:=((tR (z0l i q0w q0r q0o b0 b1 b2 b3 q13 q14 q0z q0s q19 q18 q15 big low q1f k)).getD default).2.2.1
noncomputable def zer (i:Int) (q0w q0r q0o:Nat) (b0 b1 b2 b3:List Nat) (q13 q14 q0z q0s:Nat) (q19:Int) (q18 q15 low q1f:Nat) (k:Int):Bool:=((tR (z0l i q0w q0r q0o b0 b1 b2 b3 q13 q14 q0z q0s q19 q18 q15 big low q1f k)).getD default).2.2.2
theorem zv6 {i:Int} {q0w q0r q0o:Nat} {b0 b1 b2 b3:List Nat} {q13 q14 q0z q0s:Nat} {q19:Int} {q18 q15 low q1f:Nat} {k:Int} {m:Nat} {r:Unit} (hm:m=big) (h:z0l i q0w q0r q0o b0 b1 b2 b3 q13 q14 q0z q0s q19 q18 q15 m low q1f k=some (Sum.inl r)):z6f i q0w q0r q0o b0 b1 b2 b3 q13 q14 q0z q0s q19 q18 q15 low q1f k=true∧z5y i q0w q0r q0o b0 b1 b2 b3 q13 q14 q0z q0s q19 q18 q15 low q1f k=true:=by
 subst hm
 unfold z6f z5y
 rw[h]
 exact⟨rfl,rfl⟩
theorem zum {i:Int} {q0w q0r q0o:Nat} {b0 b1 b2 b3:List Nat} {q13 q14 q0z q0s:Nat} {q19:Int} {q18 q15 low q1f:Nat} {k:Int} {m:Nat} {r:Nat×Nat×Int×Bool} (hm:m=big) (h:z0l i q0w q0r q0o b0 b1 b2 b3 q13 q14 q0z q0s q19 q18 q15 m low q1f k=some (Sum.inr r)):z6f i q0w q0r q0o b0 b1 b2 b3 q13 q14 q0z q0s q19 q18 q15 low q1f k=true∧z5y i q0w q0r q0o b0 b1 b2 b3 q13 q14 q0z q0s q19 q18 q15 low q1f k=false∧z9b i q0w q0r q0o b0 b1 b2 b3 q13 q14 q0z q0s q19 q18 q15 low q1f k=r.1∧zf4 i q0w q0r q0o b0 b1 b2 b3 q13 q14 q0z q0s q19 q18 q15 low q1f k=r.2.1∧zez i q0w q0r q0o b0 b1 b2 b3 q13 q14 q0z q0s q19 q18 q15 low q1f k=r.2.2.1∧zer i q0w q0r q0o b0 b1 b2 b3 q13 q14 q0z q0s q19 q18 q15 low q1f k=r.2.2.2:=by
 subst hm
 unfold z6f z5y z9b zf4 zez zer
 rw[h]
 exact⟨rfl,rfl,rfl,rfl,rfl,rfl⟩
noncomputable def zc9 {R:Type} (q00:Nat) (q04:List Nat) (q02:Nat) (q07:List Nat) (q01:Nat) (q08:List Nat) (q0a:Nat) (q0e:List Nat) (q0i:Int) (q0n q0m:Nat) (i:Int) (q0w q0r q0o:Nat) (k_:Nat→Bool→Option R):Option R:=(grd (z6f i q0w q0r q0o q04 q07 q08 q0e q00 q02 q01 q0a q0i q0n q0m 981668463 1048508891 0) (br (z5y i q0w q0r q0o q04 q07 q08 q0e q00 q02 q01 q0a q0i q0n q0m 981668463 1048508891 0) (k_ 0 Bool.false) (k_ (z9b i q0w q0r q0o q04 q07 q08 q0e q00 q02 q01 q0a q0i q0n q0m 981668463 1048508891 0) Bool.true)))
noncomputable def z74 (q00:Nat) (q04:List Nat) (q02:Nat) (q07:List Nat) (q01:Nat) (q08:List Nat) (q0a:Nat) (q0e:List Nat) (q0i:Int) (q0n q0m:Nat) (i:Int) (q0w q0r q0o:Nat):Option (Nat×Bool):=zc9 q00 q04 q02 q07 q01 q08 q0a q0e q0i q0n q0m i q0w q0r q0o (fun c0_ c1_=>some (c0_,c1_))
theorem zwg {R R':Type} (o:Option R→Option R') (h0:o none=none) (q00:Nat) (q04:List Nat) (q02:Nat) (q07:List Nat) (q01:Nat) (q08:List Nat) (q0a:Nat) (q0e:List Nat) (q0i:Int) (q0n q0m:Nat) (i:Int) (q0w q0r q0o:Nat) (k_:Nat→Bool→Option R):zc9 q00 q04 q02 q07 q01 q08 q0a q0e q0i q0n q0m i q0w q0r q0o (fun c0_ c1_=>o (k_ c0_ c1_))=o (zc9 q00 q04 q02 q07 q01 q08 q0a q0e q0i q0n q0m i q0w q0r q0o k_):=by
 unfold zc9
 repeat (first | refine z02 h0 ?_ | refine z07 ?_ ?_ | rfl | exact h0.symm)
noncomputable def zh7 (q00:Nat) (q04:List Nat) (q02:Nat) (q07:List Nat) (q01:Nat) (q08:List Nat) (q0a:Nat) (q0e:List Nat) (q0i:Int) (q0n q0m:Nat) (i:Int) (q0w q0r q0o:Nat):Bool:=(z74 q00 q04 q02 q07 q01 q08 q0a q0e q0i q0n q0m i q0w q0r q0o).isSome
noncomputable def zfr (q00:Nat) (q04:List Nat) (q02:Nat) (q07:List Nat) (q01:Nat) (q08:List Nat) (q0a:Nat) (q0e:List Nat) (q0i:Int) (q0n q0m:Nat) (i:Int) (q0w q0r q0o:Nat):Nat:=((z74 q00 q04 q02 q07 q01 q08 q0a q0e q0i q0n q0m i q0w q0r q0o).getD default).1
noncomputable def zfo (q00:Nat) (q04:List Nat) (q02:Nat) (q07:List Nat) (q01:Nat) (q08:List Nat) (q0a:Nat) (q0e:List Nat) (q0i:Int) (q0n q0m:Nat) (i:Int) (q0w q0r q0o:Nat):Bool:=((z74 q00 q04 q02 q07 q01 q08 q0a q0e q0i q0n q0m i q0w q0r q0o).getD default).2
theorem y0k {q00:Nat} {q04:List Nat} {q02:Nat} {q07:List Nat} {q01:Nat} {q08:List Nat} {q0a:Nat} {q0e:List Nat} {q0i:Int} {q0n q0m:Nat} {i:Int} {q0w q0r q0o:Nat} {r:Nat×Bool} (h:z74 q00 q04 q02 q07 q01 q08 q0a q0e q0i q0n q0m i q0w q0r q0o=some r):zh7 q00 q04 q02 q07 q01 q08 q0a q0e q0i q0n q0m i q0w q0r q0o=true∧zfr q00 q04 q02 q07 q01 q08 q0a q0e q0i q0n q0m i q0w q0r q0o=r.1∧zfo q00 q04 q02 q07 q01 q08 q0a q0e q0i q0n q0m i q0w q0r q0o=r.2:=by
 unfold zh7 zfr zfo
 rw[h]
 exact⟨rfl,rfl,rfl⟩
noncomputable def z4m {R:Type} (i:Int) (q0w q0r q0o:Nat) (b0 b1 b2 b3:List Nat) (q13 q14 q0z q0s:Nat) (q19:Int) (q18 q15 low q1f:Nat) (t24:Int) (kn_:Nat→Nat→Int→Option R) (k0_:Unit→Option R) (k1_:Nat→Nat→Int→Bool→Option R):Option R:=(br (ltI t24 24) (grd (zhu q13 (pF b0 0 (muN q13 1)) q14 (pF b1 0 (muN q14 1)) q0z (pF b2 0 (muN q0z 1)) q0s (pF b3 0 (muN q0s 3)) q19 q18 q15 i (fop .quo .f32 (fop .add .f32 low q1f) 1073741824) q0w q0r q0o) (br (bnot (zfk q13 (pF b0 0 (muN q13 1)) q14 (pF b1 0 (muN q14 1)) q0z (pF b2 0 (muN q0z 1)) q0s (pF b3 0 (muN q0s 3)) q19 q18 q15 i (fop .quo .f32 (fop .add .f32 low q1f) 1073741824) q0w q0r q0o)) (k0_ ()) (br (fcmp .gtr .f32 (zfe q13 (pF b0 0 (muN q13 1)) q14 (pF b1 0 (muN q14 1)) q0z (pF b2 0 (muN q0z 1)) q0s (pF b3 0 (muN q0s 3)) q19 q18 q15 i (fop .quo .f32 (fop .add .f32 low q1f) 1073741824) q0w q0r q0o) 0) (kn_ low (fop .quo .f32 (fop .add .f32 low q1f) 1073741824) (addI .i64 t24 1)) (kn_ (fop .quo .f32 (fop .add .f32 low q1f) 1073741824) q1f (addI .i64 t24 1))))) (k1_ low q1f t24 (ltI t24 24)))
theorem zwn {R R':Type} (o:Option R→Option R') (h0:o none=none) (i:Int) (q0w q0r q0o:Nat) (b0 b1 b2 b3:List Nat) (q13 q14 q0z q0s:Nat) (q19:Int) (q18 q15 low q1f:Nat) (t24:Int) (kn_:Nat→Nat→Int→Option R) (k0_:Unit→Option R) (k1_:Nat→Nat→Int→Bool→Option R):z4m i q0w q0r q0o b0 b1 b2 b3 q13 q14 q0z q0s q19 q18 q15 low q1f t24 (fun low' q1f' t24'=>o (kn_ low' q1f' t24')) (fun _=>o (k0_ ())) (fun c0_ c1_ c2_ c3_=>o (k1_ c0_ c1_ c2_ c3_))=o (z4m i q0w q0r q0o b0 b1 b2 b3 q13 q14 q0z q0s q19 q18 q15 low q1f t24 kn_ k0_ k1_):=by
 unfold z4m
 repeat (first | refine z02 h0 ?_ | refine z07 ?_ ?_ | rfl | exact h0.symm)
noncomputable def z18 (i:Int) (q0w q0r q0o:Nat) (b0 b1 b2 b3:List Nat) (q13 q14 q0z q0s:Nat) (q19:Int) (q18 q15:Nat):Nat→Nat→Nat→Int→Option ((Unit)⊕(Nat×Nat×Int×Bool))
 | 0,_,_,_=>none
 | n+1,low,q1f,t24=>z4m i q0w q0r q0o b0 b1 b2 b3 q13 q14 q0z q0s q19 q18 q15  low q1f t24  (fun low' q1f' t24'=>z18 i q0w q0r q0o b0 b1 b2 b3 q13 q14 q0z q0s q19 q18 q15 n low' q1f' t24') (fun _=>some (Sum.inl ())) (fun c0_ c1_ c2_ c3_=>some (Sum.inr (c0_,c1_,c2_,c3_)))
theorem zmq (i:Int) (q0w q0r q0o:Nat) (b0 b1 b2 b3:List Nat) (q13 q14 q0z q0s:Nat) (q19:Int) (q18 q15 n low q1f:Nat) (t24:Int):z18 i q0w q0r q0o b0 b1 b2 b3 q13 q14 q0z q0s q19 q18 q15 (n+1) low q1f t24=z4m i q0w q0r q0o b0 b1 b2 b3 q13 q14 q0z q0s q19 q18 q15  low q1f t24  (fun low' q1f' t24'=>z18 i q0w q0r q0o b0 b1 b2 b3 q13 q14 q0z q0s q19 q18 q15 n low' q1f' t24') (fun _=>some (Sum.inl ())) (fun c0_ c1_ c2_ c3_=>some (Sum.inr (c0_,c1_,c2_,c3_))):=rfl
noncomputable def z99 (i:Int) (q0w q0r q0o:Nat) (b0 b1 b2 b3:List Nat) (q13 q14 q0z q0s:Nat) (q19:Int) (q18 q15 low q1f:Nat) (t24:Int):Bool:=(z18 i q0w q0r q0o b0 b1 b2 b3 q13 q14 q0z q0s q19 q18 q15 big low q1f t24).isSome
noncomputable def z80 (i:Int) (q0w q0r q0o:Nat) (b0 b1 b2 b3:List Nat) (q13 q14 q0z q0s:Nat) (q19:Int) (q18 q15 low q1f:Nat) (t24:Int):Bool:=oL (z18 i q0w q0r q0o b0 b1 b2 b3 q13 q14 q0z q0s q19 q18 q15 big low q1f t24)
noncomputable def zco (i:Int) (q0w q0r q0o:Nat) (b0 b1 b2 b3:List Nat) (q13 q14 q0z q0s:Nat) (q19:Int) (q18 q15 low q1f:Nat) (t24:Int):Nat:=((tR (z18 i q0w q0r q0o b0 b1 b2 b3 q13 q14 q0z q0s q19 q18 q15 big low q1f t24)).getD default).1
noncomputable def zig (i:Int) (q0w q0r q0o:Nat) (b0 b1 b2 b3:List Nat) (q13 q14 q0z q0s:Nat) (q19:Int) (q18 q15 low q1f:Nat) (t24:Int):Nat:=((tR (z18 i q0w q0r q0o b0 b1 b2 b3 q13 q14 q0z q0s q19 q18 q15 big low q1f t24)).getD default).2.1
noncomputable def ziq (i:Int) (q0w q0r q0o:Nat) (b0 b1 b2 b3:List Nat) (q13 q14 q0z q0s:Nat) (q19:Int) (q18 q15 low q1f:Nat) (t24:Int):Int:=((tR (z18 i q0w q0r q0o b0 b1 b2 b3 q13 q14 q0z q0s q19 q18 q15 big low q1f t24)).getD default).2.2.1
noncomputable def zim (i:Int) (q0w q0r q0o:Nat) (b0 b1 b2 b3:List Nat) (q13 q14 q0z q0s:Nat) (q19:Int) (q18 q15 low q1f:Nat) (t24:Int):Bool:=((tR (z18 i q0w q0r q0o b0 b1 b2 b3 q13 q14 q0z q0s q19 q18 q15 big low q1f t24)).getD default).2.2.2
theorem zyj {i:Int} {q0w q0r q0o:Nat} {b0 b1 b2 b3:List Nat} {q13 q14 q0z q0s:Nat} {q19:Int} {q18 q15 low q1f:Nat} {t24:Int} {m:Nat} {r:Unit} (hm:m=big) (h:z18 i q0w q0r q0o b0 b1 b2 b3 q13 q14 q0z q0s q19 q18 q15 m low q1f t24=some (Sum.inl r)):z99 i q0w q0r q0o b0 b1 b2 b3 q13 q14 q0z q0s q19 q18 q15 low q1f t24=true∧z80 i q0w q0r q0o b0 b1 b2 b3 q13 q14 q0z q0s q19 q18 q15 low q1f t24=true:=by
 subst hm
 unfold z99 z80
 rw[h]
 exact⟨rfl,rfl⟩
theorem zy7 {i:Int} {q0w q0r q0o:Nat} {b0 b1 b2 b3:List Nat} {q13 q14 q0z q0s:Nat} {q19:Int} {q18 q15 low q1f:Nat} {t24:Int} {m:Nat} {r:Nat×Nat×Int×Bool} (hm:m=big) (h:z18 i q0w q0r q0o b0 b1 b2 b3 q13 q14 q0z q0s q19 q18 q15 m low q1f t24=some (Sum.inr r)):z99 i q0w q0r q0o b0 b1 b2 b3 q13 q14 q0z q0s q19 q18 q15 low q1f t24=true∧z80 i q0w q0r q0o b0 b1 b2 b3 q13 q14 q0z q0s q19 q18 q15 low q1f t24=false∧zco i q0w q0r q0o b0 b1 b2 b3 q13 q14 q0z q0s q19 q18 q15 low q1f t24=r.1∧zig i q0w q0r q0o b0 b1 b2 b3 q13 q14 q0z q0s q19 q18 q15 low q1f t24=r.2.1∧ziq i q0w q0r q0o b0 b1 b2 b3 q13 q14 q0z q0s q19 q18 q15 low q1f t24=r.2.2.1∧zim i q0w q0r q0o b0 b1 b2 b3 q13 q14 q0z q0s q19 q18 q15 low q1f t24=r.2.2.2:=by
 subst hm
 unfold z99 z80 zco zig ziq zim
 rw[h]
 exact⟨rfl,rfl,rfl,rfl,rfl,rfl⟩
noncomputable def z69 (q03:Nat) (q09:List Nat) (q06:Nat) (q0b:List Nat) (q05:Nat) (q0c:List Nat) (q0d:Nat) (q0f:List Nat) (q0h:Int) (q0j q0k:Nat) (x1:Int) (x2 x3 x4:Nat):=(zfr q03 (pF q09 0 (muN q03 1)) q06 (pF q0b 0 (muN q06 1)) q05 (pF q0c 0 (muN q05 1)) q0d (pF q0f 0 (muN q0d 3)) q0h q0j q0k x1 x2 x3 x4)
noncomputable def zfs (q03:Nat) (q09:List Nat) (q06:Nat) (q0b:List Nat) (q05:Nat) (q0c:List Nat) (q0d:Nat) (q0f:List Nat) (q0h:Int) (q0j q0k:Nat) (x1:Int) (x2 x3 x4:Nat):=(fop .quo .f32 x2 (fop .add .f32 1065353216 (zea q03 (pF q09 0 (muN q03 1)) q06 (pF q0b 0 (muN q06 1)) q05 (pF q0c 0 (muN q05 1)) q0d (pF q0f 0 (muN q0d 3)) q0h q0j q0k x1 (z69 q03 q09 q06 q0b q05 q0c q0d q0f q0h q0j q0k x1 x2 x3 x4) x4)))
noncomputable def zfi (q03:Nat) (q09:List Nat) (q06:Nat) (q0b:List Nat) (q05:Nat) (q0c:List Nat) (q0d:Nat) (q0f:List Nat) (q0h:Int) (q0j q0k:Nat) (x1:Int) (x2 x3 x4:Nat):=(fop .quo .f32 (fop .mul .f32 x3 (gF q0f (ixO 0 x1 3))) (fop .sub .f32 1065353216 (zeg q03 (pF q09 0 (muN q03 1)) q06 (pF q0b 0 (muN q06 1)) q05 (pF q0c 0 (muN q05 1)) q0d (pF q0f 0 (muN q0d 3)) q0h q0j q0k x1 (z69 q03 q09 q06 q0b q05 q0c q0d q0f q0h q0j q0k x1 x2 x3 x4) x4)))
noncomputable def zfh (q03:Nat) (q09:List Nat) (q06:Nat) (q0b:List Nat) (q05:Nat) (q0c:List Nat) (q0d:Nat) (q0f:List Nat) (q0h:Int) (q0j q0k:Nat) (x1:Int) (x2 x3 x4 x5:Nat):=(fop .mul .f32 (fop .mul .f32 (fop .mul .f32 1056964608 x5) (fop .add .f32 (fop .mul .f32 (zfs q03 q09 q06 q0b q05 q0c q0d q0f q0h q0j q0k x1 x2 x3 x4) (zfs q03 q09 q06 q0b q05 q0c q0d q0f q0h q0j q0k x1 x2 x3 x4)) (fop .mul .f32 (zfi q03 q09 q06 q0b q05 q0c q0d q0f q0h q0j q0k x1 x2 x3 x4) (zfi q03 q09 q06 q0b q05 q0c q0d q0f q0h q0j q0k x1 x2 x3 x4)))) (gF q0f (Nat.succ (ixO 0 x1 3))))
noncomputable def z84 (q03:Nat) (q09:List Nat) (q06:Nat) (q0b:List Nat) (q05:Nat) (q0c:List Nat) (q0d:Nat) (q0f:List Nat) (q0h:Int) (q0j q0k:Nat) (x1:Int) (x2 x3 x4 x5:Nat):=(fop .mul .f32 (zfh q03 q09 q06 q0b q05 q0c q0d q0f q0h q0j q0k x1 x2 x3 x4 x5) (zj0 q03 (pF q09 0 (muN q03 1)) q06 (pF q0b 0 (muN q06 1)) q05 (pF q0c 0 (muN q05 1)) q0d (pF q0f 0 (muN q0d 3)) q0h q0j q0k x1 (z69 q03 q09 q06 q0b q05 q0c q0d q0f q0h q0j q0k x1 x2 x3 x4) x4))
noncomputable def z83 (q03:Nat) (q09:List Nat) (q06:Nat) (q0b:List Nat) (q05:Nat) (q0c:List Nat) (q0d:Nat) (q0f:List Nat) (q0h:Int) (q0j q0k:Nat) (x1:Int) (x2 x3 x4 x5:Nat):=(fop .mul .f32 (zfh q03 q09 q06 q0b q05 q0c q0d q0f q0h q0j q0k x1 x2 x3 x4 x5) (zj2 q03 (pF q09 0 (muN q03 1)) q06 (pF q0b 0 (muN q06 1)) q05 (pF q0c 0 (muN q05 1)) q0d (pF q0f 0 (muN q0d 3)) q0h q0j q0k x1 (z69 q03 q09 q06 q0b q05 q0c q0d q0f q0h q0j q0k x1 x2 x3 x4) x4))
noncomputable def z98 {R:Type} (q03:Nat) (q09:List Nat) (q06:Nat) (q0b:List Nat) (q05:Nat) (q0c:List Nat) (q0d:Nat) (q0f:List Nat) (q0h:Int) (q0j q0k:Nat) (x1:Int) (x2 x3 x4 x5:Nat) (k_:Nat→Nat→Bool→Option R):Option R:=(grd (zh7 q03 (pF q09 0 (muN q03 1)) q06 (pF q0b 0 (muN q06 1)) q05 (pF q0c 0 (muN q05 1)) q0d (pF q0f 0 (muN q0d 3)) q0h q0j q0k x1 x2 x3 x4) (br (bnot (zfo q03 (pF q09 0 (muN q03 1)) q06 (pF q0b 0 (muN q06 1)) q05 (pF q0c 0 (muN q05 1)) q0d (pF q0f 0 (muN q0d 3)) q0h q0j q0k x1 x2 x3 x4)) (k_ 0 0 Bool.false) (grd (zg3 q03 (pF q09 0 (muN q03 1)) q06 (pF q0b 0 (muN q06 1)) q05 (pF q0c 0 (muN q05 1)) q0d (pF q0f 0 (muN q0d 3)) q0h q0j q0k x1 (z69 q03 q09 q06 q0b q05 q0c q0d q0f q0h q0j q0k x1 x2 x3 x4) x4) (grd (okIx x1 q0d) (grd (zi9 (z83 q03 q09 q06 q0b q05 q0c q0d q0f q0h q0j q0k x1 x2 x3 x4 x5) (z84 q03 q09 q06 q0b q05 q0c q0d q0f q0h q0j q0k x1 x2 x3 x4 x5)) (k_ (zbo (z83 q03 q09 q06 q0b q05 q0c q0d q0f q0h q0j q0k x1 x2 x3 x4 x5) (z84 q03 q09 q06 q0b q05 q0c q0d q0f q0h q0j q0k x1 x2 x3 x4 x5)) (zbm (z83 q03 q09 q06 q0b q05 q0c q0d q0f q0h q0j q0k x1 x2 x3 x4 x5) (z84 q03 q09 q06 q0b q05 q0c q0d q0f q0h q0j q0k x1 x2 x3 x4 x5)) (zbs (z83 q03 q09 q06 q0b q05 q0c q0d q0f q0h q0j q0k x1 x2 x3 x4 x5) (z84 q03 q09 q06 q0b q05 q0c q0d q0f q0h q0j q0k x1 x2 x3 x4 x5))))))))
noncomputable def z3d (q03:Nat) (q09:List Nat) (q06:Nat) (q0b:List Nat) (q05:Nat) (q0c:List Nat) (q0d:Nat) (q0f:List Nat) (q0h:Int) (q0j q0k:Nat) (x1:Int) (x2 x3 x4 x5:Nat):Option (Nat×Nat×Bool):=z98 q03 q09 q06 q0b q05 q0c q0d q0f q0h q0j q0k x1 x2 x3 x4 x5 (fun c0_ c1_ c2_=>some (c0_,c1_,c2_))
theorem zw7 {R R':Type} (o:Option R→Option R') (h0:o none=none) (q03:Nat) (q09:List Nat) (q06:Nat) (q0b:List Nat) (q05:Nat) (q0c:List Nat) (q0d:Nat) (q0f:List Nat) (q0h:Int) (q0j q0k:Nat) (x1:Int) (x2 x3 x4 x5:Nat) (k_:Nat→Nat→Bool→Option R):z98 q03 q09 q06 q0b q05 q0c q0d q0f q0h q0j q0k x1 x2 x3 x4 x5 (fun c0_ c1_ c2_=>o (k_ c0_ c1_ c2_))=o (z98 q03 q09 q06 q0b q05 q0c q0d q0f q0h q0j q0k x1 x2 x3 x4 x5 k_):=by
 unfold z98
 repeat (first | refine z02 h0 ?_ | refine z07 ?_ ?_ | rfl | exact h0.symm)
noncomputable def zc3 (q03:Nat) (q09:List Nat) (q06:Nat) (q0b:List Nat) (q05:Nat) (q0c:List Nat) (q0d:Nat) (q0f:List Nat) (q0h:Int) (q0j q0k:Nat) (x1:Int) (x2 x3 x4 x5:Nat):Bool:=(z3d q03 q09 q06 q0b q05 q0c q0d q0f q0h q0j q0k x1 x2 x3 x4 x5).isSome
noncomputable def z87 (q03:Nat) (q09:List Nat) (q06:Nat) (q0b:List Nat) (q05:Nat) (q0c:List Nat) (q0d:Nat) (q0f:List Nat) (q0h:Int) (q0j q0k:Nat) (x1:Int) (x2 x3 x4 x5:Nat):Nat:=((z3d q03 q09 q06 q0b q05 q0c q0d q0f q0h q0j q0k x1 x2 x3 x4 x5).getD default).1
noncomputable def z89 (q03:Nat) (q09:List Nat) (q06:Nat) (q0b:List Nat) (q05:Nat) (q0c:List Nat) (q0d:Nat) (q0f:List Nat) (q0h:Int) (q0j q0k:Nat) (x1:Int) (x2 x3 x4 x5:Nat):Nat:=((z3d q03 q09 q06 q0b q05 q0c q0d q0f q0h q0j q0k x1 x2 x3 x4 x5).getD default).2.1
noncomputable def zaj (q03:Nat) (q09:List Nat) (q06:Nat) (q0b:List Nat) (q05:Nat) (q0c:List Nat) (q0d:Nat) (q0f:List Nat) (q0h:Int) (q0j q0k:Nat) (x1:Int) (x2 x3 x4 x5:Nat):Bool:=((z3d q03 q09 q06 q0b q05 q0c q0d q0f q0h q0j q0k x1 x2 x3 x4 x5).getD default).2.2
theorem zzz {q03:Nat} {q09:List Nat} {q06:Nat} {q0b:List Nat} {q05:Nat} {q0c:List Nat} {q0d:Nat} {q0f:List Nat} {q0h:Int} {q0j q0k:Nat} {x1:Int} {x2 x3 x4 x5:Nat} {r:Nat×Nat×Bool} (h:z3d q03 q09 q06 q0b q05 q0c q0d q0f q0h q0j q0k x1 x2 x3 x4 x5=some r):zc3 q03 q09 q06 q0b q05 q0c q0d q0f q0h q0j q0k x1 x2 x3 x4 x5=true∧z87 q03 q09 q06 q0b q05 q0c q0d q0f q0h q0j q0k x1 x2 x3 x4 x5=r.1∧z89 q03 q09 q06 q0b q05 q0c q0d q0f q0h q0j q0k x1 x2 x3 x4 x5=r.2.1∧zaj q03 q09 q06 q0b q05 q0c q0d q0f q0h q0j q0k x1 x2 x3 x4 x5=r.2.2:=by
 unfold zc3 z87 z89 zaj
 rw[h]
 exact⟨rfl,rfl,rfl,rfl⟩
noncomputable def zhw {R:Type} (q00:Nat) (q04:List Nat) (q02:Nat) (q07:List Nat) (q01:Nat) (q08:List Nat) (q0a:Nat) (q0e:List Nat) (q0i:Int) (q0n q0m:Nat) (i:Int) (q0w q0r q0o:Nat) (k_:Nat→Bool→Option R):Option R:=(grd (zgj q00 (pF q04 0 (muN q00 1)) q02 (pF q07 0 (muN q02 1)) q01 (pF q08 0 (muN q01 1)) q0a (pF q0e 0 (muN q0a 3)) q0i q0n q0m i q0w q0r q0o) (br (bnot (zdt q00 (pF q04 0 (muN q00 1)) q02 (pF q07 0 (muN q02 1)) q01 (pF q08 0 (muN q01 1)) q0a (pF q0e 0 (muN q0a 3)) q0i q0n q0m i q0w q0r q0o)) (k_ 0 Bool.false) (grd (z99 i q0w q0r q0o q04 q07 q08 q0e q00 q02 q01 q0a q0i q0n q0m 981668463 1048508891 0) (br (z80 i q0w q0r q0o q04 q07 q08 q0e q00 q02 q01 q0a q0i q0n q0m 981668463 1048508891 0) (k_ 0 Bool.false) (k_ (zco i q0w q0r q0o q04 q07 q08 q0e q00 q02 q01 q0a q0i q0n q0m 981668463 1048508891 0) Bool.true)))))
noncomputable def za8 (q00:Nat) (q04:List Nat) (q02:Nat) (q07:List Nat) (q01:Nat) (q08:List Nat) (q0a:Nat) (q0e:List Nat) (q0i:Int) (q0n q0m:Nat) (i:Int) (q0w q0r q0o:Nat):Option (Nat×Bool):=zhw q00 q04 q02 q07 q01 q08 q0a q0e q0i q0n q0m i q0w q0r q0o (fun c0_ c1_=>some (c0_,c1_))
theorem y06 {R R':Type} (o:Option R→Option R') (h0:o none=none) (q00:Nat) (q04:List Nat) (q02:Nat) (q07:List Nat) (q01:Nat) (q08:List Nat) (q0a:Nat) (q0e:List Nat) (q0i:Int) (q0n q0m:Nat) (i:Int) (q0w q0r q0o:Nat) (k_:Nat→Bool→Option R):zhw q00 q04 q02 q07 q01 q08 q0a q0e q0i q0n q0m i q0w q0r q0o (fun c0_ c1_=>o (k_ c0_ c1_))=o (zhw q00 q04 q02 q07 q01 q08 q0a q0e q0i q0n q0m i q0w q0r q0o k_):=by
 unfold zhw
 repeat (first | refine z02 h0 ?_ | refine z07 ?_ ?_ | rfl | exact h0.symm)
noncomputable def zlt (q00:Nat) (q04:List Nat) (q02:Nat) (q07:List Nat) (q01:Nat) (q08:List Nat) (q0a:Nat) (q0e:List Nat) (q0i:Int) (q0n q0m:Nat) (i:Int) (q0w q0r q0o:Nat):Bool:=(za8 q00 q04 q02 q07 q01 q08 q0a q0e q0i q0n q0m i q0w q0r q0o).isSome
noncomputable def zku (q00:Nat) (q04:List Nat) (q02:Nat) (q07:List Nat) (q01:Nat) (q08:List Nat) (q0a:Nat) (q0e:List Nat) (q0i:Int) (q0n q0m:Nat) (i:Int) (q0w q0r q0o:Nat):Nat:=((za8 q00 q04 q02 q07 q01 q08 q0a q0e q0i q0n q0m i q0w q0r q0o).getD default).1
noncomputable def zkx (q00:Nat) (q04:List Nat) (q02:Nat) (q07:List Nat) (q01:Nat) (q08:List Nat) (q0a:Nat) (q0e:List Nat) (q0i:Int) (q0n q0m:Nat) (i:Int) (q0w q0r q0o:Nat):Bool:=((za8 q00 q04 q02 q07 q01 q08 q0a q0e q0i q0n q0m i q0w q0r q0o).getD default).2
theorem y68 {q00:Nat} {q04:List Nat} {q02:Nat} {q07:List Nat} {q01:Nat} {q08:List Nat} {q0a:Nat} {q0e:List Nat} {q0i:Int} {q0n q0m:Nat} {i:Int} {q0w q0r q0o:Nat} {r:Nat×Bool} (h:za8 q00 q04 q02 q07 q01 q08 q0a q0e q0i q0n q0m i q0w q0r q0o=some r):zlt q00 q04 q02 q07 q01 q08 q0a q0e q0i q0n q0m i q0w q0r q0o=true∧zku q00 q04 q02 q07 q01 q08 q0a q0e q0i q0n q0m i q0w q0r q0o=r.1∧zkx q00 q04 q02 q07 q01 q08 q0a q0e q0i q0n q0m i q0w q0r q0o=r.2:=by
 unfold zlt zku zkx
 rw[h]
 exact⟨rfl,rfl,rfl⟩
noncomputable def z49 (q03:Nat) (q09:List Nat) (q06:Nat) (q0b:List Nat) (q05:Nat) (q0c:List Nat) (q0d:Nat) (q0f:List Nat) (q0h:Int) (q0j q0k:Nat) (x1:Int) (x2 x3 x4:Nat):=(zku q03 (pF q09 0 (muN q03 1)) q06 (pF q0b 0 (muN q06 1)) q05 (pF q0c 0 (muN q05 1)) q0d (pF q0f 0 (muN q0d 3)) q0h q0j q0k x1 x2 x3 x4)
noncomputable def zgx (q03:Nat) (q09:List Nat) (q06:Nat) (q0b:List Nat) (q05:Nat) (q0c:List Nat) (q0d:Nat) (q0f:List Nat) (q0h:Int) (q0j q0k:Nat) (x1:Int) (x2 x3 x4:Nat):=(fop .quo .f32 x2 (fop .add .f32 1065353216 (z7n q03 (pF q09 0 (muN q03 1)) q06 (pF q0b 0 (muN q06 1)) q05 (pF q0c 0 (muN q05 1)) q0d (pF q0f 0 (muN q0d 3)) q0h q0j q0k x1 (z49 q03 q09 q06 q0b q05 q0c q0d q0f q0h q0j q0k x1 x2 x3 x4) x4)))
noncomputable def zgq (q03:Nat) (q09:List Nat) (q06:Nat) (q0b:List Nat) (q05:Nat) (q0c:List Nat) (q0d:Nat) (q0f:List Nat) (q0h:Int) (q0j q0k:Nat) (x1:Int) (x2 x3 x4:Nat):=(fop .quo .f32 (fop .mul .f32 x3 (gF q0f (ixO 0 x1 3))) (fop .sub .f32 1065353216 (z7t q03 (pF q09 0 (muN q03 1)) q06 (pF q0b 0 (muN q06 1)) q05 (pF q0c 0 (muN q05 1)) q0d (pF q0f 0 (muN q0d 3)) q0h q0j q0k x1 (z49 q03 q09 q06 q0b q05 q0c q0d q0f q0h q0j q0k x1 x2 x3 x4) x4)))
noncomputable def zgv (q03:Nat) (q09:List Nat) (q06:Nat) (q0b:List Nat) (q05:Nat) (q0c:List Nat) (q0d:Nat) (q0f:List Nat) (q0h:Int) (q0j q0k:Nat) (x1:Int) (x2 x3 x4 x5:Nat):=(fop .mul .f32 (fop .mul .f32 (fop .mul .f32 1056964608 x5) (fop .add .f32 (fop .mul .f32 (zgx q03 q09 q06 q0b q05 q0c q0d q0f q0h q0j q0k x1 x2 x3 x4) (zgx q03 q09 q06 q0b q05 q0c q0d q0f q0h q0j q0k x1 x2 x3 x4)) (fop .mul .f32 (zgq q03 q09 q06 q0b q05 q0c q0d q0f q0h q0j q0k x1 x2 x3 x4) (zgq q03 q09 q06 q0b q05 q0c q0d q0f q0h q0j q0k x1 x2 x3 x4)))) (gF q0f (Nat.succ (ixO 0 x1 3))))
noncomputable def z7b (q03:Nat) (q09:List Nat) (q06:Nat) (q0b:List Nat) (q05:Nat) (q0c:List Nat) (q0d:Nat) (q0f:List Nat) (q0h:Int) (q0j q0k:Nat) (x1:Int) (x2 x3 x4 x5:Nat):=(fop .mul .f32 (zgv q03 q09 q06 q0b q05 q0c q0d q0f q0h q0j q0k x1 x2 x3 x4 x5) (z7w q03 (pF q09 0 (muN q03 1)) q06 (pF q0b 0 (muN q06 1)) q05 (pF q0c 0 (muN q05 1)) q0d (pF q0f 0 (muN q0d 3)) q0h q0j q0k x1 (z49 q03 q09 q06 q0b q05 q0c q0d q0f q0h q0j q0k x1 x2 x3 x4) x4))
noncomputable def z78 (q03:Nat) (q09:List Nat) (q06:Nat) (q0b:List Nat) (q05:Nat) (q0c:List Nat) (q0d:Nat) (q0f:List Nat) (q0h:Int) (q0j q0k:Nat) (x1:Int) (x2 x3 x4 x5:Nat):=(fop .mul .f32 (zgv q03 q09 q06 q0b q05 q0c q0d q0f q0h q0j q0k x1 x2 x3 x4 x5) (z7q q03 (pF q09 0 (muN q03 1)) q06 (pF q0b 0 (muN q06 1)) q05 (pF q0c 0 (muN q05 1)) q0d (pF q0f 0 (muN q0d 3)) q0h q0j q0k x1 (z49 q03 q09 q06 q0b q05 q0c q0d q0f q0h q0j q0k x1 x2 x3 x4) x4))
noncomputable def z7u {R:Type} (q03:Nat) (q09:List Nat) (q06:Nat) (q0b:List Nat) (q05:Nat) (q0c:List Nat) (q0d:Nat) (q0f:List Nat) (q0h:Int) (q0j q0k:Nat) (x1:Int) (x2 x3 x4 x5:Nat) (k_:Nat→Nat→Bool→Option R):Option R:=(grd (zlt q03 (pF q09 0 (muN q03 1)) q06 (pF q0b 0 (muN q06 1)) q05 (pF q0c 0 (muN q05 1)) q0d (pF q0f 0 (muN q0d 3)) q0h q0j q0k x1 x2 x3 x4) (br (bnot (zkx q03 (pF q09 0 (muN q03 1)) q06 (pF q0b 0 (muN q06 1)) q05 (pF q0c 0 (muN q05 1)) q0d (pF q0f 0 (muN q0d 3)) q0h q0j q0k x1 x2 x3 x4)) (k_ 0 0 Bool.false) (grd (z5p 1 (pF [x5] 0 (muN 1 1))) (br (bnot (z56 1 (pF [x5] 0 (muN 1 1)))) (k_ 0 0 Bool.false) (grd (z8q q03 (pF q09 0 (muN q03 1)) q06 (pF q0b 0 (muN q06 1)) q05 (pF q0c 0 (muN q05 1)) q0d (pF q0f 0 (muN q0d 3)) q0h q0j q0k x1 (z49 q03 q09 q06 q0b q05 q0c q0d q0f q0h q0j q0k x1 x2 x3 x4) x4) (grd (z8m q03 (pF q09 0 (muN q03 1)) q06 (pF q0b 0 (muN q06 1)) q05 (pF q0c 0 (muN q05 1)) q0d (pF q0f 0 (muN q0d 3)) q0h q0j q0k x1 (z49 q03 q09 q06 q0b q05 q0c q0d q0f q0h q0j q0k x1 x2 x3 x4) x4) (grd (okIx x1 q0d) (grd (okIx x1 q0d) (grd (zaf (z78 q03 q09 q06 q0b q05 q0c q0d q0f q0h q0j q0k x1 x2 x3 x4 x5) (z7b q03 q09 q06 q0b q05 q0c q0d q0f q0h q0j q0k x1 x2 x3 x4 x5)) (k_ (z9o (z78 q03 q09 q06 q0b q05 q0c q0d q0f q0h q0j q0k x1 x2 x3 x4 x5) (z7b q03 q09 q06 q0b q05 q0c q0d q0f q0h q0j q0k x1 x2 x3 x4 x5)) (z9q (z78 q03 q09 q06 q0b q05 q0c q0d q0f q0h q0j q0k x1 x2 x3 x4 x5) (z7b q03 q09 q06 q0b q05 q0c q0d q0f q0h q0j q0k x1 x2 x3 x4 x5)) (z9n (z78 q03 q09 q06 q0b q05 q0c q0d q0f q0h q0j q0k x1 x2 x3 x4 x5) (z7b q03 q09 q06 q0b q05 q0c q0d q0f q0h q0j q0k x1 x2 x3 x4 x5))))))))))))
noncomputable def z2v (q03:Nat) (q09:List Nat) (q06:Nat) (q0b:List Nat) (q05:Nat) (q0c:List Nat) (q0d:Nat) (q0f:List Nat) (q0h:Int) (q0j q0k:Nat) (x1:Int) (x2 x3 x4 x5:Nat):Option (Nat×Nat×Bool):=z7u q03 q09 q06 q0b q05 q0c q0d q0f q0h q0j q0k x1 x2 x3 x4 x5 (fun c0_ c1_ c2_=>some (c0_,c1_,c2_))
theorem zsc {R R':Type} (o:Option R→Option R') (h0:o none=none) (q03:Nat) (q09:List Nat) (q06:Nat) (q0b:List Nat) (q05:Nat) (q0c:List Nat) (q0d:Nat) (q0f:List Nat) (q0h:Int) (q0j q0k:Nat) (x1:Int) (x2 x3 x4 x5:Nat) (k_:Nat→Nat→Bool→Option R):z7u q03 q09 q06 q0b q05 q0c q0d q0f q0h q0j q0k x1 x2 x3 x4 x5 (fun c0_ c1_ c2_=>o (k_ c0_ c1_ c2_))=o (z7u q03 q09 q06 q0b q05 q0c q0d q0f q0h q0j q0k x1 x2 x3 x4 x5 k_):=by
 unfold z7u
 repeat (first | refine z02 h0 ?_ | refine z07 ?_ ?_ | rfl | exact h0.symm)
noncomputable def z5z (q03:Nat) (q09:List Nat) (q06:Nat) (q0b:List Nat) (q05:Nat) (q0c:List Nat) (q0d:Nat) (q0f:List Nat) (q0h:Int) (q0j q0k:Nat) (x1:Int) (x2 x3 x4 x5:Nat):Bool:=(z2v q03 q09 q06 q0b q05 q0c q0d q0f q0h q0j q0k x1 x2 x3 x4 x5).isSome
noncomputable def z5f (q03:Nat) (q09:List Nat) (q06:Nat) (q0b:List Nat) (q05:Nat) (q0c:List Nat) (q0d:Nat) (q0f:List Nat) (q0h:Int) (q0j q0k:Nat) (x1:Int) (x2 x3 x4 x5:Nat):Nat:=((z2v q03 q09 q06 q0b q05 q0c q0d q0f q0h q0j q0k x1 x2 x3 x4 x5).getD default).1
noncomputable def z5h (q03:Nat) (q09:List Nat) (q06:Nat) (q0b:List Nat) (q05:Nat) (q0c:List Nat) (q0d:Nat) (q0f:List Nat) (q0h:Int) (q0j q0k:Nat) (x1:Int) (x2 x3 x4 x5:Nat):Nat:=((z2v q03 q09 q06 q0b q05 q0c q0d q0f q0h q0j q0k x1 x2 x3 x4 x5).getD default).2.1
noncomputable def z5i (q03:Nat) (q09:List Nat) (q06:Nat) (q0b:List Nat) (q05:Nat) (q0c:List Nat) (q0d:Nat) (q0f:List Nat) (q0h:Int) (q0j q0k:Nat) (x1:Int) (x2 x3 x4 x5:Nat):Bool:=((z2v q03 q09 q06 q0b q05 q0c q0d q0f q0h q0j q0k x1 x2 x3 x4 x5).getD default).2.2
theorem zul {q03:Nat} {q09:List Nat} {q06:Nat} {q0b:List Nat} {q05:Nat} {q0c:List Nat} {q0d:Nat} {q0f:List Nat} {q0h:Int} {q0j q0k:Nat} {x1:Int} {x2 x3 x4 x5:Nat} {r:Nat×Nat×Bool} (h:z2v q03 q09 q06 q0b q05 q0c q0d q0f q0h q0j q0k x1 x2 x3 x4 x5=some r):z5z q03 q09 q06 q0b q05 q0c q0d q0f q0h q0j q0k x1 x2 x3 x4 x5=true∧z5f q03 q09 q06 q0b q05 q0c q0d q0f q0h q0j q0k x1 x2 x3 x4 x5=r.1∧z5h q03 q09 q06 q0b q05 q0c q0d q0f q0h q0j q0k x1 x2 x3 x4 x5=r.2.1∧z5i q03 q09 q06 q0b q05 q0c q0d q0f q0h q0j q0k x1 x2 x3 x4 x5=r.2.2:=by
 unfold z5z z5f z5h z5i
 rw[h]
 exact⟨rfl,rfl,rfl,rfl⟩
noncomputable def z4l {R:Type} (t1 t2 t3 t4:Nat) (b0 b1 b2 b3:List Nat) (q13 q14 q0z q0s:Nat) (q19:Int) (q18 q15 q1n q1o:Nat) (t15:Int) (b5 b6:List Nat) (kn_:Nat→Nat→Int→(List Nat)→(List Nat)→Option R) (k0_:Unit→Option R) (k1_:Nat→Nat→Int→Bool→(List Nat)→(List Nat)→Option R):Option R:=(br (ltI t15 (Int.ofNat q0s)) (grd (zlu q13 (pF b0 0 (muN q13 1)) q14 (pF b1 0 (muN q14 1)) q0z (pF b2 0 (muN q0z 1)) q0s (pF b3 0 (muN q0s 3)) q19 q18 q15 t15 t1 t2 t3) (br (bnot (zl0 q13 (pF b0 0 (muN q13 1)) q14 (pF b1 0 (muN q14 1)) q0z (pF b2 0 (muN q0z 1)) q0s (pF b3 0 (muN q0s 3)) q19 q18 q15 t15 t1 t2 t3)) (k0_ ()) (grd (zc3 q13 (pF b0 0 (muN q13 1)) q14 (pF b1 0 (muN q14 1)) q0z (pF b2 0 (muN q0z 1)) q0s (pF b3 0 (muN q0s 3)) q19 q18 q15 t15 t1 t2 t3 t4) (br (bnot (zaj q13 (pF b0 0 (muN q13 1)) q14 (pF b1 0 (muN q14 1)) q0z (pF b2 0 (muN q0z 1)) q0s (pF b3 0 (muN q0s 3)) q19 q18 q15 t15 t1 t2 t3 t4)) (k0_ ()) (grd (okA2 q1n 1 4 (nF (pF [(z87 q13 (pF b0 0 (muN q13 1)) q14 (pF b1 0 (muN q14 1)) q0z (pF b2 0 (muN q0z 1)) q0s (pF b3 0 (muN q0s 3)) q19 q18 q15 t15 t1 t2 t3 t4)] 0 (muN 1 1))) (nF b5) 1) (grd (okA2 q1o 1 4 (nF (pF [(z89 q13 (pF b0 0 (muN q13 1)) q14 (pF b1 0 (muN q14 1)) q0z (pF b2 0 (muN q0z 1)) q0s (pF b3 0 (muN q0s 3)) q19 q18 q15 t15 t1 t2 t3 t4)] 0 (muN 1 1))) (nF b6) 1) (kn_ (adN q1n 1) (adN q1o 1) (addI .i64 t15 1) (aF b5 (pF [(z87 q13 (pF b0 0 (muN q13 1)) q14 (pF b1 0 (muN q14 1)) q0z (pF b2 0 (muN q0z 1)) q0s (pF b3 0 (muN q0s 3)) q19 q18 q15 t15 t1 t2 t3 t4)] 0 (muN 1 1))) (aF b6 (pF [(z89 q13 (pF b0 0 (muN q13 1)) q14 (pF b1 0 (muN q14 1)) q0z (pF b2 0 (muN q0z 1)) q0s (pF b3 0 (muN q0s 3)) q19 q18 q15 t15 t1 t2 t3 t4)] 0 (muN 1 1)))))))))) (k1_ q1n q1o t15 (ltI t15 (Int.ofNat q0s)) b5 b6))
theorem zwb {R R':Type} (o:Option R→Option R') (h0:o none=none) (t1 t2 t3 t4:Nat) (b0 b1 b2 b3:List Nat) (q13 q14 q0z q0s:Nat) (q19:Int) (q18 q15 q1n q1o:Nat) (t15:Int) (b5 b6:List Nat) (kn_:Nat→Nat→Int→(List Nat)→(List Nat)→Option R) (k0_:Unit→Option R) (k1_:Nat→Nat→Int→Bool→(List Nat)→(List Nat)→Option R):z4l t1 t2 t3 t4 b0 b1 b2 b3 q13 q14 q0z q0s q19 q18 q15 q1n q1o t15 b5 b6 (fun q1n' q1o' t15' b5' b6'=>o (kn_ q1n' q1o' t15' b5' b6')) (fun _=>o (k0_ ())) (fun c0_ c1_ c2_ c3_ c4_ c5_=>o (k1_ c0_ c1_ c2_ c3_ c4_ c5_))=o (z4l t1 t2 t3 t4 b0 b1 b2 b3 q13 q14 q0z q0s q19 q18 q15 q1n q1o t15 b5 b6 kn_ k0_ k1_):=by
 unfold z4l
 repeat (first | refine z02 h0 ?_ | refine z07 ?_ ?_ | rfl | exact h0.symm)
noncomputable def z0j (t1 t2 t3 t4:Nat) (b0 b1 b2 b3:List Nat) (q13 q14 q0z q0s:Nat) (q19:Int) (q18 q15:Nat):Nat→Nat→Nat→Int→(List Nat)→(List Nat)→Option ((Unit)⊕(Nat×Nat×Int×Bool×(List Nat)×(List Nat)))
 | 0,_,_,_,_,_=>none
 | n+1,q1n,q1o,t15,b5,b6=>z4l t1 t2 t3 t4 b0 b1 b2 b3 q13 q14 q0z q0s q19 q18 q15  q1n q1o t15 b5 b6  (fun q1n' q1o' t15' b5' b6'=>z0j t1 t2 t3 t4 b0 b1 b2 b3 q13 q14 q0z q0s q19 q18 q15 n q1n' q1o' t15' b5' b6') (fun _=>some (Sum.inl ())) (fun c0_ c1_ c2_ c3_ c4_ c5_=>some (Sum.inr (c0_,c1_,c2_,c3_,c4_,c5_)))
theorem zmu (t1 t2 t3 t4:Nat) (b0 b1 b2 b3:List Nat) (q13 q14 q0z q0s:Nat) (q19:Int) (q18 q15 n q1n q1o:Nat) (t15:Int) (b5 b6:List Nat):z0j t1 t2 t3 t4 b0 b1 b2 b3 q13 q14 q0z q0s q19 q18 q15 (n+1) q1n q1o t15 b5 b6=z4l t1 t2 t3 t4 b0 b1 b2 b3 q13 q14 q0z q0s q19 q18 q15  q1n q1o t15 b5 b6  (fun q1n' q1o' t15' b5' b6'=>z0j t1 t2 t3 t4 b0 b1 b2 b3 q13 q14 q0z q0s q19 q18 q15 n q1n' q1o' t15' b5' b6') (fun _=>some (Sum.inl ())) (fun c0_ c1_ c2_ c3_ c4_ c5_=>some (Sum.inr (c0_,c1_,c2_,c3_,c4_,c5_))):=rfl
noncomputable def z91 (t1 t2 t3 t4:Nat) (b0 b1 b2 b3:List Nat) (q13 q14 q0z q0s:Nat) (q19:Int) (q18 q15 q1n q1o:Nat) (t15:Int) (b5 b6:List Nat):Bool:=(z0j t1 t2 t3 t4 b0 b1 b2 b3 q13 q14 q0z q0s q19 q18 q15 big q1n q1o t15 b5 b6).isSome
noncomputable def z86 (t1 t2 t3 t4:Nat) (b0 b1 b2 b3:List Nat) (q13 q14 q0z q0s:Nat) (q19:Int) (q18 q15 q1n q1o:Nat) (t15:Int) (b5 b6:List Nat):Bool:=oL (z0j t1 t2 t3 t4 b0 b1 b2 b3 q13 q14 q0z q0s q19 q18 q15 big q1n q1o t15 b5 b6)
noncomputable def zcm (t1 t2 t3 t4:Nat) (b0 b1 b2 b3:List Nat) (q13 q14 q0z q0s:Nat) (q19:Int) (q18 q15 q1n q1o:Nat) (t15:Int) (b5 b6:List Nat):Nat:=((tR (z0j t1 t2 t3 t4 b0 b1 b2 b3 q13 q14 q0z q0s q19 q18 q15 big q1n q1o t15 b5 b6)).getD default).1
noncomputable def zcp (t1 t2 t3 t4:Nat) (b0 b1 b2 b3:List Nat) (q13 q14 q0z q0s:Nat) (q19:Int) (q18 q15 q1n q1o:Nat) (t15:Int) (b5 b6:List Nat):Nat:=((tR (z0j t1 t2 t3 t4 b0 b1 b2 b3 q13 q14 q0z q0s q19 q18 q15 big q1n q1o t15 b5 b6)).getD default).2.1
noncomputable def zij (t1 t2 t3 t4:Nat) (b0 b1 b2 b3:List Nat) (q13 q14 q0z q0s:Nat) (q19:Int) (q18 q15 q1n q1o:Nat) (t15:Int) (b5 b6:List Nat):Int:=((tR (z0j t1 t2 t3 t4 b0 b1 b2 b3 q13 q14 q0z q0s q19 q18 q15 big q1n q1o t15 b5 b6)).getD default).2.2.1
noncomputable def zif (t1 t2 t3 t4:Nat) (b0 b1 b2 b3:List Nat) (q13 q14 q0z q0s:Nat) (q19:Int) (q18 q15 q1n q1o:Nat) (t15:Int) (b5 b6:List Nat):Bool:=((tR (z0j t1 t2 t3 t4 b0 b1 b2 b3 q13 q14 q0z q0s q19 q18 q15 big q1n q1o t15 b5 b6)).getD default).2.2.2.1
noncomputable def zch (t1 t2 t3 t4:Nat) (b0 b1 b2 b3:List Nat) (q13 q14 q0z q0s:Nat) (q19:Int) (q18 q15 q1n q1o:Nat) (t15:Int) (b5 b6:List Nat):List Nat:=((tR (z0j t1 t2 t3 t4 b0 b1 b2 b3 q13 q14 q0z q0s q19 q18 q15 big q1n q1o t15 b5 b6)).getD default).2.2.2.2.1
noncomputable def zcr (t1 t2 t3 t4:Nat) (b0 b1 b2 b3:List Nat) (q13 q14 q0z q0s:Nat) (q19:Int) (q18 q15 q1n q1o:Nat) (t15:Int) (b5 b6:List Nat):List Nat:=((tR (z0j t1 t2 t3 t4 b0 b1 b2 b3 q13 q14 q0z q0s q19 q18 q15 big q1n q1o t15 b5 b6)).getD default).2.2.2.2.2
theorem zzc {t1 t2 t3 t4:Nat} {b0 b1 b2 b3:List Nat} {q13 q14 q0z q0s:Nat} {q19:Int} {q18 q15 q1n q1o:Nat} {t15:Int} {b5 b6:List Nat} {m:Nat} {r:Unit} (hm:m=big) (h:z0j t1 t2 t3 t4 b0 b1 b2 b3 q13 q14 q0z q0s q19 q18 q15 m q1n q1o t15 b5 b6=some (Sum.inl r)):z91 t1 t2 t3 t4 b0 b1 b2 b3 q13 q14 q0z q0s q19 q18 q15 q1n q1o t15 b5 b6=true∧z86 t1 t2 t3 t4 b0 b1 b2 b3 q13 q14 q0z q0s q19 q18 q15 q1n q1o t15 b5 b6=true:=by
 subst hm
 unfold z91 z86
 rw[h]
 exact⟨rfl,rfl⟩
theorem zz5 {t1 t2 t3 t4:Nat} {b0 b1 b2 b3:List Nat} {q13 q14 q0z q0s:Nat} {q19:Int} {q18 q15 q1n q1o:Nat} {t15:Int} {b5 b6:List Nat} {m:Nat} {r:Nat×Nat×Int×Bool×(List Nat)×(List Nat)} (hm:m=big) (h:z0j t1 t2 t3 t4 b0 b1 b2 b3 q13 q14 q0z q0s q19 q18 q15 m q1n q1o t15 b5 b6=some (Sum.inr r)):z91 t1 t2 t3 t4 b0 b1 b2 b3 q13 q14 q0z q0s q19 q18 q15 q1n q1o t15 b5 b6=true∧z86 t1 t2 t3 t4 b0 b1 b2 b3 q13 q14 q0z q0s q19 q18 q15 q1n q1o t15 b5 b6=false∧zcm t1 t2 t3 t4 b0 b1 b2 b3 q13 q14 q0z q0s q19 q18 q15 q1n q1o t15 b5 b6=r.1∧zcp t1 t2 t3 t4 b0 b1 b2 b3 q13 q14 q0z q0s q19 q18 q15 q1n q1o t15 b5 b6=r.2.1∧zij t1 t2 t3 t4 b0 b1 b2 b3 q13 q14 q0z q0s q19 q18 q15 q1n q1o t15 b5 b6=r.2.2.1∧zif t1 t2 t3 t4 b0 b1 b2 b3 q13 q14 q0z q0s q19 q18 q15 q1n q1o t15 b5 b6=r.2.2.2.1∧zch t1 t2 t3 t4 b0 b1 b2 b3 q13 q14 q0z q0s q19 q18 q15 q1n q1o t15 b5 b6=r.2.2.2.2.1∧zcr t1 t2 t3 t4 b0 b1 b2 b3 q13 q14 q0z q0s q19 q18 q15 q1n q1o t15 b5 b6=r.2.2.2.2.2:=by
 subst hm
 unfold z91 z86 zcm zcp zij zif zch zcr
 rw[h]
 exact⟨rfl,rfl,rfl,rfl,rfl,rfl,rfl,rfl⟩
noncomputable def zdc {R:Type} (q03:Nat) (q09:List Nat) (q06:Nat) (q0b:List Nat) (q05:Nat) (q0c:List Nat) (q0d:Nat) (q0f:List Nat) (q0h:Int) (q0j q0k x1 x2 x3 x4:Nat) (k_:Nat→Nat→Bool→(List Nat)→(List Nat)→Option R):Option R:=(grd (zje q03 (pF q09 0 (muN q03 1)) q06 (pF q0b 0 (muN q06 1)) q05 (pF q0c 0 (muN q05 1)) q0d (pF q0f 0 (muN q0d 3)) q0h q0j q0k) (br (bnot (zi6 q03 (pF q09 0 (muN q03 1)) q06 (pF q0b 0 (muN q06 1)) q05 (pF q0c 0 (muN q05 1)) q0d (pF q0f 0 (muN q0d 3)) q0h q0j q0k)) (k_ 0 0 Bool.false [] []) (grd (z7x x4) (br (bnot (z71 x4)) (k_ 0 0 Bool.false [] []) (grd (z91 x1 x2 x3 x4 q09 q0b q0c q0f q03 q06 q05 q0d q0h q0j q0k 0 0 0 [] []) (br (z86 x1 x2 x3 x4 q09 q0b q0c q0f q03 q06 q05 q0d q0h q0j q0k 0 0 0 [] []) (k_ 0 0 Bool.false [] []) (k_ (zcm x1 x2 x3 x4 q09 q0b q0c q0f q03 q06 q05 q0d q0h q0j q0k 0 0 0 [] []) (zcp x1 x2 x3 x4 q09 q0b q0c q0f q03 q06 q05 q0d q0h q0j q0k 0 0 0 [] []) Bool.true (zch x1 x2 x3 x4 q09 q0b q0c q0f q03 q06 q05 q0d q0h q0j q0k 0 0 0 [] []) (zcr x1 x2 x3 x4 q09 q0b q0c q0f q03 q06 q05 q0d q0h q0j q0k 0 0 0 [] []))))))))
noncomputable def z47 (q03:Nat) (q09:List Nat) (q06:Nat) (q0b:List Nat) (q05:Nat) (q0c:List Nat) (q0d:Nat) (q0f:List Nat) (q0h:Int) (q0j q0k x1 x2 x3 x4:Nat):Option (Nat×Nat×Bool×(List Nat)×(List Nat)):=zdc q03 q09 q06 q0b q05 q0c q0d q0f q0h q0j q0k x1 x2 x3 x4 (fun c0_ c1_ c2_ c3_ c4_=>some (c0_,c1_,c2_,c3_,c4_))
theorem y0n {R R':Type} (o:Option R→Option R') (h0:o none=none) (q03:Nat) (q09:List Nat) (q06:Nat) (q0b:List Nat) (q05:Nat) (q0c:List Nat) (q0d:Nat) (q0f:List Nat) (q0h:Int) (q0j q0k x1 x2 x3 x4:Nat) (k_:Nat→Nat→Bool→(List Nat)→(List Nat)→Option R):zdc q03 q09 q06 q0b q05 q0c q0d q0f q0h q0j q0k x1 x2 x3 x4 (fun c0_ c1_ c2_ c3_ c4_=>o (k_ c0_ c1_ c2_ c3_ c4_))=o (zdc q03 q09 q06 q0b q05 q0c q0d q0f q0h q0j q0k x1 x2 x3 x4 k_):=by
 unfold zdc
 repeat (first | refine z02 h0 ?_ | refine z07 ?_ ?_ | rfl | exact h0.symm)
noncomputable def zlw (q03:Nat) (q09:List Nat) (q06:Nat) (q0b:List Nat) (q05:Nat) (q0c:List Nat) (q0d:Nat) (q0f:List Nat) (q0h:Int) (q0j q0k x1 x2 x3 x4:Nat):Bool:=(z47 q03 q09 q06 q0b q05 q0c q0d q0f q0h q0j q0k x1 x2 x3 x4).isSome
noncomputable def zki (q03:Nat) (q09:List Nat) (q06:Nat) (q0b:List Nat) (q05:Nat) (q0c:List Nat) (q0d:Nat) (q0f:List Nat) (q0h:Int) (q0j q0k x1 x2 x3 x4:Nat):Nat:=((z47 q03 q09 q06 q0b q05 q0c q0d q0f q0h q0j q0k x1 x2 x3 x4).getD default).1
noncomputable def zkl (q03:Nat) (q09:List Nat) (q06:Nat) (q0b:List Nat) (q05:Nat) (q0c:List Nat) (q0d:Nat) (q0f:List Nat) (q0h:Int) (q0j q0k x1 x2 x3 x4:Nat):Nat:=((z47 q03 q09 q06 q0b q05 q0c q0d q0f q0h q0j q0k x1 x2 x3 x4).getD default).2.1
noncomputable def zkg (q03:Nat) (q09:List Nat) (q06:Nat) (q0b:List Nat) (q05:Nat) (q0c:List Nat) (q0d:Nat) (q0f:List Nat) (q0h:Int) (q0j q0k x1 x2 x3 x4:Nat):Bool:=((z47 q03 q09 q06 q0b q05 q0c q0d q0f q0h q0j q0k x1 x2 x3 x4).getD default).2.2.1
noncomputable def zkh (q03:Nat) (q09:List Nat) (q06:Nat) (q0b:List Nat) (q05:Nat) (q0c:List Nat) (q0d:Nat) (q0f:List Nat) (q0h:Int) (q0j q0k x1 x2 x3 x4:Nat):List Nat:=((z47 q03 q09 q06 q0b q05 q0c q0d q0f q0h q0j q0k x1 x2 x3 x4).getD default).2.2.2.1
noncomputable def zka (q03:Nat) (q09:List Nat) (q06:Nat) (q0b:List Nat) (q05:Nat) (q0c:List Nat) (q0d:Nat) (q0f:List Nat) (q0h:Int) (q0j q0k x1 x2 x3 x4:Nat):List Nat:=((z47 q03 q09 q06 q0b q05 q0c q0d q0f q0h q0j q0k x1 x2 x3 x4).getD default).2.2.2.2
theorem zuo {q03:Nat} {q09:List Nat} {q06:Nat} {q0b:List Nat} {q05:Nat} {q0c:List Nat} {q0d:Nat} {q0f:List Nat} {q0h:Int} {q0j q0k x1 x2 x3 x4:Nat} {r:Nat×Nat×Bool×(List Nat)×(List Nat)} (h:z47 q03 q09 q06 q0b q05 q0c q0d q0f q0h q0j q0k x1 x2 x3 x4=some r):zlw q03 q09 q06 q0b q05 q0c q0d q0f q0h q0j q0k x1 x2 x3 x4=true∧zki q03 q09 q06 q0b q05 q0c q0d q0f q0h q0j q0k x1 x2 x3 x4=r.1∧zkl q03 q09 q06 q0b q05 q0c q0d q0f q0h q0j q0k x1 x2 x3 x4=r.2.1∧zkg q03 q09 q06 q0b q05 q0c q0d q0f q0h q0j q0k x1 x2 x3 x4=r.2.2.1∧zkh q03 q09 q06 q0b q05 q0c q0d q0f q0h q0j q0k x1 x2 x3 x4=r.2.2.2.1∧zka q03 q09 q06 q0b q05 q0c q0d q0f q0h q0j q0k x1 x2 x3 x4=r.2.2.2.2:=by
 unfold zlw zki zkl zkg zkh zka
 rw[h]
 exact⟨rfl,rfl,rfl,rfl,rfl,rfl⟩
noncomputable def z6h {R:Type} (q00:Nat) (q04:List Nat) (q02:Nat) (q07:List Nat) (q01:Nat) (q08:List Nat) (q0a:Nat) (q0e:List Nat) (q0i:Int) (q0n q0m q0w q0r q0o q1l:Nat) (q1m:Int) (k_:Nat→Nat→Bool→(List Nat)→(List Nat)→Option R):Option R:=(grd (zgf q1m 1 8) (br (bnot (zd9 q1m 1 8)) (k_ 0 0 Bool.false [] []) (grd (zlw q00 (pF q04 0 (muN q00 1)) q02 (pF q07 0 (muN q02 1)) q01 (pF q08 0 (muN q01 1)) q0a (pF q0e 0 (muN q0a 3)) q0i q0n q0m q0w q0r q0o q1l) (k_ (zki q00 (pF q04 0 (muN q00 1)) q02 (pF q07 0 (muN q02 1)) q01 (pF q08 0 (muN q01 1)) q0a (pF q0e 0 (muN q0a 3)) q0i q0n q0m q0w q0r q0o q1l) (zkl q00 (pF q04 0 (muN q00 1)) q02 (pF q07 0 (muN q02 1)) q01 (pF q08 0 (muN q01 1)) q0a (pF q0e 0 (muN q0a 3)) q0i q0n q0m q0w q0r q0o q1l) (zkg q00 (pF q04 0 (muN q00 1)) q02 (pF q07 0 (muN q02 1)) q01 (pF q08 0 (muN q01 1)) q0a (pF q0e 0 (muN q0a 3)) q0i q0n q0m q0w q0r q0o q1l) (zkh q00 (pF q04 0 (muN q00 1)) q02 (pF q07 0 (muN q02 1)) q01 (pF q08 0 (muN q01 1)) q0a (pF q0e 0 (muN q0a 3)) q0i q0n q0m q0w q0r q0o q1l) (zka q00 (pF q04 0 (muN q00 1)) q02 (pF q07 0 (muN q02 1)) q01 (pF q08 0 (muN q01 1)) q0a (pF q0e 0 (muN q0a 3)) q0i q0n q0m q0w q0r q0o q1l)))))
noncomputable def z1k (q00:Nat) (q04:List Nat) (q02:Nat) (q07:List Nat) (q01:Nat) (q08:List Nat) (q0a:Nat) (q0e:List Nat) (q0i:Int) (q0n q0m q0w q0r q0o q1l:Nat) (q1m:Int):Option (Nat×Nat×Bool×(List Nat)×(List Nat)):=z6h q00 q04 q02 q07 q01 q08 q0a q0e q0i q0n q0m q0w q0r q0o q1l q1m (fun c0_ c1_ c2_ c3_ c4_=>some (c0_,c1_,c2_,c3_,c4_))
theorem zt1 {R R':Type} (o:Option R→Option R') (h0:o none=none) (q00:Nat) (q04:List Nat) (q02:Nat) (q07:List Nat) (q01:Nat) (q08:List Nat) (q0a:Nat) (q0e:List Nat) (q0i:Int) (q0n q0m q0w q0r q0o q1l:Nat) (q1m:Int) (k_:Nat→Nat→Bool→(List Nat)→(List Nat)→Option R):z6h q00 q04 q02 q07 q01 q08 q0a q0e q0i q0n q0m q0w q0r q0o q1l q1m (fun c0_ c1_ c2_ c3_ c4_=>o (k_ c0_ c1_ c2_ c3_ c4_))=o (z6h q00 q04 q02 q07 q01 q08 q0a q0e q0i q0n q0m q0w q0r q0o q1l q1m k_):=by
 unfold z6h
 repeat (first | refine z02 h0 ?_ | refine z07 ?_ ?_ | rfl | exact h0.symm)
noncomputable def zcj (q00:Nat) (q04:List Nat) (q02:Nat) (q07:List Nat) (q01:Nat) (q08:List Nat) (q0a:Nat) (q0e:List Nat) (q0i:Int) (q0n q0m q0w q0r q0o q1l:Nat) (q1m:Int):Bool:=(z1k q00 q04 q02 q07 q01 q08 q0a q0e q0i q0n q0m q0w q0r q0o q1l q1m).isSome
noncomputable def zbb (q00:Nat) (q04:List Nat) (q02:Nat) (q07:List Nat) (q01:Nat) (q08:List Nat) (q0a:Nat) (q0e:List Nat) (q0i:Int) (q0n q0m q0w q0r q0o q1l:Nat) (q1m:Int):Nat:=((z1k q00 q04 q02 q07 q01 q08 q0a q0e q0i q0n q0m q0w q0r q0o q1l q1m).getD default).1
noncomputable def zb1 (q00:Nat) (q04:List Nat) (q02:Nat) (q07:List Nat) (q01:Nat) (q08:List Nat) (q0a:Nat) (q0e:List Nat) (q0i:Int) (q0n q0m q0w q0r q0o q1l:Nat) (q1m:Int):Nat:=((z1k q00 q04 q02 q07 q01 q08 q0a q0e q0i q0n q0m q0w q0r q0o q1l q1m).getD default).2.1
noncomputable def zb4 (q00:Nat) (q04:List Nat) (q02:Nat) (q07:List Nat) (q01:Nat) (q08:List Nat) (q0a:Nat) (q0e:List Nat) (q0i:Int) (q0n q0m q0w q0r q0o q1l:Nat) (q1m:Int):Bool:=((z1k q00 q04 q02 q07 q01 q08 q0a q0e q0i q0n q0m q0w q0r q0o q1l q1m).getD default).2.2.1
noncomputable def zbf (q00:Nat) (q04:List Nat) (q02:Nat) (q07:List Nat) (q01:Nat) (q08:List Nat) (q0a:Nat) (q0e:List Nat) (q0i:Int) (q0n q0m q0w q0r q0o q1l:Nat) (q1m:Int):List Nat:=((z1k q00 q04 q02 q07 q01 q08 q0a q0e q0i q0n q0m q0w q0r q0o q1l q1m).getD default).2.2.2.1
noncomputable def zb3 (q00:Nat) (q04:List Nat) (q02:Nat) (q07:List Nat) (q01:Nat) (q08:List Nat) (q0a:Nat) (q0e:List Nat) (q0i:Int) (q0n q0m q0w q0r q0o q1l:Nat) (q1m:Int):List Nat:=((z1k q00 q04 q02 q07 q01 q08 q0a q0e q0i q0n q0m q0w q0r q0o q1l q1m).getD default).2.2.2.2
theorem zwa {q00:Nat} {q04:List Nat} {q02:Nat} {q07:List Nat} {q01:Nat} {q08:List Nat} {q0a:Nat} {q0e:List Nat} {q0i:Int} {q0n q0m q0w q0r q0o q1l:Nat} {q1m:Int} {r:Nat×Nat×Bool×(List Nat)×(List Nat)} (h:z1k q00 q04 q02 q07 q01 q08 q0a q0e q0i q0n q0m q0w q0r q0o q1l q1m=some r):zcj q00 q04 q02 q07 q01 q08 q0a q0e q0i q0n q0m q0w q0r q0o q1l q1m=true∧zbb q00 q04 q02 q07 q01 q08 q0a q0e q0i q0n q0m q0w q0r q0o q1l q1m=r.1∧zb1 q00 q04 q02 q07 q01 q08 q0a q0e q0i q0n q0m q0w q0r q0o q1l q1m=r.2.1∧zb4 q00 q04 q02 q07 q01 q08 q0a q0e q0i q0n q0m q0w q0r q0o q1l q1m=r.2.2.1∧zbf q00 q04 q02 q07 q01 q08 q0a q0e q0i q0n q0m q0w q0r q0o q1l q1m=r.2.2.2.1∧zb3 q00 q04 q02 q07 q01 q08 q0a q0e q0i q0n q0m q0w q0r q0o q1l q1m=r.2.2.2.2:=by
 unfold zcj zbb zb1 zb4 zbf zb3
 rw[h]
 exact⟨rfl,rfl,rfl,rfl,rfl,rfl⟩
noncomputable def zhp (an:Nat) (al:List Nat) (ln:Nat) (ll:List Nat) (dn:Nat) (dl:List Nat) (sn:Nat) (sl:List Nat) (cc:Int) (hb tp x2 x3 x4 x5:Nat) (ws:Int):Bool:=(List.range sn).all fun i=>z5z an (pF al 0 (muN an 1)) ln (pF ll 0 (muN ln 1)) dn (pF dl 0 (muN dn 1)) sn (pF sl 0 (muN sn 3)) cc hb tp (Int.ofNat i) x2 x3 x4 x5
noncomputable def zb0 (an:Nat) (al:List Nat) (ln:Nat) (ll:List Nat) (dn:Nat) (dl:List Nat) (sn:Nat) (sl:List Nat) (cc:Int) (hb tp x2 x3 x4 x5:Nat) (ws:Int):List Nat:=(List.range sn).map fun i=>z5f an (pF al 0 (muN an 1)) ln (pF ll 0 (muN ln 1)) dn (pF dl 0 (muN dn 1)) sn (pF sl 0 (muN sn 3)) cc hb tp (Int.ofNat i) x2 x3 x4 x5
noncomputable def zb8 (an:Nat) (al:List Nat) (ln:Nat) (ll:List Nat) (dn:Nat) (dl:List Nat) (sn:Nat) (sl:List Nat) (cc:Int) (hb tp x2 x3 x4 x5:Nat) (ws:Int):List Nat:=(List.range sn).map fun i=>z5h an (pF al 0 (muN an 1)) ln (pF ll 0 (muN ln 1)) dn (pF dl 0 (muN dn 1)) sn (pF sl 0 (muN sn 3)) cc hb tp (Int.ofNat i) x2 x3 x4 x5
noncomputable def zb5 (an:Nat) (al:List Nat) (ln:Nat) (ll:List Nat) (dn:Nat) (dl:List Nat) (sn:Nat) (sl:List Nat) (cc:Int) (hb tp x2 x3 x4 x5:Nat) (ws:Int):List Bool:=(List.range sn).map fun i=>z5i an (pF al 0 (muN an 1)) ln (pF ll 0 (muN ln 1)) dn (pF dl 0 (muN dn 1)) sn (pF sl 0 (muN sn 3)) cc hb tp (Int.ofNat i) x2 x3 x4 x5
noncomputable def z45 (an:Nat) (al:List Nat) (ln:Nat) (ll:List Nat) (dn:Nat) (dl:List Nat) (sn:Nat) (sl:List Nat) (cc:Int) (hb tp x2 x3 x4 x5:Nat) (ws:Int):Bool:=z82 an (pF al 0 (muN an 1)) ln (pF ll 0 (muN ln 1)) dn (pF dl 0 (muN dn 1)) sn (pF sl 0 (muN sn 3)) cc hb tp&&(bnot (z5o an (pF al 0 (muN an 1)) ln (pF ll 0 (muN ln 1)) dn (pF dl 0 (muN dn 1)) sn (pF sl 0 (muN sn 3)) cc hb tp)||(z6r ws 1 8&&(bnot (z3p ws 1 8)||(okMk (Int.ofNat sn) (Int.ofNat sn) 4&&(okMk (Int.ofNat sn) (Int.ofNat sn) 1&&(decide (0<sn∧sn≤281474976710656)&&(decide (1≤ws∧ws≤8)&&(zhp an al ln ll dn dl sn sl cc hb tp x2 x3 x4 x5 ws&&z34 sn (pB (zb5 an al ln ll dn dl sn sl cc hb tp x2 x3 x4 x5 ws) 0 (muN sn 1)) Bool.false))))))))
noncomputable def z0i (an:Nat) (al:List Nat) (ln:Nat) (ll:List Nat) (dn:Nat) (dl:List Nat) (sn:Nat) (sl:List Nat) (cc:Int) (hb tp x2 x3 x4 x5:Nat) (ws:Int):Bool:=z5o an (pF al 0 (muN an 1)) ln (pF ll 0 (muN ln 1)) dn (pF dl 0 (muN dn 1)) sn (pF sl 0 (muN sn 3)) cc hb tp&&(z3p ws 1 8&&bnot (z2t sn (pB (zb5 an al ln ll dn dl sn sl cc hb tp x2 x3 x4 x5 ws) 0 (muN sn 1)) Bool.false))
noncomputable def z31 (an:Nat) (al:List Nat) (ln:Nat) (ll:List Nat) (dn:Nat) (dl:List Nat) (sn:Nat) (sl:List Nat) (cc:Int) (hb tp x2 x3 x4 x5:Nat) (ws:Int):Nat:=match z0i an al ln ll dn dl sn sl cc hb tp x2 x3 x4 x5 ws with | true=>sn | false=>0
noncomputable def z2z (an:Nat) (al:List Nat) (ln:Nat) (ll:List Nat) (dn:Nat) (dl:List Nat) (sn:Nat) (sl:List Nat) (cc:Int) (hb tp x2 x3 x4 x5:Nat) (ws:Int):Nat:=match z0i an al ln ll dn dl sn sl cc hb tp x2 x3 x4 x5 ws with | true=>sn | false=>0
noncomputable def z30 (an:Nat) (al:List Nat) (ln:Nat) (ll:List Nat) (dn:Nat) (dl:List Nat) (sn:Nat) (sl:List Nat) (cc:Int) (hb tp x2 x3 x4 x5:Nat) (ws:Int):List Nat:=match z0i an al ln ll dn dl sn sl cc hb tp x2 x3 x4 x5 ws with | true=>zb0 an al ln ll dn dl sn sl cc hb tp x2 x3 x4 x5 ws | false=>[]
noncomputable def z2y (an:Nat) (al:List Nat) (ln:Nat) (ll:List Nat) (dn:Nat) (dl:List Nat) (sn:Nat) (sl:List Nat) (cc:Int) (hb tp x2 x3 x4 x5:Nat) (ws:Int):List Nat:=match z0i an al ln ll dn dl sn sl cc hb tp x2 x3 x4 x5 ws with | true=>zb8 an al ln ll dn dl sn sl cc hb tp x2 x3 x4 x5 ws | false=>[]
noncomputable def laws_FnForcesSharedOfAll_c0 (q03:Nat) (q09:List Nat) (q06:Nat) (q0b:List Nat) (q05:Nat) (q0c:List Nat) (q0d:Nat) (q0f:List Nat) (q0h:Int) (q0j q0k x1 x2 x3 x4:Nat) (x6:Int):=(z31 q03 (pF q09 0 (muN q03 1)) q06 (pF q0b 0 (muN q06 1)) q05 (pF q0c 0 (muN q05 1)) q0d (pF q0f 0 (muN q0d 3)) q0h q0j q0k x1 x2 x3 x4 x6)
noncomputable def laws_FnForcesSharedOfAll_c1 (q03:Nat) (q09:List Nat) (q06:Nat) (q0b:List Nat) (q05:Nat) (q0c:List Nat) (q0d:Nat) (q0f:List Nat) (q0h:Int) (q0j q0k x1 x2 x3 x4:Nat) (x5:Int):=(z31 q03 (pF q09 0 (muN q03 1)) q06 (pF q0b 0 (muN q06 1)) q05 (pF q0c 0 (muN q05 1)) q0d (pF q0f 0 (muN q0d 3)) q0h q0j q0k x1 x2 x3 x4 x5)
noncomputable def laws_FnForcesSharedOfAll_c2 (q03:Nat) (q09:List Nat) (q06:Nat) (q0b:List Nat) (q05:Nat) (q0c:List Nat) (q0d:Nat) (q0f:List Nat) (q0h:Int) (q0j q0k x1 x2 x3 x4:Nat) (x5:Int):=(zbb q03 (pF q09 0 (muN q03 1)) q06 (pF q0b 0 (muN q06 1)) q05 (pF q0c 0 (muN q05 1)) q0d (pF q0f 0 (muN q0d 3)) q0h q0j q0k x1 x2 x3 x4 x5)
noncomputable def laws_FnForcesSharedOfAll_c3 (q03:Nat) (q09:List Nat) (q06:Nat) (q0b:List Nat) (q05:Nat) (q0c:List Nat) (q0d:Nat) (q0f:List Nat) (q0h:Int) (q0j q0k x1 x2 x3 x4:Nat) (x6:Int):=(z2z q03 (pF q09 0 (muN q03 1)) q06 (pF q0b 0 (muN q06 1)) q05 (pF q0c 0 (muN q05 1)) q0d (pF q0f 0 (muN q0d 3)) q0h q0j q0k x1 x2 x3 x4 x6)
noncomputable def laws_FnForcesSharedOfAll_c4 (q03:Nat) (q09:List Nat) (q06:Nat) (q0b:List Nat) (q05:Nat) (q0c:List Nat) (q0d:Nat) (q0f:List Nat) (q0h:Int) (q0j q0k x1 x2 x3 x4:Nat) (x5:Int):=(z0i q03 (pF q09 0 (muN q03 1)) q06 (pF q0b 0 (muN q06 1)) q05 (pF q0c 0 (muN q05 1)) q0d (pF q0f 0 (muN q0d 3)) q0h q0j q0k x1 x2 x3 x4 x5)
noncomputable def laws_FnForcesSharedOfAll_c5 (q03:Nat) (q09:List Nat) (q06:Nat) (q0b:List Nat) (q05:Nat) (q0c:List Nat) (q0d:Nat) (q0f:List Nat) (q0h:Int) (q0j q0k x1 x2 x3 x4:Nat) (x5:Int):=(z2z q03 (pF q09 0 (muN q03 1)) q06 (pF q0b 0 (muN q06 1)) q05 (pF q0c 0 (muN q05 1)) q0d (pF q0f 0 (muN q0d 3)) q0h q0j q0k x1 x2 x3 x4 x5)
noncomputable def laws_FnForcesSharedOfAll_c6 (q03:Nat) (q09:List Nat) (q06:Nat) (q0b:List Nat) (q05:Nat) (q0c:List Nat) (q0d:Nat) (q0f:List Nat) (q0h:Int) (q0j q0k x1 x2 x3 x4:Nat) (x5:Int):=(zb1 q03 (pF q09 0 (muN q03 1)) q06 (pF q0b 0 (muN q06 1)) q05 (pF q0c 0 (muN q05 1)) q0d (pF q0f 0 (muN q0d 3)) q0h q0j q0k x1 x2 x3 x4 x5)
noncomputable def laws_FnForcesSharedOfAll_c7 (q03:Nat) (q09:List Nat) (q06:Nat) (q0b:List Nat) (q05:Nat) (q0c:List Nat) (q0d:Nat) (q0f:List Nat) (q0h:Int) (q0j q0k x1 x2 x3 x4:Nat) (x5:Int):=(pF (z2y q03 (pF q09 0 (muN q03 1)) q06 (pF q0b 0 (muN q06 1)) q05 (pF q0c 0 (muN q05 1)) q0d (pF q0f 0 (muN q0d 3)) q0h q0j q0k x1 x2 x3 x4 x5) 0 (muN (laws_FnForcesSharedOfAll_c5 q03 q09 q06 q0b q05 q0c q0d q0f q0h q0j q0k x1 x2 x3 x4 x5) 1))
noncomputable def laws_FnForcesSharedOfAll_c8 (q03:Nat) (q09:List Nat) (q06:Nat) (q0b:List Nat) (q05:Nat) (q0c:List Nat) (q0d:Nat) (q0f:List Nat) (q0h:Int) (q0j q0k x1 x2 x3 x4:Nat) (x5:Int):=(pF (z30 q03 (pF q09 0 (muN q03 1)) q06 (pF q0b 0 (muN q06 1)) q05 (pF q0c 0 (muN q05 1)) q0d (pF q0f 0 (muN q0d 3)) q0h q0j q0k x1 x2 x3 x4 x5) 0 (muN (laws_FnForcesSharedOfAll_c1 q03 q09 q06 q0b q05 q0c q0d q0f q0h q0j q0k x1 x2 x3 x4 x5) 1))
noncomputable def laws_FnForcesSharedOfAll_c9 (q03:Nat) (q09:List Nat) (q06:Nat) (q0b:List Nat) (q05:Nat) (q0c:List Nat) (q0d:Nat) (q0f:List Nat) (q0h:Int) (q0j q0k x1 x2 x3 x4:Nat) (x5:Int):=(pF (zbf q03 (pF q09 0 (muN q03 1)) q06 (pF q0b 0 (muN q06 1)) q05 (pF q0c 0 (muN q05 1)) q0d (pF q0f 0 (muN q0d 3)) q0h q0j q0k x1 x2 x3 x4 x5) 0 (muN (laws_FnForcesSharedOfAll_c2 q03 q09 q06 q0b q05 q0c q0d q0f q0h q0j q0k x1 x2 x3 x4 x5) 1))
noncomputable def laws_FnForcesSharedOfAll_c10 (q03:Nat) (q09:List Nat) (q06:Nat) (q0b:List Nat) (q05:Nat) (q0c:List Nat) (q0d:Nat) (q0f:List Nat) (q0h:Int) (q0j q0k x1 x2 x3 x4:Nat) (x5:Int):=(pF (zb3 q03 (pF q09 0 (muN q03 1)) q06 (pF q0b 0 (muN q06 1)) q05 (pF q0c 0 (muN q05 1)) q0d (pF q0f 0 (muN q0d 3)) q0h q0j q0k x1 x2 x3 x4 x5) 0 (muN (laws_FnForcesSharedOfAll_c6 q03 q09 q06 q0b q05 q0c q0d q0f q0h q0j q0k x1 x2 x3 x4 x5) 1))
noncomputable def laws_FnForcesSharedOfAll_c11 (q03:Nat) (q09:List Nat) (q06:Nat) (q0b:List Nat) (q05:Nat) (q0c:List Nat) (q0d:Nat) (q0f:List Nat) (q0h:Int) (q0j q0k x1 x2 x3 x4:Nat) (x6:Int):=(pF (z30 q03 (pF q09 0 (muN q03 1)) q06 (pF q0b 0 (muN q06 1)) q05 (pF q0c 0 (muN q05 1)) q0d (pF q0f 0 (muN q0d 3)) q0h q0j q0k x1 x2 x3 x4 x6) 0 (muN (laws_FnForcesSharedOfAll_c0 q03 q09 q06 q0b q05 q0c q0d q0f q0h q0j q0k x1 x2 x3 x4 x6) 1))
noncomputable def laws_FnForcesSharedOfAll_c12 (q03:Nat) (q09:List Nat) (q06:Nat) (q0b:List Nat) (q05:Nat) (q0c:List Nat) (q0d:Nat) (q0f:List Nat) (q0h:Int) (q0j q0k x1 x2 x3 x4:Nat) (x6:Int):=(pF (z2y q03 (pF q09 0 (muN q03 1)) q06 (pF q0b 0 (muN q06 1)) q05 (pF q0c 0 (muN q05 1)) q0d (pF q0f 0 (muN q0d 3)) q0h q0j q0k x1 x2 x3 x4 x6) 0 (muN (laws_FnForcesSharedOfAll_c3 q03 q09 q06 q0b q05 q0c q0d q0f q0h q0j q0k x1 x2 x3 x4 x6) 1))
noncomputable def z4r {R:Type} (q03:Nat) (q09:List Nat) (q06:Nat) (q0b:List Nat) (q05:Nat) (q0c:List Nat) (q0d:Nat) (q0f:List Nat) (q0h:Int) (q0j q0k x1 x2 x3 x4:Nat) (x5 x6:Int) (k_:Bool→Option R):Option R:=(grd (z45 q03 (pF q09 0 (muN q03 1)) q06 (pF q0b 0 (muN q06 1)) q05 (pF q0c 0 (muN q05 1)) q0d (pF q0f 0 (muN q0d 3)) q0h q0j q0k x1 x2 x3 x4 x5) (grd (z45 q03 (pF q09 0 (muN q03 1)) q06 (pF q0b 0 (muN q06 1)) q05 (pF q0c 0 (muN q05 1)) q0d (pF q0f 0 (muN q0d 3)) q0h q0j q0k x1 x2 x3 x4 x6) (grd (zcj q03 (pF q09 0 (muN q03 1)) q06 (pF q0b 0 (muN q06 1)) q05 (pF q0c 0 (muN q05 1)) q0d (pF q0f 0 (muN q0d 3)) q0h q0j q0k x1 x2 x3 x4 x5) (br (bnot (beqB (laws_FnForcesSharedOfAll_c4 q03 q09 q06 q0b q05 q0c q0d q0f q0h q0j q0k x1 x2 x3 x4 x5) (zb4 q03 (pF q09 0 (muN q03 1)) q06 (pF q0b 0 (muN q06 1)) q05 (pF q0c 0 (muN q05 1)) q0d (pF q0f 0 (muN q0d 3)) q0h q0j q0k x1 x2 x3 x4 x5))) (k_ Bool.false) (br (laws_FnForcesSharedOfAll_c4 q03 q09 q06 q0b q05 q0c q0d q0f q0h q0j q0k x1 x2 x3 x4 x5) (grd (z3f (laws_FnForcesSharedOfAll_c1 q03 q09 q06 q0b q05 q0c q0d q0f q0h q0j q0k x1 x2 x3 x4 x5) (laws_FnForcesSharedOfAll_c8 q03 q09 q06 q0b q05 q0c q0d q0f q0h q0j q0k x1 x2 x3 x4 x5) (laws_FnForcesSharedOfAll_c2 q03 q09 q06 q0b q05 q0c q0d q0f q0h q0j q0k x1 x2 x3 x4 x5) (laws_FnForcesSharedOfAll_c9 q03 q09 q06 q0b q05 q0c q0d q0f q0h q0j q0k x1 x2 x3 x4 x5)) (br (z2r (laws_FnForcesSharedOfAll_c1 q03 q09 q06 q0b q05 q0c q0d q0f q0h q0j q0k x1 x2 x3 x4 x5) (laws_FnForcesSharedOfAll_c8 q03 q09 q06 q0b q05 q0c q0d q0f q0h q0j q0k x1 x2 x3 x4 x5) (laws_FnForcesSharedOfAll_c2 q03 q09 q06 q0b q05 q0c q0d q0f q0h q0j q0k x1 x2 x3 x4 x5) (laws_FnForcesSharedOfAll_c9 q03 q09 q06 q0b q05 q0c q0d q0f q0h q0j q0k x1 x2 x3 x4 x5)) (grd (z3f (laws_FnForcesSharedOfAll_c5 q03 q09 q06 q0b q05 q0c q0d q0f q0h q0j q0k x1 x2 x3 x4 x5) (laws_FnForcesSharedOfAll_c7 q03 q09 q06 q0b q05 q0c q0d q0f q0h q0j q0k x1 x2 x3 x4 x5) (laws_FnForcesSharedOfAll_c6 q03 q09 q06 q0b q05 q0c q0d q0f q0h q0j q0k x1 x2 x3 x4 x5) (laws_FnForcesSharedOfAll_c10 q03 q09 q06 q0b q05 q0c q0d q0f q0h q0j q0k x1 x2 x3 x4 x5)) (br (bnot (z2r (laws_FnForcesSharedOfAll_c5 q03 q09 q06 q0b q05 q0c q0d q0f q0h q0j q0k x1 x2 x3 x4 x5) (laws_FnForcesSharedOfAll_c7 q03 q09 q06 q0b q05 q0c q0d q0f q0h q0j q0k x1 x2 x3 x4 x5) (laws_FnForcesSharedOfAll_c6 q03 q09 q06 q0b q05 q0c q0d q0f q0h q0j q0k x1 x2 x3 x4 x5) (laws_FnForcesSharedOfAll_c10 q03 q09 q06 q0b q05 q0c q0d q0f q0h q0j q0k x1 x2 x3 x4 x5))) (k_ Bool.false) (br (ltI x5 1) (k_ Bool.true) (br (ltI 8 x5) (k_ Bool.true) (br (ltI x6 1) (k_ Bool.true) (br (ltI 8 x6) (k_ Bool.true) (br (beqB (laws_FnForcesSharedOfAll_c4 q03 q09 q06 q0b q05 q0c q0d q0f q0h q0j q0k x1 x2 x3 x4 x5) (z0i q03 (pF q09 0 (muN q03 1)) q06 (pF q0b 0 (muN q06 1)) q05 (pF q0c 0 (muN q05 1)) q0d (pF q0f 0 (muN q0d 3)) q0h q0j q0k x1 x2 x3 x4 x6)) (br (bnot (laws_FnForcesSharedOfAll_c4 q03 q09 q06 q0b q05 q0c q0d q0f q0h q0j q0k x1 x2 x3 x4 x5)) (k_ Bool.true) (grd (z3f (laws_FnForcesSharedOfAll_c1 q03 q09 q06 q0b q05 q0c q0d q0f q0h q0j q0k x1 x2 x3 x4 x5) (laws_FnForcesSharedOfAll_c8 q03 q09 q06 q0b q05 q0c q0d q0f q0h q0j q0k x1 x2 x3 x4 x5) (laws_FnForcesSharedOfAll_c0 q03 q09 q06 q0b q05 q0c q0d q0f q0h q0j q0k x1 x2 x3 x4 x6) (laws_FnForcesSharedOfAll_c11 q03 q09 q06 q0b q05 q0c q0d q0f q0h q0j q0k x1 x2 x3 x4 x6)) (br (z2r (laws_FnForcesSharedOfAll_c1 q03 q09 q06 q0b q05 q0c q0d q0f q0h q0j q0k x1 x2 x3 x4 x5) (laws_FnForcesSharedOfAll_c8 q03 q09 q06 q0b q05 q0c q0d q0f q0h q0j q0k x1 x2 x3 x4 x5) (laws_FnForcesSharedOfAll_c0 q03 q09 q06 q0b q05 q0c q0d q0f q0h q0j q0k x1 x2 x3 x4 x6) (laws_FnForcesSharedOfAll_c11 q03 q09 q06 q0b q05 q0c q0d q0f q0h q0j q0k x1 x2 x3 x4 x6)) (grd (z3f (laws_FnForcesSharedOfAll_c5 q03 q09 q06 q0b q05 q0c q0d q0f q0h q0j q0k x1 x2 x3 x4 x5) (laws_FnForcesSharedOfAll_c7 q03 q09 q06 q0b q05 q0c q0d q0f q0h q0j q0k x1 x2 x3 x4 x5) (laws_FnForcesSharedOfAll_c3 q03 q09 q06 q0b q05 q0c q0d q0f q0h q0j q0k x1 x2 x3 x4 x6) (laws_FnForcesSharedOfAll_c12 q03 q09 q06 q0b q05 q0c q0d q0f q0h q0j q0k x1 x2 x3 x4 x6)) (k_ (z2r (laws_FnForcesSharedOfAll_c5 q03 q09 q06 q0b q05 q0c q0d q0f q0h q0j q0k x1 x2 x3 x4 x5) (laws_FnForcesSharedOfAll_c7 q03 q09 q06 q0b q05 q0c q0d q0f q0h q0j q0k x1 x2 x3 x4 x5) (laws_FnForcesSharedOfAll_c3 q03 q09 q06 q0b q05 q0c q0d q0f q0h q0j q0k x1 x2 x3 x4 x6) (laws_FnForcesSharedOfAll_c12 q03 q09 q06 q0b q05 q0c q0d q0f q0h q0j q0k x1 x2 x3 x4 x6)))) (k_ Bool.false)))) (k_ Bool.false)))))))) (br (bnot Bool.false) (k_ Bool.false) (br (ltI x5 1) (k_ Bool.true) (br (ltI 8 x5) (k_ Bool.true) (br (ltI x6 1) (k_ Bool.true) (br (ltI 8 x6) (k_ Bool.true) (br (beqB (laws_FnForcesSharedOfAll_c4 q03 q09 q06 q0b q05 q0c q0d q0f q0h q0j q0k x1 x2 x3 x4 x5) (z0i q03 (pF q09 0 (muN q03 1)) q06 (pF q0b 0 (muN q06 1)) q05 (pF q0c 0 (muN q05 1)) q0d (pF q0f 0 (muN q0d 3)) q0h q0j q0k x1 x2 x3 x4 x6)) (br (bnot (laws_FnForcesSharedOfAll_c4 q03 q09 q06 q0b q05 q0c q0d q0f q0h q0j q0k x1 x2 x3 x4 x5)) (k_ Bool.true) (grd (z3f (laws_FnForcesSharedOfAll_c1 q03 q09 q06 q0b q05 q0c q0d q0f q0h q0j q0k x1 x2 x3 x4 x5) (laws_FnForcesSharedOfAll_c8 q03 q09 q06 q0b q05 q0c q0d q0f q0h q0j q0k x1 x2 x3 x4 x5) (laws_FnForcesSharedOfAll_c0 q03 q09 q06 q0b q05 q0c q0d q0f q0h q0j q0k x1 x2 x3 x4 x6) (laws_FnForcesSharedOfAll_c11 q03 q09 q06 q0b q05 q0c q0d q0f q0h q0j q0k x1 x2 x3 x4 x6)) (br (z2r (laws_FnForcesSharedOfAll_c1 q03 q09 q06 q0b q05 q0c q0d q0f q0h q0j q0k x1 x2 x3 x4 x5) (laws_FnForcesSharedOfAll_c8 q03 q09 q06 q0b q05 q0c q0d q0f q0h q0j q0k x1 x2 x3 x4 x5) (laws_FnForcesSharedOfAll_c0 q03 q09 q06 q0b q05 q0c q0d q0f q0h q0j q0k x1 x2 x3 x4 x6) (laws_FnForcesSharedOfAll_c11 q03 q09 q06 q0b q05 q0c q0d q0f q0h q0j q0k x1 x2 x3 x4 x6)) (grd (z3f (laws_FnForcesSharedOfAll_c5 q03 q09 q06 q0b q05 q0c q0d q0f q0h q0j q0k x1 x2 x3 x4 x5) (laws_FnForcesSharedOfAll_c7 q03 q09 q06 q0b q05 q0c q0d q0f q0h q0j q0k x1 x2 x3 x4 x5) (laws_FnForcesSharedOfAll_c3 q03 q09 q06 q0b q05 q0c q0d q0f q0h q0j q0k x1 x2 x3 x4 x6) (laws_FnForcesSharedOfAll_c12 q03 q09 q06 q0b q05 q0c q0d q0f q0h q0j q0k x1 x2 x3 x4 x6)) (k_ (z2r (laws_FnForcesSharedOfAll_c5 q03 q09 q06 q0b q05 q0c q0d q0f q0h q0j q0k x1 x2 x3 x4 x5) (laws_FnForcesSharedOfAll_c7 q03 q09 q06 q0b q05 q0c q0d q0f q0h q0j q0k x1 x2 x3 x4 x5) (laws_FnForcesSharedOfAll_c3 q03 q09 q06 q0b q05 q0c q0d q0f q0h q0j q0k x1 x2 x3 x4 x6) (laws_FnForcesSharedOfAll_c12 q03 q09 q06 q0b q05 q0c q0d q0f q0h q0j q0k x1 x2 x3 x4 x6)))) (k_ Bool.false)))) (k_ Bool.false))))))))) (br (ltI x5 1) (k_ Bool.true) (br (ltI 8 x5) (k_ Bool.true) (br (ltI x6 1) (k_ Bool.true) (br (ltI 8 x6) (k_ Bool.true) (br (beqB (laws_FnForcesSharedOfAll_c4 q03 q09 q06 q0b q05 q0c q0d q0f q0h q0j q0k x1 x2 x3 x4 x5) (z0i q03 (pF q09 0 (muN q03 1)) q06 (pF q0b 0 (muN q06 1)) q05 (pF q0c 0 (muN q05 1)) q0d (pF q0f 0 (muN q0d 3)) q0h q0j q0k x1 x2 x3 x4 x6)) (br (bnot (laws_FnForcesSharedOfAll_c4 q03 q09 q06 q0b q05 q0c q0d q0f q0h q0j q0k x1 x2 x3 x4 x5)) (k_ Bool.true) (grd (z3f (laws_FnForcesSharedOfAll_c1 q03 q09 q06 q0b q05 q0c q0d q0f q0h q0j q0k x1 x2 x3 x4 x5) (laws_FnForcesSharedOfAll_c8 q03 q09 q06 q0b q05 q0c q0d q0f q0h q0j q0k x1 x2 x3 x4 x5) (laws_FnForcesSharedOfAll_c0 q03 q09 q06 q0b q05 q0c q0d q0f q0h q0j q0k x1 x2 x3 x4 x6) (laws_FnForcesSharedOfAll_c11 q03 q09 q06 q0b q05 q0c q0d q0f q0h q0j q0k x1 x2 x3 x4 x6)) (br (z2r (laws_FnForcesSharedOfAll_c1 q03 q09 q06 q0b q05 q0c q0d q0f q0h q0j q0k x1 x2 x3 x4 x5) (laws_FnForcesSharedOfAll_c8 q03 q09 q06 q0b q05 q0c q0d q0f q0h q0j q0k x1 x2 x3 x4 x5) (laws_FnForcesSharedOfAll_c0 q03 q09 q06 q0b q05 q0c q0d q0f q0h q0j q0k x1 x2 x3 x4 x6) (laws_FnForcesSharedOfAll_c11 q03 q09 q06 q0b q05 q0c q0d q0f q0h q0j q0k x1 x2 x3 x4 x6)) (grd (z3f (laws_FnForcesSharedOfAll_c5 q03 q09 q06 q0b q05 q0c q0d q0f q0h q0j q0k x1 x2 x3 x4 x5) (laws_FnForcesSharedOfAll_c7 q03 q09 q06 q0b q05 q0c q0d q0f q0h q0j q0k x1 x2 x3 x4 x5) (laws_FnForcesSharedOfAll_c3 q03 q09 q06 q0b q05 q0c q0d q0f q0h q0j q0k x1 x2 x3 x4 x6) (laws_FnForcesSharedOfAll_c12 q03 q09 q06 q0b q05 q0c q0d q0f q0h q0j q0k x1 x2 x3 x4 x6)) (k_ (z2r (laws_FnForcesSharedOfAll_c5 q03 q09 q06 q0b q05 q0c q0d q0f q0h q0j q0k x1 x2 x3 x4 x5) (laws_FnForcesSharedOfAll_c7 q03 q09 q06 q0b q05 q0c q0d q0f q0h q0j q0k x1 x2 x3 x4 x5) (laws_FnForcesSharedOfAll_c3 q03 q09 q06 q0b q05 q0c q0d q0f q0h q0j q0k x1 x2 x3 x4 x6) (laws_FnForcesSharedOfAll_c12 q03 q09 q06 q0b q05 q0c q0d q0f q0h q0j q0k x1 x2 x3 x4 x6)))) (k_ Bool.false)))) (k_ Bool.false)))))))))))
noncomputable def z3q (q03:Nat) (q09:List Nat) (q06:Nat) (q0b:List Nat) (q05:Nat) (q0c:List Nat) (q0d:Nat) (q0f:List Nat) (q0h:Int) (q0j q0k x1 x2 x3 x4:Nat) (x5 x6:Int):Option (Bool):=z4r q03 q09 q06 q0b q05 q0c q0d q0f q0h q0j q0k x1 x2 x3 x4 x5 x6 (fun c0_=>some c0_)
theorem znk {R R':Type} (o:Option R→Option R') (h0:o none=none) (q03:Nat) (q09:List Nat) (q06:Nat) (q0b:List Nat) (q05:Nat) (q0c:List Nat) (q0d:Nat) (q0f:List Nat) (q0h:Int) (q0j q0k x1 x2 x3 x4:Nat) (x5 x6:Int) (k_:Bool→Option R):z4r q03 q09 q06 q0b q05 q0c q0d q0f q0h q0j q0k x1 x2 x3 x4 x5 x6 (fun c0_=>o (k_ c0_))=o (z4r q03 q09 q06 q0b q05 q0c q0d q0f q0h q0j q0k x1 x2 x3 x4 x5 x6 k_):=by
 unfold z4r
 repeat (first | refine z02 h0 ?_ | refine z07 ?_ ?_ | rfl | exact h0.symm)
noncomputable def laws_FnForcesSharedOfAll_p (q03:Nat) (q09:List Nat) (q06:Nat) (q0b:List Nat) (q05:Nat) (q0c:List Nat) (q0d:Nat) (q0f:List Nat) (q0h:Int) (q0j q0k x1 x2 x3 x4:Nat) (x5 x6:Int):Bool:=(z3q q03 q09 q06 q0b q05 q0c q0d q0f q0h q0j q0k x1 x2 x3 x4 x5 x6).isSome
noncomputable def laws_FnForcesSharedOfAll_v0 (q03:Nat) (q09:List Nat) (q06:Nat) (q0b:List Nat) (q05:Nat) (q0c:List Nat) (q0d:Nat) (q0f:List Nat) (q0h:Int) (q0j q0k x1 x2 x3 x4:Nat) (x5 x6:Int):Bool:=((z3q q03 q09 q06 q0b q05 q0c q0d q0f q0h q0j q0k x1 x2 x3 x4 x5 x6).getD default)
theorem laws_FnForcesSharedOfAll_of {q03:Nat} {q09:List Nat} {q06:Nat} {q0b:List Nat} {q05:Nat} {q0c:List Nat} {q0d:Nat} {q0f:List Nat} {q0h:Int} {q0j q0k x1 x2 x3 x4:Nat} {x5 x6:Int} {r:Bool} (h:z3q q03 q09 q06 q0b q05 q0c q0d q0f q0h q0j q0k x1 x2 x3 x4 x5 x6=some r):laws_FnForcesSharedOfAll_p q03 q09 q06 q0b q05 q0c q0d q0f q0h q0j q0k x1 x2 x3 x4 x5 x6=true∧laws_FnForcesSharedOfAll_v0 q03 q09 q06 q0b q05 q0c q0d q0f q0h q0j q0k x1 x2 x3 x4 x5 x6=r:=by
 unfold laws_FnForcesSharedOfAll_p laws_FnForcesSharedOfAll_v0
 rw[h]
 exact⟨rfl,rfl⟩
end Go.Rf
