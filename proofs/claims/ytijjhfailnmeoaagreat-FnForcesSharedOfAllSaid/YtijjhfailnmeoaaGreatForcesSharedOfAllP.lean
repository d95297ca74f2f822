import Derived.Test.YtijjhfailnmeoaaGreatB
set_option linter.unusedVariables false
set_option linter.unusedSimpArgs false
set_option linter.unusedSectionVars false
set_option maxRecDepth 100000
set_option maxHeartbeats 4000000
namespace Go.Rf
open Go
noncomputable section
variable (a0:Nat) (c0:Int) (g0:List Nat) (a1:Nat) (c1:Int) (e1:Bool) (g1:List Nat) (m1:List Bool) (a2:Nat) (c2:Int) (e2:Bool) (g2:List Nat) (a3:Nat) (c3:Int) (g3:List Nat) (m3:List Bool) (a4:Nat) (c4:Int) (g4:List Nat) (a5:Nat) (c5:Int) (g5:List Nat) (a6:Nat) (c6:Int) (g6:List Nat) (a7:Nat) (c7:Int) (g7:List Nat) (a8:Nat) (c8:Int) (a9:Nat) (a10:Nat) (a11:Nat) (c11:Int) (a12:Nat) (c12:Int) (a13:Nat) (a14:Nat) (a15:Nat) (c15:Int) (a16:Nat) (c16:Int) (a17:Nat) (c17:Int) (c18:Int) (g18:List Nat) (g19:List Nat) (g20:List Nat)
def zga{R:Type}(k_:Bool→Option R):Option R:=(br (leI c1 c0) (k_ (leI c0 c2)) (k_ Bool.false))
def zbq:Option (Bool):=zga c0 c1 c2 (fun c0_=>some c0_)
theorem zvm{R R':Type}(o:Option R→Option R')(h0:o none=none)(k_:Bool→Option R):zga c0 c1 c2 (fun c0_=>o (k_ c0_))=o (zga c0 c1 c2 k_):=by
 unfold zga
 repeat (first | refine grd_out h0 ?_ | refine br_out ?_ ?_ | rfl | exact h0.symm)
def z5z:Bool:=(zbq c0 c1 c2).isSome
def z3b:Bool:=((zbq c0 c1 c2).getD default)
def zh3{R:Type}(k_:Bool→Option R):Option R:=(k_ (fcmp .eql .f32 (fop .sub .f32 a0 a0) 0))
def zbz:Option (Bool):=zh3 a0 (fun c0_=>some c0_)
theorem zsi{R R':Type}(o:Option R→Option R')(h0:o none=none)(k_:Bool→Option R):zh3 a0 (fun c0_=>o (k_ c0_))=o (zh3 a0 k_):=by
 unfold zh3
 repeat (first | refine grd_out h0 ?_ | refine br_out ?_ ?_ | rfl | exact h0.symm)
def z26:Bool:=(zbz a0).isSome
def z1t:Bool:=((zbz a0).getD default)
def zhl{R:Type}(k_:Bool→Option R):Option R:=(br (leI c1 c0) (k_ (leI c0 c2)) (k_ Bool.false))
def ze3:Option (Bool):=zhl c0 c1 c2 (fun c0_=>some c0_)
theorem zwi{R R':Type}(o:Option R→Option R')(h0:o none=none)(k_:Bool→Option R):zhl c0 c1 c2 (fun c0_=>o (k_ c0_))=o (zhl c0 c1 c2 k_):=by
 unfold zhl
 repeat (first | refine grd_out h0 ?_ | refine br_out ?_ ?_ | rfl | exact h0.symm)
def zeo:Bool:=(ze3 c0 c1 c2).isSome
def zbn:Bool:=((ze3 c0 c1 c2).getD default)
def zg8{R:Type}(k_:Bool→Option R):Option R:=(br (fcmp .eql .f32 a0 a1) (br (fcmp .neq .f32 a0 0) (k_ Bool.true) (br (fcmp .eql .f32 (fop .quo .f32 1065353216 a0) (fop .quo .f32 1065353216 a1)) (k_ Bool.true) (br (fcmp .neq .f32 a0 a0) (k_ (fcmp .neq .f32 a1 a1)) (k_ Bool.false)))) (br (fcmp .neq .f32 a0 a0) (k_ (fcmp .neq .f32 a1 a1)) (k_ Bool.false)))
def zbo:Option (Bool):=zg8 a0 a1 (fun c0_=>some c0_)
theorem zvk{R R':Type}(o:Option R→Option R')(h0:o none=none)(k_:Bool→Option R):zg8 a0 a1 (fun c0_=>o (k_ c0_))=o (zg8 a0 a1 k_):=by
 unfold zg8
 repeat (first | refine grd_out h0 ?_ | refine br_out ?_ ?_ | rfl | exact h0.symm)
def zjg:Bool:=(zbo a0 a1).isSome
def zir:Bool:=((zbo a0 a1).getD default)
def zfw{R:Type}(k_:Bool→Option R):Option R:=(k_ (fcmp .eql .f32 (fop .sub .f32 a0 a0) 0))
def zak:Option (Bool):=zfw a0 (fun c0_=>some c0_)
theorem zrc{R R':Type}(o:Option R→Option R')(h0:o none=none)(k_:Bool→Option R):zfw a0 (fun c0_=>o (k_ c0_))=o (zfw a0 k_):=by
 unfold zfw
 repeat (first | refine grd_out h0 ?_ | refine br_out ?_ ?_ | rfl | exact h0.symm)
def z0t:Bool:=(zak a0).isSome
def z0n:Bool:=((zak a0).getD default)
def zbt{R:Type}(k_:Bool→Option R):Option R:=(br (fcmp .geq .f32 a0 a1) (k_ (fcmp .leq .f32 a0 a2)) (k_ Bool.false))
def z8r:Option (Bool):=zbt a0 a1 a2 (fun c0_=>some c0_)
theorem zso{R R':Type}(o:Option R→Option R')(h0:o none=none)(k_:Bool→Option R):zbt a0 a1 a2 (fun c0_=>o (k_ c0_))=o (zbt a0 a1 a2 k_):=by
 unfold zbt
 repeat (first | refine grd_out h0 ?_ | refine br_out ?_ ?_ | rfl | exact h0.symm)
def zcf:Bool:=(z8r a0 a1 a2).isSome
def zaf:Bool:=((z8r a0 a1 a2).getD default)
def z6i{R:Type}(q00:Nat)(q06:List Nat)(q01:Nat)(q07:List Nat)(q02:Nat)(q08:List Nat)(q0d:Nat)(q0f:List Nat)(q0k:Int)(q0o q0n:Nat)(i:Int)(k_:Nat→Option R):Option R:=(grd (okIx i q0d) (grd (okIx i q0d) (k_ (fop .quo .f32 (fop .mul .f32 (fOI .f32 q0k) (gF q0f (Nat.succ (ixO 0 i 3)))) (fop .mul .f32 1086918619 (gF q0f (ixO 0 i 3)))))))
def z50:Option (Nat):=z6i a0 g1 a2 g3 a4 g5 a6 g7 c8 a9 a10 c11 (fun c0_=>some c0_)
theorem zns{R R':Type}(o:Option R→Option R')(h0:o none=none)(k_:Nat→Option R):z6i a0 g1 a2 g3 a4 g5 a6 g7 c8 a9 a10 c11 (fun c0_=>o (k_ c0_))=o (z6i a0 g1 a2 g3 a4 g5 a6 g7 c8 a9 a10 c11 k_):=by
 unfold z6i
 repeat (first | refine grd_out h0 ?_ | refine br_out ?_ ?_ | rfl | exact h0.symm)
def z8n:Bool:=(z50 a0 g1 a2 g3 a4 g5 a6 g7 c8 a9 a10 c11).isSome
def z5t:Nat:=((z50 a0 g1 a2 g3 a4 g5 a6 g7 c8 a9 a10 c11).getD default)
def zg4{R:Type}(q00:Nat)(q06:List Nat)(q01:Nat)(q07:List Nat)(q02:Nat)(q08:List Nat)(q0d:Nat)(q0f:List Nat)(q0k:Int)(q0o q0n:Nat)(i:Int)(q1s:Nat)(k_:Nat→Option R):Option R:=(grd (okIx i q0d) (k_ (fop .quo .f32 (fop .quo .f32 (fop .mul .f32 (fOI .f32 q0k) (fop .sub .f32 q0n (gF q0f (ixO 0 i 3)))) (fop .mul .f32 1073741824 (gF q0f (ixO 0 i 3)))) (fop .add .f32 (fop .quo .f32 (fop .mul .f32 (fOI .f32 q0k) (fop .sub .f32 q0n (gF q0f (ixO 0 i 3)))) (fop .mul .f32 1073741824 (gF q0f (ixO 0 i 3)))) q1s))))
def zbm:Option (Nat):=zg4 a0 g1 a2 g3 a4 g5 a6 g7 c8 a9 a10 c11 a12 (fun c0_=>some c0_)
theorem zuz{R R':Type}(o:Option R→Option R')(h0:o none=none)(k_:Nat→Option R):zg4 a0 g1 a2 g3 a4 g5 a6 g7 c8 a9 a10 c11 a12 (fun c0_=>o (k_ c0_))=o (zg4 a0 g1 a2 g3 a4 g5 a6 g7 c8 a9 a10 c11 a12 k_):=by
 unfold zg4
 repeat (first | refine grd_out h0 ?_ | refine br_out ?_ ?_ | rfl | exact h0.symm)
def zje:Bool:=(zbm a0 g1 a2 g3 a4 g5 a6 g7 c8 a9 a10 c11 a12).isSome
def zeh:Nat:=((zbm a0 g1 a2 g3 a4 g5 a6 g7 c8 a9 a10 c11 a12).getD default)
def z8e{R:Type}(q00:Nat)(q06:List Nat)(q01:Nat)(q07:List Nat)(q02:Nat)(q08:List Nat)(q0d:Nat)(q0f:List Nat)(q0k:Int)(q0o q0n:Nat)(i:Int)(k_:Nat→Option R):Option R:=(grd (okIx i q0d) (k_ (fop .quo .f32 (fop .mul .f32 (fOI .f32 q0k) (gF q0f (Nat.succ (ixO 0 i 3)))) (fop .mul .f32 1086918619 (gF q0f (ixO 0 i 3))))))
def z6b:Option (Nat):=z8e a0 g1 a2 g3 a4 g5 a6 g7 c8 a9 a10 c11 (fun c0_=>some c0_)
theorem zpn{R R':Type}(o:Option R→Option R')(h0:o none=none)(k_:Nat→Option R):z8e a0 g1 a2 g3 a4 g5 a6 g7 c8 a9 a10 c11 (fun c0_=>o (k_ c0_))=o (z8e a0 g1 a2 g3 a4 g5 a6 g7 c8 a9 a10 c11 k_):=by
 unfold z8e
 repeat (first | refine grd_out h0 ?_ | refine br_out ?_ ?_ | rfl | exact h0.symm)
def zce:Bool:=(z6b a0 g1 a2 g3 a4 g5 a6 g7 c8 a9 a10 c11).isSome
def z7l:Nat:=((z6b a0 g1 a2 g3 a4 g5 a6 g7 c8 a9 a10 c11).getD default)
def zkk{R:Type}  (k_:Nat→Option R):Option R:=(grd (okU .f64 9221120237041090561) (k_ (cnI .f64 9221120237041090561)))
def zim  : Option (Nat):=zkk (fun c0_=>some c0_)
theorem zz6  {R R':Type} (o:Option R→Option R') (h0:o none=none) (k_:Nat→Option R):zkk (fun c0_=>o (k_ c0_))=o (zkk k_):=by
 unfold zkk
 repeat (first | refine grd_out h0 ?_ | refine br_out ?_ ?_ | rfl | exact h0.symm)
def zl2  : Bool:=(zim).isSome
def zgd  : Nat:=((zim).getD default)
theorem zvw  {r:Nat} (h:zim=some r):zl2=true∧zgd=r:=by
 unfold zl2 zgd
 rw[h]
 exact⟨rfl,rfl⟩
def zkr{R:Type}(k_:Nat→Option R):Option R:=(k_ (fop .add .f32 a0 (fop .mul .f32 a2 (fop .sub .f32 a1 a0))))
def zhd:Option (Nat):=zkr a0 a1 a2 (fun c0_=>some c0_)
theorem zw5{R R':Type}(o:Option R→Option R')(h0:o none=none)(k_:Nat→Option R):zkr a0 a1 a2 (fun c0_=>o (k_ c0_))=o (zkr a0 a1 a2 k_):=by
 unfold zkr
 repeat (first | refine grd_out h0 ?_ | refine br_out ?_ ?_ | rfl | exact h0.symm)
def zhn:Bool:=(zhd a0 a1 a2).isSome
def zg3:Nat:=((zhd a0 a1 a2).getD default)
def zat{R:Type}(k_:Nat→Option R):Option R:=(grd (fcvB .f64 .f32 a0) (k_ (fcvV .f64 .f32 a0)))
def z7y:Option (Nat):=zat a0 (fun c0_=>some c0_)
theorem zrl{R R':Type}(o:Option R→Option R')(h0:o none=none)(k_:Nat→Option R):zat a0 (fun c0_=>o (k_ c0_))=o (zat a0 k_):=by
 unfold zat
 repeat (first | refine grd_out h0 ?_ | refine br_out ?_ ?_ | rfl | exact h0.symm)
def zaj:Bool:=(z7y a0).isSome
def z7d:Nat:=((z7y a0).getD default)
def zky{R:Type}(k_:Nat→Option R):Option R:=(grd (bnot (nanQ .f64 a0)) (grd (okU .f64 (bitI .andNot .u64 (Int.ofNat a0) 9223372036854775808)) (k_ (cnI .f64 (bitI .andNot .u64 (Int.ofNat a0) 9223372036854775808)))))
def zif:Option (Nat):=zky a0 (fun c0_=>some c0_)
theorem zz7{R R':Type}(o:Option R→Option R')(h0:o none=none)(k_:Nat→Option R):zky a0 (fun c0_=>o (k_ c0_))=o (zky a0 k_):=by
 unfold zky
 repeat (first | refine grd_out h0 ?_ | refine br_out ?_ ?_ | rfl | exact h0.symm)
def znk:Bool:=(zif a0).isSome
def zmj:Nat:=((zif a0).getD default)
def zel{R:Type}(k_:Nat→Bool→Option R):Option R:=(grd (z26 a0) (br (bnot (z1t a0)) (k_ 0 Bool.false) (k_ a0 Bool.true)))
def z7v:Option (Nat×Bool):=zel a0 (fun c0_ c1_=>some (c0_,c1_))
theorem ztt{R R':Type}(o:Option R→Option R')(h0:o none=none)(k_:Nat→Bool→Option R):zel a0 (fun c0_ c1_=>o (k_ c0_ c1_))=o (zel a0 k_):=by
 unfold zel
 repeat (first | refine grd_out h0 ?_ | refine br_out ?_ ?_ | rfl | exact h0.symm)
def zih:Bool:=(z7v a0).isSome
def zh8:Nat:=((z7v a0).getD default).1
def zh5:Bool:=((z7v a0).getD default).2
def zcg{R:Type}(k_:Bool→Option R):Option R:=(grd (z0t a0) (br (z0n a0) (k_ (fcmp .gtr .f32 a0 0)) (k_ Bool.false)))
def z8t:Option (Bool):=zcg a0 (fun c0_=>some c0_)
theorem zt5{R R':Type}(o:Option R→Option R')(h0:o none=none)(k_:Bool→Option R):zcg a0 (fun c0_=>o (k_ c0_))=o (zcg a0 k_):=by
 unfold zcg
 repeat (first | refine grd_out h0 ?_ | refine br_out ?_ ?_ | rfl | exact h0.symm)
def z6v:Bool:=(z8t a0).isSome
def z64:Bool:=((z8t a0).getD default)
def zem{R:Type}(k_:Bool→Option R):Option R:=(grd (z26 a0) (br (z1t a0) (k_ (fcmp .geq .f32 a0 0)) (k_ Bool.false)))
def za6:Option (Bool):=zem a0 (fun c0_=>some c0_)
theorem ztf{R R':Type}(o:Option R→Option R')(h0:o none=none)(k_:Bool→Option R):zem a0 (fun c0_=>o (k_ c0_))=o (zem a0 k_):=by
 unfold zem
 repeat (first | refine grd_out h0 ?_ | refine br_out ?_ ?_ | rfl | exact h0.symm)
def ze7:Bool:=(za6 a0).isSome
def zci:Bool:=((za6 a0).getD default)
def z6p{R:Type}(k_:Bool→Option R):Option R:=(grd (z26 a0) (br (bnot (z1t a0)) (k_ Bool.true) (k_ (fcmp .leq .f32 a0 0))))
def z5g:Option (Bool):=z6p a0 (fun c0_=>some c0_)
theorem zob{R R':Type}(o:Option R→Option R')(h0:o none=none)(k_:Bool→Option R):z6p a0 (fun c0_=>o (k_ c0_))=o (z6p a0 k_):=by
 unfold z6p
 repeat (first | refine grd_out h0 ?_ | refine br_out ?_ ?_ | rfl | exact h0.symm)
def za0:Bool:=(z5g a0).isSome
def z8s:Bool:=((z5g a0).getD default)
def zc8{R:Type}(k_:Bool→Option R):Option R:=(grd (z0t a0) (br (z0n a0) (k_ (fcmp .geq .f32 a0 0)) (k_ Bool.false)))
def z8f:Option (Bool):=zc8 a0 (fun c0_=>some c0_)
theorem zs8{R R':Type}(o:Option R→Option R')(h0:o none=none)(k_:Bool→Option R):zc8 a0 (fun c0_=>o (k_ c0_))=o (zc8 a0 k_):=by
 unfold zc8
 repeat (first | refine grd_out h0 ?_ | refine br_out ?_ ?_ | rfl | exact h0.symm)
def z5n:Bool:=(z8f a0).isSome
def z56:Bool:=((z8f a0).getD default)
def zc6{R:Type}(q00:Nat)(q06:List Nat)(q01:Nat)(q07:List Nat)(q02:Nat)(q08:List Nat)(q0d:Nat)(q0f:List Nat)(q0k:Int)(q0o q0n:Nat)(i:Int)(q0m:Nat)(k_:Bool→Option R):Option R:=(grd (okIx i q0d) (grd (z0t (fop .sub .f32 (fop .sub .f32 981668463 (gF q0f (Nat.succ (Nat.succ (ixO 0 i 3))))) q0m)) (br (z0n (fop .sub .f32 (fop .sub .f32 981668463 (gF q0f (Nat.succ (Nat.succ (ixO 0 i 3))))) q0m)) (grd (okIx i q0d) (grd (z0t (fop .sub .f32 (fop .sub .f32 1048508891 (gF q0f (Nat.succ (Nat.succ (ixO 0 i 3))))) q0m)) (k_ (z0n (fop .sub .f32 (fop .sub .f32 1048508891 (gF q0f (Nat.succ (Nat.succ (ixO 0 i 3))))) q0m))))) (k_ Bool.false))))
def z8q:Option (Bool):=zc6 a0 g1 a2 g3 a4 g5 a6 g7 c8 a9 a10 c11 a12 (fun c0_=>some c0_)
theorem zsj{R R':Type}(o:Option R→Option R')(h0:o none=none)(k_:Bool→Option R):zc6 a0 g1 a2 g3 a4 g5 a6 g7 c8 a9 a10 c11 a12 (fun c0_=>o (k_ c0_))=o (zc6 a0 g1 a2 g3 a4 g5 a6 g7 c8 a9 a10 c11 a12 k_):=by
 unfold zc6
 repeat (first | refine grd_out h0 ?_ | refine br_out ?_ ?_ | rfl | exact h0.symm)
def zh4:Bool:=(z8q a0 g1 a2 g3 a4 g5 a6 g7 c8 a9 a10 c11 a12).isSome
def zfi:Bool:=((z8q a0 g1 a2 g3 a4 g5 a6 g7 c8 a9 a10 c11 a12).getD default)
def zg0{R:Type}(k_:Nat→Nat→Bool→Option R):Option R:=(grd (z0t a0) (br (bnot (z0n a0)) (k_ 0 0 Bool.false) (grd (z0t a1) (br (bnot (z0n a1)) (k_ 0 0 Bool.false) (k_ a0 a1 Bool.true)))))
def z7f:Option (Nat×Nat×Bool):=zg0 a0 a1 (fun c0_ c1_ c2_=>some (c0_,c1_,c2_))
theorem zvf{R R':Type}(o:Option R→Option R')(h0:o none=none)(k_:Nat→Nat→Bool→Option R):zg0 a0 a1 (fun c0_ c1_ c2_=>o (k_ c0_ c1_ c2_))=o (zg0 a0 a1 k_):=by
 unfold zg0
 repeat (first | refine grd_out h0 ?_ | refine br_out ?_ ?_ | rfl | exact h0.symm)
def zgb:Bool:=(z7f a0 a1).isSome
def za9:Nat:=((z7f a0 a1).getD default).1
def za7:Nat:=((z7f a0 a1).getD default).2.1
def zaa:Bool:=((z7f a0 a1).getD default).2.2
def z8c{R:Type}(k_:Bool→Option R):Option R:=(grd (z26 a0) (k_ (bnot (z1t a0))))
def z6j:Option (Bool):=z8c a0 (fun c0_=>some c0_)
theorem zpf{R R':Type}(o:Option R→Option R')(h0:o none=none)(k_:Bool→Option R):z8c a0 (fun c0_=>o (k_ c0_))=o (z8c a0 k_):=by
 unfold z8c
 repeat (first | refine grd_out h0 ?_ | refine br_out ?_ ?_ | rfl | exact h0.symm)
def zbx:Bool:=(z6j a0).isSome
def zb1:Bool:=((z6j a0).getD default)
def z5u{R:Type}(q00:Nat)(q06:List Nat)(q01:Nat)(q07:List Nat)(q02:Nat)(q08:List Nat)(q0d:Nat)(q0f:List Nat)(q0k:Int)(q0o q0n:Nat)(i:Int)(k_:Bool→Option R):Option R:=(grd (z5z i 0 (subI .i64 (Int.ofNat q0d) 1)) (k_ (z3b i 0 (subI .i64 (Int.ofNat q0d) 1))))
def z4f:Option (Bool):=z5u a0 g1 a2 g3 a4 g5 a6 g7 c8 a9 a10 c11 (fun c0_=>some c0_)
theorem zmq{R R':Type}(o:Option R→Option R')(h0:o none=none)(k_:Bool→Option R):z5u a0 g1 a2 g3 a4 g5 a6 g7 c8 a9 a10 c11 (fun c0_=>o (k_ c0_))=o (z5u a0 g1 a2 g3 a4 g5 a6 g7 c8 a9 a10 c11 k_):=by
 unfold z5u
 repeat (first | refine grd_out h0 ?_ | refine br_out ?_ ?_ | rfl | exact h0.symm)
def z84:Bool:=(z4f a0 g1 a2 g3 a4 g5 a6 g7 c8 a9 a10 c11).isSome
def z7i:Bool:=((z4f a0 g1 a2 g3 a4 g5 a6 g7 c8 a9 a10 c11).getD default)
def zg5{R:Type}(k_:Bool→Option R):Option R:=(grd (zcf a0 981668463 1048508891) (k_ (zaf a0 981668463 1048508891)))
def zbp:Option (Bool):=zg5 a0 (fun c0_=>some c0_)
theorem zvs{R R':Type}(o:Option R→Option R')(h0:o none=none)(k_:Bool→Option R):zg5 a0 (fun c0_=>o (k_ c0_))=o (zg5 a0 k_):=by
 unfold zg5
 repeat (first | refine grd_out h0 ?_ | refine br_out ?_ ?_ | rfl | exact h0.symm)
def zjh:Bool:=(zbp a0).isSome
def zic:Bool:=((zbp a0).getD default)
def zg6{R:Type}(k_:Bool→Option R):Option R:=(grd (znk a0) (k_ (fcmp .geq .f64 (zmj a0) 4841369599423283200)))
def zbr:Option (Bool):=zg6 a0 (fun c0_=>some c0_)
theorem zur{R R':Type}(o:Option R→Option R')(h0:o none=none)(k_:Bool→Option R):zg6 a0 (fun c0_=>o (k_ c0_))=o (zg6 a0 k_):=by
 unfold zg6
 repeat (first | refine grd_out h0 ?_ | refine br_out ?_ ?_ | rfl | exact h0.symm)
def zjm:Bool:=(zbr a0).isSome
def zi8:Bool:=((zbr a0).getD default)
def z0z{R:Type}(kn_:Int→Option R)(k0_:Int→Option R)(k1_:Int→Bool→Option R):Option R:=(br (ltI c4 c2) (grd (okIx c4 a0) (br (beqB e1 (gB m3 (ixO 0 c4 1))) (k0_ c4) (kn_ (addI .i64 c4 1)))) (k1_ c4 (ltI c4 c2)))
theorem zjq{R R':Type}(o:Option R→Option R')(h0:o none=none)(kn_:Int→Option R)(k0_:Int→Option R)(k1_:Int→Bool→Option R):z0z a0 e1 c2 m3 c4 (fun t8'=>o (kn_ t8')) (fun c0_=>o (k0_ c0_)) (fun c0_ c1_=>o (k1_ c0_ c1_))=o (z0z a0 e1 c2 m3 c4 kn_ k0_ k1_):=by
 unfold z0z
 repeat (first | refine grd_out h0 ?_ | refine br_out ?_ ?_ | rfl | exact h0.symm)
def z07(sn:Nat)(v:Bool)(t7:Int)(b0:List Bool):Nat→Int→Option ((Int)⊕(Int×Bool))
 | 0,_=>none
 | n+1,t8=>z0z sn v t7 b0  t8  (fun t8'=>z07 sn v t7 b0 n t8') (fun c0_=>some (Sum.inl c0_)) (fun c0_ c1_=>some (Sum.inr (c0_,c1_)))
theorem za2:z07 a0 e1 c2 m3 (a4+1) c5=z0z a0 e1 c2 m3  c5  (fun t8'=>z07 a0 e1 c2 m3 a4 t8') (fun c0_=>some (Sum.inl c0_)) (fun c0_ c1_=>some (Sum.inr (c0_,c1_))):=rfl
def z2s:Bool:=(z07 a0 e1 c2 m3 big c4).isSome
def z2h:Bool:=oL (z07 a0 e1 c2 m3 big c4)
def z4c:Int:=((tL (z07 a0 e1 c2 m3 big c4)).getD default)
def z6l:Int:=((tR (z07 a0 e1 c2 m3 big c4)).getD default).1
def z6m:Bool:=((tR (z07 a0 e1 c2 m3 big c4)).getD default).2
def z4r{R:Type}(k_:Int→Option R):Option R:=(grd (z2s a0 e2 (Int.ofNat a0) m1 0) (br (z2h a0 e2 (Int.ofNat a0) m1 0) (k_ (z4c a0 e2 (Int.ofNat a0) m1 0)) (k_ (Int.negSucc 0))))
def z3p:Option (Int):=z4r a0 m1 e2 (fun c0_=>some c0_)
theorem zlf{R R':Type}(o:Option R→Option R')(h0:o none=none)(k_:Int→Option R):z4r a0 m1 e2 (fun c0_=>o (k_ c0_))=o (z4r a0 m1 e2 k_):=by
 unfold z4r
 repeat (first | refine grd_out h0 ?_ | refine br_out ?_ ?_ | rfl | exact h0.symm)
def z6k:Bool:=(z3p a0 m1 e2).isSome
def z5x:Int:=((z3p a0 m1 e2).getD default)
def z90{R:Type}(k_:Bool→Option R):Option R:=(grd (ze7 a0) (k_ (bnot (zci a0))))
def z78:Option (Bool):=z90 a0 (fun c0_=>some c0_)
theorem zqh{R R':Type}(o:Option R→Option R')(h0:o none=none)(k_:Bool→Option R):z90 a0 (fun c0_=>o (k_ c0_))=o (z90 a0 k_):=by
 unfold z90
 repeat (first | refine grd_out h0 ?_ | refine br_out ?_ ?_ | rfl | exact h0.symm)
def zdt:Bool:=(z78 a0).isSome
def zca:Bool:=((z78 a0).getD default)
def zha{R:Type}(k_:Nat→Option R):Option R:=(grd (bnot (nanQ .f64 a0)) (k_ (fint Ieee.Toward.zero a0)))
def zed:Option (Nat):=zha a0 (fun c0_=>some c0_)
theorem zw6{R R':Type}(o:Option R→Option R')(h0:o none=none)(k_:Nat→Option R):zha a0 (fun c0_=>o (k_ c0_))=o (zha a0 k_):=by
 unfold zha
 repeat (first | refine grd_out h0 ?_ | refine br_out ?_ ?_ | rfl | exact h0.symm)
def zl0:Bool:=(zed a0).isSome
def z8y:Nat:=((zed a0).getD default)
def z37{R:Type}(kn_:Int→Option R)(k0_:Unit→Option R)(k1_:Int→Bool→Option R):Option R:=(br (ltI c4 (Int.ofNat a0)) (grd (okIx c4 a0) (grd (okIx c4 a1) (grd (zjg (gF g2 (ixO 0 c4 1)) (gF g3 (ixO 0 c4 1))) (br (bnot (zir (gF g2 (ixO 0 c4 1)) (gF g3 (ixO 0 c4 1)))) (k0_ ()) (kn_ (addI .i64 c4 1)))))) (k1_ c4 (ltI c4 (Int.ofNat a0))))
theorem zox{R R':Type}(o:Option R→Option R')(h0:o none=none)(kn_:Int→Option R)(k0_:Unit→Option R)(k1_:Int→Bool→Option R):z37 a0 a1 g2 g3 c4 (fun i'=>o (kn_ i')) (fun _=>o (k0_ ())) (fun c0_ c1_=>o (k1_ c0_ c1_))=o (z37 a0 a1 g2 g3 c4 kn_ k0_ k1_):=by
 unfold z37
 repeat (first | refine grd_out h0 ?_ | refine br_out ?_ ?_ | rfl | exact h0.symm)
def z1n(an bn:Nat)(b0 b1:List Nat):Nat→Int→Option ((Unit)⊕(Int×Bool))
 | 0,_=>none
 | n+1,i=>z37 an bn b0 b1  i  (fun i'=>z1n an bn b0 b1 n i') (fun _=>some (Sum.inl ())) (fun c0_ c1_=>some (Sum.inr (c0_,c1_)))
theorem zhr:z1n a0 a1 g2 g3 (a4+1) c5=z37 a0 a1 g2 g3  c5  (fun i'=>z1n a0 a1 g2 g3 a4 i') (fun _=>some (Sum.inl ())) (fun c0_ c1_=>some (Sum.inr (c0_,c1_))):=rfl
def zb3:Bool:=(z1n a0 a1 g2 g3 big c4).isSome
def z9y:Bool:=oL (z1n a0 a1 g2 g3 big c4)
def zcy:Int:=((tR (z1n a0 a1 g2 g3 big c4)).getD default).1
def zd7:Bool:=((tR (z1n a0 a1 g2 g3 big c4)).getD default).2
def z1v{R:Type}(kn_:Nat→Int→Option R)(k0_:Nat→Int→Bool→Option R):Option R:=(br (leI 1 c2) (kn_ (fop .sub .f64 4607182418800017408 (fop .quo .f64 (fop .mul .f64 a0 a1) (fOI .f64 (mulI .i64 (mulI .i64 2 c2) (addI .i64 (mulI .i64 2 c2) 1))))) (subI .i64 c2 1)) (k0_ a1 c2 (leI 1 c2)))
theorem zn5{R R':Type}(o:Option R→Option R')(h0:o none=none)(kn_:Nat→Int→Option R)(k0_:Nat→Int→Bool→Option R):z1v a0 a1 c2 (fun t7' t8'=>o (kn_ t7' t8')) (fun c0_ c1_ c2_=>o (k0_ c0_ c1_ c2_))=o (z1v a0 a1 c2 kn_ k0_):=by
 unfold z1v
 repeat (first | refine grd_out h0 ?_ | refine br_out ?_ ?_ | rfl | exact h0.symm)
def z0k(t6:Nat):Nat→Nat→Int→Option ((Nat×Int×Bool))
 | 0,_,_=>none
 | n+1,t7,t8=>z1v t6  t7 t8  (fun t7' t8'=>z0k t6 n t7' t8') (fun c0_ c1_ c2_=>some (c0_,c1_,c2_))
theorem zf9:z0k a0 (a1+1) a2 c3=z1v a0  a2 c3  (fun t7' t8'=>z0k a0 a1 t7' t8') (fun c0_ c1_ c2_=>some (c0_,c1_,c2_)):=rfl
def z0y:Bool:=(z0k a0 big a1 c2).isSome
def z05:Nat:=((z0k a0 big a1 c2).getD default).1
def z9o:Int:=((z0k a0 big a1 c2).getD default).2.1
def z9r:Bool:=((z0k a0 big a1 c2).getD default).2.2
def zam{R:Type}(k_:Bool→Option R):Option R:=(br (neI (Int.ofNat a0) (Int.ofNat a2)) (k_ Bool.false) (grd (zb3 a0 a2 g1 g3 0) (br (z9y a0 a2 g1 g3 0) (k_ Bool.false) (k_ Bool.true))))
def z7w:Option (Bool):=zam a0 g1 a2 g3 (fun c0_=>some c0_)
theorem zrd{R R':Type}(o:Option R→Option R')(h0:o none=none)(k_:Bool→Option R):zam a0 g1 a2 g3 (fun c0_=>o (k_ c0_))=o (zam a0 g1 a2 g3 k_):=by
 unfold zam
 repeat (first | refine grd_out h0 ?_ | refine br_out ?_ ?_ | rfl | exact h0.symm)
def z31:Bool:=(z7w a0 g1 a2 g3).isSome
def z2g:Bool:=((z7w a0 g1 a2 g3).getD default)
def z3w{R:Type}(k_:Bool→Option R):Option R:=(grd (z6k a0 (pB m1 0 (muN a0 1)) e2) (k_ (leI 0 (z5x a0 (pB m1 0 (muN a0 1)) e2))))
def z2r:Option (Bool):=z3w a0 m1 e2 (fun c0_=>some c0_)
theorem zjo{R R':Type}(o:Option R→Option R')(h0:o none=none)(k_:Bool→Option R):z3w a0 m1 e2 (fun c0_=>o (k_ c0_))=o (z3w a0 m1 e2 k_):=by
 unfold z3w
 repeat (first | refine grd_out h0 ?_ | refine br_out ?_ ?_ | rfl | exact h0.symm)
def z2t:Bool:=(z2r a0 m1 e2).isSome
def z2i:Bool:=((z2r a0 m1 e2).getD default)
def z53{R:Type}(k_:Nat→Option R):Option R:=(br (fcmp .neq .f64 (fop .sub .f64 a0 a0) 0) (grd zl2 (k_ zgd)) (br (fcmp .geq .f64 a0 4841369599423283200) (k_ 0) (br (fcmp .leq .f64 a0 14064741636278059008) (k_ 0) (grd (f2iB .f64 a0 .i64) (br (fcmp .lss .f64 (fop .sub .f64 a0 (fOI .f64 (f2iV .f64 a0 .i64))) 0) (br (fcmp .geq .f64 (fop .add .f64 (fop .sub .f64 a0 (fOI .f64 (f2iV .f64 a0 .i64))) 4607182418800017408) 4602678819172646912) (br (fcmp .gtr .f64 (fop .sub .f64 (fop .add .f64 (fop .sub .f64 a0 (fOI .f64 (f2iV .f64 a0 .i64))) 4607182418800017408) 4602678819172646912) 4598175219545276416) (grd (z0y (fop .mul .f64 (fop .mul .f64 (fop .sub .f64 4602678819172646912 (fop .sub .f64 (fop .add .f64 (fop .sub .f64 a0 (fOI .f64 (f2iV .f64 a0 .i64))) 4607182418800017408) 4602678819172646912)) 4618760256179416344) (fop .mul .f64 (fop .sub .f64 4602678819172646912 (fop .sub .f64 (fop .add .f64 (fop .sub .f64 a0 (fOI .f64 (f2iV .f64 a0 .i64))) 4607182418800017408) 4602678819172646912)) 4618760256179416344)) 4607182418800017408 8) (br (fcmp .geq .f64 (fop .add .f64 (fop .sub .f64 a0 (fOI .f64 (f2iV .f64 a0 .i64))) 4607182418800017408) 4602678819172646912) (k_ (fneg .f64 (fop .mul .f64 (fop .mul .f64 (fop .sub .f64 4602678819172646912 (fop .sub .f64 (fop .add .f64 (fop .sub .f64 a0 (fOI .f64 (f2iV .f64 a0 .i64))) 4607182418800017408) 4602678819172646912)) 4618760256179416344) (z05 (fop .mul .f64 (fop .mul .f64 (fop .sub .f64 4602678819172646912 (fop .sub .f64 (fop .add .f64 (fop .sub .f64 a0 (fOI .f64 (f2iV .f64 a0 .i64))) 4607182418800017408) 4602678819172646912)) 4618760256179416344) (fop .mul .f64 (fop .sub .f64 4602678819172646912 (fop .sub .f64 (fop .add .f64 (fop .sub .f64 a0 (fOI .f64 (f2iV .f64 a0 .i64))) 4607182418800017408) 4602678819172646912)) 4618760256179416344)) 4607182418800017408 8)))) (k_ (fop .mul .f64 (fop .mul .f64 (fop .sub .f64 4602678819172646912 (fop .sub .f64 (fop .add .f64 (fop .sub .f64 a0 (fOI .f64 (f2iV .f64 a0 .i64))) 4607182418800017408) 4602678819172646912)) 4618760256179416344) (z05 (fop .mul .f64 (fop .mul .f64 (fop .sub .f64 4602678819172646912 (fop .sub .f64 (fop .add .f64 (fop .sub .f64 a0 (fOI .f64 (f2iV .f64 a0 .i64))) 4607182418800017408) 4602678819172646912)) 4618760256179416344) (fop .mul .f64 (fop .sub .f64 4602678819172646912 (fop .sub .f64 (fop .add .f64 (fop .sub .f64 a0 (fOI .f64 (f2iV .f64 a0 .i64))) 4607182418800017408) 4602678819172646912)) 4618760256179416344)) 4607182418800017408 8))))) (grd (z0y (fop .mul .f64 (fop .mul .f64 (fop .sub .f64 (fop .add .f64 (fop .sub .f64 a0 (fOI .f64 (f2iV .f64 a0 .i64))) 4607182418800017408) 4602678819172646912) 4618760256179416344) (fop .mul .f64 (fop .sub .f64 (fop .add .f64 (fop .sub .f64 a0 (fOI .f64 (f2iV .f64 a0 .i64))) 4607182418800017408) 4602678819172646912) 4618760256179416344)) 4607182418800017408 8) (br (fcmp .geq .f64 (fop .add .f64 (fop .sub .f64 a0 (fOI .f64 (f2iV .f64 a0 .i64))) 4607182418800017408) 4602678819172646912) (k_ (fneg .f64 (fop .mul .f64 (fop .mul .f64 (fop .sub .f64 (fop .add .f64 (fop .sub .f64 a0 (fOI .f64 (f2iV .f64 a0 .i64))) 4607182418800017408) 4602678819172646912) 4618760256179416344) (z05 (fop .mul .f64 (fop .mul .f64 (fop .sub .f64 (fop .add .f64 (fop .sub .f64 a0 (fOI .f64 (f2iV .f64 a0 .i64))) 4607182418800017408) 4602678819172646912) 4618760256179416344) (fop .mul .f64 (fop .sub .f64 (fop .add .f64 (fop .sub .f64 a0 (fOI .f64 (f2iV .f64 a0 .i64))) 4607182418800017408) 4602678819172646912) 4618760256179416344)) 4607182418800017408 8)))) (k_ (fop .mul .f64 (fop .mul .f64 (fop .sub .f64 (fop .add .f64 (fop .sub .f64 a0 (fOI .f64 (f2iV .f64 a0 .i64))) 4607182418800017408) 4602678819172646912) 4618760256179416344) (z05 (fop .mul .f64 (fop .mul .f64 (fop .sub .f64 (fop .add .f64 (fop .sub .f64 a0 (fOI .f64 (f2iV .f64 a0 .i64))) 4607182418800017408) 4602678819172646912) 4618760256179416344) (fop .mul .f64 (fop .sub .f64 (fop .add .f64 (fop .sub .f64 a0 (fOI .f64 (f2iV .f64 a0 .i64))) 4607182418800017408) 4602678819172646912) 4618760256179416344)) 4607182418800017408 8)))))) (br (fcmp .gtr .f64 (fop .add .f64 (fop .sub .f64 a0 (fOI .f64 (f2iV .f64 a0 .i64))) 4607182418800017408) 4598175219545276416) (grd (z0y (fop .mul .f64 (fop .mul .f64 (fop .sub .f64 4602678819172646912 (fop .add .f64 (fop .sub .f64 a0 (fOI .f64 (f2iV .f64 a0 .i64))) 4607182418800017408)) 4618760256179416344) (fop .mul .f64 (fop .sub .f64 4602678819172646912 (fop .add .f64 (fop .sub .f64 a0 (fOI .f64 (f2iV .f64 a0 .i64))) 4607182418800017408)) 4618760256179416344)) 4607182418800017408 8) (br (fcmp .geq .f64 (fop .add .f64 (fop .sub .f64 a0 (fOI .f64 (f2iV .f64 a0 .i64))) 4607182418800017408) 4602678819172646912) (k_ (fneg .f64 (fop .mul .f64 (fop .mul .f64 (fop .sub .f64 4602678819172646912 (fop .add .f64 (fop .sub .f64 a0 (fOI .f64 (f2iV .f64 a0 .i64))) 4607182418800017408)) 4618760256179416344) (z05 (fop .mul .f64 (fop .mul .f64 (fop .sub .f64 4602678819172646912 (fop .add .f64 (fop .sub .f64 a0 (fOI .f64 (f2iV .f64 a0 .i64))) 4607182418800017408)) 4618760256179416344) (fop .mul .f64 (fop .sub .f64 4602678819172646912 (fop .add .f64 (fop .sub .f64 a0 (fOI .f64 (f2iV .f64 a0 .i64))) 4607182418800017408)) 4618760256179416344)) 4607182418800017408 8)))) (k_ (fop .mul .f64 (fop .mul .f64 (fop .sub .f64 4602678819172646912 (fop .add .f64 (fop .sub .f64 a0 (fOI .f64 (f2iV .f64 a0 .i64))) 4607182418800017408)) 4618760256179416344) (z05 (fop .mul .f64 (fop .mul .f64 (fop .sub .f64 4602678819172646912 (fop .add .f64 (fop .sub .f64 a0 (fOI .f64 (f2iV .f64 a0 .i64))) 4607182418800017408)) 4618760256179416344) (fop .mul .f64 (fop .sub .f64 4602678819172646912 (fop .add .f64 (fop .sub .f64 a0 (fOI .f64 (f2iV .f64 a0 .i64))) 4607182418800017408)) 4618760256179416344)) 4607182418800017408 8))))) (grd (z0y (fop .mul .f64 (fop .mul .f64 (fop .add .f64 (fop .sub .f64 a0 (fOI .f64 (f2iV .f64 a0 .i64))) 4607182418800017408) 4618760256179416344) (fop .mul .f64 (fop .add .f64 (fop .sub .f64 a0 (fOI .f64 (f2iV .f64 a0 .i64))) 4607182418800017408) 4618760256179416344)) 4607182418800017408 8) (br (fcmp .geq .f64 (fop .add .f64 (fop .sub .f64 a0 (fOI .f64 (f2iV .f64 a0 .i64))) 4607182418800017408) 4602678819172646912) (k_ (fneg .f64 (fop .mul .f64 (fop .mul .f64 (fop .add .f64 (fop .sub .f64 a0 (fOI .f64 (f2iV .f64 a0 .i64))) 4607182418800017408) 4618760256179416344) (z05 (fop .mul .f64 (fop .mul .f64 (fop .add .f64 (fop .sub .f64 a0 (fOI .f64 (f2iV .f64 a0 .i64))) 4607182418800017408) 4618760256179416344) (fop .mul .f64 (fop .add .f64 (fop .sub .f64 a0 (fOI .f64 (f2iV .f64 a0 .i64))) 4607182418800017408) 4618760256179416344)) 4607182418800017408 8)))) (k_ (fop .mul .f64 (fop .mul .f64 (fop .add .f64 (fop .sub .f64 a0 (fOI .f64 (f2iV .f64 a0 .i64))) 4607182418800017408) 4618760256179416344) (z05 (fop .mul .f64 (fop .mul .f64 (fop .add .f64 (fop .sub .f64 a0 (fOI .f64 (f2iV .f64 a0 .i64))) 4607182418800017408) 4618760256179416344) (fop .mul .f64 (fop .add .f64 (fop .sub .f64 a0 (fOI .f64 (f2iV .f64 a0 .i64))) 4607182418800017408) 4618760256179416344)) 4607182418800017408 8))))))) (br (fcmp .geq .f64 (fop .sub .f64 a0 (fOI .f64 (f2iV .f64 a0 .i64))) 4602678819172646912) (br (fcmp .gtr .f64 (fop .sub .f64 (fop .sub .f64 a0 (fOI .f64 (f2iV .f64 a0 .i64))) 4602678819172646912) 4598175219545276416) (grd (z0y (fop .mul .f64 (fop .mul .f64 (fop .sub .f64 4602678819172646912 (fop .sub .f64 (fop .sub .f64 a0 (fOI .f64 (f2iV .f64 a0 .i64))) 4602678819172646912)) 4618760256179416344) (fop .mul .f64 (fop .sub .f64 4602678819172646912 (fop .sub .f64 (fop .sub .f64 a0 (fOI .f64 (f2iV .f64 a0 .i64))) 4602678819172646912)) 4618760256179416344)) 4607182418800017408 8) (br (fcmp .geq .f64 (fop .sub .f64 a0 (fOI .f64 (f2iV .f64 a0 .i64))) 4602678819172646912) (k_ (fneg .f64 (fop .mul .f64 (fop .mul .f64 (fop .sub .f64 4602678819172646912 (fop .sub .f64 (fop .sub .f64 a0 (fOI .f64 (f2iV .f64 a0 .i64))) 4602678819172646912)) 4618760256179416344) (z05 (fop .mul .f64 (fop .mul .f64 (fop .sub .f64 4602678819172646912 (fop .sub .f64 (fop .sub .f64 a0 (fOI .f64 (f2iV .f64 a0 .i64))) 4602678819172646912)) 4618760256179416344) (fop .mul .f64 (fop .sub .f64 4602678819172646912 (fop .sub .f64 (fop .sub .f64 a0 (fOI .f64 (f2iV .f64 a0 .i64))) 4602678819172646912)) 4618760256179416344)) 4607182418800017408 8)))) (k_ (fop .mul .f64 (fop .mul .f64 (fop .sub .f64 4602678819172646912 (fop .sub .f64 (fop .sub .f64 a0 (fOI .f64 (f2iV .f64 a0 .i64))) 4602678819172646912)) 4618760256179416344) (z05 (fop .mul .f64 (fop .mul .f64 (fop .sub .f64 4602678819172646912 (fop .sub .f64 (fop .sub .f64 a0 (fOI .f64 (f2iV .f64 a0 .i64))) 4602678819172646912)) 4618760256179416344) (fop .mul .f64 (fop .sub .f64 4602678819172646912 (fop .sub .f64 (fop .sub .f64 a0 (fOI .f64 (f2iV .f64 a0 .i64))) 4602678819172646912)) 4618760256179416344)) 4607182418800017408 8))))) (grd (z0y (fop .mul .f64 (fop .mul .f64 (fop .sub .f64 (fop .sub .f64 a0 (fOI .f64 (f2iV .f64 a0 .i64))) 4602678819172646912) 4618760256179416344) (fop .mul .f64 (fop .sub .f64 (fop .sub .f64 a0 (fOI .f64 (f2iV .f64 a0 .i64))) 4602678819172646912) 4618760256179416344)) 4607182418800017408 8) (br (fcmp .geq .f64 (fop .sub .f64 a0 (fOI .f64 (f2iV .f64 a0 .i64))) 4602678819172646912) (k_ (fneg .f64 (fop .mul .f64 (fop .mul .f64 (fop .sub .f64 (fop .sub .f64 a0 (fOI .f64 (f2iV .f64 a0 .i64))) 4602678819172646912) 4618760256179416344) (z05 (fop .mul .f64 (fop .mul .f64 (fop .sub .f64 (fop .sub .f64 a0 (fOI .f64 (f2iV .f64 a0 .i64))) 4602678819172646912) 4618760256179416344) (fop .mul .f64 (fop .sub .f64 (fop .sub .f64 a0 (fOI .f64 (f2iV .f64 a0 .i64))) 4602678819172646912) 4618760256179416344)) 4607182418800017408 8)))) (k_ (fop .mul .f64 (fop .mul .f64 (fop .sub .f64 (fop .sub .f64 a0 (fOI .f64 (f2iV .f64 a0 .i64))) 4602678819172646912) 4618760256179416344) (z05 (fop .mul .f64 (fop .mul .f64 (fop .sub .f64 (fop .sub .f64 a0 (fOI .f64 (f2iV .f64 a0 .i64))) 4602678819172646912) 4618760256179416344) (fop .mul .f64 (fop .sub .f64 (fop .sub .f64 a0 (fOI .f64 (f2iV .f64 a0 .i64))) 4602678819172646912) 4618760256179416344)) 4607182418800017408 8)))))) (br (fcmp .gtr .f64 (fop .sub .f64 a0 (fOI .f64 (f2iV .f64 a0 .i64))) 4598175219545276416) (grd (z0y (fop .mul .f64 (fop .mul .f64 (fop .sub .f64 4602678819172646912 (fop .sub .f64 a0 (fOI .f64 (f2iV .f64 a0 .i64)))) 4618760256179416344) (fop .mul .f64 (fop .sub .f64 4602678819172646912 (fop .sub .f64 a0 (fOI .f64 (f2iV .f64 a0 .i64)))) 4618760256179416344)) 4607182418800017408 8) (br (fcmp .geq .f64 (fop .sub .f64 a0 (fOI .f64 (f2iV .f64 a0 .i64))) 4602678819172646912) (k_ (fneg .f64 (fop .mul .f64 (fop .mul .f64 (fop .sub .f64 4602678819172646912 (fop .sub .f64 a0 (fOI .f64 (f2iV .f64 a0 .i64)))) 4618760256179416344) (z05 (fop .mul .f64 (fop .mul .f64 (fop .sub .f64 4602678819172646912 (fop .sub .f64 a0 (fOI .f64 (f2iV .f64 a0 .i64)))) 4618760256179416344) (fop .mul .f64 (fop .sub .f64 4602678819172646912 (fop .sub .f64 a0 (fOI .f64 (f2iV .f64 a0 .i64)))) 4618760256179416344)) 4607182418800017408 8)))) (k_ (fop .mul .f64 (fop .mul .f64 (fop .sub .f64 4602678819172646912 (fop .sub .f64 a0 (fOI .f64 (f2iV .f64 a0 .i64)))) 4618760256179416344) (z05 (fop .mul .f64 (fop .mul .f64 (fop .sub .f64 4602678819172646912 (fop .sub .f64 a0 (fOI .f64 (f2iV .f64 a0 .i64)))) 4618760256179416344) (fop .mul .f64 (fop .sub .f64 4602678819172646912 (fop .sub .f64 a0 (fOI .f64 (f2iV .f64 a0 .i64)))) 4618760256179416344)) 4607182418800017408 8))))) (grd (z0y (fop .mul .f64 (fop .mul .f64 (fop .sub .f64 a0 (fOI .f64 (f2iV .f64 a0 .i64))) 4618760256179416344) (fop .mul .f64 (fop .sub .f64 a0 (fOI .f64 (f2iV .f64 a0 .i64))) 4618760256179416344)) 4607182418800017408 8) (br (fcmp .geq .f64 (fop .sub .f64 a0 (fOI .f64 (f2iV .f64 a0 .i64))) 4602678819172646912) (k_ (fneg .f64 (fop .mul .f64 (fop .mul .f64 (fop .sub .f64 a0 (fOI .f64 (f2iV .f64 a0 .i64))) 4618760256179416344) (z05 (fop .mul .f64 (fop .mul .f64 (fop .sub .f64 a0 (fOI .f64 (f2iV .f64 a0 .i64))) 4618760256179416344) (fop .mul .f64 (fop .sub .f64 a0 (fOI .f64 (f2iV .f64 a0 .i64))) 4618760256179416344)) 4607182418800017408 8)))) (k_ (fop .mul .f64 (fop .mul .f64 (fop .sub .f64 a0 (fOI .f64 (f2iV .f64 a0 .i64))) 4618760256179416344) (z05 (fop .mul .f64 (fop .mul .f64 (fop .sub .f64 a0 (fOI .f64 (f2iV .f64 a0 .i64))) 4618760256179416344) (fop .mul .f64 (fop .sub .f64 a0 (fOI .f64 (f2iV .f64 a0 .i64))) 4618760256179416344)) 4607182418800017408 8))))))))))))
def z3e:Option (Nat):=z53 a0 (fun c0_=>some c0_)
theorem zpd{R R':Type}(o:Option R→Option R')(h0:o none=none)(k_:Nat→Option R):z53 a0 (fun c0_=>o (k_ c0_))=o (z53 a0 k_):=by
 unfold z53
 repeat (first | refine grd_out h0 ?_ | refine br_out ?_ ?_ | rfl | exact h0.symm)
def zc9:Bool:=(z3e a0).isSome
def z7n:Nat:=((z3e a0).getD default)
def z93{R:Type}(k_:Nat→Option R):Option R:=(grd (zl0 a0) (br (fcmp .eql .f64 (z8y a0) 0) (br (fcmp .lss .f64 (fop .sub .f64 a0 0) 0) (k_ (fop .add .f64 (fop .sub .f64 a0 0) 4607182418800017408)) (k_ (fop .sub .f64 a0 0))) (br (fcmp .lss .f64 (fop .sub .f64 a0 (z8y a0)) 0) (k_ (fop .add .f64 (fop .sub .f64 a0 (z8y a0)) 4607182418800017408)) (k_ (fop .sub .f64 a0 (z8y a0))))))
def z72:Option (Nat):=z93 a0 (fun c0_=>some c0_)
theorem zqt{R R':Type}(o:Option R→Option R')(h0:o none=none)(k_:Nat→Option R):z93 a0 (fun c0_=>o (k_ c0_))=o (z93 a0 k_):=by
 unfold z93
 repeat (first | refine grd_out h0 ?_ | refine br_out ?_ ?_ | rfl | exact h0.symm)
def zdl:Bool:=(z72 a0).isSome
def z08:Nat:=((z72 a0).getD default)
def z4s{R:Type}(kn_:Int→Option R)(k0_:Unit→Option R)(k1_:Int→Bool→Option R):Option R:=(br (ltI c7 c0) (grd (okIx c7 a4) (br (fcmp .geq .f32 (gF g1 (ixO 0 c7 1)) 3204448256) (grd (okIx c7 a4) (br (bnot (fcmp .leq .f32 (gF g1 (ixO 0 c7 1)) 1056964608)) (k0_ ()) (br (ltI 0 c7) (grd (okIx c7 a4) (grd (okIx (subI .i64 c7 1) a4) (br (fcmp .leq .f32 (gF g1 (ixO 0 c7 1)) (gF g1 (ixO 0 (subI .i64 c7 1) 1))) (k0_ ()) (grd (okIx c7 a5) (grd (z0t (gF g2 (ixO 0 c7 1))) (br (bnot (z0n (gF g2 (ixO 0 c7 1)))) (k0_ ()) (grd (okIx c7 a6) (grd (z5n (gF g3 (ixO 0 c7 1))) (br (bnot (z56 (gF g3 (ixO 0 c7 1)))) (k0_ ()) (kn_ (addI .i64 c7 1))))))))))) (grd (okIx c7 a5) (grd (z0t (gF g2 (ixO 0 c7 1))) (br (bnot (z0n (gF g2 (ixO 0 c7 1)))) (k0_ ()) (grd (okIx c7 a6) (grd (z5n (gF g3 (ixO 0 c7 1))) (br (bnot (z56 (gF g3 (ixO 0 c7 1)))) (k0_ ()) (kn_ (addI .i64 c7 1))))))))))) (br (bnot Bool.false) (k0_ ()) (br (ltI 0 c7) (grd (okIx c7 a4) (grd (okIx (subI .i64 c7 1) a4) (br (fcmp .leq .f32 (gF g1 (ixO 0 c7 1)) (gF g1 (ixO 0 (subI .i64 c7 1) 1))) (k0_ ()) (grd (okIx c7 a5) (grd (z0t (gF g2 (ixO 0 c7 1))) (br (bnot (z0n (gF g2 (ixO 0 c7 1)))) (k0_ ()) (grd (okIx c7 a6) (grd (z5n (gF g3 (ixO 0 c7 1))) (br (bnot (z56 (gF g3 (ixO 0 c7 1)))) (k0_ ()) (kn_ (addI .i64 c7 1))))))))))) (grd (okIx c7 a5) (grd (z0t (gF g2 (ixO 0 c7 1))) (br (bnot (z0n (gF g2 (ixO 0 c7 1)))) (k0_ ()) (grd (okIx c7 a6) (grd (z5n (gF g3 (ixO 0 c7 1))) (br (bnot (z56 (gF g3 (ixO 0 c7 1)))) (k0_ ()) (kn_ (addI .i64 c7 1)))))))))))) (k1_ c7 (ltI c7 c0)))
theorem zsh{R R':Type}(o:Option R→Option R')(h0:o none=none)(kn_:Int→Option R)(k0_:Unit→Option R)(k1_:Int→Bool→Option R):z4s c0 g1 g2 g3 a4 a5 a6 c7 (fun t4'=>o (kn_ t4')) (fun _=>o (k0_ ())) (fun c0_ c1_=>o (k1_ c0_ c1_))=o (z4s c0 g1 g2 g3 a4 a5 a6 c7 kn_ k0_ k1_):=by
 unfold z4s
 repeat (first | refine grd_out h0 ?_ | refine br_out ?_ ?_ | rfl | exact h0.symm)
def z2x(t3:Int)(b0 b1 b2:List Nat)(q1a q1h q1g:Nat):Nat→Int→Option ((Unit)⊕(Int×Bool))
 | 0,_=>none
 | n+1,t4=>z4s t3 b0 b1 b2 q1a q1h q1g  t4  (fun t4'=>z2x t3 b0 b1 b2 q1a q1h q1g n t4') (fun _=>some (Sum.inl ())) (fun c0_ c1_=>some (Sum.inr (c0_,c1_)))
theorem zkx:z2x c0 g1 g2 g3 a4 a5 a6 (a7+1) c8=z4s c0 g1 g2 g3 a4 a5 a6  c8  (fun t4'=>z2x c0 g1 g2 g3 a4 a5 a6 a7 t4') (fun _=>some (Sum.inl ())) (fun c0_ c1_=>some (Sum.inr (c0_,c1_))):=rfl
def z5p:Bool:=(z2x c0 g1 g2 g3 a4 a5 a6 big c7).isSome
def z54:Bool:=oL (z2x c0 g1 g2 g3 a4 a5 a6 big c7)
def zhu:Int:=((tR (z2x c0 g1 g2 g3 a4 a5 a6 big c7)).getD default).1
def zh9:Bool:=((tR (z2x c0 g1 g2 g3 a4 a5 a6 big c7)).getD default).2
def z0a{R:Type}(kn_:Int→Option R)(k0_:Int→Option R)(k1_:Int→Bool→Option R):Option R:=(br (ltI c3 c1) (grd (okIx c3 a0) (grd (za0 (gF g2 (ixO 0 c3 1))) (br (z8s (gF g2 (ixO 0 c3 1))) (k0_ c3) (kn_ (addI .i64 c3 1))))) (k1_ c3 (ltI c3 c1)))
theorem zag{R R':Type}(o:Option R→Option R')(h0:o none=none)(kn_:Int→Option R)(k0_:Int→Option R)(k1_:Int→Bool→Option R):z0a a0 c1 g2 c3 (fun t8'=>o (kn_ t8')) (fun c0_=>o (k0_ c0_)) (fun c0_ c1_=>o (k1_ c0_ c1_))=o (z0a a0 c1 g2 c3 kn_ k0_ k1_):=by
 unfold z0a
 repeat (first | refine grd_out h0 ?_ | refine br_out ?_ ?_ | rfl | exact h0.symm)
def z01(sn:Nat)(t7:Int)(b0:List Nat):Nat→Int→Option ((Int)⊕(Int×Bool))
 | 0,_=>none
 | n+1,t8=>z0a sn t7 b0  t8  (fun t8'=>z01 sn t7 b0 n t8') (fun c0_=>some (Sum.inl c0_)) (fun c0_ c1_=>some (Sum.inr (c0_,c1_)))
theorem z4x:z01 a0 c1 g2 (a3+1) c4=z0a a0 c1 g2  c4  (fun t8'=>z01 a0 c1 g2 a3 t8') (fun c0_=>some (Sum.inl c0_)) (fun c0_ c1_=>some (Sum.inr (c0_,c1_))):=rfl
def z0m:Bool:=(z01 a0 c1 g2 big c3).isSome
def z0j:Bool:=oL (z01 a0 c1 g2 big c3)
def z1g:Int:=((tL (z01 a0 c1 g2 big c3)).getD default)
def z38:Int:=((tR (z01 a0 c1 g2 big c3)).getD default).1
def z39:Bool:=((tR (z01 a0 c1 g2 big c3)).getD default).2
def z0b{R:Type}(kn_:Int→Option R)(k0_:Int→Option R)(k1_:Int→Bool→Option R):Option R:=(br (ltI c3 c1) (grd (okIx c3 a0) (grd (zbx (gF g2 (ixO 0 c3 1))) (br (zb1 (gF g2 (ixO 0 c3 1))) (k0_ c3) (kn_ (addI .i64 c3 1))))) (k1_ c3 (ltI c3 c1)))
theorem zbj{R R':Type}(o:Option R→Option R')(h0:o none=none)(kn_:Int→Option R)(k0_:Int→Option R)(k1_:Int→Bool→Option R):z0b a0 c1 g2 c3 (fun t8'=>o (kn_ t8')) (fun c0_=>o (k0_ c0_)) (fun c0_ c1_=>o (k1_ c0_ c1_))=o (z0b a0 c1 g2 c3 kn_ k0_ k1_):=by
 unfold z0b
 repeat (first | refine grd_out h0 ?_ | refine br_out ?_ ?_ | rfl | exact h0.symm)
def z02(sn:Nat)(t7:Int)(b0:List Nat):Nat→Int→Option ((Int)⊕(Int×Bool))
 | 0,_=>none
 | n+1,t8=>z0b sn t7 b0  t8  (fun t8'=>z02 sn t7 b0 n t8') (fun c0_=>some (Sum.inl c0_)) (fun c0_ c1_=>some (Sum.inr (c0_,c1_)))
theorem z5b:z02 a0 c1 g2 (a3+1) c4=z0b a0 c1 g2  c4  (fun t8'=>z02 a0 c1 g2 a3 t8') (fun c0_=>some (Sum.inl c0_)) (fun c0_ c1_=>some (Sum.inr (c0_,c1_))):=rfl
def z0r:Bool:=(z02 a0 c1 g2 big c3).isSome
def z0p:Bool:=oL (z02 a0 c1 g2 big c3)
def z1o:Int:=((tL (z02 a0 c1 g2 big c3)).getD default)
def z3f:Int:=((tR (z02 a0 c1 g2 big c3)).getD default).1
def z3g:Bool:=((tR (z02 a0 c1 g2 big c3)).getD default).2
def zhh{R:Type}(k_:Bool→Option R):Option R:=(br (ltI (Int.ofNat a0) 2) (k_ Bool.false) (br (ltI 24 (Int.ofNat a0)) (k_ Bool.false) (br (neI (Int.ofNat a2) (Int.ofNat a0)) (k_ Bool.false) (br (neI (Int.ofNat a4) (Int.ofNat a0)) (k_ Bool.false) (grd (z5p (Int.ofNat a0) g1 g3 g5 a0 a2 a4 0) (br (z54 (Int.ofNat a0) g1 g3 g5 a0 a2 a4 0) (k_ Bool.false) (k_ Bool.true)))))))
def zea:Option (Bool):=zhh a0 g1 a2 g3 a4 g5 (fun c0_=>some c0_)
theorem zwl{R R':Type}(o:Option R→Option R')(h0:o none=none)(k_:Bool→Option R):zhh a0 g1 a2 g3 a4 g5 (fun c0_=>o (k_ c0_))=o (zhh a0 g1 a2 g3 a4 g5 k_):=by
 unfold zhh
 repeat (first | refine grd_out h0 ?_ | refine br_out ?_ ?_ | rfl | exact h0.symm)
def zkq:Bool:=(zea a0 g1 a2 g3 a4 g5).isSome
def zjd:Bool:=((zea a0 g1 a2 g3 a4 g5).getD default)
def z1e{R:Type}(k_:Int→Option R):Option R:=(grd (z0m a0 (Int.ofNat a0) g1 0) (br (z0j a0 (Int.ofNat a0) g1 0) (k_ (z1g a0 (Int.ofNat a0) g1 0)) (k_ (Int.negSucc 0))))
def z0v:Option (Int):=z1e a0 g1 (fun c0_=>some c0_)
theorem zcl{R R':Type}(o:Option R→Option R')(h0:o none=none)(k_:Int→Option R):z1e a0 g1 (fun c0_=>o (k_ c0_))=o (z1e a0 g1 k_):=by
 unfold z1e
 repeat (first | refine grd_out h0 ?_ | refine br_out ?_ ?_ | rfl | exact h0.symm)
def z2a:Bool:=(z0v a0 g1).isSome
def z22:Int:=((z0v a0 g1).getD default)
def z1h{R:Type}(k_:Int→Option R):Option R:=(grd (z0r a0 (Int.ofNat a0) g1 0) (br (z0p a0 (Int.ofNat a0) g1 0) (k_ (z1o a0 (Int.ofNat a0) g1 0)) (k_ (Int.negSucc 0))))
def z10:Option (Int):=z1h a0 g1 (fun c0_=>some c0_)
theorem zdj{R R':Type}(o:Option R→Option R')(h0:o none=none)(k_:Int→Option R):z1h a0 g1 (fun c0_=>o (k_ c0_))=o (z1h a0 g1 k_):=by
 unfold z1h
 repeat (first | refine grd_out h0 ?_ | refine br_out ?_ ?_ | rfl | exact h0.symm)
def z2w:Bool:=(z10 a0 g1).isSome
def z2j:Int:=((z10 a0 g1).getD default)
def zeb{R:Type}(k_:Nat→Option R):Option R:=(grd (zc9 (fcvV .f32 .f64 a0)) (grd (zaj (z7n (fcvV .f32 .f64 a0))) (k_ (z7d (z7n (fcvV .f32 .f64 a0))))))
def z7t:Option (Nat):=zeb a0 (fun c0_=>some c0_)
theorem zti{R R':Type}(o:Option R→Option R')(h0:o none=none)(k_:Nat→Option R):zeb a0 (fun c0_=>o (k_ c0_))=o (zeb a0 k_):=by
 unfold zeb
 repeat (first | refine grd_out h0 ?_ | refine br_out ?_ ?_ | rfl | exact h0.symm)
def z5f:Bool:=(z7t a0).isSome
def z19:Nat:=((z7t a0).getD default)
def z0c{R:Type}(kn_:Int→Option R)(k0_:Int→Option R)(k1_:Int→Bool→Option R):Option R:=(br (ltI c3 c1) (grd (okIx c3 a0) (grd (zdt (gF g2 (ixO 0 c3 1))) (br (zca (gF g2 (ixO 0 c3 1))) (k0_ c3) (kn_ (addI .i64 c3 1))))) (k1_ c3 (ltI c3 c1)))
theorem zcp{R R':Type}(o:Option R→Option R')(h0:o none=none)(kn_:Int→Option R)(k0_:Int→Option R)(k1_:Int→Bool→Option R):z0c a0 c1 g2 c3 (fun t8'=>o (kn_ t8')) (fun c0_=>o (k0_ c0_)) (fun c0_ c1_=>o (k1_ c0_ c1_))=o (z0c a0 c1 g2 c3 kn_ k0_ k1_):=by
 unfold z0c
 repeat (first | refine grd_out h0 ?_ | refine br_out ?_ ?_ | rfl | exact h0.symm)
def z04(sn:Nat)(t7:Int)(b0:List Nat):Nat→Int→Option ((Int)⊕(Int×Bool))
 | 0,_=>none
 | n+1,t8=>z0c sn t7 b0  t8  (fun t8'=>z04 sn t7 b0 n t8') (fun c0_=>some (Sum.inl c0_)) (fun c0_ c1_=>some (Sum.inr (c0_,c1_)))
theorem z5j:z04 a0 c1 g2 (a3+1) c4=z0c a0 c1 g2  c4  (fun t8'=>z04 a0 c1 g2 a3 t8') (fun c0_=>some (Sum.inl c0_)) (fun c0_ c1_=>some (Sum.inr (c0_,c1_))):=rfl
def z0w:Bool:=(z04 a0 c1 g2 big c3).isSome
def z0q:Bool:=oL (z04 a0 c1 g2 big c3)
def z1x:Int:=((tL (z04 a0 c1 g2 big c3)).getD default)
def z3m:Int:=((tR (z04 a0 c1 g2 big c3)).getD default).1
def z3k:Bool:=((tR (z04 a0 c1 g2 big c3)).getD default).2
def z1m{R:Type}(k_:Int→Option R):Option R:=(grd (z0w a0 (Int.ofNat a0) g1 0) (br (z0q a0 (Int.ofNat a0) g1 0) (k_ (z1x a0 (Int.ofNat a0) g1 0)) (k_ (Int.negSucc 0))))
def z13:Option (Int):=z1m a0 g1 (fun c0_=>some c0_)
theorem zeu{R R':Type}(o:Option R→Option R')(h0:o none=none)(k_:Int→Option R):z1m a0 g1 (fun c0_=>o (k_ c0_))=o (z1m a0 g1 k_):=by
 unfold z1m
 repeat (first | refine grd_out h0 ?_ | refine br_out ?_ ?_ | rfl | exact h0.symm)
def z34:Bool:=(z13 a0 g1).isSome
def z2v:Int:=((z13 a0 g1).getD default)
def zhc{R:Type}(k_:Nat→Option R):Option R:=(grd (bnot (nanQ .f64 a0)) (k_ (fint Ieee.Toward.down a0)))
def zey:Option (Nat):=zhc a0 (fun c0_=>some c0_)
theorem zwd{R R':Type}(o:Option R→Option R')(h0:o none=none)(k_:Nat→Option R):zhc a0 (fun c0_=>o (k_ c0_))=o (zhc a0 k_):=by
 unfold zhc
 repeat (first | refine grd_out h0 ?_ | refine br_out ?_ ?_ | rfl | exact h0.symm)
def zi0:Bool:=(zey a0).isSome
def z5y:Nat:=((zey a0).getD default)
def z5h{R:Type}(kn_:Nat→Nat→Option R)(k0_:Nat→Nat→Bool→Option R):Option R:=(br (fcmp .geq .f64 a2 4607182418800017408) (kn_ (fop .sub .f64 4607182418800017408 (fop .quo .f64 (fop .mul .f64 a0 a1) (fop .mul .f64 (fop .mul .f64 4611686018427387904 a2) (fop .add .f64 (fop .mul .f64 4611686018427387904 a2) 4607182418800017408)))) (fop .sub .f64 a2 4607182418800017408)) (k0_ a1 a2 (fcmp .geq .f64 a2 4607182418800017408)))
theorem zu1{R R':Type}(o:Option R→Option R')(h0:o none=none)(kn_:Nat→Nat→Option R)(k0_:Nat→Nat→Bool→Option R):z5h a0 a1 a2 (fun p' k'=>o (kn_ p' k')) (fun c0_ c1_ c2_=>o (k0_ c0_ c1_ c2_))=o (z5h a0 a1 a2 kn_ k0_):=by
 unfold z5h
 repeat (first | refine grd_out h0 ?_ | refine br_out ?_ ?_ | rfl | exact h0.symm)
def z2u(u:Nat):Nat→Nat→Nat→Option ((Nat×Nat×Bool))
 | 0,_,_=>none
 | n+1,p,k=>z5h u  p k  (fun p' k'=>z2u u n p' k') (fun c0_ c1_ c2_=>some (c0_,c1_,c2_))
theorem zlm:z2u a0 (a1+1) a2 a3=z5h a0  a2 a3  (fun p' k'=>z2u a0 a1 p' k') (fun c0_ c1_ c2_=>some (c0_,c1_,c2_)):=rfl
def z6g:Bool:=(z2u a0 big a1 a2).isSome
def z4g:Nat:=((z2u a0 big a1 a2).getD default).1
def zit:Nat:=((z2u a0 big a1 a2).getD default).2.1
def ziw:Bool:=((z2u a0 big a1 a2).getD default).2.2
def z14{R:Type}(k_:Bool→Option R):Option R:=(grd (z2a a0 (pF g1 0 (muN a0 1))) (k_ (leI 0 (z22 a0 (pF g1 0 (muN a0 1))))))
def z0l:Option (Bool):=z14 a0 g1 (fun c0_=>some c0_)
theorem zai{R R':Type}(o:Option R→Option R')(h0:o none=none)(k_:Bool→Option R):z14 a0 g1 (fun c0_=>o (k_ c0_))=o (z14 a0 g1 k_):=by
 unfold z14
 repeat (first | refine grd_out h0 ?_ | refine br_out ?_ ?_ | rfl | exact h0.symm)
def z1w:Bool:=(z0l a0 g1).isSome
def z1r:Bool:=((z0l a0 g1).getD default)
def z1b{R:Type}(k_:Bool→Option R):Option R:=(grd (z2w a0 (pF g1 0 (muN a0 1))) (k_ (leI 0 (z2j a0 (pF g1 0 (muN a0 1))))))
def z0s:Option (Bool):=z1b a0 g1 (fun c0_=>some c0_)
theorem zbi{R R':Type}(o:Option R→Option R')(h0:o none=none)(k_:Bool→Option R):z1b a0 g1 (fun c0_=>o (k_ c0_))=o (z1b a0 g1 k_):=by
 unfold z1b
 repeat (first | refine grd_out h0 ?_ | refine br_out ?_ ?_ | rfl | exact h0.symm)
def z27:Bool:=(z0s a0 g1).isSome
def z21:Bool:=((z0s a0 g1).getD default)
def z1d{R:Type}(k_:Bool→Option R):Option R:=(grd (z34 a0 (pF g1 0 (muN a0 1))) (k_ (leI 0 (z2v a0 (pF g1 0 (muN a0 1))))))
def z0u:Option (Bool):=z1d a0 g1 (fun c0_=>some c0_)
theorem zbu{R R':Type}(o:Option R→Option R')(h0:o none=none)(k_:Bool→Option R):z1d a0 g1 (fun c0_=>o (k_ c0_))=o (z1d a0 g1 k_):=by
 unfold z1d
 repeat (first | refine grd_out h0 ?_ | refine br_out ?_ ?_ | rfl | exact h0.symm)
def z2c:Bool:=(z0u a0 g1).isSome
def z28:Bool:=((z0u a0 g1).getD default)
def zjc{R:Type}(k_:Nat→Option R):Option R:=(grd (zdl a0) (br (fcmp .geq .f64 (z08 a0) 4602678819172646912) (br (fcmp .gtr .f64 (fop .sub .f64 (z08 a0) 4602678819172646912) 4598175219545276416) (grd (z6g (fop .mul .f64 (fop .mul .f64 (fop .sub .f64 4602678819172646912 (fop .sub .f64 (z08 a0) 4602678819172646912)) 4618760256179416344) (fop .mul .f64 (fop .sub .f64 4602678819172646912 (fop .sub .f64 (z08 a0) 4602678819172646912)) 4618760256179416344)) 4607182418800017408 4620693217682128896) (k_ (fneg .f64 (fop .mul .f64 (fop .mul .f64 (fop .sub .f64 4602678819172646912 (fop .sub .f64 (z08 a0) 4602678819172646912)) 4618760256179416344) (z4g (fop .mul .f64 (fop .mul .f64 (fop .sub .f64 4602678819172646912 (fop .sub .f64 (z08 a0) 4602678819172646912)) 4618760256179416344) (fop .mul .f64 (fop .sub .f64 4602678819172646912 (fop .sub .f64 (z08 a0) 4602678819172646912)) 4618760256179416344)) 4607182418800017408 4620693217682128896))))) (grd (z6g (fop .mul .f64 (fop .mul .f64 (fop .sub .f64 (z08 a0) 4602678819172646912) 4618760256179416344) (fop .mul .f64 (fop .sub .f64 (z08 a0) 4602678819172646912) 4618760256179416344)) 4607182418800017408 4620693217682128896) (k_ (fneg .f64 (fop .mul .f64 (fop .mul .f64 (fop .sub .f64 (z08 a0) 4602678819172646912) 4618760256179416344) (z4g (fop .mul .f64 (fop .mul .f64 (fop .sub .f64 (z08 a0) 4602678819172646912) 4618760256179416344) (fop .mul .f64 (fop .sub .f64 (z08 a0) 4602678819172646912) 4618760256179416344)) 4607182418800017408 4620693217682128896)))))) (br (fcmp .gtr .f64 (z08 a0) 4598175219545276416) (grd (z6g (fop .mul .f64 (fop .mul .f64 (fop .sub .f64 4602678819172646912 (z08 a0)) 4618760256179416344) (fop .mul .f64 (fop .sub .f64 4602678819172646912 (z08 a0)) 4618760256179416344)) 4607182418800017408 4620693217682128896) (k_ (fop .mul .f64 (fop .mul .f64 (fop .sub .f64 4602678819172646912 (z08 a0)) 4618760256179416344) (z4g (fop .mul .f64 (fop .mul .f64 (fop .sub .f64 4602678819172646912 (z08 a0)) 4618760256179416344) (fop .mul .f64 (fop .sub .f64 4602678819172646912 (z08 a0)) 4618760256179416344)) 4607182418800017408 4620693217682128896)))) (grd (z6g (fop .mul .f64 (fop .mul .f64 (z08 a0) 4618760256179416344) (fop .mul .f64 (z08 a0) 4618760256179416344)) 4607182418800017408 4620693217682128896) (k_ (fop .mul .f64 (fop .mul .f64 (z08 a0) 4618760256179416344) (z4g (fop .mul .f64 (fop .mul .f64 (z08 a0) 4618760256179416344) (fop .mul .f64 (z08 a0) 4618760256179416344)) 4607182418800017408 4620693217682128896)))))))
def zge:Option (Nat):=zjc a0 (fun c0_=>some c0_)
theorem zxe{R R':Type}(o:Option R→Option R')(h0:o none=none)(k_:Nat→Option R):zjc a0 (fun c0_=>o (k_ c0_))=o (zjc a0 k_):=by
 unfold zjc
 repeat (first | refine grd_out h0 ?_ | refine br_out ?_ ?_ | rfl | exact h0.symm)
def zmi:Bool:=(zge a0).isSome
def zhq:Nat:=((zge a0).getD default)
def zaq{R:Type}(k_:Nat→Option R):Option R:=(grd (zi0 (fop .add .f64 (fcvV .f32 .f64 a0) 4602678819172646912)) (grd (fcvB .f64 .f32 (fop .sub .f64 (fcvV .f32 .f64 a0) (z5y (fop .add .f64 (fcvV .f32 .f64 a0) 4602678819172646912)))) (br (fcmp .geq .f32 (fcvV .f64 .f32 (fop .sub .f64 (fcvV .f32 .f64 a0) (z5y (fop .add .f64 (fcvV .f32 .f64 a0) 4602678819172646912)))) 1056964608) (k_ 3204448256) (k_ (fcvV .f64 .f32 (fop .sub .f64 (fcvV .f32 .f64 a0) (z5y (fop .add .f64 (fcvV .f32 .f64 a0) 4602678819172646912))))))))
def z7x:Option (Nat):=zaq a0 (fun c0_=>some c0_)
theorem zrm{R R':Type}(o:Option R→Option R')(h0:o none=none)(k_:Nat→Option R):zaq a0 (fun c0_=>o (k_ c0_))=o (zaq a0 k_):=by
 unfold zaq
 repeat (first | refine grd_out h0 ?_ | refine br_out ?_ ?_ | rfl | exact h0.symm)
def zfr:Bool:=(z7x a0).isSome
def z0o:Nat:=((z7x a0).getD default)
def zeq{R:Type}(k_:Nat→Option R):Option R:=(grd (zi0 (fop .add .f64 (fcvV .f32 .f64 a0) 4602678819172646912)) (grd (zaj (fop .sub .f64 (fcvV .f32 .f64 a0) (z5y (fop .add .f64 (fcvV .f32 .f64 a0) 4602678819172646912)))) (br (fcmp .geq .f32 (z7d (fop .sub .f64 (fcvV .f32 .f64 a0) (z5y (fop .add .f64 (fcvV .f32 .f64 a0) 4602678819172646912)))) 1056964608) (k_ 3204448256) (k_ (z7d (fop .sub .f64 (fcvV .f32 .f64 a0) (z5y (fop .add .f64 (fcvV .f32 .f64 a0) 4602678819172646912))))))))
def za5:Option (Nat):=zeq a0 (fun c0_=>some c0_)
theorem zu3{R R':Type}(o:Option R→Option R')(h0:o none=none)(k_:Nat→Option R):zeq a0 (fun c0_=>o (k_ c0_))=o (zeq a0 k_):=by
 unfold zeq
 repeat (first | refine grd_out h0 ?_ | refine br_out ?_ ?_ | rfl | exact h0.symm)
def zig:Bool:=(za5 a0).isSome
def z3d:Nat:=((za5 a0).getD default)
def z4q{R:Type}(kn_:Nat→Int→Option R)(k0_:Unit→Option R)(k1_:Nat→Int→Bool→Option R):Option R:=(br (ltI c5 c0) (grd (okIx c5 a2) (br (bnot (fcmp .gtr .f32 (gF g1 (ixO 0 c5 3)) a4)) (k0_ ()) (br (bnot (fcmp .lss .f32 (gF g1 (ixO 0 c5 3)) a3)) (k0_ ()) (grd (z6v (gF g1 (Nat.succ (ixO 0 c5 3)))) (br (bnot (z64 (gF g1 (Nat.succ (ixO 0 c5 3))))) (k0_ ()) (grd (z0t (gF g1 (Nat.succ (Nat.succ (ixO 0 c5 3))))) (br (bnot (z0n (gF g1 (Nat.succ (Nat.succ (ixO 0 c5 3)))))) (k0_ ()) (kn_ (gF g1 (ixO 0 c5 3)) (addI .i64 c5 1))))))))) (k1_ a4 c5 (ltI c5 c0)))
theorem zsy{R R':Type}(o:Option R→Option R')(h0:o none=none)(kn_:Nat→Int→Option R)(k0_:Unit→Option R)(k1_:Nat→Int→Bool→Option R):z4q c0 g1 a2 a3 a4 c5 (fun t4' t58'=>o (kn_ t4' t58')) (fun _=>o (k0_ ())) (fun c0_ c1_ c2_=>o (k1_ c0_ c1_ c2_))=o (z4q c0 g1 a2 a3 a4 c5 kn_ k0_ k1_):=by
 unfold z4q
 repeat (first | refine grd_out h0 ?_ | refine br_out ?_ ?_ | rfl | exact h0.symm)
def z18(t57:Int)(b3:List Nat)(q0s q0z:Nat):Nat→Nat→Int→Option ((Unit)⊕(Nat×Int×Bool))
 | 0,_,_=>none
 | n+1,t4,t58=>z4q t57 b3 q0s q0z  t4 t58  (fun t4' t58'=>z18 t57 b3 q0s q0z n t4' t58') (fun _=>some (Sum.inl ())) (fun c0_ c1_ c2_=>some (Sum.inr (c0_,c1_,c2_)))
theorem zki:z18 c0 g1 a2 a3 (a4+1) a5 c6=z4q c0 g1 a2 a3  a5 c6  (fun t4' t58'=>z18 c0 g1 a2 a3 a4 t4' t58') (fun _=>some (Sum.inl ())) (fun c0_ c1_ c2_=>some (Sum.inr (c0_,c1_,c2_))):=rfl
def z6w:Bool:=(z18 c0 g1 a2 a3 big a4 c5).isSome
def z69:Bool:=oL (z18 c0 g1 a2 a3 big a4 c5)
def zhj:Nat:=((tR (z18 c0 g1 a2 a3 big a4 c5)).getD default).1
def zhf:Int:=((tR (z18 c0 g1 a2 a3 big a4 c5)).getD default).2.1
def zho:Bool:=((tR (z18 c0 g1 a2 a3 big a4 c5)).getD default).2.2
def z8d{R:Type}(k_:Bool→Option R):Option R:=(grd (z1w a0 (pF g1 0 (muN a0 1))) (k_ (bnot (z1r a0 (pF g1 0 (muN a0 1))))))
def z2q:Option (Bool):=z8d a0 g1 (fun c0_=>some c0_)
theorem zpp{R R':Type}(o:Option R→Option R')(h0:o none=none)(k_:Bool→Option R):z8d a0 g1 (fun c0_=>o (k_ c0_))=o (z8d a0 g1 k_):=by
 unfold z8d
 repeat (first | refine grd_out h0 ?_ | refine br_out ?_ ?_ | rfl | exact h0.symm)
def z57:Bool:=(z2q a0 g1).isSome
def z4o:Bool:=((z2q a0 g1).getD default)
def zht{R:Type}(k_:Bool→Option R):Option R:=(grd (zkq a0 (pF g1 0 (muN a0 1)) a2 (pF g3 0 (muN a2 1)) a4 (pF g5 0 (muN a4 1))) (br (bnot (zjd a0 (pF g1 0 (muN a0 1)) a2 (pF g3 0 (muN a2 1)) a4 (pF g5 0 (muN a4 1)))) (k_ Bool.false) (br (ltI (Int.ofNat a6) 2) (k_ Bool.false) (br (ltI 12 (Int.ofNat a6)) (k_ Bool.false) (grd (zeo c8 1 6) (br (bnot (zbn c8 1 6)) (k_ Bool.false) (grd (z5n a9) (br (bnot (z56 a9)) (k_ Bool.false) (grd (z0t a10) (br (bnot (z0n a10)) (k_ Bool.false) (grd (z6w (Int.ofNat a6) g7 a6 a10 a9 0) (br (z69 (Int.ofNat a6) g7 a6 a10 a9 0) (k_ Bool.false) (k_ Bool.true)))))))))))))
def ze8:Option (Bool):=zht a0 g1 a2 g3 a4 g5 a6 g7 c8 a9 a10 (fun c0_=>some c0_)
theorem zx5{R R':Type}(o:Option R→Option R')(h0:o none=none)(k_:Bool→Option R):zht a0 g1 a2 g3 a4 g5 a6 g7 c8 a9 a10 (fun c0_=>o (k_ c0_))=o (zht a0 g1 a2 g3 a4 g5 a6 g7 c8 a9 a10 k_):=by
 unfold zht
 repeat (first | refine grd_out h0 ?_ | refine br_out ?_ ?_ | rfl | exact h0.symm)
def zhv:Bool:=(ze8 a0 g1 a2 g3 a4 g5 a6 g7 c8 a9 a10).isSome
def zg1:Bool:=((ze8 a0 g1 a2 g3 a4 g5 a6 g7 c8 a9 a10).getD default)
def zar{R:Type}(k_:Bool→Option R):Option R:=(grd (z27 a0 (pF g1 0 (muN a0 1))) (k_ (bnot (z21 a0 (pF g1 0 (muN a0 1))))))
def z63:Option (Bool):=zar a0 g1 (fun c0_=>some c0_)
theorem zs0{R R':Type}(o:Option R→Option R')(h0:o none=none)(k_:Bool→Option R):zar a0 g1 (fun c0_=>o (k_ c0_))=o (zar a0 g1 k_):=by
 unfold zar
 repeat (first | refine grd_out h0 ?_ | refine br_out ?_ ?_ | rfl | exact h0.symm)
def zap:Bool:=(z63 a0 g1).isSome
def z9a:Bool:=((z63 a0 g1).getD default)
def zco{R:Type}(k_:Bool→Option R):Option R:=(grd (z2c a0 (pF g1 0 (muN a0 1))) (k_ (bnot (z28 a0 (pF g1 0 (muN a0 1))))))
def z8i:Option (Bool):=zco a0 g1 (fun c0_=>some c0_)
theorem zsx{R R':Type}(o:Option R→Option R')(h0:o none=none)(k_:Bool→Option R):zco a0 g1 (fun c0_=>o (k_ c0_))=o (zco a0 g1 k_):=by
 unfold zco
 repeat (first | refine grd_out h0 ?_ | refine br_out ?_ ?_ | rfl | exact h0.symm)
def zh6:Bool:=(z8i a0 g1).isSome
def zfm:Bool:=((z8i a0 g1).getD default)
def zae{R:Type}(k_:Nat→Option R):Option R:=(grd (z26 a0) (br (bnot (z1t a0)) (grd zl2 (grd (fcvB .f64 .f32 zgd) (k_ (fcvV .f64 .f32 zgd)))) (grd (zjm (fcvV .f32 .f64 a0)) (br (zi8 (fcvV .f32 .f64 a0)) (k_ 0) (grd (zmi (fcvV .f32 .f64 a0)) (grd (fcvB .f64 .f32 (zhq (fcvV .f32 .f64 a0))) (k_ (fcvV .f64 .f32 (zhq (fcvV .f32 .f64 a0))))))))))
def z80:Option (Nat):=zae a0 (fun c0_=>some c0_)
theorem zrv{R R':Type}(o:Option R→Option R')(h0:o none=none)(k_:Nat→Option R):zae a0 (fun c0_=>o (k_ c0_))=o (zae a0 k_):=by
 unfold zae
 repeat (first | refine grd_out h0 ?_ | refine br_out ?_ ?_ | rfl | exact h0.symm)
def z3o:Bool:=(z80 a0).isSome
def z17:Nat:=((z80 a0).getD default)
def z92{R:Type}(k_:Nat→Nat→Bool→Option R):Option R:=(grd (zap 2 (pF [a0,a1] 0 (muN 2 1))) (br (bnot (z9a 2 (pF [a0,a1] 0 (muN 2 1)))) (k_ 0 0 Bool.false) (k_ a0 a1 Bool.true)))
def z4h:Option (Nat×Nat×Bool):=z92 a0 a1 (fun c0_ c1_ c2_=>some (c0_,c1_,c2_))
theorem zqu{R R':Type}(o:Option R→Option R')(h0:o none=none)(k_:Nat→Nat→Bool→Option R):z92 a0 a1 (fun c0_ c1_ c2_=>o (k_ c0_ c1_ c2_))=o (z92 a0 a1 k_):=by
 unfold z92
 repeat (first | refine grd_out h0 ?_ | refine br_out ?_ ?_ | rfl | exact h0.symm)
def z95:Bool:=(z4h a0 a1).isSome
def z8a:Nat:=((z4h a0 a1).getD default).1
def z8b:Nat:=((z4h a0 a1).getD default).2.1
def z89:Bool:=((z4h a0 a1).getD default).2.2
def z96{R:Type}(k_:Bool→Option R):Option R:=(grd (zhv a0 (pF g1 0 (muN a0 1)) a2 (pF g3 0 (muN a2 1)) a4 (pF g5 0 (muN a4 1)) a6 (pF g7 0 (muN a6 3)) c8 a9 a10) (br (zg1 a0 (pF g1 0 (muN a0 1)) a2 (pF g3 0 (muN a2 1)) a4 (pF g5 0 (muN a4 1)) a6 (pF g7 0 (muN a6 3)) c8 a9 a10) (grd (zeo c11 0 (subI .i64 (Int.ofNat a6) 1)) (k_ (zbn c11 0 (subI .i64 (Int.ofNat a6) 1)))) (k_ Bool.false)))
def z79:Option (Bool):=z96 a0 g1 a2 g3 a4 g5 a6 g7 c8 a9 a10 c11 (fun c0_=>some c0_)
theorem zqq{R R':Type}(o:Option R→Option R')(h0:o none=none)(k_:Bool→Option R):z96 a0 g1 a2 g3 a4 g5 a6 g7 c8 a9 a10 c11 (fun c0_=>o (k_ c0_))=o (z96 a0 g1 a2 g3 a4 g5 a6 g7 c8 a9 a10 c11 k_):=by
 unfold z96
 repeat (first | refine grd_out h0 ?_ | refine br_out ?_ ?_ | rfl | exact h0.symm)
def zdo:Bool:=(z79 a0 g1 a2 g3 a4 g5 a6 g7 c8 a9 a10 c11).isSome
def zc1:Bool:=((z79 a0 g1 a2 g3 a4 g5 a6 g7 c8 a9 a10 c11).getD default)
def z6d{R:Type}(q00:Nat)(q06:List Nat)(q01:Nat)(q07:List Nat)(q02:Nat)(q08:List Nat)(q0d:Nat)(q0f:List Nat)(q0k:Int)(q0o q0n:Nat)(i:Int)(q19:Nat)(k_:Nat→Option R):Option R:=(grd (okIx i q0d) (grd (z3o q19) (k_ (fop .quo .f32 (fop .quo .f32 (fop .mul .f32 (fOI .f32 q0k) (fop .sub .f32 q0n (gF q0f (ixO 0 i 3)))) (fop .mul .f32 1073741824 (gF q0f (ixO 0 i 3)))) (fop .add .f32 (fop .quo .f32 (fop .mul .f32 (fOI .f32 q0k) (fop .sub .f32 q0n (gF q0f (ixO 0 i 3)))) (fop .mul .f32 1073741824 (gF q0f (ixO 0 i 3)))) (z17 q19))))))
def z4v:Option (Nat):=z6d a0 g1 a2 g3 a4 g5 a6 g7 c8 a9 a10 c11 a12 (fun c0_=>some c0_)
theorem znm{R R':Type}(o:Option R→Option R')(h0:o none=none)(k_:Nat→Option R):z6d a0 g1 a2 g3 a4 g5 a6 g7 c8 a9 a10 c11 a12 (fun c0_=>o (k_ c0_))=o (z6d a0 g1 a2 g3 a4 g5 a6 g7 c8 a9 a10 c11 a12 k_):=by
 unfold z6d
 repeat (first | refine grd_out h0 ?_ | refine br_out ?_ ?_ | rfl | exact h0.symm)
def z8u:Bool:=(z4v a0 g1 a2 g3 a4 g5 a6 g7 c8 a9 a10 c11 a12).isSome
def z5w:Nat:=((z4v a0 g1 a2 g3 a4 g5 a6 g7 c8 a9 a10 c11 a12).getD default)
def z09{R:Type}(kn_:Int→Option R)(k0_:Int→Option R)(k1_:Int→Bool→Option R):Option R:=(br (ltI c4 c1) (grd (okIx c4 a0) (br (fcmp .gtr .f32 (gF g2 (ixO 0 c4 1)) a3) (k0_ c4) (kn_ (addI .i64 c4 1)))) (k1_ c4 (ltI c4 c1)))
theorem zac{R R':Type}(o:Option R→Option R')(h0:o none=none)(kn_:Int→Option R)(k0_:Int→Option R)(k1_:Int→Bool→Option R):z09 a0 c1 g2 a3 c4 (fun t8'=>o (kn_ t8')) (fun c0_=>o (k0_ c0_)) (fun c0_ c1_=>o (k1_ c0_ c1_))=o (z09 a0 c1 g2 a3 c4 kn_ k0_ k1_):=by
 unfold z09
 repeat (first | refine grd_out h0 ?_ | refine br_out ?_ ?_ | rfl | exact h0.symm)
def z00(sn:Nat)(t7:Int)(b0:List Nat)(b4:Nat):Nat→Int→Option ((Int)⊕(Int×Bool))
 | 0,_=>none
 | n+1,t8=>z09 sn t7 b0 b4  t8  (fun t8'=>z00 sn t7 b0 b4 n t8') (fun c0_=>some (Sum.inl c0_)) (fun c0_ c1_=>some (Sum.inr (c0_,c1_)))
theorem z4t:z00 a0 c1 g2 a3 (a4+1) c5=z09 a0 c1 g2 a3  c5  (fun t8'=>z00 a0 c1 g2 a3 a4 t8') (fun c0_=>some (Sum.inl c0_)) (fun c0_ c1_=>some (Sum.inr (c0_,c1_))):=rfl
def z0i:Bool:=(z00 a0 c1 g2 a3 big c4).isSome
def z0h:Bool:=oL (z00 a0 c1 g2 a3 big c4)
def z03:Int:=((tL (z00 a0 c1 g2 a3 big c4)).getD default)
def z33:Int:=((tR (z00 a0 c1 g2 a3 big c4)).getD default).1
def z2y:Bool:=((tR (z00 a0 c1 g2 a3 big c4)).getD default).2
def z3s{R:Type}(kn_:Int→Option R)(k0_:Int→Bool→Option R):Option R:=(br (leI 0 c3) (grd (okIx c3 a2) (br (fcmp .gtr .f32 (gF g1 (ixO 0 c3 1)) a0) (kn_ (subI .i64 c3 1)) (k0_ c3 (fcmp .gtr .f32 (gF g1 (ixO 0 c3 1)) a0)))) (k0_ c3 Bool.false))
theorem zqs{R R':Type}(o:Option R→Option R')(h0:o none=none)(kn_:Int→Option R)(k0_:Int→Bool→Option R):z3s a0 g1 a2 c3 (fun t10'=>o (kn_ t10')) (fun c0_ c1_=>o (k0_ c0_ c1_))=o (z3s a0 g1 a2 c3 kn_ k0_):=by
 unfold z3s
 repeat (first | refine grd_out h0 ?_ | refine br_out ?_ ?_ | rfl | exact h0.symm)
def z2f(t8:Nat)(b0:List Nat)(q1a:Nat):Nat→Int→Option ((Int×Bool))
 | 0,_=>none
 | n+1,t10=>z3s t8 b0 q1a  t10  (fun t10'=>z2f t8 b0 q1a n t10') (fun c0_ c1_=>some (c0_,c1_))
theorem zj9:z2f a0 g1 a2 (a3+1) c4=z3s a0 g1 a2  c4  (fun t10'=>z2f a0 g1 a2 a3 t10') (fun c0_ c1_=>some (c0_,c1_)):=rfl
def zdy:Bool:=(z2f a0 g1 a2 big c3).isSome
def z9b:Int:=((z2f a0 g1 a2 big c3).getD default).1
def zfl:Bool:=((z2f a0 g1 a2 big c3).getD default).2
def zg7{R:Type}(k_:Bool→Option R):Option R:=(grd (zdo a0 (pF g1 0 (muN a0 1)) a2 (pF g3 0 (muN a2 1)) a4 (pF g5 0 (muN a4 1)) a6 (pF g7 0 (muN a6 3)) c8 a9 a10 c11) (br (zc1 a0 (pF g1 0 (muN a0 1)) a2 (pF g3 0 (muN a2 1)) a4 (pF g5 0 (muN a4 1)) a6 (pF g7 0 (muN a6 3)) c8 a9 a10 c11) (grd (z6v a12) (br (z64 a12) (grd (z6v a13) (br (z64 a13) (grd (z0t a14) (br (z0n a14) (grd (zh4 a0 (pF g1 0 (muN a0 1)) a2 (pF g3 0 (muN a2 1)) a4 (pF g5 0 (muN a4 1)) a6 (pF g7 0 (muN a6 3)) c8 a9 a10 c11 a14) (k_ (zfi a0 (pF g1 0 (muN a0 1)) a2 (pF g3 0 (muN a2 1)) a4 (pF g5 0 (muN a4 1)) a6 (pF g7 0 (muN a6 3)) c8 a9 a10 c11 a14))) (k_ Bool.false))) (k_ Bool.false))) (k_ Bool.false))) (k_ Bool.false)))
def zbl:Option (Bool):=zg7 a0 g1 a2 g3 a4 g5 a6 g7 c8 a9 a10 c11 a12 a13 a14 (fun c0_=>some c0_)
theorem zvu{R R':Type}(o:Option R→Option R')(h0:o none=none)(k_:Bool→Option R):zg7 a0 g1 a2 g3 a4 g5 a6 g7 c8 a9 a10 c11 a12 a13 a14 (fun c0_=>o (k_ c0_))=o (zg7 a0 g1 a2 g3 a4 g5 a6 g7 c8 a9 a10 c11 a12 a13 a14 k_):=by
 unfold zg7
 repeat (first | refine grd_out h0 ?_ | refine br_out ?_ ?_ | rfl | exact h0.symm)
def zjn:Bool:=(zbl a0 g1 a2 g3 a4 g5 a6 g7 c8 a9 a10 c11 a12 a13 a14).isSome
def zii:Bool:=((zbl a0 g1 a2 g3 a4 g5 a6 g7 c8 a9 a10 c11 a12 a13 a14).getD default)
def z4d{R:Type}(q0r:Nat)(q0x:List Nat)(q0q:Nat)(q0y:List Nat)(x1:Nat)(k_:Int→Int→Nat→Nat→Nat→Option R):Option R:=(grd (zfr x1) (grd (z0i a0 (Int.ofNat a0) g1 (z0o x1) 0) (br (z0h a0 (Int.ofNat a0) g1 (z0o x1) 0) (br (eqI (z03 a0 (Int.ofNat a0) g1 (z0o x1) 0) 0) (grd (okIx (subI .i64 (Int.ofNat a0) 1) a0) (grd (okIx 0 a0) (k_ (subI .i64 (Int.ofNat a0) 1) 0 (fop .sub .f32 (gF g1 (ixO 0 (subI .i64 (Int.ofNat a0) 1) 1)) 1065353216) (gF g1 (ixO 0 0 1)) (z0o x1)))) (br (ltI (z03 a0 (Int.ofNat a0) g1 (z0o x1) 0) 0) (grd (okIx (subI .i64 (Int.ofNat a0) 1) a0) (grd (okIx 0 a0) (k_ (subI .i64 (Int.ofNat a0) 1) 0 (gF g1 (ixO 0 (subI .i64 (Int.ofNat a0) 1) 1)) (fop .add .f32 (gF g1 (ixO 0 0 1)) 1065353216) (z0o x1)))) (grd (okIx (subI .i64 (z03 a0 (Int.ofNat a0) g1 (z0o x1) 0) 1) a0) (grd (okIx (z03 a0 (Int.ofNat a0) g1 (z0o x1) 0) a0) (k_ (subI .i64 (z03 a0 (Int.ofNat a0) g1 (z0o x1) 0) 1) (z03 a0 (Int.ofNat a0) g1 (z0o x1) 0) (gF g1 (ixO 0 (subI .i64 (z03 a0 (Int.ofNat a0) g1 (z0o x1) 0) 1) 1)) (gF g1 (ixO 0 (z03 a0 (Int.ofNat a0) g1 (z0o x1) 0) 1)) (z0o x1)))))) (grd (okIx (subI .i64 (Int.ofNat a0) 1) a0) (grd (okIx 0 a0) (k_ (subI .i64 (Int.ofNat a0) 1) 0 (gF g1 (ixO 0 (subI .i64 (Int.ofNat a0) 1) 1)) (fop .add .f32 (gF g1 (ixO 0 0 1)) 1065353216) (z0o x1)))))))
def z16:Option (Int×Int×Nat×Nat×Nat):=z4d a0 g1 a2 g3 a4 g5 a6 (fun c0_ c1_ c2_ c3_ c4_=>some (c0_,c1_,c2_,c3_,c4_))
theorem zmy{R R':Type}(o:Option R→Option R')(h0:o none=none)(k_:Int→Int→Nat→Nat→Nat→Option R):z4d a0 g1 a2 g3 a4 g5 a6 (fun c0_ c1_ c2_ c3_ c4_=>o (k_ c0_ c1_ c2_ c3_ c4_))=o (z4d a0 g1 a2 g3 a4 g5 a6 k_):=by
 unfold z4d
 repeat (first | refine grd_out h0 ?_ | refine br_out ?_ ?_ | rfl | exact h0.symm)
def z87:Bool:=(z16 a0 g1 a2 g3 a4 g5 a6).isSome
def z1l:Int:=((z16 a0 g1 a2 g3 a4 g5 a6).getD default).1
def z1j:Int:=((z16 a0 g1 a2 g3 a4 g5 a6).getD default).2.1
def z29:Nat:=((z16 a0 g1 a2 g3 a4 g5 a6).getD default).2.2.1
def z44:Nat:=((z16 a0 g1 a2 g3 a4 g5 a6).getD default).2.2.2.1
def z5k:Nat:=((z16 a0 g1 a2 g3 a4 g5 a6).getD default).2.2.2.2
def zc4:=(fop .add .f32 (gF g0 (ixO 0 0 1)) 1065353216)
def z06:=(z9b (z3d a2) g1 a0 (subI .i64 (Int.ofNat a0) 1))
def z8m:=(gF g1 (ixO 0 (subI .i64 (Int.ofNat a0) 1) 1))
def zbw:=(fcmp .lss .f32 (z3d a1) (gF g0 (ixO 0 0 1)))
def zcs:=(okIx (z06 a0 g1 a2) a0)
def zcr:=(fop .sub .f32 (z8m a0 g1) 1065353216)
def z5m:=(gF g1 (ixO 0 (z06 a0 g1 a2) 1))
def z8h:=(eqI (addI .i64 (z06 a0 g1 a2) 1) 0)
def z6q:=(gF g1 (ixO 0 (addI .i64 (z06 a0 g1 a2) 1) 1))
def z8k:=(fop .sub .f32 (z5m a0 g1 a2) 1065353216)
def z58:=(fop .sub .f32 (z3d a2) (z5m a0 g1 a2))
def z65:=(fop .sub .f32 (zc4 g1) (z8m a0 g1))
def z61:=(fop .sub .f32 (gF g1 (ixO 0 0 1)) (zcr a0 g1))
def zah:=(fop .sub .f32 (z3d a2) (z8k a0 g1 a2))
def z66:=(fop .sub .f32 (zc4 g1) (z5m a0 g1 a2))
def z67:=(fop .sub .f32 (gF g1 (ixO 0 0 1)) (z8k a0 g1 a2))
def z30:=(fop .sub .f32 (z6q a0 g1 a2) (z5m a0 g1 a2))
def z32:=(fop .sub .f32 (fop .add .f32 (z6q a0 g1 a2) 1065353216) (z5m a0 g1 a2))
def z68:=(fop .sub .f32 (z6q a0 g1 a2) (z8k a0 g1 a2))
def za3{R:Type}(q0r:Nat)(q0x:List Nat)(q0q:Nat)(q0y:List Nat)(x1:Nat)(k_:Int→Int→Nat→Nat→Option R):Option R:=(grd (zig x1) (grd (zdy (z3d x1) g1 a0 (subI .i64 (Int.ofNat a0) 1)) (br (ltI (z06 a0 g1 x1) 0) (grd (okIx (subI .i64 (Int.ofNat a0) 1) a0) (grd (okIx 0 a0) (br (zbw g1 x1) (br (fcmp .eql .f32 (z61 a0 g1) 0) (k_ (subI .i64 (Int.ofNat a0) 1) 0 0 (z61 a0 g1)) (k_ (subI .i64 (Int.ofNat a0) 1) 0 (fop .quo .f32 (fop .sub .f32 (z3d x1) (zcr a0 g1)) (z61 a0 g1)) (z61 a0 g1))) (br (fcmp .eql .f32 (z65 a0 g1) 0) (k_ (subI .i64 (Int.ofNat a0) 1) 0 0 (z65 a0 g1)) (k_ (subI .i64 (Int.ofNat a0) 1) 0 (fop .quo .f32 (fop .sub .f32 (z3d x1) (z8m a0 g1)) (z65 a0 g1)) (z65 a0 g1)))))) (br (eqI (addI .i64 (z06 a0 g1 x1) 1) (Int.ofNat a0)) (grd (zcs a0 g1 x1) (grd (okIx 0 a0) (br (zbw g1 x1) (br (fcmp .eql .f32 (z67 a0 g1 x1) 0) (k_ (z06 a0 g1 x1) 0 0 (z67 a0 g1 x1)) (k_ (z06 a0 g1 x1) 0 (fop .quo .f32 (zah a0 g1 x1) (z67 a0 g1 x1)) (z67 a0 g1 x1))) (br (fcmp .eql .f32 (z66 a0 g1 x1) 0) (k_ (z06 a0 g1 x1) 0 0 (z66 a0 g1 x1)) (k_ (z06 a0 g1 x1) 0 (fop .quo .f32 (z58 a0 g1 x1) (z66 a0 g1 x1)) (z66 a0 g1 x1)))))) (grd (zcs a0 g1 x1) (grd (okIx (addI .i64 (z06 a0 g1 x1) 1) a0) (br (z8h a0 g1 x1) (br (fcmp .lss .f32 (z3d x1) (z6q a0 g1 x1)) (br (fcmp .eql .f32 (z68 a0 g1 x1) 0) (k_ (z06 a0 g1 x1) (addI .i64 (z06 a0 g1 x1) 1) 0 (z68 a0 g1 x1)) (k_ (z06 a0 g1 x1) (addI .i64 (z06 a0 g1 x1) 1) (fop .quo .f32 (zah a0 g1 x1) (z68 a0 g1 x1)) (z68 a0 g1 x1))) (br (z8h a0 g1 x1) (br (fcmp .eql .f32 (z32 a0 g1 x1) 0) (k_ (z06 a0 g1 x1) (addI .i64 (z06 a0 g1 x1) 1) 0 (z32 a0 g1 x1)) (k_ (z06 a0 g1 x1) (addI .i64 (z06 a0 g1 x1) 1) (fop .quo .f32 (z58 a0 g1 x1) (z32 a0 g1 x1)) (z32 a0 g1 x1))) (br (fcmp .eql .f32 (z30 a0 g1 x1) 0) (k_ (z06 a0 g1 x1) (addI .i64 (z06 a0 g1 x1) 1) 0 (z30 a0 g1 x1)) (k_ (z06 a0 g1 x1) (addI .i64 (z06 a0 g1 x1) 1) (fop .quo .f32 (z58 a0 g1 x1) (z30 a0 g1 x1)) (z30 a0 g1 x1))))) (br (z8h a0 g1 x1) (br (fcmp .eql .f32 (z32 a0 g1 x1) 0) (k_ (z06 a0 g1 x1) (addI .i64 (z06 a0 g1 x1) 1) 0 (z32 a0 g1 x1)) (k_ (z06 a0 g1 x1) (addI .i64 (z06 a0 g1 x1) 1) (fop .quo .f32 (z58 a0 g1 x1) (z32 a0 g1 x1)) (z32 a0 g1 x1))) (br (fcmp .eql .f32 (z30 a0 g1 x1) 0) (k_ (z06 a0 g1 x1) (addI .i64 (z06 a0 g1 x1) 1) 0 (z30 a0 g1 x1)) (k_ (z06 a0 g1 x1) (addI .i64 (z06 a0 g1 x1) 1) (fop .quo .f32 (z58 a0 g1 x1) (z30 a0 g1 x1)) (z30 a0 g1 x1)))))))))))
def z4e:Option (Int×Int×Nat×Nat):=za3 a0 g1 a2 g3 a4 g5 a6 (fun c0_ c1_ c2_ c3_=>some (c0_,c1_,c2_,c3_))
theorem ztn{R R':Type}(o:Option R→Option R')(h0:o none=none)(k_:Int→Int→Nat→Nat→Option R):za3 a0 g1 a2 g3 a4 g5 a6 (fun c0_ c1_ c2_ c3_=>o (k_ c0_ c1_ c2_ c3_))=o (za3 a0 g1 a2 g3 a4 g5 a6 k_):=by
 unfold za3
 repeat (first | refine grd_out h0 ?_ | refine br_out ?_ ?_ | rfl | exact h0.symm)
def zip:Bool:=(z4e a0 g1 a2 g3 a4 g5 a6).isSome
def z6r:Int:=((z4e a0 g1 a2 g3 a4 g5 a6).getD default).1
def zcb:Int:=((z4e a0 g1 a2 g3 a4 g5 a6).getD default).2.1
def zh7:Nat:=((z4e a0 g1 a2 g3 a4 g5 a6).getD default).2.2.1
def zkj:Nat:=((z4e a0 g1 a2 g3 a4 g5 a6).getD default).2.2.2
def z1y{R:Type}(kn_:Int→Option R)(k0_:Unit→Option R)(k1_:Int→Bool→Option R):Option R:=(br (ltI c4 c1) (grd (okIx c4 a0) (grd (zcf (gF g2 (ixO 0 c4 1)) 3204448256 1056964608) (br (bnot (zaf (gF g2 (ixO 0 c4 1)) 3204448256 1056964608)) (k0_ ()) (br (ltI 0 c4) (grd (okIx (subI .i64 c4 1) a3) (br (fcmp .geq .f32 (gF g2 (ixO 0 (subI .i64 c4 1) 1)) (gF g2 (ixO 0 c4 1))) (k0_ ()) (kn_ (addI .i64 c4 1)))) (kn_ (addI .i64 c4 1)))))) (k1_ c4 (ltI c4 c1)))
theorem znb{R R':Type}(o:Option R→Option R')(h0:o none=none)(kn_:Int→Option R)(k0_:Unit→Option R)(k1_:Int→Bool→Option R):z1y a0 c1 g2 a3 c4 (fun t44'=>o (kn_ t44')) (fun _=>o (k0_ ())) (fun c0_ c1_=>o (k1_ c0_ c1_))=o (z1y a0 c1 g2 a3 c4 kn_ k0_ k1_):=by
 unfold z1y
 repeat (first | refine grd_out h0 ?_ | refine br_out ?_ ?_ | rfl | exact h0.symm)
def z0x(q1q:Nat)(t43:Int)(b0:List Nat)(q1a:Nat):Nat→Int→Option ((Unit)⊕(Int×Bool))
 | 0,_=>none
 | n+1,t44=>z1y q1q t43 b0 q1a  t44  (fun t44'=>z0x q1q t43 b0 q1a n t44') (fun _=>some (Sum.inl ())) (fun c0_ c1_=>some (Sum.inr (c0_,c1_)))
theorem zf8:z0x a0 c1 g2 a3 (a4+1) c5=z1y a0 c1 g2 a3  c5  (fun t44'=>z0x a0 c1 g2 a3 a4 t44') (fun _=>some (Sum.inl ())) (fun c0_ c1_=>some (Sum.inr (c0_,c1_))):=rfl
def z3i:Bool:=(z0x a0 c1 g2 a3 big c4).isSome
def z3a:Bool:=oL (z0x a0 c1 g2 a3 big c4)
def z9x:Int:=((tR (z0x a0 c1 g2 a3 big c4)).getD default).1
def z9t:Bool:=((tR (z0x a0 c1 g2 a3 big c4)).getD default).2
def z4m{R:Type}(k_:Bool→Option R):Option R:=(br (ltI (Int.ofNat a0) 2) (k_ Bool.false) (br (ltI 24 (Int.ofNat a0)) (k_ Bool.false) (br (neI (Int.ofNat a2) (Int.ofNat a0)) (k_ Bool.false) (br (neI (Int.ofNat a4) (Int.ofNat a0)) (k_ Bool.false) (grd (zap a2 (pF g3 0 (muN a2 1))) (br (bnot (z9a a2 (pF g3 0 (muN a2 1)))) (k_ Bool.false) (grd (zh6 a4 (pF g5 0 (muN a4 1))) (br (bnot (zfm a4 (pF g5 0 (muN a4 1)))) (k_ Bool.false) (grd (z3i a0 (Int.ofNat a0) g1 a0 0) (br (z3a a0 (Int.ofNat a0) g1 a0 0) (k_ Bool.false) (k_ Bool.true)))))))))))
def z35:Option (Bool):=z4m a0 g1 a2 g3 a4 g5 (fun c0_=>some c0_)
theorem zos{R R':Type}(o:Option R→Option R')(h0:o none=none)(k_:Bool→Option R):z4m a0 g1 a2 g3 a4 g5 (fun c0_=>o (k_ c0_))=o (z4m a0 g1 a2 g3 a4 g5 k_):=by
 unfold z4m
 repeat (first | refine grd_out h0 ?_ | refine br_out ?_ ?_ | rfl | exact h0.symm)
def zb0:Bool:=(z35 a0 g1 a2 g3 a4 g5).isSome
def z9e:Bool:=((z35 a0 g1 a2 g3 a4 g5).getD default)
def z97{R:Type}(k_:Nat→Option R):Option R:=(grd (z87 a0 (pF g1 0 (muN a0 1)) a2 (pF g3 0 (muN a2 1)) a4 (pF g5 0 (muN a4 1)) a8) (br (fcmp .neq .f32 (z29 a0 (pF g1 0 (muN a0 1)) a2 (pF g3 0 (muN a2 1)) a4 (pF g5 0 (muN a4 1)) a8) (z44 a0 (pF g1 0 (muN a0 1)) a2 (pF g3 0 (muN a2 1)) a4 (pF g5 0 (muN a4 1)) a8)) (grd (okIx (z1l a0 (pF g1 0 (muN a0 1)) a2 (pF g3 0 (muN a2 1)) a4 (pF g5 0 (muN a4 1)) a8) a6) (grd (okIx (z1j a0 (pF g1 0 (muN a0 1)) a2 (pF g3 0 (muN a2 1)) a4 (pF g5 0 (muN a4 1)) a8) a6) (grd (zhn (gF g7 (ixO 0 (z1l a0 (pF g1 0 (muN a0 1)) a2 (pF g3 0 (muN a2 1)) a4 (pF g5 0 (muN a4 1)) a8) 1)) (gF g7 (ixO 0 (z1j a0 (pF g1 0 (muN a0 1)) a2 (pF g3 0 (muN a2 1)) a4 (pF g5 0 (muN a4 1)) a8) 1)) (fop .quo .f32 (fop .sub .f32 (z5k a0 (pF g1 0 (muN a0 1)) a2 (pF g3 0 (muN a2 1)) a4 (pF g5 0 (muN a4 1)) a8) (z29 a0 (pF g1 0 (muN a0 1)) a2 (pF g3 0 (muN a2 1)) a4 (pF g5 0 (muN a4 1)) a8)) (fop .sub .f32 (z44 a0 (pF g1 0 (muN a0 1)) a2 (pF g3 0 (muN a2 1)) a4 (pF g5 0 (muN a4 1)) a8) (z29 a0 (pF g1 0 (muN a0 1)) a2 (pF g3 0 (muN a2 1)) a4 (pF g5 0 (muN a4 1)) a8)))) (k_ (zg3 (gF g7 (ixO 0 (z1l a0 (pF g1 0 (muN a0 1)) a2 (pF g3 0 (muN a2 1)) a4 (pF g5 0 (muN a4 1)) a8) 1)) (gF g7 (ixO 0 (z1j a0 (pF g1 0 (muN a0 1)) a2 (pF g3 0 (muN a2 1)) a4 (pF g5 0 (muN a4 1)) a8) 1)) (fop .quo .f32 (fop .sub .f32 (z5k a0 (pF g1 0 (muN a0 1)) a2 (pF g3 0 (muN a2 1)) a4 (pF g5 0 (muN a4 1)) a8) (z29 a0 (pF g1 0 (muN a0 1)) a2 (pF g3 0 (muN a2 1)) a4 (pF g5 0 (muN a4 1)) a8)) (fop .sub .f32 (z44 a0 (pF g1 0 (muN a0 1)) a2 (pF g3 0 (muN a2 1)) a4 (pF g5 0 (muN a4 1)) a8) (z29 a0 (pF g1 0 (muN a0 1)) a2 (pF g3 0 (muN a2 1)) a4 (pF g5 0 (muN a4 1)) a8)))))))) (grd (okIx (z1l a0 (pF g1 0 (muN a0 1)) a2 (pF g3 0 (muN a2 1)) a4 (pF g5 0 (muN a4 1)) a8) a6) (grd (okIx (z1j a0 (pF g1 0 (muN a0 1)) a2 (pF g3 0 (muN a2 1)) a4 (pF g5 0 (muN a4 1)) a8) a6) (grd (zhn (gF g7 (ixO 0 (z1l a0 (pF g1 0 (muN a0 1)) a2 (pF g3 0 (muN a2 1)) a4 (pF g5 0 (muN a4 1)) a8) 1)) (gF g7 (ixO 0 (z1j a0 (pF g1 0 (muN a0 1)) a2 (pF g3 0 (muN a2 1)) a4 (pF g5 0 (muN a4 1)) a8) 1)) 0) (k_ (zg3 (gF g7 (ixO 0 (z1l a0 (pF g1 0 (muN a0 1)) a2 (pF g3 0 (muN a2 1)) a4 (pF g5 0 (muN a4 1)) a8) 1)) (gF g7 (ixO 0 (z1j a0 (pF g1 0 (muN a0 1)) a2 (pF g3 0 (muN a2 1)) a4 (pF g5 0 (muN a4 1)) a8) 1)) 0)))))))
def z73:Option (Nat):=z97 a0 g1 a2 g3 a4 g5 a6 g7 a8 (fun c0_=>some c0_)
theorem zqw{R R':Type}(o:Option R→Option R')(h0:o none=none)(k_:Nat→Option R):z97 a0 g1 a2 g3 a4 g5 a6 g7 a8 (fun c0_=>o (k_ c0_))=o (z97 a0 g1 a2 g3 a4 g5 a6 g7 a8 k_):=by
 unfold z97
 repeat (first | refine grd_out h0 ?_ | refine br_out ?_ ?_ | rfl | exact h0.symm)
def z91:Bool:=(z73 a0 g1 a2 g3 a4 g5 a6 g7 a8).isSome
def z5a:Nat:=((z73 a0 g1 a2 g3 a4 g5 a6 g7 a8).getD default)
def zhk{R:Type}(k_:Nat→Option R):Option R:=(grd (zip a0 (pF g1 0 (muN a0 1)) a2 (pF g3 0 (muN a2 1)) a4 (pF g5 0 (muN a4 1)) a8) (grd (okIx (z6r a0 (pF g1 0 (muN a0 1)) a2 (pF g3 0 (muN a2 1)) a4 (pF g5 0 (muN a4 1)) a8) a6) (grd (okIx (zcb a0 (pF g1 0 (muN a0 1)) a2 (pF g3 0 (muN a2 1)) a4 (pF g5 0 (muN a4 1)) a8) a6) (grd (okIx (z6r a0 (pF g1 0 (muN a0 1)) a2 (pF g3 0 (muN a2 1)) a4 (pF g5 0 (muN a4 1)) a8) a6) (k_ (fop .add .f32 (gF g7 (ixO 0 (z6r a0 (pF g1 0 (muN a0 1)) a2 (pF g3 0 (muN a2 1)) a4 (pF g5 0 (muN a4 1)) a8) 1)) (fop .mul .f32 (zh7 a0 (pF g1 0 (muN a0 1)) a2 (pF g3 0 (muN a2 1)) a4 (pF g5 0 (muN a4 1)) a8) (fop .sub .f32 (gF g7 (ixO 0 (zcb a0 (pF g1 0 (muN a0 1)) a2 (pF g3 0 (muN a2 1)) a4 (pF g5 0 (muN a4 1)) a8) 1)) (gF g7 (ixO 0 (z6r a0 (pF g1 0 (muN a0 1)) a2 (pF g3 0 (muN a2 1)) a4 (pF g5 0 (muN a4 1)) a8) 1))))))))))
def zez:Option (Nat):=zhk a0 g1 a2 g3 a4 g5 a6 g7 a8 (fun c0_=>some c0_)
theorem zwp{R R':Type}(o:Option R→Option R')(h0:o none=none)(k_:Nat→Option R):zhk a0 g1 a2 g3 a4 g5 a6 g7 a8 (fun c0_=>o (k_ c0_))=o (zhk a0 g1 a2 g3 a4 g5 a6 g7 a8 k_):=by
 unfold zhk
 repeat (first | refine grd_out h0 ?_ | refine br_out ?_ ?_ | rfl | exact h0.symm)
def zi1:Bool:=(zez a0 g1 a2 g3 a4 g5 a6 g7 a8).isSome
def zg9:Nat:=((zez a0 g1 a2 g3 a4 g5 a6 g7 a8).getD default)
def z7r{R:Type}(q0k:Int)(q0o q0n:Nat)(i:Int)(q19 q0m:Nat)(k_:Nat→Nat→Option R):Option R:=(grd (okIx i a6) (grd (z91 a0 (pF g1 0 (muN a0 1)) a2 (pF g3 0 (muN a2 1)) a4 (pF g5 0 (muN a4 1)) a2 (pF g3 0 (muN a2 1)) (fop .sub .f32 (fop .sub .f32 q19 (gF g7 (Nat.succ (Nat.succ (ixO 0 i 3))))) q0m)) (grd (z91 a0 (pF g1 0 (muN a0 1)) a2 (pF g3 0 (muN a2 1)) a4 (pF g5 0 (muN a4 1)) a4 (pF g5 0 (muN a4 1)) (fop .sub .f32 (fop .sub .f32 q19 (gF g7 (Nat.succ (Nat.succ (ixO 0 i 3))))) q0m)) (grd (z3o q19) (grd (z3o (fop .add .f32 q19 1048576000)) (k_ (fop .add .f32 (fop .mul .f32 (z5a a0 (pF g1 0 (muN a0 1)) a2 (pF g3 0 (muN a2 1)) a4 (pF g5 0 (muN a4 1)) a2 (pF g3 0 (muN a2 1)) (fop .sub .f32 (fop .sub .f32 q19 (gF g7 (Nat.succ (Nat.succ (ixO 0 i 3))))) q0m)) (z17 (fop .add .f32 q19 1048576000))) (fop .mul .f32 (z5a a0 (pF g1 0 (muN a0 1)) a2 (pF g3 0 (muN a2 1)) a4 (pF g5 0 (muN a4 1)) a4 (pF g5 0 (muN a4 1)) (fop .sub .f32 (fop .sub .f32 q19 (gF g7 (Nat.succ (Nat.succ (ixO 0 i 3))))) q0m)) (z17 q19))) (fop .sub .f32 (fop .mul .f32 (z5a a0 (pF g1 0 (muN a0 1)) a2 (pF g3 0 (muN a2 1)) a4 (pF g5 0 (muN a4 1)) a2 (pF g3 0 (muN a2 1)) (fop .sub .f32 (fop .sub .f32 q19 (gF g7 (Nat.succ (Nat.succ (ixO 0 i 3))))) q0m)) (z17 q19)) (fop .mul .f32 (z5a a0 (pF g1 0 (muN a0 1)) a2 (pF g3 0 (muN a2 1)) a4 (pF g5 0 (muN a4 1)) a4 (pF g5 0 (muN a4 1)) (fop .sub .f32 (fop .sub .f32 q19 (gF g7 (Nat.succ (Nat.succ (ixO 0 i 3))))) q0m)) (z17 (fop .add .f32 q19 1048576000))))))))))
def z3q:Option (Nat×Nat):=z7r a0 g1 a2 g3 a4 g5 a6 g7 c8 a9 a10 c11 a12 a13 (fun c0_ c1_=>some (c0_,c1_))
theorem zot{R R':Type}(o:Option R→Option R')(h0:o none=none)(k_:Nat→Nat→Option R):z7r a0 g1 a2 g3 a4 g5 a6 g7 c8 a9 a10 c11 a12 a13 (fun c0_ c1_=>o (k_ c0_ c1_))=o (z7r a0 g1 a2 g3 a4 g5 a6 g7 c8 a9 a10 c11 a12 a13 k_):=by
 unfold z7r
 repeat (first | refine grd_out h0 ?_ | refine br_out ?_ ?_ | rfl | exact h0.symm)
def z7o:Bool:=(z3q a0 g1 a2 g3 a4 g5 a6 g7 c8 a9 a10 c11 a12 a13).isSome
def z6u:Nat:=((z3q a0 g1 a2 g3 a4 g5 a6 g7 c8 a9 a10 c11 a12 a13).getD default).1
def z6z:Nat:=((z3q a0 g1 a2 g3 a4 g5 a6 g7 c8 a9 a10 c11 a12 a13).getD default).2
def zf1{R:Type}(k_:Nat→Option R):Option R:=(grd (zi1 a0 (pF g1 0 (muN a0 1)) a2 (pF g3 0 (muN a2 1)) a4 (pF g5 0 (muN a4 1)) a2 (pF g3 0 (muN a2 1)) a6) (k_ (zg9 a0 (pF g1 0 (muN a0 1)) a2 (pF g3 0 (muN a2 1)) a4 (pF g5 0 (muN a4 1)) a2 (pF g3 0 (muN a2 1)) a6)))
def za4:Option (Nat):=zf1 a0 g1 a2 g3 a4 g5 a6 (fun c0_=>some c0_)
theorem zuh{R R':Type}(o:Option R→Option R')(h0:o none=none)(k_:Nat→Option R):zf1 a0 g1 a2 g3 a4 g5 a6 (fun c0_=>o (k_ c0_))=o (zf1 a0 g1 a2 g3 a4 g5 a6 k_):=by
 unfold zf1
 repeat (first | refine grd_out h0 ?_ | refine br_out ?_ ?_ | rfl | exact h0.symm)
def zij:Bool:=(za4 a0 g1 a2 g3 a4 g5 a6).isSome
def zcq:Nat:=((za4 a0 g1 a2 g3 a4 g5 a6).getD default)
def zej{R:Type}(k_:Nat→Option R):Option R:=(grd (zi1 a0 (pF g1 0 (muN a0 1)) a2 (pF g3 0 (muN a2 1)) a4 (pF g5 0 (muN a4 1)) a4 (pF g5 0 (muN a4 1)) a6) (k_ (zg9 a0 (pF g1 0 (muN a0 1)) a2 (pF g3 0 (muN a2 1)) a4 (pF g5 0 (muN a4 1)) a4 (pF g5 0 (muN a4 1)) a6)))
def za8:Option (Nat):=zej a0 g1 a2 g3 a4 g5 a6 (fun c0_=>some c0_)
theorem zu8{R R':Type}(o:Option R→Option R')(h0:o none=none)(k_:Nat→Option R):zej a0 g1 a2 g3 a4 g5 a6 (fun c0_=>o (k_ c0_))=o (zej a0 g1 a2 g3 a4 g5 a6 k_):=by
 unfold zej
 repeat (first | refine grd_out h0 ?_ | refine br_out ?_ ?_ | rfl | exact h0.symm)
def zi9:Bool:=(za8 a0 g1 a2 g3 a4 g5 a6).isSome
def zbv:Nat:=((za8 a0 g1 a2 g3 a4 g5 a6).getD default)
def z7p{R:Type}(k_:Nat→Nat→Option R):Option R:=(grd (z7o a0 (pF g1 0 (muN a0 1)) a2 (pF g3 0 (muN a2 1)) a4 (pF g5 0 (muN a4 1)) a6 (pF g7 0 (muN a6 3)) c8 a9 a10 c11 a12 a13) (grd (z3o a12) (grd (z3o (fop .add .f32 a12 1048576000)) (grd (z8n a0 (pF g1 0 (muN a0 1)) a2 (pF g3 0 (muN a2 1)) a4 (pF g5 0 (muN a4 1)) a6 (pF g7 0 (muN a6 3)) c8 a9 a10 c11) (grd (z8u a0 (pF g1 0 (muN a0 1)) a2 (pF g3 0 (muN a2 1)) a4 (pF g5 0 (muN a4 1)) a6 (pF g7 0 (muN a6 3)) c8 a9 a10 c11 a12) (k_ (fop .quo .f32 (fop .mul .f32 (z5t a0 (pF g1 0 (muN a0 1)) a2 (pF g3 0 (muN a2 1)) a4 (pF g5 0 (muN a4 1)) a6 (pF g7 0 (muN a6 3)) c8 a9 a10 c11) (z6u a0 (pF g1 0 (muN a0 1)) a2 (pF g3 0 (muN a2 1)) a4 (pF g5 0 (muN a4 1)) a6 (pF g7 0 (muN a6 3)) c8 a9 a10 c11 a12 a13)) (fop .mul .f32 (fop .mul .f32 (fop .mul .f32 1082130432 (z5w a0 (pF g1 0 (muN a0 1)) a2 (pF g3 0 (muN a2 1)) a4 (pF g5 0 (muN a4 1)) a6 (pF g7 0 (muN a6 3)) c8 a9 a10 c11 a12)) (z17 a12)) (z17 a12))) (fop .quo .f32 (fop .mul .f32 (z5t a0 (pF g1 0 (muN a0 1)) a2 (pF g3 0 (muN a2 1)) a4 (pF g5 0 (muN a4 1)) a6 (pF g7 0 (muN a6 3)) c8 a9 a10 c11) (z6z a0 (pF g1 0 (muN a0 1)) a2 (pF g3 0 (muN a2 1)) a4 (pF g5 0 (muN a4 1)) a6 (pF g7 0 (muN a6 3)) c8 a9 a10 c11 a12 a13)) (fop .mul .f32 (fop .mul .f32 (fop .mul .f32 1082130432 (z5w a0 (pF g1 0 (muN a0 1)) a2 (pF g3 0 (muN a2 1)) a4 (pF g5 0 (muN a4 1)) a6 (pF g7 0 (muN a6 3)) c8 a9 a10 c11 a12)) (z17 a12)) (z17 (fop .add .f32 a12 1048576000))))))))))
def z4n:Option (Nat×Nat):=z7p a0 g1 a2 g3 a4 g5 a6 g7 c8 a9 a10 c11 a12 a13 (fun c0_ c1_=>some (c0_,c1_))
theorem zov{R R':Type}(o:Option R→Option R')(h0:o none=none)(k_:Nat→Nat→Option R):z7p a0 g1 a2 g3 a4 g5 a6 g7 c8 a9 a10 c11 a12 a13 (fun c0_ c1_=>o (k_ c0_ c1_))=o (z7p a0 g1 a2 g3 a4 g5 a6 g7 c8 a9 a10 c11 a12 a13 k_):=by
 unfold z7p
 repeat (first | refine grd_out h0 ?_ | refine br_out ?_ ?_ | rfl | exact h0.symm)
def z7m:Bool:=(z4n a0 g1 a2 g3 a4 g5 a6 g7 c8 a9 a10 c11 a12 a13).isSome
def z6x:Nat:=((z4n a0 g1 a2 g3 a4 g5 a6 g7 c8 a9 a10 c11 a12 a13).getD default).1
def z6t:Nat:=((z4n a0 g1 a2 g3 a4 g5 a6 g7 c8 a9 a10 c11 a12 a13).getD default).2
def zal{R:Type}(q0k:Int)(q0o q0n:Nat)(i:Int)(q19 q0m:Nat)(k_:Nat→Nat→Option R):Option R:=(grd (okIx i a6) (grd (zij a0 (pF g1 0 (muN a0 1)) a2 (pF g3 0 (muN a2 1)) a4 (pF g5 0 (muN a4 1)) (fop .sub .f32 (fop .sub .f32 q19 (gF g7 (Nat.succ (Nat.succ (ixO 0 i 3))))) q0m)) (grd (zi9 a0 (pF g1 0 (muN a0 1)) a2 (pF g3 0 (muN a2 1)) a4 (pF g5 0 (muN a4 1)) (fop .sub .f32 (fop .sub .f32 q19 (gF g7 (Nat.succ (Nat.succ (ixO 0 i 3))))) q0m)) (grd (z5f q19) (grd (z5f (fop .add .f32 q19 1048576000)) (k_ (fop .add .f32 (fop .mul .f32 (zcq a0 (pF g1 0 (muN a0 1)) a2 (pF g3 0 (muN a2 1)) a4 (pF g5 0 (muN a4 1)) (fop .sub .f32 (fop .sub .f32 q19 (gF g7 (Nat.succ (Nat.succ (ixO 0 i 3))))) q0m)) (z19 (fop .add .f32 q19 1048576000))) (fop .mul .f32 (zbv a0 (pF g1 0 (muN a0 1)) a2 (pF g3 0 (muN a2 1)) a4 (pF g5 0 (muN a4 1)) (fop .sub .f32 (fop .sub .f32 q19 (gF g7 (Nat.succ (Nat.succ (ixO 0 i 3))))) q0m)) (z19 q19))) (fop .sub .f32 (fop .mul .f32 (zcq a0 (pF g1 0 (muN a0 1)) a2 (pF g3 0 (muN a2 1)) a4 (pF g5 0 (muN a4 1)) (fop .sub .f32 (fop .sub .f32 q19 (gF g7 (Nat.succ (Nat.succ (ixO 0 i 3))))) q0m)) (z19 q19)) (fop .mul .f32 (zbv a0 (pF g1 0 (muN a0 1)) a2 (pF g3 0 (muN a2 1)) a4 (pF g5 0 (muN a4 1)) (fop .sub .f32 (fop .sub .f32 q19 (gF g7 (Nat.succ (Nat.succ (ixO 0 i 3))))) q0m)) (z19 (fop .add .f32 q19 1048576000))))))))))
def z60:Option (Nat×Nat):=zal a0 g1 a2 g3 a4 g5 a6 g7 c8 a9 a10 c11 a12 a13 (fun c0_ c1_=>some (c0_,c1_))
theorem zry{R R':Type}(o:Option R→Option R')(h0:o none=none)(k_:Nat→Nat→Option R):zal a0 g1 a2 g3 a4 g5 a6 g7 c8 a9 a10 c11 a12 a13 (fun c0_ c1_=>o (k_ c0_ c1_))=o (zal a0 g1 a2 g3 a4 g5 a6 g7 c8 a9 a10 c11 a12 a13 k_):=by
 unfold zal
 repeat (first | refine grd_out h0 ?_ | refine br_out ?_ ?_ | rfl | exact h0.symm)
def zfx:Bool:=(z60 a0 g1 a2 g3 a4 g5 a6 g7 c8 a9 a10 c11 a12 a13).isSome
def z99:Nat:=((z60 a0 g1 a2 g3 a4 g5 a6 g7 c8 a9 a10 c11 a12 a13).getD default).1
def z98:Nat:=((z60 a0 g1 a2 g3 a4 g5 a6 g7 c8 a9 a10 c11 a12 a13).getD default).2
def z2o{R:Type}(kn_:Nat→Int→Option R)(k0_:Unit→Option R)(k1_:Nat→Int→Bool→Option R):Option R:=(br (ltI c5 c1) (grd (okIx c5 a0) (br (fcmp .gtr .f32 (gF g2 (ixO 0 c5 3)) a4) (br (bnot (fcmp .lss .f32 (gF g2 (ixO 0 c5 3)) a3)) (k0_ ()) (grd (z57 1 (pF [(gF g2 (Nat.succ (ixO 0 c5 3)))] 0 (muN 1 1))) (br (bnot (z4o 1 (pF [(gF g2 (Nat.succ (ixO 0 c5 3)))] 0 (muN 1 1)))) (k0_ ()) (grd (z26 (gF g2 (Nat.succ (Nat.succ (ixO 0 c5 3))))) (br (bnot (z1t (gF g2 (Nat.succ (Nat.succ (ixO 0 c5 3)))))) (k0_ ()) (kn_ (gF g2 (ixO 0 c5 3)) (addI .i64 c5 1))))))) (br (bnot Bool.false) (k0_ ()) (grd (z57 1 (pF [(gF g2 (Nat.succ (ixO 0 c5 3)))] 0 (muN 1 1))) (br (bnot (z4o 1 (pF [(gF g2 (Nat.succ (ixO 0 c5 3)))] 0 (muN 1 1)))) (k0_ ()) (grd (z26 (gF g2 (Nat.succ (Nat.succ (ixO 0 c5 3))))) (br (bnot (z1t (gF g2 (Nat.succ (Nat.succ (ixO 0 c5 3)))))) (k0_ ()) (kn_ (gF g2 (ixO 0 c5 3)) (addI .i64 c5 1))))))))) (k1_ a4 c5 (ltI c5 c1)))
theorem zo2{R R':Type}(o:Option R→Option R')(h0:o none=none)(kn_:Nat→Int→Option R)(k0_:Unit→Option R)(k1_:Nat→Int→Bool→Option R):z2o a0 c1 g2 a3 a4 c5 (fun t4' t45'=>o (kn_ t4' t45')) (fun _=>o (k0_ ())) (fun c0_ c1_ c2_=>o (k1_ c0_ c1_ c2_))=o (z2o a0 c1 g2 a3 a4 c5 kn_ k0_ k1_):=by
 unfold z2o
 repeat (first | refine grd_out h0 ?_ | refine br_out ?_ ?_ | rfl | exact h0.symm)
def z0f(q1o:Nat)(t44:Int)(b3:List Nat)(q0z:Nat):Nat→Nat→Int→Option ((Unit)⊕(Nat×Int×Bool))
 | 0,_,_=>none
 | n+1,t4,t45=>z2o q1o t44 b3 q0z  t4 t45  (fun t4' t45'=>z0f q1o t44 b3 q0z n t4' t45') (fun _=>some (Sum.inl ())) (fun c0_ c1_ c2_=>some (Sum.inr (c0_,c1_,c2_)))
theorem zgy:z0f a0 c1 g2 a3 (a4+1) a5 c6=z2o a0 c1 g2 a3  a5 c6  (fun t4' t45'=>z0f a0 c1 g2 a3 a4 t4' t45') (fun _=>some (Sum.inl ())) (fun c0_ c1_ c2_=>some (Sum.inr (c0_,c1_,c2_))):=rfl
def z47:Bool:=(z0f a0 c1 g2 a3 big a4 c5).isSome
def z3v:Bool:=oL (z0f a0 c1 g2 a3 big a4 c5)
def zbe:Nat:=((tR (z0f a0 c1 g2 a3 big a4 c5)).getD default).1
def zbg:Int:=((tR (z0f a0 c1 g2 a3 big a4 c5)).getD default).2.1
def zbc:Bool:=((tR (z0f a0 c1 g2 a3 big a4 c5)).getD default).2.2
def z70{R:Type}(k_:Bool→Option R):Option R:=(grd (zb0 a0 (pF g1 0 (muN a0 1)) a2 (pF g3 0 (muN a2 1)) a4 (pF g5 0 (muN a4 1))) (br (bnot (z9e a0 (pF g1 0 (muN a0 1)) a2 (pF g3 0 (muN a2 1)) a4 (pF g5 0 (muN a4 1)))) (k_ Bool.false) (grd (z5z c8 1 6) (br (bnot (z3b c8 1 6)) (k_ Bool.false) (br (ltI (Int.ofNat a6) 2) (k_ Bool.false) (br (ltI 12 (Int.ofNat a6)) (k_ Bool.false) (grd (ze7 a9) (br (bnot (zci a9)) (k_ Bool.false) (grd (z26 a10) (br (bnot (z1t a10)) (k_ Bool.false) (grd (z47 a6 (Int.ofNat a6) g7 a10 a9 0) (br (z3v a6 (Int.ofNat a6) g7 a10 a9 0) (k_ Bool.false) (k_ Bool.true)))))))))))))
def z4k:Option (Bool):=z70 a0 g1 a2 g3 a4 g5 a6 g7 c8 a9 a10 (fun c0_=>some c0_)
theorem zqk{R R':Type}(o:Option R→Option R')(h0:o none=none)(k_:Bool→Option R):z70 a0 g1 a2 g3 a4 g5 a6 g7 c8 a9 a10 (fun c0_=>o (k_ c0_))=o (z70 a0 g1 a2 g3 a4 g5 a6 g7 c8 a9 a10 k_):=by
 unfold z70
 repeat (first | refine grd_out h0 ?_ | refine br_out ?_ ?_ | rfl | exact h0.symm)
def z77:Bool:=(z4k a0 g1 a2 g3 a4 g5 a6 g7 c8 a9 a10).isSome
def z55:Bool:=((z4k a0 g1 a2 g3 a4 g5 a6 g7 c8 a9 a10).getD default)
def ze2{R:Type}(k_:Nat→Nat→Nat→Nat→Option R):Option R:=(grd (zfx a0 (pF g1 0 (muN a0 1)) a2 (pF g3 0 (muN a2 1)) a4 (pF g5 0 (muN a4 1)) a6 (pF g7 0 (muN a6 3)) c8 a9 a10 c11 a12 a13) (grd (z5f a12) (grd (z5f (fop .add .f32 a12 1048576000)) (grd (zje a0 (pF g1 0 (muN a0 1)) a2 (pF g3 0 (muN a2 1)) a4 (pF g5 0 (muN a4 1)) a6 (pF g7 0 (muN a6 3)) c8 a9 a10 c11 (z19 a12)) (grd (zce a0 (pF g1 0 (muN a0 1)) a2 (pF g3 0 (muN a2 1)) a4 (pF g5 0 (muN a4 1)) a6 (pF g7 0 (muN a6 3)) c8 a9 a10 c11) (k_ (fop .quo .f32 (fop .mul .f32 (z7l a0 (pF g1 0 (muN a0 1)) a2 (pF g3 0 (muN a2 1)) a4 (pF g5 0 (muN a4 1)) a6 (pF g7 0 (muN a6 3)) c8 a9 a10 c11) (z99 a0 (pF g1 0 (muN a0 1)) a2 (pF g3 0 (muN a2 1)) a4 (pF g5 0 (muN a4 1)) a6 (pF g7 0 (muN a6 3)) c8 a9 a10 c11 a12 a13)) (fop .mul .f32 (fop .mul .f32 (fop .mul .f32 1082130432 (zeh a0 (pF g1 0 (muN a0 1)) a2 (pF g3 0 (muN a2 1)) a4 (pF g5 0 (muN a4 1)) a6 (pF g7 0 (muN a6 3)) c8 a9 a10 c11 (z19 a12))) (z19 a12)) (z19 a12))) (fop .quo .f32 (fop .mul .f32 (z7l a0 (pF g1 0 (muN a0 1)) a2 (pF g3 0 (muN a2 1)) a4 (pF g5 0 (muN a4 1)) a6 (pF g7 0 (muN a6 3)) c8 a9 a10 c11) (z98 a0 (pF g1 0 (muN a0 1)) a2 (pF g3 0 (muN a2 1)) a4 (pF g5 0 (muN a4 1)) a6 (pF g7 0 (muN a6 3)) c8 a9 a10 c11 a12 a13)) (fop .mul .f32 (fop .mul .f32 (fop .mul .f32 1082130432 (zeh a0 (pF g1 0 (muN a0 1)) a2 (pF g3 0 (muN a2 1)) a4 (pF g5 0 (muN a4 1)) a6 (pF g7 0 (muN a6 3)) c8 a9 a10 c11 (z19 a12))) (z19 a12)) (z19 (fop .add .f32 a12 1048576000)))) (z99 a0 (pF g1 0 (muN a0 1)) a2 (pF g3 0 (muN a2 1)) a4 (pF g5 0 (muN a4 1)) a6 (pF g7 0 (muN a6 3)) c8 a9 a10 c11 a12 a13) (z98 a0 (pF g1 0 (muN a0 1)) a2 (pF g3 0 (muN a2 1)) a4 (pF g5 0 (muN a4 1)) a6 (pF g7 0 (muN a6 3)) c8 a9 a10 c11 a12 a13)))))))
def z5d:Option (Nat×Nat×Nat×Nat):=ze2 a0 g1 a2 g3 a4 g5 a6 g7 c8 a9 a10 c11 a12 a13 (fun c0_ c1_ c2_ c3_=>some (c0_,c1_,c2_,c3_))
theorem zui{R R':Type}(o:Option R→Option R')(h0:o none=none)(k_:Nat→Nat→Nat→Nat→Option R):ze2 a0 g1 a2 g3 a4 g5 a6 g7 c8 a9 a10 c11 a12 a13 (fun c0_ c1_ c2_ c3_=>o (k_ c0_ c1_ c2_ c3_))=o (ze2 a0 g1 a2 g3 a4 g5 a6 g7 c8 a9 a10 c11 a12 a13 k_):=by
 unfold ze2
 repeat (first | refine grd_out h0 ?_ | refine br_out ?_ ?_ | rfl | exact h0.symm)
def zew:Bool:=(z5d a0 g1 a2 g3 a4 g5 a6 g7 c8 a9 a10 c11 a12 a13).isSome
def zcc:Nat:=((z5d a0 g1 a2 g3 a4 g5 a6 g7 c8 a9 a10 c11 a12 a13).getD default).1
def zcj:Nat:=((z5d a0 g1 a2 g3 a4 g5 a6 g7 c8 a9 a10 c11 a12 a13).getD default).2.1
def zgz:Nat:=((z5d a0 g1 a2 g3 a4 g5 a6 g7 c8 a9 a10 c11 a12 a13).getD default).2.2.1
def zh2:Nat:=((z5d a0 g1 a2 g3 a4 g5 a6 g7 c8 a9 a10 c11 a12 a13).getD default).2.2.2
def z6y{R:Type}(k_:Nat→Option R):Option R:=(grd (z7m a0 (pF g1 0 (muN a0 1)) a2 (pF g3 0 (muN a2 1)) a4 (pF g5 0 (muN a4 1)) a6 (pF g7 0 (muN a6 3)) c8 a9 a10 c11 a12 a15) (grd (z3o a12) (grd (z3o (fop .add .f32 a12 1048576000)) (grd (okIx c11 a6) (k_ (fop .sub .f32 (fop .mul .f32 (z17 a12) (fop .add .f32 1065353216 (z6x a0 (pF g1 0 (muN a0 1)) a2 (pF g3 0 (muN a2 1)) a4 (pF g5 0 (muN a4 1)) a6 (pF g7 0 (muN a6 3)) c8 a9 a10 c11 a12 a15))) (fop .mul .f32 (fop .mul .f32 (fop .quo .f32 a13 (fop .mul .f32 a14 (gF g7 (ixO 0 c11 3)))) (z17 (fop .add .f32 a12 1048576000))) (fop .sub .f32 1065353216 (z6t a0 (pF g1 0 (muN a0 1)) a2 (pF g3 0 (muN a2 1)) a4 (pF g5 0 (muN a4 1)) a6 (pF g7 0 (muN a6 3)) c8 a9 a10 c11 a12 a15)))))))))
def z46:Option (Nat):=z6y a0 g1 a2 g3 a4 g5 a6 g7 c8 a9 a10 c11 a12 a13 a14 a15 (fun c0_=>some c0_)
theorem znz{R R':Type}(o:Option R→Option R')(h0:o none=none)(k_:Nat→Option R):z6y a0 g1 a2 g3 a4 g5 a6 g7 c8 a9 a10 c11 a12 a13 a14 a15 (fun c0_=>o (k_ c0_))=o (z6y a0 g1 a2 g3 a4 g5 a6 g7 c8 a9 a10 c11 a12 a13 a14 a15 k_):=by
 unfold z6y
 repeat (first | refine grd_out h0 ?_ | refine br_out ?_ ?_ | rfl | exact h0.symm)
def z9f:Bool:=(z46 a0 g1 a2 g3 a4 g5 a6 g7 c8 a9 a10 c11 a12 a13 a14 a15).isSome
def z4z:Nat:=((z46 a0 g1 a2 g3 a4 g5 a6 g7 c8 a9 a10 c11 a12 a13 a14 a15).getD default)
def zev{R:Type}(k_:Bool→Option R):Option R:=(grd (z77 a0 (pF g1 0 (muN a0 1)) a2 (pF g3 0 (muN a2 1)) a4 (pF g5 0 (muN a4 1)) a6 (pF g7 0 (muN a6 3)) c8 a9 a10) (br (z55 a0 (pF g1 0 (muN a0 1)) a2 (pF g3 0 (muN a2 1)) a4 (pF g5 0 (muN a4 1)) a6 (pF g7 0 (muN a6 3)) c8 a9 a10) (grd (z84 a0 (pF g1 0 (muN a0 1)) a2 (pF g3 0 (muN a2 1)) a4 (pF g5 0 (muN a4 1)) a6 (pF g7 0 (muN a6 3)) c8 a9 a10 c11) (br (z7i a0 (pF g1 0 (muN a0 1)) a2 (pF g3 0 (muN a2 1)) a4 (pF g5 0 (muN a4 1)) a6 (pF g7 0 (muN a6 3)) c8 a9 a10 c11) (grd (z57 2 (pF [a12,a13] 0 (muN 2 1))) (br (z4o 2 (pF [a12,a13] 0 (muN 2 1))) (grd (z26 a14) (br (z1t a14) (grd (okIx c11 a6) (grd (z26 (fop .sub .f32 (fop .sub .f32 981668463 (gF g7 (Nat.succ (Nat.succ (ixO 0 c11 3))))) a14)) (k_ (z1t (fop .sub .f32 (fop .sub .f32 981668463 (gF g7 (Nat.succ (Nat.succ (ixO 0 c11 3))))) a14))))) (k_ Bool.false))) (k_ Bool.false))) (k_ Bool.false))) (k_ Bool.false)))
def zab:Option (Bool):=zev a0 g1 a2 g3 a4 g5 a6 g7 c8 a9 a10 c11 a12 a13 a14 (fun c0_=>some c0_)
theorem ztg{R R':Type}(o:Option R→Option R')(h0:o none=none)(k_:Bool→Option R):zev a0 g1 a2 g3 a4 g5 a6 g7 c8 a9 a10 c11 a12 a13 a14 (fun c0_=>o (k_ c0_))=o (zev a0 g1 a2 g3 a4 g5 a6 g7 c8 a9 a10 c11 a12 a13 a14 k_):=by
 unfold zev
 repeat (first | refine grd_out h0 ?_ | refine br_out ?_ ?_ | rfl | exact h0.symm)
def zen:Bool:=(zab a0 g1 a2 g3 a4 g5 a6 g7 c8 a9 a10 c11 a12 a13 a14).isSome
def zcd:Bool:=((zab a0 g1 a2 g3 a4 g5 a6 g7 c8 a9 a10 c11 a12 a13 a14).getD default)
def z8z{R:Type}(k_:Nat→Option R):Option R:=(grd (zew a0 (pF g1 0 (muN a0 1)) a2 (pF g3 0 (muN a2 1)) a4 (pF g5 0 (muN a4 1)) a6 (pF g7 0 (muN a6 3)) c8 a9 a10 c11 a12 a15) (grd (z5f a12) (grd (z5f (fop .add .f32 a12 1048576000)) (grd (okIx c11 a6) (k_ (fop .sub .f32 (fop .mul .f32 (z19 a12) (fop .add .f32 1065353216 (zcc a0 (pF g1 0 (muN a0 1)) a2 (pF g3 0 (muN a2 1)) a4 (pF g5 0 (muN a4 1)) a6 (pF g7 0 (muN a6 3)) c8 a9 a10 c11 a12 a15))) (fop .mul .f32 (fop .mul .f32 (fop .quo .f32 a13 (fop .mul .f32 a14 (gF g7 (ixO 0 c11 3)))) (z19 (fop .add .f32 a12 1048576000))) (fop .sub .f32 1065353216 (zcj a0 (pF g1 0 (muN a0 1)) a2 (pF g3 0 (muN a2 1)) a4 (pF g5 0 (muN a4 1)) a6 (pF g7 0 (muN a6 3)) c8 a9 a10 c11 a12 a15)))))))))
def z4j:Option (Nat):=z8z a0 g1 a2 g3 a4 g5 a6 g7 c8 a9 a10 c11 a12 a13 a14 a15 (fun c0_=>some c0_)
theorem zqn{R R':Type}(o:Option R→Option R')(h0:o none=none)(k_:Nat→Option R):z8z a0 g1 a2 g3 a4 g5 a6 g7 c8 a9 a10 c11 a12 a13 a14 a15 (fun c0_=>o (k_ c0_))=o (z8z a0 g1 a2 g3 a4 g5 a6 g7 c8 a9 a10 c11 a12 a13 a14 a15 k_):=by
 unfold z8z
 repeat (first | refine grd_out h0 ?_ | refine br_out ?_ ?_ | rfl | exact h0.symm)
def zdm:Bool:=(z4j a0 g1 a2 g3 a4 g5 a6 g7 c8 a9 a10 c11 a12 a13 a14 a15).isSome
def z6f:Nat:=((z4j a0 g1 a2 g3 a4 g5 a6 g7 c8 a9 a10 c11 a12 a13 a14 a15).getD default)
def zav{R:Type}(k_:Nat→Bool→Option R):Option R:=(grd (zen a0 (pF g1 0 (muN a0 1)) a2 (pF g3 0 (muN a2 1)) a4 (pF g5 0 (muN a4 1)) a6 (pF g7 0 (muN a6 3)) c8 a9 a10 c11 a13 a14 a15) (br (bnot (zcd a0 (pF g1 0 (muN a0 1)) a2 (pF g3 0 (muN a2 1)) a4 (pF g5 0 (muN a4 1)) a6 (pF g7 0 (muN a6 3)) c8 a9 a10 c11 a13 a14 a15)) (k_ 0 Bool.false) (grd (zjh a12) (br (bnot (zic a12)) (k_ 0 Bool.false) (grd (z9f a0 (pF g1 0 (muN a0 1)) a2 (pF g3 0 (muN a2 1)) a4 (pF g5 0 (muN a4 1)) a6 (pF g7 0 (muN a6 3)) c8 a9 a10 c11 a12 a13 a14 a15) (grd (zih (z4z a0 (pF g1 0 (muN a0 1)) a2 (pF g3 0 (muN a2 1)) a4 (pF g5 0 (muN a4 1)) a6 (pF g7 0 (muN a6 3)) c8 a9 a10 c11 a12 a13 a14 a15)) (k_ (zh8 (z4z a0 (pF g1 0 (muN a0 1)) a2 (pF g3 0 (muN a2 1)) a4 (pF g5 0 (muN a4 1)) a6 (pF g7 0 (muN a6 3)) c8 a9 a10 c11 a12 a13 a14 a15)) (zh5 (z4z a0 (pF g1 0 (muN a0 1)) a2 (pF g3 0 (muN a2 1)) a4 (pF g5 0 (muN a4 1)) a6 (pF g7 0 (muN a6 3)) c8 a9 a10 c11 a12 a13 a14 a15)))))))))
def z62:Option (Nat×Bool):=zav a0 g1 a2 g3 a4 g5 a6 g7 c8 a9 a10 c11 a12 a13 a14 a15 (fun c0_ c1_=>some (c0_,c1_))
theorem zr4{R R':Type}(o:Option R→Option R')(h0:o none=none)(k_:Nat→Bool→Option R):zav a0 g1 a2 g3 a4 g5 a6 g7 c8 a9 a10 c11 a12 a13 a14 a15 (fun c0_ c1_=>o (k_ c0_ c1_))=o (zav a0 g1 a2 g3 a4 g5 a6 g7 c8 a9 a10 c11 a12 a13 a14 a15 k_):=by
 unfold zav
 repeat (first | refine grd_out h0 ?_ | refine br_out ?_ ?_ | rfl | exact h0.symm)
def zfh:Bool:=(z62 a0 g1 a2 g3 a4 g5 a6 g7 c8 a9 a10 c11 a12 a13 a14 a15).isSome
def zdw:Nat:=((z62 a0 g1 a2 g3 a4 g5 a6 g7 c8 a9 a10 c11 a12 a13 a14 a15).getD default).1
def zdu:Bool:=((z62 a0 g1 a2 g3 a4 g5 a6 g7 c8 a9 a10 c11 a12 a13 a14 a15).getD default).2
def z36{R:Type}(kn_:Nat→Nat→Int→Option R)(k0_:Unit→Option R)(k1_:Nat→Nat→Int→Bool→Option R):Option R:=(br (ltI c17 24) (grd (zdm a8 (pF g4 0 (muN a8 1)) a9 (pF g5 0 (muN a9 1)) a10 (pF g6 0 (muN a10 1)) a11 (pF g7 0 (muN a11 3)) c12 a13 a14 c0 (fop .mul .f32 1056964608 (fop .add .f32 a15 a16)) a1 a2 a3) (grd (z0t (z6f a8 (pF g4 0 (muN a8 1)) a9 (pF g5 0 (muN a9 1)) a10 (pF g6 0 (muN a10 1)) a11 (pF g7 0 (muN a11 3)) c12 a13 a14 c0 (fop .mul .f32 1056964608 (fop .add .f32 a15 a16)) a1 a2 a3)) (br (bnot (z0n (z6f a8 (pF g4 0 (muN a8 1)) a9 (pF g5 0 (muN a9 1)) a10 (pF g6 0 (muN a10 1)) a11 (pF g7 0 (muN a11 3)) c12 a13 a14 c0 (fop .mul .f32 1056964608 (fop .add .f32 a15 a16)) a1 a2 a3))) (k0_ ()) (br (fcmp .gtr .f32 (z6f a8 (pF g4 0 (muN a8 1)) a9 (pF g5 0 (muN a9 1)) a10 (pF g6 0 (muN a10 1)) a11 (pF g7 0 (muN a11 3)) c12 a13 a14 c0 (fop .mul .f32 1056964608 (fop .add .f32 a15 a16)) a1 a2 a3) 0) (kn_ a15 (fop .mul .f32 1056964608 (fop .add .f32 a15 a16)) (addI .i64 c17 1)) (kn_ (fop .mul .f32 1056964608 (fop .add .f32 a15 a16)) a16 (addI .i64 c17 1)))))) (k1_ a15 a16 c17 (ltI c17 24)))
theorem zor{R R':Type}(o:Option R→Option R')(h0:o none=none)(kn_:Nat→Nat→Int→Option R)(k0_:Unit→Option R)(k1_:Nat→Nat→Int→Bool→Option R):z36 c0 a1 a2 a3 g4 g5 g6 g7 a8 a9 a10 a11 c12 a13 a14 a15 a16 c17 (fun low' q1e' k'=>o (kn_ low' q1e' k')) (fun _=>o (k0_ ())) (fun c0_ c1_ c2_ c3_=>o (k1_ c0_ c1_ c2_ c3_))=o (z36 c0 a1 a2 a3 g4 g5 g6 g7 a8 a9 a10 a11 c12 a13 a14 a15 a16 c17 kn_ k0_ k1_):=by
 unfold z36
 repeat (first | refine grd_out h0 ?_ | refine br_out ?_ ?_ | rfl | exact h0.symm)
def z0g(i:Int)(q13 q0p q0m:Nat)(b0 b1 b2 b3:List Nat)(q0u q0t q0v q0s:Nat)(q17:Int)(q18 q0z:Nat):Nat→Nat→Nat→Int→Option ((Unit)⊕(Nat×Nat×Int×Bool))
 | 0,_,_,_=>none
 | n+1,low,q1e,k=>z36 i q13 q0p q0m b0 b1 b2 b3 q0u q0t q0v q0s q17 q18 q0z  low q1e k  (fun low' q1e' k'=>z0g i q13 q0p q0m b0 b1 b2 b3 q0u q0t q0v q0s q17 q18 q0z n low' q1e' k') (fun _=>some (Sum.inl ())) (fun c0_ c1_ c2_ c3_=>some (Sum.inr (c0_,c1_,c2_,c3_)))
theorem zhi:z0g c0 a1 a2 a3 g4 g5 g6 g7 a8 a9 a10 a11 c12 a13 a14 (a15+1) a16 a17 c18=z36 c0 a1 a2 a3 g4 g5 g6 g7 a8 a9 a10 a11 c12 a13 a14  a16 a17 c18  (fun low' q1e' k'=>z0g c0 a1 a2 a3 g4 g5 g6 g7 a8 a9 a10 a11 c12 a13 a14 a15 low' q1e' k') (fun _=>some (Sum.inl ())) (fun c0_ c1_ c2_ c3_=>some (Sum.inr (c0_,c1_,c2_,c3_))):=rfl
def z5q:Bool:=(z0g c0 a1 a2 a3 g4 g5 g6 g7 a8 a9 a10 a11 c12 a13 a14 big a15 a16 c17).isSome
def z5e:Bool:=oL (z0g c0 a1 a2 a3 g4 g5 g6 g7 a8 a9 a10 a11 c12 a13 a14 big a15 a16 c17)
def z85:Nat:=((tR (z0g c0 a1 a2 a3 g4 g5 g6 g7 a8 a9 a10 a11 c12 a13 a14 big a15 a16 c17)).getD default).1
def zd4:Nat:=((tR (z0g c0 a1 a2 a3 g4 g5 g6 g7 a8 a9 a10 a11 c12 a13 a14 big a15 a16 c17)).getD default).2.1
def zdc:Int:=((tR (z0g c0 a1 a2 a3 g4 g5 g6 g7 a8 a9 a10 a11 c12 a13 a14 big a15 a16 c17)).getD default).2.2.1
def zcz:Bool:=((tR (z0g c0 a1 a2 a3 g4 g5 g6 g7 a8 a9 a10 a11 c12 a13 a14 big a15 a16 c17)).getD default).2.2.2
def zad{R:Type}(k_:Nat→Bool→Option R):Option R:=(grd (z5q c11 a12 a13 a14 g1 g3 g5 g7 a0 a2 a4 a6 c8 a9 a10 981668463 1048508891 0) (br (z5e c11 a12 a13 a14 g1 g3 g5 g7 a0 a2 a4 a6 c8 a9 a10 981668463 1048508891 0) (k_ 0 Bool.false) (k_ (z85 c11 a12 a13 a14 g1 g3 g5 g7 a0 a2 a4 a6 c8 a9 a10 981668463 1048508891 0) Bool.true)))
def z6a:Option (Nat×Bool):=zad a0 g1 a2 g3 a4 g5 a6 g7 c8 a9 a10 c11 a12 a13 a14 (fun c0_ c1_=>some (c0_,c1_))
theorem zri{R R':Type}(o:Option R→Option R')(h0:o none=none)(k_:Nat→Bool→Option R):zad a0 g1 a2 g3 a4 g5 a6 g7 c8 a9 a10 c11 a12 a13 a14 (fun c0_ c1_=>o (k_ c0_ c1_))=o (zad a0 g1 a2 g3 a4 g5 a6 g7 c8 a9 a10 c11 a12 a13 a14 k_):=by
 unfold zad
 repeat (first | refine grd_out h0 ?_ | refine br_out ?_ ?_ | rfl | exact h0.symm)
def zfs:Bool:=(z6a a0 g1 a2 g3 a4 g5 a6 g7 c8 a9 a10 c11 a12 a13 a14).isSome
def zdx:Nat:=((z6a a0 g1 a2 g3 a4 g5 a6 g7 c8 a9 a10 c11 a12 a13 a14).getD default).1
def ze1:Bool:=((z6a a0 g1 a2 g3 a4 g5 a6 g7 c8 a9 a10 c11 a12 a13 a14).getD default).2
def z45{R:Type}(kn_:Nat→Nat→Int→Option R)(k0_:Unit→Option R)(k1_:Nat→Nat→Int→Bool→Option R):Option R:=(br (ltI c17 24) (grd (zfh a8 (pF g4 0 (muN a8 1)) a9 (pF g5 0 (muN a9 1)) a10 (pF g6 0 (muN a10 1)) a11 (pF g7 0 (muN a11 3)) c12 a13 a14 c0 (fop .quo .f32 (fop .add .f32 a15 a16) 1073741824) a1 a2 a3) (br (bnot (zdu a8 (pF g4 0 (muN a8 1)) a9 (pF g5 0 (muN a9 1)) a10 (pF g6 0 (muN a10 1)) a11 (pF g7 0 (muN a11 3)) c12 a13 a14 c0 (fop .quo .f32 (fop .add .f32 a15 a16) 1073741824) a1 a2 a3)) (k0_ ()) (br (fcmp .gtr .f32 (zdw a8 (pF g4 0 (muN a8 1)) a9 (pF g5 0 (muN a9 1)) a10 (pF g6 0 (muN a10 1)) a11 (pF g7 0 (muN a11 3)) c12 a13 a14 c0 (fop .quo .f32 (fop .add .f32 a15 a16) 1073741824) a1 a2 a3) 0) (kn_ a15 (fop .quo .f32 (fop .add .f32 a15 a16) 1073741824) (addI .i64 c17 1)) (kn_ (fop .quo .f32 (fop .add .f32 a15 a16) 1073741824) a16 (addI .i64 c17 1))))) (k1_ a15 a16 c17 (ltI c17 24)))
theorem zro{R R':Type}(o:Option R→Option R')(h0:o none=none)(kn_:Nat→Nat→Int→Option R)(k0_:Unit→Option R)(k1_:Nat→Nat→Int→Bool→Option R):z45 c0 a1 a2 a3 g4 g5 g6 g7 a8 a9 a10 a11 c12 a13 a14 a15 a16 c17 (fun low' q1e' t24'=>o (kn_ low' q1e' t24')) (fun _=>o (k0_ ())) (fun c0_ c1_ c2_ c3_=>o (k1_ c0_ c1_ c2_ c3_))=o (z45 c0 a1 a2 a3 g4 g5 g6 g7 a8 a9 a10 a11 c12 a13 a14 a15 a16 c17 kn_ k0_ k1_):=by
 unfold z45
 repeat (first | refine grd_out h0 ?_ | refine br_out ?_ ?_ | rfl | exact h0.symm)
def z11(i:Int)(q13 q0p q0m:Nat)(b0 b1 b2 b3:List Nat)(q0u q0t q0v q0s:Nat)(q17:Int)(q18 q0z:Nat):Nat→Nat→Nat→Int→Option ((Unit)⊕(Nat×Nat×Int×Bool))
 | 0,_,_,_=>none
 | n+1,low,q1e,t24=>z45 i q13 q0p q0m b0 b1 b2 b3 q0u q0t q0v q0s q17 q18 q0z  low q1e t24  (fun low' q1e' t24'=>z11 i q13 q0p q0m b0 b1 b2 b3 q0u q0t q0v q0s q17 q18 q0z n low' q1e' t24') (fun _=>some (Sum.inl ())) (fun c0_ c1_ c2_ c3_=>some (Sum.inr (c0_,c1_,c2_,c3_)))
theorem zkc:z11 c0 a1 a2 a3 g4 g5 g6 g7 a8 a9 a10 a11 c12 a13 a14 (a15+1) a16 a17 c18=z45 c0 a1 a2 a3 g4 g5 g6 g7 a8 a9 a10 a11 c12 a13 a14  a16 a17 c18  (fun low' q1e' t24'=>z11 c0 a1 a2 a3 g4 g5 g6 g7 a8 a9 a10 a11 c12 a13 a14 a15 low' q1e' t24') (fun _=>some (Sum.inl ())) (fun c0_ c1_ c2_ c3_=>some (Sum.inr (c0_,c1_,c2_,c3_))):=rfl
def z7u:Bool:=(z11 c0 a1 a2 a3 g4 g5 g6 g7 a8 a9 a10 a11 c12 a13 a14 big a15 a16 c17).isSome
def z71:Bool:=oL (z11 c0 a1 a2 a3 g4 g5 g6 g7 a8 a9 a10 a11 c12 a13 a14 big a15 a16 c17)
def zb5:Nat:=((tR (z11 c0 a1 a2 a3 g4 g5 g6 g7 a8 a9 a10 a11 c12 a13 a14 big a15 a16 c17)).getD default).1
def zgp:Nat:=((tR (z11 c0 a1 a2 a3 g4 g5 g6 g7 a8 a9 a10 a11 c12 a13 a14 big a15 a16 c17)).getD default).2.1
def zgl:Int:=((tR (z11 c0 a1 a2 a3 g4 g5 g6 g7 a8 a9 a10 a11 c12 a13 a14 big a15 a16 c17)).getD default).2.2.1
def zgh:Bool:=((tR (z11 c0 a1 a2 a3 g4 g5 g6 g7 a8 a9 a10 a11 c12 a13 a14 big a15 a16 c17)).getD default).2.2.2
def z5l:=(zdx a0 (pF g1 0 (muN a0 1)) a2 (pF g3 0 (muN a2 1)) a4 (pF g5 0 (muN a4 1)) a6 (pF g7 0 (muN a6 3)) c8 a9 a10 c11 a12 a13 a14)
def zdv:=(fop .quo .f32 a12 (fop .add .f32 1065353216 (zcc a0 (pF g1 0 (muN a0 1)) a2 (pF g3 0 (muN a2 1)) a4 (pF g5 0 (muN a4 1)) a6 (pF g7 0 (muN a6 3)) c8 a9 a10 c11 (z5l a0 g1 a2 g3 a4 g5 a6 g7 c8 a9 a10 c11 a12 a13 a14) a14)))
def zdk:=(fop .quo .f32 (fop .mul .f32 a13 (gF g7 (ixO 0 c11 3))) (fop .sub .f32 1065353216 (zcj a0 (pF g1 0 (muN a0 1)) a2 (pF g3 0 (muN a2 1)) a4 (pF g5 0 (muN a4 1)) a6 (pF g7 0 (muN a6 3)) c8 a9 a10 c11 (z5l a0 g1 a2 g3 a4 g5 a6 g7 c8 a9 a10 c11 a12 a13 a14) a14)))
def zdr:=(fop .mul .f32 (fop .mul .f32 (fop .mul .f32 1056964608 a15) (fop .add .f32 (fop .mul .f32 (zdv a0 g1 a2 g3 a4 g5 a6 g7 c8 a9 a10 c11 a12 a13 a14) (zdv a0 g1 a2 g3 a4 g5 a6 g7 c8 a9 a10 c11 a12 a13 a14)) (fop .mul .f32 (zdk a0 g1 a2 g3 a4 g5 a6 g7 c8 a9 a10 c11 a12 a13 a14) (zdk a0 g1 a2 g3 a4 g5 a6 g7 c8 a9 a10 c11 a12 a13 a14)))) (gF g7 (Nat.succ (ixO 0 c11 3))))
def z7b:=(fop .mul .f32 (zdr a0 g1 a2 g3 a4 g5 a6 g7 c8 a9 a10 c11 a12 a13 a14 a15) (zh2 a0 (pF g1 0 (muN a0 1)) a2 (pF g3 0 (muN a2 1)) a4 (pF g5 0 (muN a4 1)) a6 (pF g7 0 (muN a6 3)) c8 a9 a10 c11 (z5l a0 g1 a2 g3 a4 g5 a6 g7 c8 a9 a10 c11 a12 a13 a14) a14))
def z76:=(fop .mul .f32 (zdr a0 g1 a2 g3 a4 g5 a6 g7 c8 a9 a10 c11 a12 a13 a14 a15) (zgz a0 (pF g1 0 (muN a0 1)) a2 (pF g3 0 (muN a2 1)) a4 (pF g5 0 (muN a4 1)) a6 (pF g7 0 (muN a6 3)) c8 a9 a10 c11 (z5l a0 g1 a2 g3 a4 g5 a6 g7 c8 a9 a10 c11 a12 a13 a14) a14))
def z7z{R:Type}(k_:Nat→Nat→Bool→Option R):Option R:=(grd (zfs a0 (pF g1 0 (muN a0 1)) a2 (pF g3 0 (muN a2 1)) a4 (pF g5 0 (muN a4 1)) a6 (pF g7 0 (muN a6 3)) c8 a9 a10 c11 a12 a13 a14) (br (bnot (ze1 a0 (pF g1 0 (muN a0 1)) a2 (pF g3 0 (muN a2 1)) a4 (pF g5 0 (muN a4 1)) a6 (pF g7 0 (muN a6 3)) c8 a9 a10 c11 a12 a13 a14)) (k_ 0 0 Bool.false) (grd (zew a0 (pF g1 0 (muN a0 1)) a2 (pF g3 0 (muN a2 1)) a4 (pF g5 0 (muN a4 1)) a6 (pF g7 0 (muN a6 3)) c8 a9 a10 c11 (z5l a0 g1 a2 g3 a4 g5 a6 g7 c8 a9 a10 c11 a12 a13 a14) a14) (grd (okIx c11 a6) (grd (zgb (z76 a0 g1 a2 g3 a4 g5 a6 g7 c8 a9 a10 c11 a12 a13 a14 a15) (z7b a0 g1 a2 g3 a4 g5 a6 g7 c8 a9 a10 c11 a12 a13 a14 a15)) (k_ (za9 (z76 a0 g1 a2 g3 a4 g5 a6 g7 c8 a9 a10 c11 a12 a13 a14 a15) (z7b a0 g1 a2 g3 a4 g5 a6 g7 c8 a9 a10 c11 a12 a13 a14 a15)) (za7 (z76 a0 g1 a2 g3 a4 g5 a6 g7 c8 a9 a10 c11 a12 a13 a14 a15) (z7b a0 g1 a2 g3 a4 g5 a6 g7 c8 a9 a10 c11 a12 a13 a14 a15)) (zaa (z76 a0 g1 a2 g3 a4 g5 a6 g7 c8 a9 a10 c11 a12 a13 a14 a15) (z7b a0 g1 a2 g3 a4 g5 a6 g7 c8 a9 a10 c11 a12 a13 a14 a15))))))))
def z2z:Option (Nat×Nat×Bool):=z7z a0 g1 a2 g3 a4 g5 a6 g7 c8 a9 a10 c11 a12 a13 a14 a15 (fun c0_ c1_ c2_=>some (c0_,c1_,c2_))
theorem zrp{R R':Type}(o:Option R→Option R')(h0:o none=none)(k_:Nat→Nat→Bool→Option R):z7z a0 g1 a2 g3 a4 g5 a6 g7 c8 a9 a10 c11 a12 a13 a14 a15 (fun c0_ c1_ c2_=>o (k_ c0_ c1_ c2_))=o (z7z a0 g1 a2 g3 a4 g5 a6 g7 c8 a9 a10 c11 a12 a13 a14 a15 k_):=by
 unfold z7z
 repeat (first | refine grd_out h0 ?_ | refine br_out ?_ ?_ | rfl | exact h0.symm)
def zau:Bool:=(z2z a0 g1 a2 g3 a4 g5 a6 g7 c8 a9 a10 c11 a12 a13 a14 a15).isSome
def z7c:Nat:=((z2z a0 g1 a2 g3 a4 g5 a6 g7 c8 a9 a10 c11 a12 a13 a14 a15).getD default).1
def z75:Nat:=((z2z a0 g1 a2 g3 a4 g5 a6 g7 c8 a9 a10 c11 a12 a13 a14 a15).getD default).2.1
def z94:Bool:=((z2z a0 g1 a2 g3 a4 g5 a6 g7 c8 a9 a10 c11 a12 a13 a14 a15).getD default).2.2
def zfy{R:Type}(k_:Nat→Bool→Option R):Option R:=(grd (zen a0 (pF g1 0 (muN a0 1)) a2 (pF g3 0 (muN a2 1)) a4 (pF g5 0 (muN a4 1)) a6 (pF g7 0 (muN a6 3)) c8 a9 a10 c11 a12 a13 a14) (br (bnot (zcd a0 (pF g1 0 (muN a0 1)) a2 (pF g3 0 (muN a2 1)) a4 (pF g5 0 (muN a4 1)) a6 (pF g7 0 (muN a6 3)) c8 a9 a10 c11 a12 a13 a14)) (k_ 0 Bool.false) (grd (z7u c11 a12 a13 a14 g1 g3 g5 g7 a0 a2 a4 a6 c8 a9 a10 981668463 1048508891 0) (br (z71 c11 a12 a13 a14 g1 g3 g5 g7 a0 a2 a4 a6 c8 a9 a10 981668463 1048508891 0) (k_ 0 Bool.false) (k_ (zb5 c11 a12 a13 a14 g1 g3 g5 g7 a0 a2 a4 a6 c8 a9 a10 981668463 1048508891 0) Bool.true)))))
def z8v:Option (Nat×Bool):=zfy a0 g1 a2 g3 a4 g5 a6 g7 c8 a9 a10 c11 a12 a13 a14 (fun c0_ c1_=>some (c0_,c1_))
theorem zvi{R R':Type}(o:Option R→Option R')(h0:o none=none)(k_:Nat→Bool→Option R):zfy a0 g1 a2 g3 a4 g5 a6 g7 c8 a9 a10 c11 a12 a13 a14 (fun c0_ c1_=>o (k_ c0_ c1_))=o (zfy a0 g1 a2 g3 a4 g5 a6 g7 c8 a9 a10 c11 a12 a13 a14 k_):=by
 unfold zfy
 repeat (first | refine grd_out h0 ?_ | refine br_out ?_ ?_ | rfl | exact h0.symm)
def zjf:Bool:=(z8v a0 g1 a2 g3 a4 g5 a6 g7 c8 a9 a10 c11 a12 a13 a14).isSome
def zik:Nat:=((z8v a0 g1 a2 g3 a4 g5 a6 g7 c8 a9 a10 c11 a12 a13 a14).getD default).1
def zi5:Bool:=((z8v a0 g1 a2 g3 a4 g5 a6 g7 c8 a9 a10 c11 a12 a13 a14).getD default).2
def z3u:=(zik a0 (pF g1 0 (muN a0 1)) a2 (pF g3 0 (muN a2 1)) a4 (pF g5 0 (muN a4 1)) a6 (pF g7 0 (muN a6 3)) c8 a9 a10 c11 a12 a13 a14)
def zec:=(fop .quo .f32 a12 (fop .add .f32 1065353216 (z6x a0 (pF g1 0 (muN a0 1)) a2 (pF g3 0 (muN a2 1)) a4 (pF g5 0 (muN a4 1)) a6 (pF g7 0 (muN a6 3)) c8 a9 a10 c11 (z3u a0 g1 a2 g3 a4 g5 a6 g7 c8 a9 a10 c11 a12 a13 a14) a14)))
def zeg:=(fop .quo .f32 (fop .mul .f32 a13 (gF g7 (ixO 0 c11 3))) (fop .sub .f32 1065353216 (z6t a0 (pF g1 0 (muN a0 1)) a2 (pF g3 0 (muN a2 1)) a4 (pF g5 0 (muN a4 1)) a6 (pF g7 0 (muN a6 3)) c8 a9 a10 c11 (z3u a0 g1 a2 g3 a4 g5 a6 g7 c8 a9 a10 c11 a12 a13 a14) a14)))
def zet:=(fop .mul .f32 (fop .mul .f32 (fop .mul .f32 1056964608 a15) (fop .add .f32 (fop .mul .f32 (zec a0 g1 a2 g3 a4 g5 a6 g7 c8 a9 a10 c11 a12 a13 a14) (zec a0 g1 a2 g3 a4 g5 a6 g7 c8 a9 a10 c11 a12 a13 a14)) (fop .mul .f32 (zeg a0 g1 a2 g3 a4 g5 a6 g7 c8 a9 a10 c11 a12 a13 a14) (zeg a0 g1 a2 g3 a4 g5 a6 g7 c8 a9 a10 c11 a12 a13 a14)))) (gF g7 (Nat.succ (ixO 0 c11 3))))
def z6c:=(fop .mul .f32 (zet a0 g1 a2 g3 a4 g5 a6 g7 c8 a9 a10 c11 a12 a13 a14 a15) (z6z a0 (pF g1 0 (muN a0 1)) a2 (pF g3 0 (muN a2 1)) a4 (pF g5 0 (muN a4 1)) a6 (pF g7 0 (muN a6 3)) c8 a9 a10 c11 (z3u a0 g1 a2 g3 a4 g5 a6 g7 c8 a9 a10 c11 a12 a13 a14) a14))
def z6e:=(fop .mul .f32 (zet a0 g1 a2 g3 a4 g5 a6 g7 c8 a9 a10 c11 a12 a13 a14 a15) (z6u a0 (pF g1 0 (muN a0 1)) a2 (pF g3 0 (muN a2 1)) a4 (pF g5 0 (muN a4 1)) a6 (pF g7 0 (muN a6 3)) c8 a9 a10 c11 (z3u a0 g1 a2 g3 a4 g5 a6 g7 c8 a9 a10 c11 a12 a13 a14) a14))
def z6s{R:Type}(k_:Nat→Nat→Bool→Option R):Option R:=(grd (zjf a0 (pF g1 0 (muN a0 1)) a2 (pF g3 0 (muN a2 1)) a4 (pF g5 0 (muN a4 1)) a6 (pF g7 0 (muN a6 3)) c8 a9 a10 c11 a12 a13 a14) (br (bnot (zi5 a0 (pF g1 0 (muN a0 1)) a2 (pF g3 0 (muN a2 1)) a4 (pF g5 0 (muN a4 1)) a6 (pF g7 0 (muN a6 3)) c8 a9 a10 c11 a12 a13 a14)) (k_ 0 0 Bool.false) (grd (z57 1 (pF [a15] 0 (muN 1 1))) (br (bnot (z4o 1 (pF [a15] 0 (muN 1 1)))) (k_ 0 0 Bool.false) (grd (z7m a0 (pF g1 0 (muN a0 1)) a2 (pF g3 0 (muN a2 1)) a4 (pF g5 0 (muN a4 1)) a6 (pF g7 0 (muN a6 3)) c8 a9 a10 c11 (z3u a0 g1 a2 g3 a4 g5 a6 g7 c8 a9 a10 c11 a12 a13 a14) a14) (grd (z7o a0 (pF g1 0 (muN a0 1)) a2 (pF g3 0 (muN a2 1)) a4 (pF g5 0 (muN a4 1)) a6 (pF g7 0 (muN a6 3)) c8 a9 a10 c11 (z3u a0 g1 a2 g3 a4 g5 a6 g7 c8 a9 a10 c11 a12 a13 a14) a14) (grd (okIx c11 a6) (grd (okIx c11 a6) (grd (z95 (z6e a0 g1 a2 g3 a4 g5 a6 g7 c8 a9 a10 c11 a12 a13 a14 a15) (z6c a0 g1 a2 g3 a4 g5 a6 g7 c8 a9 a10 c11 a12 a13 a14 a15)) (k_ (z8a (z6e a0 g1 a2 g3 a4 g5 a6 g7 c8 a9 a10 c11 a12 a13 a14 a15) (z6c a0 g1 a2 g3 a4 g5 a6 g7 c8 a9 a10 c11 a12 a13 a14 a15)) (z8b (z6e a0 g1 a2 g3 a4 g5 a6 g7 c8 a9 a10 c11 a12 a13 a14 a15) (z6c a0 g1 a2 g3 a4 g5 a6 g7 c8 a9 a10 c11 a12 a13 a14 a15)) (z89 (z6e a0 g1 a2 g3 a4 g5 a6 g7 c8 a9 a10 c11 a12 a13 a14 a15) (z6c a0 g1 a2 g3 a4 g5 a6 g7 c8 a9 a10 c11 a12 a13 a14 a15))))))))))))
def z2l:Option (Nat×Nat×Bool):=z6s a0 g1 a2 g3 a4 g5 a6 g7 c8 a9 a10 c11 a12 a13 a14 a15 (fun c0_ c1_ c2_=>some (c0_,c1_,c2_))
theorem zo0{R R':Type}(o:Option R→Option R')(h0:o none=none)(k_:Nat→Nat→Bool→Option R):z6s a0 g1 a2 g3 a4 g5 a6 g7 c8 a9 a10 c11 a12 a13 a14 a15 (fun c0_ c1_ c2_=>o (k_ c0_ c1_ c2_))=o (z6s a0 g1 a2 g3 a4 g5 a6 g7 c8 a9 a10 c11 a12 a13 a14 a15 k_):=by
 unfold z6s
 repeat (first | refine grd_out h0 ?_ | refine br_out ?_ ?_ | rfl | exact h0.symm)
def z5c:Bool:=(z2l a0 g1 a2 g3 a4 g5 a6 g7 c8 a9 a10 c11 a12 a13 a14 a15).isSome
def z4u:Nat:=((z2l a0 g1 a2 g3 a4 g5 a6 g7 c8 a9 a10 c11 a12 a13 a14 a15).getD default).1
def z4y:Nat:=((z2l a0 g1 a2 g3 a4 g5 a6 g7 c8 a9 a10 c11 a12 a13 a14 a15).getD default).2.1
def z4w:Bool:=((z2l a0 g1 a2 g3 a4 g5 a6 g7 c8 a9 a10 c11 a12 a13 a14 a15).getD default).2.2
def z48{R:Type} (kn_:Nat→Nat→Int→(List Nat)→(List Nat)→Option R) (k0_:Unit→Option R) (k1_:Nat→Nat→Int→Bool→(List Nat)→(List Nat)→Option R):Option R:=(br (ltI c17 (Int.ofNat a11)) (grd (zjn a8 (pF g4 0 (muN a8 1)) a9 (pF g5 0 (muN a9 1)) a10 (pF g6 0 (muN a10 1)) a11 (pF g7 0 (muN a11 3)) c12 a13 a14 c17 a0 a1 a2) (br (bnot (zii a8 (pF g4 0 (muN a8 1)) a9 (pF g5 0 (muN a9 1)) a10 (pF g6 0 (muN a10 1)) a11 (pF g7 0 (muN a11 3)) c12 a13 a14 c17 a0 a1 a2)) (k0_ ()) (grd (zau a8 (pF g4 0 (muN a8 1)) a9 (pF g5 0 (muN a9 1)) a10 (pF g6 0 (muN a10 1)) a11 (pF g7 0 (muN a11 3)) c12 a13 a14 c17 a0 a1 a2 a3) (br (bnot (z94 a8 (pF g4 0 (muN a8 1)) a9 (pF g5 0 (muN a9 1)) a10 (pF g6 0 (muN a10 1)) a11 (pF g7 0 (muN a11 3)) c12 a13 a14 c17 a0 a1 a2 a3)) (k0_ ()) (grd (okA2 a15 1 4 (nF (pF [(z7c a8 (pF g4 0 (muN a8 1)) a9 (pF g5 0 (muN a9 1)) a10 (pF g6 0 (muN a10 1)) a11 (pF g7 0 (muN a11 3)) c12 a13 a14 c17 a0 a1 a2 a3)] 0 (muN 1 1))) (nF g18) 1) (grd (okA2 a16 1 4 (nF (pF [(z75 a8 (pF g4 0 (muN a8 1)) a9 (pF g5 0 (muN a9 1)) a10 (pF g6 0 (muN a10 1)) a11 (pF g7 0 (muN a11 3)) c12 a13 a14 c17 a0 a1 a2 a3)] 0 (muN 1 1))) (nF g19) 1) (kn_ (adN a15 1) (adN a16 1) (addI .i64 c17 1) (aF g18 (pF [(z7c a8 (pF g4 0 (muN a8 1)) a9 (pF g5 0 (muN a9 1)) a10 (pF g6 0 (muN a10 1)) a11 (pF g7 0 (muN a11 3)) c12 a13 a14 c17 a0 a1 a2 a3)] 0 (muN 1 1))) (aF g19 (pF [(z75 a8 (pF g4 0 (muN a8 1)) a9 (pF g5 0 (muN a9 1)) a10 (pF g6 0 (muN a10 1)) a11 (pF g7 0 (muN a11 3)) c12 a13 a14 c17 a0 a1 a2 a3)] 0 (muN 1 1)))))))))) (k1_ a15 a16 c17 (ltI c17 (Int.ofNat a11)) g18 g19))
theorem zr3{R R':Type}(o:Option R→Option R')(h0:o none=none) (kn_:Nat→Nat→Int→(List Nat)→(List Nat)→Option R) (k0_:Unit→Option R) (k1_:Nat→Nat→Int→Bool→(List Nat)→(List Nat)→Option R):z48 a0 a1 a2 a3 g4 g5 g6 g7 a8 a9 a10 a11 c12 a13 a14 a15 a16 c17 g18 g19 (fun q1m' q1n' t15' b5' b6'=>o (kn_ q1m' q1n' t15' b5' b6')) (fun _=>o (k0_ ())) (fun c0_ c1_ c2_ c3_ c4_ c5_=>o (k1_ c0_ c1_ c2_ c3_ c4_ c5_))=o (z48 a0 a1 a2 a3 g4 g5 g6 g7 a8 a9 a10 a11 c12 a13 a14 a15 a16 c17 g18 g19 kn_ k0_ k1_):=by
 unfold z48
 repeat (first | refine grd_out h0 ?_ | refine br_out ?_ ?_ | rfl | exact h0.symm)
def z0e(t1 t2 t3 t4:Nat)(b0 b1 b2 b3:List Nat)(q0u q0t q0v q0s:Nat)(q17:Int)(q18 q0z:Nat):Nat→Nat→Nat→Int→(List Nat)→(List Nat)→Option ((Unit)⊕(Nat×Nat×Int×Bool×(List Nat)×(List Nat)))
 | 0,_,_,_,_,_=>none
 | n+1,q1m,q1n,t15,b5,b6=>z48 t1 t2 t3 t4 b0 b1 b2 b3 q0u q0t q0v q0s q17 q18 q0z  q1m q1n t15 b5 b6  (fun q1m' q1n' t15' b5' b6'=>z0e t1 t2 t3 t4 b0 b1 b2 b3 q0u q0t q0v q0s q17 q18 q0z n q1m' q1n' t15' b5' b6') (fun _=>some (Sum.inl ())) (fun c0_ c1_ c2_ c3_ c4_ c5_=>some (Sum.inr (c0_,c1_,c2_,c3_,c4_,c5_)))
theorem zkd:z0e a0 a1 a2 a3 g4 g5 g6 g7 a8 a9 a10 a11 c12 a13 a14 (a15+1) a16 a17 c18 g19 g20=z48 a0 a1 a2 a3 g4 g5 g6 g7 a8 a9 a10 a11 c12 a13 a14  a16 a17 c18 g19 g20  (fun q1m' q1n' t15' b5' b6'=>z0e a0 a1 a2 a3 g4 g5 g6 g7 a8 a9 a10 a11 c12 a13 a14 a15 q1m' q1n' t15' b5' b6') (fun _=>some (Sum.inl ())) (fun c0_ c1_ c2_ c3_ c4_ c5_=>some (Sum.inr (c0_,c1_,c2_,c3_,c4_,c5_))):=rfl
def z81:Bool:=(z0e a0 a1 a2 a3 g4 g5 g6 g7 a8 a9 a10 a11 c12 a13 a14 big a15 a16 c17 g18 g19).isSome
def z74:Bool:=oL (z0e a0 a1 a2 a3 g4 g5 g6 g7 a8 a9 a10 a11 c12 a13 a14 big a15 a16 c17 g18 g19)
def zb6:Nat:=((tR (z0e a0 a1 a2 a3 g4 g5 g6 g7 a8 a9 a10 a11 c12 a13 a14 big a15 a16 c17 g18 g19)).getD default).1
def zaw:Nat:=((tR (z0e a0 a1 a2 a3 g4 g5 g6 g7 a8 a9 a10 a11 c12 a13 a14 big a15 a16 c17 g18 g19)).getD default).2.1
def zgi:Int:=((tR (z0e a0 a1 a2 a3 g4 g5 g6 g7 a8 a9 a10 a11 c12 a13 a14 big a15 a16 c17 g18 g19)).getD default).2.2.1
def zgt:Bool:=((tR (z0e a0 a1 a2 a3 g4 g5 g6 g7 a8 a9 a10 a11 c12 a13 a14 big a15 a16 c17 g18 g19)).getD default).2.2.2.1
def zb2:List Nat:=((tR (z0e a0 a1 a2 a3 g4 g5 g6 g7 a8 a9 a10 a11 c12 a13 a14 big a15 a16 c17 g18 g19)).getD default).2.2.2.2.1
def zax:List Nat:=((tR (z0e a0 a1 a2 a3 g4 g5 g6 g7 a8 a9 a10 a11 c12 a13 a14 big a15 a16 c17 g18 g19)).getD default).2.2.2.2.2
def zbs{R:Type} (k_:Nat→Nat→Bool→(List Nat)→(List Nat)→Option R):Option R:=(grd (zhv a0 (pF g1 0 (muN a0 1)) a2 (pF g3 0 (muN a2 1)) a4 (pF g5 0 (muN a4 1)) a6 (pF g7 0 (muN a6 3)) c8 a9 a10) (br (bnot (zg1 a0 (pF g1 0 (muN a0 1)) a2 (pF g3 0 (muN a2 1)) a4 (pF g5 0 (muN a4 1)) a6 (pF g7 0 (muN a6 3)) c8 a9 a10)) (k_ 0 0 Bool.false [] []) (grd (z6v a14) (br (bnot (z64 a14)) (k_ 0 0 Bool.false [] []) (grd (z81 a11 a12 a13 a14 g1 g3 g5 g7 a0 a2 a4 a6 c8 a9 a10 0 0 0 [] []) (br (z74 a11 a12 a13 a14 g1 g3 g5 g7 a0 a2 a4 a6 c8 a9 a10 0 0 0 [] []) (k_ 0 0 Bool.false [] []) (k_ (zb6 a11 a12 a13 a14 g1 g3 g5 g7 a0 a2 a4 a6 c8 a9 a10 0 0 0 [] []) (zaw a11 a12 a13 a14 g1 g3 g5 g7 a0 a2 a4 a6 c8 a9 a10 0 0 0 [] []) Bool.true (zb2 a11 a12 a13 a14 g1 g3 g5 g7 a0 a2 a4 a6 c8 a9 a10 0 0 0 [] []) (zax a11 a12 a13 a14 g1 g3 g5 g7 a0 a2 a4 a6 c8 a9 a10 0 0 0 [] []))))))))
def z3t:Option (Nat×Nat×Bool×(List Nat)×(List Nat)):=zbs a0 g1 a2 g3 a4 g5 a6 g7 c8 a9 a10 a11 a12 a13 a14 (fun c0_ c1_ c2_ c3_ c4_=>some (c0_,c1_,c2_,c3_,c4_))
theorem zum{R R':Type}(o:Option R→Option R')(h0:o none=none) (k_:Nat→Nat→Bool→(List Nat)→(List Nat)→Option R):zbs a0 g1 a2 g3 a4 g5 a6 g7 c8 a9 a10 a11 a12 a13 a14 (fun c0_ c1_ c2_ c3_ c4_=>o (k_ c0_ c1_ c2_ c3_ c4_))=o (zbs a0 g1 a2 g3 a4 g5 a6 g7 c8 a9 a10 a11 a12 a13 a14 k_):=by
 unfold zbs
 repeat (first | refine grd_out h0 ?_ | refine br_out ?_ ?_ | rfl | exact h0.symm)
def zjk:Bool:=(z3t a0 g1 a2 g3 a4 g5 a6 g7 c8 a9 a10 a11 a12 a13 a14).isSome
def zi7:Nat:=((z3t a0 g1 a2 g3 a4 g5 a6 g7 c8 a9 a10 a11 a12 a13 a14).getD default).1
def zib:Nat:=((z3t a0 g1 a2 g3 a4 g5 a6 g7 c8 a9 a10 a11 a12 a13 a14).getD default).2.1
def zil:Bool:=((z3t a0 g1 a2 g3 a4 g5 a6 g7 c8 a9 a10 a11 a12 a13 a14).getD default).2.2.1
def zin:List Nat:=((z3t a0 g1 a2 g3 a4 g5 a6 g7 c8 a9 a10 a11 a12 a13 a14).getD default).2.2.2.1
def zid:List Nat:=((z3t a0 g1 a2 g3 a4 g5 a6 g7 c8 a9 a10 a11 a12 a13 a14).getD default).2.2.2.2
def z5r{R:Type} (k_:Nat→Nat→Bool→(List Nat)→(List Nat)→Option R):Option R:=(grd (zeo c15 1 8) (br (bnot (zbn c15 1 8)) (k_ 0 0 Bool.false [] []) (grd (zjk a0 (pF g1 0 (muN a0 1)) a2 (pF g3 0 (muN a2 1)) a4 (pF g5 0 (muN a4 1)) a6 (pF g7 0 (muN a6 3)) c8 a9 a10 a11 a12 a13 a14) (k_ (zi7 a0 (pF g1 0 (muN a0 1)) a2 (pF g3 0 (muN a2 1)) a4 (pF g5 0 (muN a4 1)) a6 (pF g7 0 (muN a6 3)) c8 a9 a10 a11 a12 a13 a14) (zib a0 (pF g1 0 (muN a0 1)) a2 (pF g3 0 (muN a2 1)) a4 (pF g5 0 (muN a4 1)) a6 (pF g7 0 (muN a6 3)) c8 a9 a10 a11 a12 a13 a14) (zil a0 (pF g1 0 (muN a0 1)) a2 (pF g3 0 (muN a2 1)) a4 (pF g5 0 (muN a4 1)) a6 (pF g7 0 (muN a6 3)) c8 a9 a10 a11 a12 a13 a14) (zin a0 (pF g1 0 (muN a0 1)) a2 (pF g3 0 (muN a2 1)) a4 (pF g5 0 (muN a4 1)) a6 (pF g7 0 (muN a6 3)) c8 a9 a10 a11 a12 a13 a14) (zid a0 (pF g1 0 (muN a0 1)) a2 (pF g3 0 (muN a2 1)) a4 (pF g5 0 (muN a4 1)) a6 (pF g7 0 (muN a6 3)) c8 a9 a10 a11 a12 a13 a14)))))
def z1c:Option (Nat×Nat×Bool×(List Nat)×(List Nat)):=z5r a0 g1 a2 g3 a4 g5 a6 g7 c8 a9 a10 a11 a12 a13 a14 c15 (fun c0_ c1_ c2_ c3_ c4_=>some (c0_,c1_,c2_,c3_,c4_))
theorem zou{R R':Type}(o:Option R→Option R')(h0:o none=none) (k_:Nat→Nat→Bool→(List Nat)→(List Nat)→Option R):z5r a0 g1 a2 g3 a4 g5 a6 g7 c8 a9 a10 a11 a12 a13 a14 c15 (fun c0_ c1_ c2_ c3_ c4_=>o (k_ c0_ c1_ c2_ c3_ c4_))=o (z5r a0 g1 a2 g3 a4 g5 a6 g7 c8 a9 a10 a11 a12 a13 a14 c15 k_):=by
 unfold z5r
 repeat (first | refine grd_out h0 ?_ | refine br_out ?_ ?_ | rfl | exact h0.symm)
def zaz:Bool:=(z1c a0 g1 a2 g3 a4 g5 a6 g7 c8 a9 a10 a11 a12 a13 a14 c15).isSome
def z9v:Nat:=((z1c a0 g1 a2 g3 a4 g5 a6 g7 c8 a9 a10 a11 a12 a13 a14 c15).getD default).1
def z9w:Nat:=((z1c a0 g1 a2 g3 a4 g5 a6 g7 c8 a9 a10 a11 a12 a13 a14 c15).getD default).2.1
def z9d:Bool:=((z1c a0 g1 a2 g3 a4 g5 a6 g7 c8 a9 a10 a11 a12 a13 a14 c15).getD default).2.2.1
def z9j:List Nat:=((z1c a0 g1 a2 g3 a4 g5 a6 g7 c8 a9 a10 a11 a12 a13 a14 c15).getD default).2.2.2.1
def z9i:List Nat:=((z1c a0 g1 a2 g3 a4 g5 a6 g7 c8 a9 a10 a11 a12 a13 a14 c15).getD default).2.2.2.2
def zfn(ws:Int):Bool:=(List.range a6).all fun i=>z5c a0 (pF g1 0 (muN a0 1)) a2 (pF g3 0 (muN a2 1)) a4 (pF g5 0 (muN a4 1)) a6 (pF g7 0 (muN a6 3)) c8 a9 a10 (Int.ofNat i) a11 a12 a13 a14
def z9z(ws:Int):List Nat:=(List.range a6).map fun i=>z4u a0 (pF g1 0 (muN a0 1)) a2 (pF g3 0 (muN a2 1)) a4 (pF g5 0 (muN a4 1)) a6 (pF g7 0 (muN a6 3)) c8 a9 a10 (Int.ofNat i) a11 a12 a13 a14
def z9m(ws:Int):List Nat:=(List.range a6).map fun i=>z4y a0 (pF g1 0 (muN a0 1)) a2 (pF g3 0 (muN a2 1)) a4 (pF g5 0 (muN a4 1)) a6 (pF g7 0 (muN a6 3)) c8 a9 a10 (Int.ofNat i) a11 a12 a13 a14
def z9u(ws:Int):List Bool:=(List.range a6).map fun i=>z4w a0 (pF g1 0 (muN a0 1)) a2 (pF g3 0 (muN a2 1)) a4 (pF g5 0 (muN a4 1)) a6 (pF g7 0 (muN a6 3)) c8 a9 a10 (Int.ofNat i) a11 a12 a13 a14
def z3r:Bool:=z77 a0 (pF g1 0 (muN a0 1)) a2 (pF g3 0 (muN a2 1)) a4 (pF g5 0 (muN a4 1)) a6 (pF g7 0 (muN a6 3)) c8 a9 a10&&(bnot (z55 a0 (pF g1 0 (muN a0 1)) a2 (pF g3 0 (muN a2 1)) a4 (pF g5 0 (muN a4 1)) a6 (pF g7 0 (muN a6 3)) c8 a9 a10)||(z5z c15 1 8&&(bnot (z3b c15 1 8)||(okMk (Int.ofNat a6) (Int.ofNat a6) 4&&(okMk (Int.ofNat a6) (Int.ofNat a6) 1&&(decide (0<a6∧a6≤281474976710656)&&(decide (1≤c15∧c15≤8)&&(zfn a0 g1 a2 g3 a4 g5 a6 g7 c8 a9 a10 a11 a12 a13 a14 c15&&z2t a6 (pB (z9u a0 g1 a2 g3 a4 g5 a6 g7 c8 a9 a10 a11 a12 a13 a14 c15) 0 (muN a6 1)) Bool.false))))))))
def z0d:Bool:=z55 a0 (pF g1 0 (muN a0 1)) a2 (pF g3 0 (muN a2 1)) a4 (pF g5 0 (muN a4 1)) a6 (pF g7 0 (muN a6 3)) c8 a9 a10&&(z3b c15 1 8&&bnot (z2i a6 (pB (z9u a0 g1 a2 g3 a4 g5 a6 g7 c8 a9 a10 a11 a12 a13 a14 c15) 0 (muN a6 1)) Bool.false))
def z2k:Nat:=match z0d a0 g1 a2 g3 a4 g5 a6 g7 c8 a9 a10 a11 a12 a13 a14 c15 with | true=>a6 | false=>0
def z2m:Nat:=match z0d a0 g1 a2 g3 a4 g5 a6 g7 c8 a9 a10 a11 a12 a13 a14 c15 with | true=>a6 | false=>0
def z2n:List Nat:=match z0d a0 g1 a2 g3 a4 g5 a6 g7 c8 a9 a10 a11 a12 a13 a14 c15 with | true=>z9z a0 g1 a2 g3 a4 g5 a6 g7 c8 a9 a10 a11 a12 a13 a14 c15 | false=>[]
def z2p:List Nat:=match z0d a0 g1 a2 g3 a4 g5 a6 g7 c8 a9 a10 a11 a12 a13 a14 c15 with | true=>z9m a0 g1 a2 g3 a4 g5 a6 g7 c8 a9 a10 a11 a12 a13 a14 c15 | false=>[]
def laws_FnForcesSharedOfAll_c0:=(z2k a0 (pF g1 0 (muN a0 1)) a2 (pF g3 0 (muN a2 1)) a4 (pF g5 0 (muN a4 1)) a6 (pF g7 0 (muN a6 3)) c8 a9 a10 a11 a12 a13 a14 c15)
def laws_FnForcesSharedOfAll_c1:=(z2k a0 (pF g1 0 (muN a0 1)) a2 (pF g3 0 (muN a2 1)) a4 (pF g5 0 (muN a4 1)) a6 (pF g7 0 (muN a6 3)) c8 a9 a10 a11 a12 a13 a14 c15)
def laws_FnForcesSharedOfAll_c2:=(z9v a0 (pF g1 0 (muN a0 1)) a2 (pF g3 0 (muN a2 1)) a4 (pF g5 0 (muN a4 1)) a6 (pF g7 0 (muN a6 3)) c8 a9 a10 a11 a12 a13 a14 c15)
def laws_FnForcesSharedOfAll_c3:=(z2m a0 (pF g1 0 (muN a0 1)) a2 (pF g3 0 (muN a2 1)) a4 (pF g5 0 (muN a4 1)) a6 (pF g7 0 (muN a6 3)) c8 a9 a10 a11 a12 a13 a14 c15)
def laws_FnForcesSharedOfAll_c4:=(z0d a0 (pF g1 0 (muN a0 1)) a2 (pF g3 0 (muN a2 1)) a4 (pF g5 0 (muN a4 1)) a6 (pF g7 0 (muN a6 3)) c8 a9 a10 a11 a12 a13 a14 c15)
def laws_FnForcesSharedOfAll_c5:=(z2m a0 (pF g1 0 (muN a0 1)) a2 (pF g3 0 (muN a2 1)) a4 (pF g5 0 (muN a4 1)) a6 (pF g7 0 (muN a6 3)) c8 a9 a10 a11 a12 a13 a14 c15)
def laws_FnForcesSharedOfAll_c6:=(z9w a0 (pF g1 0 (muN a0 1)) a2 (pF g3 0 (muN a2 1)) a4 (pF g5 0 (muN a4 1)) a6 (pF g7 0 (muN a6 3)) c8 a9 a10 a11 a12 a13 a14 c15)
def laws_FnForcesSharedOfAll_c7:=(pF (z2n a0 (pF g1 0 (muN a0 1)) a2 (pF g3 0 (muN a2 1)) a4 (pF g5 0 (muN a4 1)) a6 (pF g7 0 (muN a6 3)) c8 a9 a10 a11 a12 a13 a14 c15) 0 (muN (laws_FnForcesSharedOfAll_c1 a0 g1 a2 g3 a4 g5 a6 g7 c8 a9 a10 a11 a12 a13 a14 c15) 1))
def laws_FnForcesSharedOfAll_c8:=(pF (z2p a0 (pF g1 0 (muN a0 1)) a2 (pF g3 0 (muN a2 1)) a4 (pF g5 0 (muN a4 1)) a6 (pF g7 0 (muN a6 3)) c8 a9 a10 a11 a12 a13 a14 c15) 0 (muN (laws_FnForcesSharedOfAll_c5 a0 g1 a2 g3 a4 g5 a6 g7 c8 a9 a10 a11 a12 a13 a14 c15) 1))
def laws_FnForcesSharedOfAll_c9:=(pF (z2n a0 (pF g1 0 (muN a0 1)) a2 (pF g3 0 (muN a2 1)) a4 (pF g5 0 (muN a4 1)) a6 (pF g7 0 (muN a6 3)) c8 a9 a10 a11 a12 a13 a14 c15) 0 (muN (laws_FnForcesSharedOfAll_c0 a0 g1 a2 g3 a4 g5 a6 g7 c8 a9 a10 a11 a12 a13 a14 c15) 1))
def laws_FnForcesSharedOfAll_c10:=(pF (z2p a0 (pF g1 0 (muN a0 1)) a2 (pF g3 0 (muN a2 1)) a4 (pF g5 0 (muN a4 1)) a6 (pF g7 0 (muN a6 3)) c8 a9 a10 a11 a12 a13 a14 c15) 0 (muN (laws_FnForcesSharedOfAll_c3 a0 g1 a2 g3 a4 g5 a6 g7 c8 a9 a10 a11 a12 a13 a14 c15) 1))
def laws_FnForcesSharedOfAll_c11:=(pF (z9i a0 (pF g1 0 (muN a0 1)) a2 (pF g3 0 (muN a2 1)) a4 (pF g5 0 (muN a4 1)) a6 (pF g7 0 (muN a6 3)) c8 a9 a10 a11 a12 a13 a14 c15) 0 (muN (laws_FnForcesSharedOfAll_c6 a0 g1 a2 g3 a4 g5 a6 g7 c8 a9 a10 a11 a12 a13 a14 c15) 1))
def laws_FnForcesSharedOfAll_c12:=(pF (z9j a0 (pF g1 0 (muN a0 1)) a2 (pF g3 0 (muN a2 1)) a4 (pF g5 0 (muN a4 1)) a6 (pF g7 0 (muN a6 3)) c8 a9 a10 a11 a12 a13 a14 c15) 0 (muN (laws_FnForcesSharedOfAll_c2 a0 g1 a2 g3 a4 g5 a6 g7 c8 a9 a10 a11 a12 a13 a14 c15) 1))
def z49{R:Type}(k_:Bool→Option R):Option R:=(grd (z3r a0 (pF g1 0 (muN a0 1)) a2 (pF g3 0 (muN a2 1)) a4 (pF g5 0 (muN a4 1)) a6 (pF g7 0 (muN a6 3)) c8 a9 a10 a11 a12 a13 a14 c15) (grd (z3r a0 (pF g1 0 (muN a0 1)) a2 (pF g3 0 (muN a2 1)) a4 (pF g5 0 (muN a4 1)) a6 (pF g7 0 (muN a6 3)) c8 a9 a10 a11 a12 a13 a14 c16) (grd (zaz a0 (pF g1 0 (muN a0 1)) a2 (pF g3 0 (muN a2 1)) a4 (pF g5 0 (muN a4 1)) a6 (pF g7 0 (muN a6 3)) c8 a9 a10 a11 a12 a13 a14 c15) (br (bnot (beqB (laws_FnForcesSharedOfAll_c4 a0 g1 a2 g3 a4 g5 a6 g7 c8 a9 a10 a11 a12 a13 a14 c15) (z9d a0 (pF g1 0 (muN a0 1)) a2 (pF g3 0 (muN a2 1)) a4 (pF g5 0 (muN a4 1)) a6 (pF g7 0 (muN a6 3)) c8 a9 a10 a11 a12 a13 a14 c15))) (k_ Bool.false) (br (laws_FnForcesSharedOfAll_c4 a0 g1 a2 g3 a4 g5 a6 g7 c8 a9 a10 a11 a12 a13 a14 c15) (grd (z31 (laws_FnForcesSharedOfAll_c1 a0 g1 a2 g3 a4 g5 a6 g7 c8 a9 a10 a11 a12 a13 a14 c15) (laws_FnForcesSharedOfAll_c7 a0 g1 a2 g3 a4 g5 a6 g7 c8 a9 a10 a11 a12 a13 a14 c15) (laws_FnForcesSharedOfAll_c2 a0 g1 a2 g3 a4 g5 a6 g7 c8 a9 a10 a11 a12 a13 a14 c15) (laws_FnForcesSharedOfAll_c12 a0 g1 a2 g3 a4 g5 a6 g7 c8 a9 a10 a11 a12 a13 a14 c15)) (br (z2g (laws_FnForcesSharedOfAll_c1 a0 g1 a2 g3 a4 g5 a6 g7 c8 a9 a10 a11 a12 a13 a14 c15) (laws_FnForcesSharedOfAll_c7 a0 g1 a2 g3 a4 g5 a6 g7 c8 a9 a10 a11 a12 a13 a14 c15) (laws_FnForcesSharedOfAll_c2 a0 g1 a2 g3 a4 g5 a6 g7 c8 a9 a10 a11 a12 a13 a14 c15) (laws_FnForcesSharedOfAll_c12 a0 g1 a2 g3 a4 g5 a6 g7 c8 a9 a10 a11 a12 a13 a14 c15)) (grd (z31 (laws_FnForcesSharedOfAll_c5 a0 g1 a2 g3 a4 g5 a6 g7 c8 a9 a10 a11 a12 a13 a14 c15) (laws_FnForcesSharedOfAll_c8 a0 g1 a2 g3 a4 g5 a6 g7 c8 a9 a10 a11 a12 a13 a14 c15) (laws_FnForcesSharedOfAll_c6 a0 g1 a2 g3 a4 g5 a6 g7 c8 a9 a10 a11 a12 a13 a14 c15) (laws_FnForcesSharedOfAll_c11 a0 g1 a2 g3 a4 g5 a6 g7 c8 a9 a10 a11 a12 a13 a14 c15)) (br (bnot (z2g (laws_FnForcesSharedOfAll_c5 a0 g1 a2 g3 a4 g5 a6 g7 c8 a9 a10 a11 a12 a13 a14 c15) (laws_FnForcesSharedOfAll_c8 a0 g1 a2 g3 a4 g5 a6 g7 c8 a9 a10 a11 a12 a13 a14 c15) (laws_FnForcesSharedOfAll_c6 a0 g1 a2 g3 a4 g5 a6 g7 c8 a9 a10 a11 a12 a13 a14 c15) (laws_FnForcesSharedOfAll_c11 a0 g1 a2 g3 a4 g5 a6 g7 c8 a9 a10 a11 a12 a13 a14 c15))) (k_ Bool.false) (br (ltI c15 1) (k_ Bool.true) (br (ltI 8 c15) (k_ Bool.true) (br (ltI c16 1) (k_ Bool.true) (br (ltI 8 c16) (k_ Bool.true) (br (beqB (laws_FnForcesSharedOfAll_c4 a0 g1 a2 g3 a4 g5 a6 g7 c8 a9 a10 a11 a12 a13 a14 c15) (z0d a0 (pF g1 0 (muN a0 1)) a2 (pF g3 0 (muN a2 1)) a4 (pF g5 0 (muN a4 1)) a6 (pF g7 0 (muN a6 3)) c8 a9 a10 a11 a12 a13 a14 c16)) (br (bnot (laws_FnForcesSharedOfAll_c4 a0 g1 a2 g3 a4 g5 a6 g7 c8 a9 a10 a11 a12 a13 a14 c15)) (k_ Bool.true) (grd (z31 (laws_FnForcesSharedOfAll_c1 a0 g1 a2 g3 a4 g5 a6 g7 c8 a9 a10 a11 a12 a13 a14 c15) (laws_FnForcesSharedOfAll_c7 a0 g1 a2 g3 a4 g5 a6 g7 c8 a9 a10 a11 a12 a13 a14 c15) (laws_FnForcesSharedOfAll_c0 a0 g1 a2 g3 a4 g5 a6 g7 c8 a9 a10 a11 a12 a13 a14 c16) (laws_FnForcesSharedOfAll_c9 a0 g1 a2 g3 a4 g5 a6 g7 c8 a9 a10 a11 a12 a13 a14 c16)) (br (z2g (laws_FnForcesSharedOfAll_c1 a0 g1 a2 g3 a4 g5 a6 g7 c8 a9 a10 a11 a12 a13 a14 c15) (laws_FnForcesSharedOfAll_c7 a0 g1 a2 g3 a4 g5 a6 g7 c8 a9 a10 a11 a12 a13 a14 c15) (laws_FnForcesSharedOfAll_c0 a0 g1 a2 g3 a4 g5 a6 g7 c8 a9 a10 a11 a12 a13 a14 c16) (laws_FnForcesSharedOfAll_c9 a0 g1 a2 g3 a4 g5 a6 g7 c8 a9 a10 a11 a12 a13 a14 c16)) (grd (z31 (laws_FnForcesSharedOfAll_c5 a0 g1 a2 g3 a4 g5 a6 g7 c8 a9 a10 a11 a12 a13 a14 c15) (laws_FnForcesSharedOfAll_c8 a0 g1 a2 g3 a4 g5 a6 g7 c8 a9 a10 a11 a12 a13 a14 c15) (laws_FnForcesSharedOfAll_c3 a0 g1 a2 g3 a4 g5 a6 g7 c8 a9 a10 a11 a12 a13 a14 c16) (laws_FnForcesSharedOfAll_c10 a0 g1 a2 g3 a4 g5 a6 g7 c8 a9 a10 a11 a12 a13 a14 c16)) (k_ (z2g (laws_FnForcesSharedOfAll_c5 a0 g1 a2 g3 a4 g5 a6 g7 c8 a9 a10 a11 a12 a13 a14 c15) (laws_FnForcesSharedOfAll_c8 a0 g1 a2 g3 a4 g5 a6 g7 c8 a9 a10 a11 a12 a13 a14 c15) (laws_FnForcesSharedOfAll_c3 a0 g1 a2 g3 a4 g5 a6 g7 c8 a9 a10 a11 a12 a13 a14 c16) (laws_FnForcesSharedOfAll_c10 a0 g1 a2 g3 a4 g5 a6 g7 c8 a9 a10 a11 a12 a13 a14 c16)))) (k_ Bool.false)))) (k_ Bool.false)))))))) (br (bnot Bool.false) (k_ Bool.false) (br (ltI c15 1) (k_ Bool.true) (br (ltI 8 c15) (k_ Bool.true) (br (ltI c16 1) (k_ Bool.true) (br (ltI 8 c16) (k_ Bool.true) (br (beqB (laws_FnForcesSharedOfAll_c4 a0 g1 a2 g3 a4 g5 a6 g7 c8 a9 a10 a11 a12 a13 a14 c15) (z0d a0 (pF g1 0 (muN a0 1)) a2 (pF g3 0 (muN a2 1)) a4 (pF g5 0 (muN a4 1)) a6 (pF g7 0 (muN a6 3)) c8 a9 a10 a11 a12 a13 a14 c16)) (br (bnot (laws_FnForcesSharedOfAll_c4 a0 g1 a2 g3 a4 g5 a6 g7 c8 a9 a10 a11 a12 a13 a14 c15)) (k_ Bool.true) (grd (z31 (laws_FnForcesSharedOfAll_c1 a0 g1 a2 g3 a4 g5 a6 g7 c8 a9 a10 a11 a12 a13 a14 c15) (laws_FnForcesSharedOfAll_c7 a0 g1 a2 g3 a4 g5 a6 g7 c8 a9 a10 a11 a12 a13 a14 c15) (laws_FnForcesSharedOfAll_c0 a0 g1 a2 g3 a4 g5 a6 g7 c8 a9 a10 a11 a12 a13 a14 c16) (laws_FnForcesSharedOfAll_c9 a0 g1 a2 g3 a4 g5 a6 g7 c8 a9 a10 a11 a12 a13 a14 c16)) (br (z2g (laws_FnForcesSharedOfAll_c1 a0 g1 a2 g3 a4 g5 a6 g7 c8 a9 a10 a11 a12 a13 a14 c15) (laws_FnForcesSharedOfAll_c7 a0 g1 a2 g3 a4 g5 a6 g7 c8 a9 a10 a11 a12 a13 a14 c15) (laws_FnForcesSharedOfAll_c0 a0 g1 a2 g3 a4 g5 a6 g7 c8 a9 a10 a11 a12 a13 a14 c16) (laws_FnForcesSharedOfAll_c9 a0 g1 a2 g3 a4 g5 a6 g7 c8 a9 a10 a11 a12 a13 a14 c16)) (grd (z31 (laws_FnForcesSharedOfAll_c5 a0 g1 a2 g3 a4 g5 a6 g7 c8 a9 a10 a11 a12 a13 a14 c15) (laws_FnForcesSharedOfAll_c8 a0 g1 a2 g3 a4 g5 a6 g7 c8 a9 a10 a11 a12 a13 a14 c15) (laws_FnForcesSharedOfAll_c3 a0 g1 a2 g3 a4 g5 a6 g7 c8 a9 a10 a11 a12 a13 a14 c16) (laws_FnForcesSharedOfAll_c10 a0 g1 a2 g3 a4 g5 a6 g7 c8 a9 a10 a11 a12 a13 a14 c16)) (k_ (z2g (laws_FnForcesSharedOfAll_c5 a0 g1 a2 g3 a4 g5 a6 g7 c8 a9 a10 a11 a12 a13 a14 c15) (laws_FnForcesSharedOfAll_c8 a0 g1 a2 g3 a4 g5 a6 g7 c8 a9 a10 a11 a12 a13 a14 c15) (laws_FnForcesSharedOfAll_c3 a0 g1 a2 g3 a4 g5 a6 g7 c8 a9 a10 a11 a12 a13 a14 c16) (laws_FnForcesSharedOfAll_c10 a0 g1 a2 g3 a4 g5 a6 g7 c8 a9 a10 a11 a12 a13 a14 c16)))) (k_ Bool.false)))) (k_ Bool.false))))))))) (br (ltI c15 1) (k_ Bool.true) (br (ltI 8 c15) (k_ Bool.true) (br (ltI c16 1) (k_ Bool.true) (br (ltI 8 c16) (k_ Bool.true) (br (beqB (laws_FnForcesSharedOfAll_c4 a0 g1 a2 g3 a4 g5 a6 g7 c8 a9 a10 a11 a12 a13 a14 c15) (z0d a0 (pF g1 0 (muN a0 1)) a2 (pF g3 0 (muN a2 1)) a4 (pF g5 0 (muN a4 1)) a6 (pF g7 0 (muN a6 3)) c8 a9 a10 a11 a12 a13 a14 c16)) (br (bnot (laws_FnForcesSharedOfAll_c4 a0 g1 a2 g3 a4 g5 a6 g7 c8 a9 a10 a11 a12 a13 a14 c15)) (k_ Bool.true) (grd (z31 (laws_FnForcesSharedOfAll_c1 a0 g1 a2 g3 a4 g5 a6 g7 c8 a9 a10 a11 a12 a13 a14 c15) (laws_FnForcesSharedOfAll_c7 a0 g1 a2 g3 a4 g5 a6 g7 c8 a9 a10 a11 a12 a13 a14 c15) (laws_FnForcesSharedOfAll_c0 a0 g1 a2 g3 a4 g5 a6 g7 c8 a9 a10 a11 a12 a13 a14 c16) (laws_FnForcesSharedOfAll_c9 a0 g1 a2 g3 a4 g5 a6 g7 c8 a9 a10 a11 a12 a13 a14 c16)) (br (z2g (laws_FnForcesSharedOfAll_c1 a0 g1 a2 g3 a4 g5 a6 g7 c8 a9 a10 a11 a12 a13 a14 c15) (laws_FnForcesSharedOfAll_c7 a0 g1 a2 g3 a4 g5 a6 g7 c8 a9 a10 a11 a12 a13 a14 c15) (laws_FnForcesSharedOfAll_c0 a0 g1 a2 g3 a4 g5 a6 g7 c8 a9 a10 a11 a12 a13 a14 c16) (laws_FnForcesSharedOfAll_c9 a0 g1 a2 g3 a4 g5 a6 g7 c8 a9 a10 a11 a12 a13 a14 c16)) (grd (z31 (laws_FnForcesSharedOfAll_c5 a0 g1 a2 g3 a4 g5 a6 g7 c8 a9 a10 a11 a12 a13 a14 c15) (laws_FnForcesSharedOfAll_c8 a0 g1 a2 g3 a4 g5 a6 g7 c8 a9 a10 a11 a12 a13 a14 c15) (laws_FnForcesSharedOfAll_c3 a0 g1 a2 g3 a4 g5 a6 g7 c8 a9 a10 a11 a12 a13 a14 c16) (laws_FnForcesSharedOfAll_c10 a0 g1 a2 g3 a4 g5 a6 g7 c8 a9 a10 a11 a12 a13 a14 c16)) (k_ (z2g (laws_FnForcesSharedOfAll_c5 a0 g1 a2 g3 a4 g5 a6 g7 c8 a9 a10 a11 a12 a13 a14 c15) (laws_FnForcesSharedOfAll_c8 a0 g1 a2 g3 a4 g5 a6 g7 c8 a9 a10 a11 a12 a13 a14 c15) (laws_FnForcesSharedOfAll_c3 a0 g1 a2 g3 a4 g5 a6 g7 c8 a9 a10 a11 a12 a13 a14 c16) (laws_FnForcesSharedOfAll_c10 a0 g1 a2 g3 a4 g5 a6 g7 c8 a9 a10 a11 a12 a13 a14 c16)))) (k_ Bool.false)))) (k_ Bool.false)))))))))))
def z3c:Option (Bool):=z49 a0 g1 a2 g3 a4 g5 a6 g7 c8 a9 a10 a11 a12 a13 a14 c15 c16 (fun c0_=>some c0_)
theorem zl3{R R':Type}(o:Option R→Option R')(h0:o none=none)(k_:Bool→Option R):z49 a0 g1 a2 g3 a4 g5 a6 g7 c8 a9 a10 a11 a12 a13 a14 c15 c16 (fun c0_=>o (k_ c0_))=o (z49 a0 g1 a2 g3 a4 g5 a6 g7 c8 a9 a10 a11 a12 a13 a14 c15 c16 k_):=by
 unfold z49
 repeat (first | refine grd_out h0 ?_ | refine br_out ?_ ?_ | rfl | exact h0.symm)
def laws_FnForcesSharedOfAll_p:Bool:=(z3c a0 g1 a2 g3 a4 g5 a6 g7 c8 a9 a10 a11 a12 a13 a14 c15 c16).isSome
def laws_FnForcesSharedOfAll_v0:Bool:=((z3c a0 g1 a2 g3 a4 g5 a6 g7 c8 a9 a10 a11 a12 a13 a14 c15 c16).getD default)
end
section
variable {a0:Nat} {c0:Int} {a1:Nat} {c1:Int} {e1:Bool} {g1:List Nat} {m1:List Bool} {a2:Nat} {c2:Int} {e2:Bool} {g2:List Nat} {a3:Nat} {c3:Int} {e3:Bool} {g3:List Nat} {m3:List Bool} {a4:Nat} {c4:Int} {e4:Bool} {g4:List Nat} {a5:Nat} {c5:Int} {g5:List Nat} {a6:Nat} {c6:Int} {e6:Bool} {g6:List Nat} {a7:Nat} {c7:Int} {g7:List Nat} {a8:Nat} {c8:Int} {a9:Nat} {a10:Nat} {a11:Nat} {c11:Int} {e11:Bool} {a12:Nat} {c12:Int} {e12:Bool} {a13:Nat} {e13:Bool} {a14:Nat} {a15:Nat} {c15:Int} {e15:Bool} {a16:Nat} {c16:Int} {c17:Int} {e17:Bool} {a18:Nat} {g18:List Nat} {g19:List Nat} {a20:Nat}
theorem zia(h:zbq c0 c1 c2=some e3):z5z c0 c1 c2=true∧z3b c0 c1 c2=e3:=by
 unfold z5z z3b
 rw[h]
 exact⟨rfl,rfl⟩
theorem z3n(h:zbz a0=some e1):z26 a0=true∧z1t a0=e1:=by
 unfold z26 z1t
 rw[h]
 exact⟨rfl,rfl⟩
theorem zji(h:ze3 c0 c1 c2=some e3):zeo c0 c1 c2=true∧zbn c0 c1 c2=e3:=by
 unfold zeo zbn
 rw[h]
 exact⟨rfl,rfl⟩
theorem zyw(h:zbo a0 a1=some e2):zjg a0 a1=true∧zir a0 a1=e2:=by
 unfold zjg zir
 rw[h]
 exact⟨rfl,rfl⟩
theorem z2d(h:zak a0=some e1):z0t a0=true∧z0n a0=e1:=by
 unfold z0t z0n
 rw[h]
 exact⟨rfl,rfl⟩
theorem zoq(h:z8r a0 a1 a2=some e3):zcf a0 a1 a2=true∧zaf a0 a1 a2=e3:=by
 unfold zcf zaf
 rw[h]
 exact⟨rfl,rfl⟩
theorem zpz(h:z50 a0 g1 a2 g3 a4 g5 a6 g7 c8 a9 a10 c11=some a12):z8n a0 g1 a2 g3 a4 g5 a6 g7 c8 a9 a10 c11=true∧z5t a0 g1 a2 g3 a4 g5 a6 g7 c8 a9 a10 c11=a12:=by
 unfold z8n z5t
 rw[h]
 exact⟨rfl,rfl⟩
theorem zyi(h:zbm a0 g1 a2 g3 a4 g5 a6 g7 c8 a9 a10 c11 a12=some a13):zje a0 g1 a2 g3 a4 g5 a6 g7 c8 a9 a10 c11 a12=true∧zeh a0 g1 a2 g3 a4 g5 a6 g7 c8 a9 a10 c11 a12=a13:=by
 unfold zje zeh
 rw[h]
 exact⟨rfl,rfl⟩
theorem zt4(h:z6b a0 g1 a2 g3 a4 g5 a6 g7 c8 a9 a10 c11=some a12):zce a0 g1 a2 g3 a4 g5 a6 g7 c8 a9 a10 c11=true∧z7l a0 g1 a2 g3 a4 g5 a6 g7 c8 a9 a10 c11=a12:=by
 unfold zce z7l
 rw[h]
 exact⟨rfl,rfl⟩
theorem zzo(h:zhd a0 a1 a2=some a3):zhn a0 a1 a2=true∧zg3 a0 a1 a2=a3:=by
 unfold zhn zg3
 rw[h]
 exact⟨rfl,rfl⟩
theorem zni(h:z7y a0=some a1):zaj a0=true∧z7d a0=a1:=by
 unfold zaj z7d
 rw[h]
 exact⟨rfl,rfl⟩
theorem y0z(h:zif a0=some a1):znk a0=true∧zmj a0=a1:=by
 unfold znk zmj
 rw[h]
 exact⟨rfl,rfl⟩
theorem zy4{r:Nat×Bool}(h:z7v a0=some r):zih a0=true∧zh8 a0=r.1∧zh5 a0=r.2:=by
 unfold zih zh8 zh5
 rw[h]
 exact⟨rfl,rfl,rfl⟩
theorem zft(h:z8t a0=some e1):z6v a0=true∧z64 a0=e1:=by
 unfold z6v z64
 rw[h]
 exact⟨rfl,rfl⟩
theorem zko(h:za6 a0=some e1):ze7 a0=true∧zci a0=e1:=by
 unfold ze7 zci
 rw[h]
 exact⟨rfl,rfl⟩
theorem zqj(h:z5g a0=some e1):za0 a0=true∧z8s a0=e1:=by
 unfold za0 z8s
 rw[h]
 exact⟨rfl,rfl⟩
theorem zo1(h:z8f a0=some e1):z5n a0=true∧z56 a0=e1:=by
 unfold z5n z56
 rw[h]
 exact⟨rfl,rfl⟩
theorem zw7(h:z8q a0 g1 a2 g3 a4 g5 a6 g7 c8 a9 a10 c11 a12=some e13):zh4 a0 g1 a2 g3 a4 g5 a6 g7 c8 a9 a10 c11 a12=true∧zfi a0 g1 a2 g3 a4 g5 a6 g7 c8 a9 a10 c11 a12=e13:=by
 unfold zh4 zfi
 rw[h]
 exact⟨rfl,rfl⟩
theorem zzb{r:Nat×Nat×Bool}(h:z7f a0 a1=some r):zgb a0 a1=true∧za9 a0 a1=r.1∧za7 a0 a1=r.2.1∧zaa a0 a1=r.2.2:=by
 unfold zgb za9 za7 zaa
 rw[h]
 exact⟨rfl,rfl,rfl,rfl⟩
theorem zsr(h:z6j a0=some e1):zbx a0=true∧zb1 a0=e1:=by
 unfold zbx zb1
 rw[h]
 exact⟨rfl,rfl⟩
theorem zp3(h:z4f a0 g1 a2 g3 a4 g5 a6 g7 c8 a9 a10 c11=some e12):z84 a0 g1 a2 g3 a4 g5 a6 g7 c8 a9 a10 c11=true∧z7i a0 g1 a2 g3 a4 g5 a6 g7 c8 a9 a10 c11=e12:=by
 unfold z84 z7i
 rw[h]
 exact⟨rfl,rfl⟩
theorem zyp(h:zbp a0=some e1):zjh a0=true∧zic a0=e1:=by
 unfold zjh zic
 rw[h]
 exact⟨rfl,rfl⟩
theorem zyc(h:zbr a0=some e1):zjm a0=true∧zi8 a0=e1:=by
 unfold zjm zi8
 rw[h]
 exact⟨rfl,rfl⟩
theorem zl8(hm:a5=big) (h:z07 a0 e1 c2 m3 a5 c4=some (Sum.inl c6)):z2s a0 e1 c2 m3 c4=true∧z2h a0 e1 c2 m3 c4=true∧z4c a0 e1 c2 m3 c4=c6:=by
 subst hm
 unfold z2s z2h z4c
 rw[h]
 exact⟨rfl,rfl,rfl⟩
theorem zl4{r:Int×Bool}(hm:a5=big) (h:z07 a0 e1 c2 m3 a5 c4=some (Sum.inr r)):z2s a0 e1 c2 m3 c4=true∧z2h a0 e1 c2 m3 c4=false∧z6l a0 e1 c2 m3 c4=r.1∧z6m a0 e1 c2 m3 c4=r.2:=by
 subst hm
 unfold z2s z2h z6l z6m
 rw[h]
 exact⟨rfl,rfl,rfl,rfl⟩
theorem zn7(h:z3p a0 m1 e2=some c3):z6k a0 m1 e2=true∧z5x a0 m1 e2=c3:=by
 unfold z6k z5x
 rw[h]
 exact⟨rfl,rfl⟩
theorem ztz(h:z78 a0=some e1):zdt a0=true∧zca a0=e1:=by
 unfold zdt zca
 rw[h]
 exact⟨rfl,rfl⟩
theorem zzr(h:zed a0=some a1):zl0 a0=true∧z8y a0=a1:=by
 unfold zl0 z8y
 rw[h]
 exact⟨rfl,rfl⟩
theorem zqr{r:Int×Bool}(hm:a5=big) (h:z1n a0 a1 g2 g3 a5 c4=some (Sum.inr r)):zb3 a0 a1 g2 g3 c4=true∧z9y a0 a1 g2 g3 c4=false∧zcy a0 a1 g2 g3 c4=r.1∧zd7 a0 a1 g2 g3 c4=r.2:=by
 subst hm
 unfold zb3 z9y zcy zd7
 rw[h]
 exact⟨rfl,rfl,rfl,rfl⟩
theorem zop{r:Nat×Int×Bool}(hm:a3=big)(h:z0k a0 a3 a1 c2=some r):z0y a0 a1 c2=true∧z05 a0 a1 c2=r.1∧z9o a0 a1 c2=r.2.1∧z9r a0 a1 c2=r.2.2:=by
 subst hm
 unfold z0y z05 z9o z9r
 rw[h]
 exact⟨rfl,rfl,rfl,rfl⟩
theorem zng(h:z7w a0 g1 a2 g3=some e4):z31 a0 g1 a2 g3=true∧z2g a0 g1 a2 g3=e4:=by
 unfold z31 z2g
 rw[h]
 exact⟨rfl,rfl⟩
theorem zlh(h:z2r a0 m1 e2=some e3):z2t a0 m1 e2=true∧z2i a0 m1 e2=e3:=by
 unfold z2t z2i
 rw[h]
 exact⟨rfl,rfl⟩
theorem zsk(h:z3e a0=some a1):zc9 a0=true∧z7n a0=a1:=by
 unfold zc9 z7n
 rw[h]
 exact⟨rfl,rfl⟩
theorem ztp(h:z72 a0=some a1):zdl a0=true∧z08 a0=a1:=by
 unfold zdl z08
 rw[h]
 exact⟨rfl,rfl⟩
theorem zuw{r:Unit}(hm:a8=big) (h:z2x c0 g1 g2 g3 a4 a5 a6 a8 c7=some (Sum.inl r)):z5p c0 g1 g2 g3 a4 a5 a6 c7=true∧z54 c0 g1 g2 g3 a4 a5 a6 c7=true:=by
 subst hm
 unfold z5p z54
 rw[h]
 exact⟨rfl,rfl⟩
theorem zv9{r:Int×Bool}(hm:a8=big) (h:z2x c0 g1 g2 g3 a4 a5 a6 a8 c7=some (Sum.inr r)):z5p c0 g1 g2 g3 a4 a5 a6 c7=true∧z54 c0 g1 g2 g3 a4 a5 a6 c7=false∧zhu c0 g1 g2 g3 a4 a5 a6 c7=r.1∧zh9 c0 g1 g2 g3 a4 a5 a6 c7=r.2:=by
 subst hm
 unfold z5p z54 zhu zh9
 rw[h]
 exact⟨rfl,rfl,rfl,rfl⟩
theorem zbf(hm:a4=big) (h:z01 a0 c1 g2 a4 c3=some (Sum.inl c5)):z0m a0 c1 g2 c3=true∧z0j a0 c1 g2 c3=true∧z1g a0 c1 g2 c3=c5:=by
 subst hm
 unfold z0m z0j z1g
 rw[h]
 exact⟨rfl,rfl,rfl⟩
theorem zbh{r:Int×Bool}(hm:a4=big) (h:z01 a0 c1 g2 a4 c3=some (Sum.inr r)):z0m a0 c1 g2 c3=true∧z0j a0 c1 g2 c3=false∧z38 a0 c1 g2 c3=r.1∧z39 a0 c1 g2 c3=r.2:=by
 subst hm
 unfold z0m z0j z38 z39
 rw[h]
 exact⟨rfl,rfl,rfl,rfl⟩
theorem zd8(hm:a4=big) (h:z02 a0 c1 g2 a4 c3=some (Sum.inl c5)):z0r a0 c1 g2 c3=true∧z0p a0 c1 g2 c3=true∧z1o a0 c1 g2 c3=c5:=by
 subst hm
 unfold z0r z0p z1o
 rw[h]
 exact⟨rfl,rfl,rfl⟩
theorem zcu{r:Int×Bool}(hm:a4=big) (h:z02 a0 c1 g2 a4 c3=some (Sum.inr r)):z0r a0 c1 g2 c3=true∧z0p a0 c1 g2 c3=false∧z3f a0 c1 g2 c3=r.1∧z3g a0 c1 g2 c3=r.2:=by
 subst hm
 unfold z0r z0p z3f z3g
 rw[h]
 exact⟨rfl,rfl,rfl,rfl⟩
theorem zzl(h:zea a0 g1 a2 g3 a4 g5=some e6):zkq a0 g1 a2 g3 a4 g5=true∧zjd a0 g1 a2 g3 a4 g5=e6:=by
 unfold zkq zjd
 rw[h]
 exact⟨rfl,rfl⟩
theorem zee(h:z0v a0 g1=some c2):z2a a0 g1=true∧z22 a0 g1=c2:=by
 unfold z2a z22
 rw[h]
 exact⟨rfl,rfl⟩
theorem zfd(h:z10 a0 g1=some c2):z2w a0 g1=true∧z2j a0 g1=c2:=by
 unfold z2w z2j
 rw[h]
 exact⟨rfl,rfl⟩
theorem z8l(h:z7t a0=some a1):z5f a0=true∧z19 a0=a1:=by
 unfold z5f z19
 rw[h]
 exact⟨rfl,rfl⟩
theorem zdf(hm:a4=big) (h:z04 a0 c1 g2 a4 c3=some (Sum.inl c5)):z0w a0 c1 g2 c3=true∧z0q a0 c1 g2 c3=true∧z1x a0 c1 g2 c3=c5:=by
 subst hm
 unfold z0w z0q z1x
 rw[h]
 exact⟨rfl,rfl,rfl⟩
theorem zde{r:Int×Bool}(hm:a4=big) (h:z04 a0 c1 g2 a4 c3=some (Sum.inr r)):z0w a0 c1 g2 c3=true∧z0q a0 c1 g2 c3=false∧z3m a0 c1 g2 c3=r.1∧z3k a0 c1 g2 c3=r.2:=by
 subst hm
 unfold z0w z0q z3m z3k
 rw[h]
 exact⟨rfl,rfl,rfl,rfl⟩
theorem zfz(h:z13 a0 g1=some c2):z34 a0 g1=true∧z2v a0 g1=c2:=by
 unfold z34 z2v
 rw[h]
 exact⟨rfl,rfl⟩
theorem zs5(h:zey a0=some a1):zi0 a0=true∧z5y a0=a1:=by
 unfold zi0 z5y
 rw[h]
 exact⟨rfl,rfl⟩
theorem zwf{r:Nat×Nat×Bool}(hm:a3=big)(h:z2u a0 a3 a1 a2=some r):z6g a0 a1 a2=true∧z4g a0 a1 a2=r.1∧zit a0 a1 a2=r.2.1∧ziw a0 a1 a2=r.2.2:=by
 subst hm
 unfold z6g z4g zit ziw
 rw[h]
 exact⟨rfl,rfl,rfl,rfl⟩
theorem zc5(h:z0l a0 g1=some e2):z1w a0 g1=true∧z1r a0 g1=e2:=by
 unfold z1w z1r
 rw[h]
 exact⟨rfl,rfl⟩
theorem zdh(h:z0s a0 g1=some e2):z27 a0 g1=true∧z21 a0 g1=e2:=by
 unfold z27 z21
 rw[h]
 exact⟨rfl,rfl⟩
theorem zek(h:z0u a0 g1=some e2):z2c a0 g1=true∧z28 a0 g1=e2:=by
 unfold z2c z28
 rw[h]
 exact⟨rfl,rfl⟩
theorem y0a(h:zge a0=some a1):zmi a0=true∧zhq a0=a1:=by
 unfold zmi zhq
 rw[h]
 exact⟨rfl,rfl⟩
theorem zun(h:z7x a0=some a1):zfr a0=true∧z0o a0=a1:=by
 unfold zfr z0o
 rw[h]
 exact⟨rfl,rfl⟩
theorem zy6(h:za5 a0=some a1):zig a0=true∧z3d a0=a1:=by
 unfold zig z3d
 rw[h]
 exact⟨rfl,rfl⟩
theorem zvc{r:Unit}(hm:a6=big) (h:z18 c0 g1 a2 a3 a6 a4 c5=some (Sum.inl r)):z6w c0 g1 a2 a3 a4 c5=true∧z69 c0 g1 a2 a3 a4 c5=true:=by
 subst hm
 unfold z6w z69
 rw[h]
 exact⟨rfl,rfl⟩
theorem zvo{r:Nat×Int×Bool}(hm:a6=big) (h:z18 c0 g1 a2 a3 a6 a4 c5=some (Sum.inr r)):z6w c0 g1 a2 a3 a4 c5=true∧z69 c0 g1 a2 a3 a4 c5=false∧zhj c0 g1 a2 a3 a4 c5=r.1∧zhf c0 g1 a2 a3 a4 c5=r.2.1∧zho c0 g1 a2 a3 a4 c5=r.2.2:=by
 subst hm
 unfold z6w z69 zhj zhf zho
 rw[h]
 exact⟨rfl,rfl,rfl,rfl,rfl⟩
theorem zgu(h:z2q a0 g1=some e2):z57 a0 g1=true∧z4o a0 g1=e2:=by
 unfold z57 z4o
 rw[h]
 exact⟨rfl,rfl⟩
theorem zmz(h:ze8 a0 g1 a2 g3 a4 g5 a6 g7 c8 a9 a10=some e11):zhv a0 g1 a2 g3 a4 g5 a6 g7 c8 a9 a10=true∧zg1 a0 g1 a2 g3 a4 g5 a6 g7 c8 a9 a10=e11:=by
 unfold zhv zg1
 rw[h]
 exact⟨rfl,rfl⟩
theorem zne(h:z63 a0 g1=some e2):zap a0 g1=true∧z9a a0 g1=e2:=by
 unfold zap z9a
 rw[h]
 exact⟨rfl,rfl⟩
theorem zx2(h:z8i a0 g1=some e2):zh6 a0 g1=true∧zfm a0 g1=e2:=by
 unfold zh6 zfm
 rw[h]
 exact⟨rfl,rfl⟩
theorem z7e(h:z80 a0=some a1):z3o a0=true∧z17 a0=a1:=by
 unfold z3o z17
 rw[h]
 exact⟨rfl,rfl⟩
theorem zu2{r:Nat×Nat×Bool}(h:z4h a0 a1=some r):z95 a0 a1=true∧z8a a0 a1=r.1∧z8b a0 a1=r.2.1∧z89 a0 a1=r.2.2:=by
 unfold z95 z8a z8b z89
 rw[h]
 exact⟨rfl,rfl,rfl,rfl⟩
theorem ztx(h:z79 a0 g1 a2 g3 a4 g5 a6 g7 c8 a9 a10 c11=some e12):zdo a0 g1 a2 g3 a4 g5 a6 g7 c8 a9 a10 c11=true∧zc1 a0 g1 a2 g3 a4 g5 a6 g7 c8 a9 a10 c11=e12:=by
 unfold zdo zc1
 rw[h]
 exact⟨rfl,rfl⟩
theorem zpr(h:z4v a0 g1 a2 g3 a4 g5 a6 g7 c8 a9 a10 c11 a12=some a13):z8u a0 g1 a2 g3 a4 g5 a6 g7 c8 a9 a10 c11 a12=true∧z5w a0 g1 a2 g3 a4 g5 a6 g7 c8 a9 a10 c11 a12=a13:=by
 unfold z8u z5w
 rw[h]
 exact⟨rfl,rfl⟩
theorem zbb(hm:a5=big) (h:z00 a0 c1 g2 a3 a5 c4=some (Sum.inl c6)):z0i a0 c1 g2 a3 c4=true∧z0h a0 c1 g2 a3 c4=true∧z03 a0 c1 g2 a3 c4=c6:=by
 subst hm
 unfold z0i z0h z03
 rw[h]
 exact⟨rfl,rfl,rfl⟩
theorem zb7{r:Int×Bool}(hm:a5=big) (h:z00 a0 c1 g2 a3 a5 c4=some (Sum.inr r)):z0i a0 c1 g2 a3 c4=true∧z0h a0 c1 g2 a3 c4=false∧z33 a0 c1 g2 a3 c4=r.1∧z2y a0 c1 g2 a3 c4=r.2:=by
 subst hm
 unfold z0i z0h z33 z2y
 rw[h]
 exact⟨rfl,rfl,rfl,rfl⟩
theorem zlp{r:Int×Bool}(hm:a4=big)(h:z2f a0 g1 a2 a4 c3=some r):zdy a0 g1 a2 c3=true∧z9b a0 g1 a2 c3=r.1∧zfl a0 g1 a2 c3=r.2:=by
 subst hm
 unfold zdy z9b zfl
 rw[h]
 exact⟨rfl,rfl,rfl⟩
theorem zyg(h:zbl a0 g1 a2 g3 a4 g5 a6 g7 c8 a9 a10 c11 a12 a13 a14=some e15):zjn a0 g1 a2 g3 a4 g5 a6 g7 c8 a9 a10 c11 a12 a13 a14=true∧zii a0 g1 a2 g3 a4 g5 a6 g7 c8 a9 a10 c11 a12 a13 a14=e15:=by
 unfold zjn zii
 rw[h]
 exact⟨rfl,rfl⟩
theorem zp0{r:Int×Int×Nat×Nat×Nat}(h:z16 a0 g1 a2 g3 a4 g5 a6=some r):z87 a0 g1 a2 g3 a4 g5 a6=true∧z1l a0 g1 a2 g3 a4 g5 a6=r.1∧z1j a0 g1 a2 g3 a4 g5 a6=r.2.1∧z29 a0 g1 a2 g3 a4 g5 a6=r.2.2.1∧z44 a0 g1 a2 g3 a4 g5 a6=r.2.2.2.1∧z5k a0 g1 a2 g3 a4 g5 a6=r.2.2.2.2:=by
 unfold z87 z1l z1j z29 z44 z5k
 rw[h]
 exact⟨rfl,rfl,rfl,rfl,rfl,rfl⟩
theorem zxd{r:Int×Int×Nat×Nat}(h:z4e a0 g1 a2 g3 a4 g5 a6=some r):zip a0 g1 a2 g3 a4 g5 a6=true∧z6r a0 g1 a2 g3 a4 g5 a6=r.1∧zcb a0 g1 a2 g3 a4 g5 a6=r.2.1∧zh7 a0 g1 a2 g3 a4 g5 a6=r.2.2.1∧zkj a0 g1 a2 g3 a4 g5 a6=r.2.2.2:=by
 unfold zip z6r zcb zh7 zkj
 rw[h]
 exact⟨rfl,rfl,rfl,rfl,rfl⟩
theorem zoa{r:Unit}(hm:a5=big) (h:z0x a0 c1 g2 a3 a5 c4=some (Sum.inl r)):z3i a0 c1 g2 a3 c4=true∧z3a a0 c1 g2 a3 c4=true:=by
 subst hm
 unfold z3i z3a
 rw[h]
 exact⟨rfl,rfl⟩
theorem zo3{r:Int×Bool}(hm:a5=big) (h:z0x a0 c1 g2 a3 a5 c4=some (Sum.inr r)):z3i a0 c1 g2 a3 c4=true∧z3a a0 c1 g2 a3 c4=false∧z9x a0 c1 g2 a3 c4=r.1∧z9t a0 c1 g2 a3 c4=r.2:=by
 subst hm
 unfold z3i z3a z9x z9t
 rw[h]
 exact⟨rfl,rfl,rfl,rfl⟩
theorem zkn(h:z35 a0 g1 a2 g3 a4 g5=some e6):zb0 a0 g1 a2 g3 a4 g5=true∧z9e a0 g1 a2 g3 a4 g5=e6:=by
 unfold zb0 z9e
 rw[h]
 exact⟨rfl,rfl⟩
theorem zmk(h:z73 a0 g1 a2 g3 a4 g5 a6 g7 a8=some a9):z91 a0 g1 a2 g3 a4 g5 a6 g7 a8=true∧z5a a0 g1 a2 g3 a4 g5 a6 g7 a8=a9:=by
 unfold z91 z5a
 rw[h]
 exact⟨rfl,rfl⟩
theorem zs6(h:zez a0 g1 a2 g3 a4 g5 a6 g7 a8=some a9):zi1 a0 g1 a2 g3 a4 g5 a6 g7 a8=true∧zg9 a0 g1 a2 g3 a4 g5 a6 g7 a8=a9:=by
 unfold zi1 zg9
 rw[h]
 exact⟨rfl,rfl⟩
theorem zlb{r:Nat×Nat}(h:z3q a0 g1 a2 g3 a4 g5 a6 g7 c8 a9 a10 c11 a12 a13=some r):z7o a0 g1 a2 g3 a4 g5 a6 g7 c8 a9 a10 c11 a12 a13=true∧z6u a0 g1 a2 g3 a4 g5 a6 g7 c8 a9 a10 c11 a12 a13=r.1∧z6z a0 g1 a2 g3 a4 g5 a6 g7 c8 a9 a10 c11 a12 a13=r.2:=by
 unfold z7o z6u z6z
 rw[h]
 exact⟨rfl,rfl,rfl⟩
theorem zxr(h:za4 a0 g1 a2 g3 a4 g5 a6=some a7):zij a0 g1 a2 g3 a4 g5 a6=true∧zcq a0 g1 a2 g3 a4 g5 a6=a7:=by
 unfold zij zcq
 rw[h]
 exact⟨rfl,rfl⟩
theorem zxt(h:za8 a0 g1 a2 g3 a4 g5 a6=some a7):zi9 a0 g1 a2 g3 a4 g5 a6=true∧zbv a0 g1 a2 g3 a4 g5 a6=a7:=by
 unfold zi9 zbv
 rw[h]
 exact⟨rfl,rfl⟩
theorem zlc{r:Nat×Nat}(h:z4n a0 g1 a2 g3 a4 g5 a6 g7 c8 a9 a10 c11 a12 a13=some r):z7m a0 g1 a2 g3 a4 g5 a6 g7 c8 a9 a10 c11 a12 a13=true∧z6x a0 g1 a2 g3 a4 g5 a6 g7 c8 a9 a10 c11 a12 a13=r.1∧z6t a0 g1 a2 g3 a4 g5 a6 g7 c8 a9 a10 c11 a12 a13=r.2:=by
 unfold z7m z6x z6t
 rw[h]
 exact⟨rfl,rfl,rfl⟩
theorem zv3{r:Nat×Nat}(h:z60 a0 g1 a2 g3 a4 g5 a6 g7 c8 a9 a10 c11 a12 a13=some r):zfx a0 g1 a2 g3 a4 g5 a6 g7 c8 a9 a10 c11 a12 a13=true∧z99 a0 g1 a2 g3 a4 g5 a6 g7 c8 a9 a10 c11 a12 a13=r.1∧z98 a0 g1 a2 g3 a4 g5 a6 g7 c8 a9 a10 c11 a12 a13=r.2:=by
 unfold zfx z99 z98
 rw[h]
 exact⟨rfl,rfl,rfl⟩
theorem zpw{r:Unit}(hm:a6=big) (h:z0f a0 c1 g2 a3 a6 a4 c5=some (Sum.inl r)):z47 a0 c1 g2 a3 a4 c5=true∧z3v a0 c1 g2 a3 a4 c5=true:=by
 subst hm
 unfold z47 z3v
 rw[h]
 exact⟨rfl,rfl⟩
theorem zpm{r:Nat×Int×Bool}(hm:a6=big) (h:z0f a0 c1 g2 a3 a6 a4 c5=some (Sum.inr r)):z47 a0 c1 g2 a3 a4 c5=true∧z3v a0 c1 g2 a3 a4 c5=false∧zbe a0 c1 g2 a3 a4 c5=r.1∧zbg a0 c1 g2 a3 a4 c5=r.2.1∧zbc a0 c1 g2 a3 a4 c5=r.2.2:=by
 subst hm
 unfold z47 z3v zbe zbg zbc
 rw[h]
 exact⟨rfl,rfl,rfl,rfl,rfl⟩
theorem zhe(h:z4k a0 g1 a2 g3 a4 g5 a6 g7 c8 a9 a10=some e11):z77 a0 g1 a2 g3 a4 g5 a6 g7 c8 a9 a10=true∧z55 a0 g1 a2 g3 a4 g5 a6 g7 c8 a9 a10=e11:=by
 unfold z77 z55
 rw[h]
 exact⟨rfl,rfl⟩
theorem zp6{r:Nat×Nat×Nat×Nat}(h:z5d a0 g1 a2 g3 a4 g5 a6 g7 c8 a9 a10 c11 a12 a13=some r):zew a0 g1 a2 g3 a4 g5 a6 g7 c8 a9 a10 c11 a12 a13=true∧zcc a0 g1 a2 g3 a4 g5 a6 g7 c8 a9 a10 c11 a12 a13=r.1∧zcj a0 g1 a2 g3 a4 g5 a6 g7 c8 a9 a10 c11 a12 a13=r.2.1∧zgz a0 g1 a2 g3 a4 g5 a6 g7 c8 a9 a10 c11 a12 a13=r.2.2.1∧zh2 a0 g1 a2 g3 a4 g5 a6 g7 c8 a9 a10 c11 a12 a13=r.2.2.2:=by
 unfold zew zcc zcj zgz zh2
 rw[h]
 exact⟨rfl,rfl,rfl,rfl,rfl⟩
theorem zq5(h:z46 a0 g1 a2 g3 a4 g5 a6 g7 c8 a9 a10 c11 a12 a13 a14 a15=some a16):z9f a0 g1 a2 g3 a4 g5 a6 g7 c8 a9 a10 c11 a12 a13 a14 a15=true∧z4z a0 g1 a2 g3 a4 g5 a6 g7 c8 a9 a10 c11 a12 a13 a14 a15=a16:=by
 unfold z9f z4z
 rw[h]
 exact⟨rfl,rfl⟩
theorem zp9(h:zab a0 g1 a2 g3 a4 g5 a6 g7 c8 a9 a10 c11 a12 a13 a14=some e15):zen a0 g1 a2 g3 a4 g5 a6 g7 c8 a9 a10 c11 a12 a13 a14=true∧zcd a0 g1 a2 g3 a4 g5 a6 g7 c8 a9 a10 c11 a12 a13 a14=e15:=by
 unfold zen zcd
 rw[h]
 exact⟨rfl,rfl⟩
theorem zud(h:z4j a0 g1 a2 g3 a4 g5 a6 g7 c8 a9 a10 c11 a12 a13 a14 a15=some a16):zdm a0 g1 a2 g3 a4 g5 a6 g7 c8 a9 a10 c11 a12 a13 a14 a15=true∧z6f a0 g1 a2 g3 a4 g5 a6 g7 c8 a9 a10 c11 a12 a13 a14 a15=a16:=by
 unfold zdm z6f
 rw[h]
 exact⟨rfl,rfl⟩
theorem zv8{r:Nat×Bool}(h:z62 a0 g1 a2 g3 a4 g5 a6 g7 c8 a9 a10 c11 a12 a13 a14 a15=some r):zfh a0 g1 a2 g3 a4 g5 a6 g7 c8 a9 a10 c11 a12 a13 a14 a15=true∧zdw a0 g1 a2 g3 a4 g5 a6 g7 c8 a9 a10 c11 a12 a13 a14 a15=r.1∧zdu a0 g1 a2 g3 a4 g5 a6 g7 c8 a9 a10 c11 a12 a13 a14 a15=r.2:=by
 unfold zfh zdw zdu
 rw[h]
 exact⟨rfl,rfl,rfl⟩
theorem zqd{r:Unit}(hm:a18=big) (h:z0g c0 a1 a2 a3 g4 g5 g6 g7 a8 a9 a10 a11 c12 a13 a14 a18 a15 a16 c17=some (Sum.inl r)):z5q c0 a1 a2 a3 g4 g5 g6 g7 a8 a9 a10 a11 c12 a13 a14 a15 a16 c17=true∧z5e c0 a1 a2 a3 g4 g5 g6 g7 a8 a9 a10 a11 c12 a13 a14 a15 a16 c17=true:=by
 subst hm
 unfold z5q z5e
 rw[h]
 exact⟨rfl,rfl⟩
theorem zqa{r:Nat×Nat×Int×Bool}(hm:a18=big) (h:z0g c0 a1 a2 a3 g4 g5 g6 g7 a8 a9 a10 a11 c12 a13 a14 a18 a15 a16 c17=some (Sum.inr r)):z5q c0 a1 a2 a3 g4 g5 g6 g7 a8 a9 a10 a11 c12 a13 a14 a15 a16 c17=true∧z5e c0 a1 a2 a3 g4 g5 g6 g7 a8 a9 a10 a11 c12 a13 a14 a15 a16 c17=false∧z85 c0 a1 a2 a3 g4 g5 g6 g7 a8 a9 a10 a11 c12 a13 a14 a15 a16 c17=r.1∧zd4 c0 a1 a2 a3 g4 g5 g6 g7 a8 a9 a10 a11 c12 a13 a14 a15 a16 c17=r.2.1∧zdc c0 a1 a2 a3 g4 g5 g6 g7 a8 a9 a10 a11 c12 a13 a14 a15 a16 c17=r.2.2.1∧zcz c0 a1 a2 a3 g4 g5 g6 g7 a8 a9 a10 a11 c12 a13 a14 a15 a16 c17=r.2.2.2:=by
 subst hm
 unfold z5q z5e z85 zd4 zdc zcz
 rw[h]
 exact⟨rfl,rfl,rfl,rfl,rfl,rfl⟩
theorem zv6{r:Nat×Bool}(h:z6a a0 g1 a2 g3 a4 g5 a6 g7 c8 a9 a10 c11 a12 a13 a14=some r):zfs a0 g1 a2 g3 a4 g5 a6 g7 c8 a9 a10 c11 a12 a13 a14=true∧zdx a0 g1 a2 g3 a4 g5 a6 g7 c8 a9 a10 c11 a12 a13 a14=r.1∧ze1 a0 g1 a2 g3 a4 g5 a6 g7 c8 a9 a10 c11 a12 a13 a14=r.2:=by
 unfold zfs zdx ze1
 rw[h]
 exact⟨rfl,rfl,rfl⟩
theorem zug{r:Unit}(hm:a18=big) (h:z11 c0 a1 a2 a3 g4 g5 g6 g7 a8 a9 a10 a11 c12 a13 a14 a18 a15 a16 c17=some (Sum.inl r)):z7u c0 a1 a2 a3 g4 g5 g6 g7 a8 a9 a10 a11 c12 a13 a14 a15 a16 c17=true∧z71 c0 a1 a2 a3 g4 g5 g6 g7 a8 a9 a10 a11 c12 a13 a14 a15 a16 c17=true:=by
 subst hm
 unfold z7u z71
 rw[h]
 exact⟨rfl,rfl⟩
theorem ztc{r:Nat×Nat×Int×Bool}(hm:a18=big) (h:z11 c0 a1 a2 a3 g4 g5 g6 g7 a8 a9 a10 a11 c12 a13 a14 a18 a15 a16 c17=some (Sum.inr r)):z7u c0 a1 a2 a3 g4 g5 g6 g7 a8 a9 a10 a11 c12 a13 a14 a15 a16 c17=true∧z71 c0 a1 a2 a3 g4 g5 g6 g7 a8 a9 a10 a11 c12 a13 a14 a15 a16 c17=false∧zb5 c0 a1 a2 a3 g4 g5 g6 g7 a8 a9 a10 a11 c12 a13 a14 a15 a16 c17=r.1∧zgp c0 a1 a2 a3 g4 g5 g6 g7 a8 a9 a10 a11 c12 a13 a14 a15 a16 c17=r.2.1∧zgl c0 a1 a2 a3 g4 g5 g6 g7 a8 a9 a10 a11 c12 a13 a14 a15 a16 c17=r.2.2.1∧zgh c0 a1 a2 a3 g4 g5 g6 g7 a8 a9 a10 a11 c12 a13 a14 a15 a16 c17=r.2.2.2:=by
 subst hm
 unfold z7u z71 zb5 zgp zgl zgh
 rw[h]
 exact⟨rfl,rfl,rfl,rfl,rfl,rfl⟩
theorem zuq{r:Nat×Nat×Bool}(h:z2z a0 g1 a2 g3 a4 g5 a6 g7 c8 a9 a10 c11 a12 a13 a14 a15=some r):zau a0 g1 a2 g3 a4 g5 a6 g7 c8 a9 a10 c11 a12 a13 a14 a15=true∧z7c a0 g1 a2 g3 a4 g5 a6 g7 c8 a9 a10 c11 a12 a13 a14 a15=r.1∧z75 a0 g1 a2 g3 a4 g5 a6 g7 c8 a9 a10 c11 a12 a13 a14 a15=r.2.1∧z94 a0 g1 a2 g3 a4 g5 a6 g7 c8 a9 a10 c11 a12 a13 a14 a15=r.2.2:=by
 unfold zau z7c z75 z94
 rw[h]
 exact⟨rfl,rfl,rfl,rfl⟩
theorem zyy{r:Nat×Bool}(h:z8v a0 g1 a2 g3 a4 g5 a6 g7 c8 a9 a10 c11 a12 a13 a14=some r):zjf a0 g1 a2 g3 a4 g5 a6 g7 c8 a9 a10 c11 a12 a13 a14=true∧zik a0 g1 a2 g3 a4 g5 a6 g7 c8 a9 a10 c11 a12 a13 a14=r.1∧zi5 a0 g1 a2 g3 a4 g5 a6 g7 c8 a9 a10 c11 a12 a13 a14=r.2:=by
 unfold zjf zik zi5
 rw[h]
 exact⟨rfl,rfl,rfl⟩
theorem zqf{r:Nat×Nat×Bool}(h:z2l a0 g1 a2 g3 a4 g5 a6 g7 c8 a9 a10 c11 a12 a13 a14 a15=some r):z5c a0 g1 a2 g3 a4 g5 a6 g7 c8 a9 a10 c11 a12 a13 a14 a15=true∧z4u a0 g1 a2 g3 a4 g5 a6 g7 c8 a9 a10 c11 a12 a13 a14 a15=r.1∧z4y a0 g1 a2 g3 a4 g5 a6 g7 c8 a9 a10 c11 a12 a13 a14 a15=r.2.1∧z4w a0 g1 a2 g3 a4 g5 a6 g7 c8 a9 a10 c11 a12 a13 a14 a15=r.2.2:=by
 unfold z5c z4u z4y z4w
 rw[h]
 exact⟨rfl,rfl,rfl,rfl⟩
theorem zuc{r:Unit}(hm:a20=big) (h:z0e a0 a1 a2 a3 g4 g5 g6 g7 a8 a9 a10 a11 c12 a13 a14 a20 a15 a16 c17 g18 g19=some (Sum.inl r)):z81 a0 a1 a2 a3 g4 g5 g6 g7 a8 a9 a10 a11 c12 a13 a14 a15 a16 c17 g18 g19=true∧z74 a0 a1 a2 a3 g4 g5 g6 g7 a8 a9 a10 a11 c12 a13 a14 a15 a16 c17 g18 g19=true:=by
 subst hm
 unfold z81 z74
 rw[h]
 exact⟨rfl,rfl⟩
theorem zth {r:Nat×Nat×Int×Bool×(List Nat)×(List Nat)} (hm:a20=big) (h:z0e a0 a1 a2 a3 g4 g5 g6 g7 a8 a9 a10 a11 c12 a13 a14 a20 a15 a16 c17 g18 g19=some (Sum.inr r)):z81 a0 a1 a2 a3 g4 g5 g6 g7 a8 a9 a10 a11 c12 a13 a14 a15 a16 c17 g18 g19=true∧z74 a0 a1 a2 a3 g4 g5 g6 g7 a8 a9 a10 a11 c12 a13 a14 a15 a16 c17 g18 g19=false∧zb6 a0 a1 a2 a3 g4 g5 g6 g7 a8 a9 a10 a11 c12 a13 a14 a15 a16 c17 g18 g19=r.1∧zaw a0 a1 a2 a3 g4 g5 g6 g7 a8 a9 a10 a11 c12 a13 a14 a15 a16 c17 g18 g19=r.2.1∧zgi a0 a1 a2 a3 g4 g5 g6 g7 a8 a9 a10 a11 c12 a13 a14 a15 a16 c17 g18 g19=r.2.2.1∧zgt a0 a1 a2 a3 g4 g5 g6 g7 a8 a9 a10 a11 c12 a13 a14 a15 a16 c17 g18 g19=r.2.2.2.1∧zb2 a0 a1 a2 a3 g4 g5 g6 g7 a8 a9 a10 a11 c12 a13 a14 a15 a16 c17 g18 g19=r.2.2.2.2.1∧zax a0 a1 a2 a3 g4 g5 g6 g7 a8 a9 a10 a11 c12 a13 a14 a15 a16 c17 g18 g19=r.2.2.2.2.2:=by
 subst hm
 unfold z81 z74 zb6 zaw zgi zgt zb2 zax
 rw[h]
 exact⟨rfl,rfl,rfl,rfl,rfl,rfl,rfl,rfl⟩
theorem zq6 {r:Nat×Nat×Bool×(List Nat)×(List Nat)} (h:z3t a0 g1 a2 g3 a4 g5 a6 g7 c8 a9 a10 a11 a12 a13 a14=some r):zjk a0 g1 a2 g3 a4 g5 a6 g7 c8 a9 a10 a11 a12 a13 a14=true∧zi7 a0 g1 a2 g3 a4 g5 a6 g7 c8 a9 a10 a11 a12 a13 a14=r.1∧zib a0 g1 a2 g3 a4 g5 a6 g7 c8 a9 a10 a11 a12 a13 a14=r.2.1∧zil a0 g1 a2 g3 a4 g5 a6 g7 c8 a9 a10 a11 a12 a13 a14=r.2.2.1∧zin a0 g1 a2 g3 a4 g5 a6 g7 c8 a9 a10 a11 a12 a13 a14=r.2.2.2.1∧zid a0 g1 a2 g3 a4 g5 a6 g7 c8 a9 a10 a11 a12 a13 a14=r.2.2.2.2:=by
 unfold zjk zi7 zib zil zin zid
 rw[h]
 exact⟨rfl,rfl,rfl,rfl,rfl,rfl⟩
theorem zrx {r:Nat×Nat×Bool×(List Nat)×(List Nat)} (h:z1c a0 g1 a2 g3 a4 g5 a6 g7 c8 a9 a10 a11 a12 a13 a14 c15=some r):zaz a0 g1 a2 g3 a4 g5 a6 g7 c8 a9 a10 a11 a12 a13 a14 c15=true∧z9v a0 g1 a2 g3 a4 g5 a6 g7 c8 a9 a10 a11 a12 a13 a14 c15=r.1∧z9w a0 g1 a2 g3 a4 g5 a6 g7 c8 a9 a10 a11 a12 a13 a14 c15=r.2.1∧z9d a0 g1 a2 g3 a4 g5 a6 g7 c8 a9 a10 a11 a12 a13 a14 c15=r.2.2.1∧z9j a0 g1 a2 g3 a4 g5 a6 g7 c8 a9 a10 a11 a12 a13 a14 c15=r.2.2.2.1∧z9i a0 g1 a2 g3 a4 g5 a6 g7 c8 a9 a10 a11 a12 a13 a14 c15=r.2.2.2.2:=by
 unfold zaz z9v z9w z9d z9j z9i
 rw[h]
 exact⟨rfl,rfl,rfl,rfl,rfl,rfl⟩
theorem laws_FnForcesSharedOfAll_of(h:z3c a0 g1 a2 g3 a4 g5 a6 g7 c8 a9 a10 a11 a12 a13 a14 c15 c16=some e17):laws_FnForcesSharedOfAll_p a0 g1 a2 g3 a4 g5 a6 g7 c8 a9 a10 a11 a12 a13 a14 c15 c16=true∧laws_FnForcesSharedOfAll_v0 a0 g1 a2 g3 a4 g5 a6 g7 c8 a9 a10 a11 a12 a13 a14 c15 c16=e17:=by
 unfold laws_FnForcesSharedOfAll_p laws_FnForcesSharedOfAll_v0
 rw[h]
 exact⟨rfl,rfl⟩
end
end Go.Rf
