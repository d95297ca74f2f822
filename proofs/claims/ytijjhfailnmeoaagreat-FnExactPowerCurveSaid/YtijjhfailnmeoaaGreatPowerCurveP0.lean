import Derived.Test.YtijjhfailnmeoaaGreatB
set_option linter.unusedVariables false
set_option linter.unusedSimpArgs false
set_option linter.unusedSectionVars false
set_option maxRecDepth 100000
set_option maxHeartbeats 4000000
namespace Go.Rf
open Go
noncomputable section
variable (a0:Nat) (c0:Int) (g0:List Nat) (a1:Nat) (c1:Int) (e1:Bool) (g1:List Nat) (m1:List Bool) (a2:Nat) (c2:Int) (e2:Bool) (g2:List Nat) (a3:Nat) (c3:Int) (g3:List Nat) (m3:List Bool) (a4:Nat) (c4:Int) (g4:List Nat) (a5:Nat) (c5:Int) (g5:List Nat) (a6:Nat) (c6:Int) (a7:Nat) (c7:Int) (g7:List Nat) (a8:Nat) (c8:Int) (a9:Nat) (g9:List Nat) (a10:Nat) (a11:Nat) (c11:Int) (g11:List Nat) (a12:Nat) (g12:List Nat) (a13:Nat) (a14:Nat) (g14:List Nat) (a15:Nat) (g16:List Nat) (a17:Nat) (g18:List Nat) (c19:Int) (a20:Nat) (a21:Nat)
abbrev Nt1{A1:Type} (T:{R:Type}→(A1→Option R)→Option R):Prop:=∀ {R R':Type} (o:Option R→Option R'),o none=none→∀ k:A1→Option R,T (fun c1=>o (k c1))=o (T k)
abbrev Nt2{A1 A2:Type} (T:{R:Type}→(A1→A2→Option R)→Option R):Prop:=∀ {R R':Type} (o:Option R→Option R'),o none=none→∀ k:A1→A2→Option R,T (fun c1 c2=>o (k c1 c2))=o (T k)
abbrev Nt3{A1 A2 A3:Type} (T:{R:Type}→(A1→A2→A3→Option R)→Option R):Prop:=∀ {R R':Type} (o:Option R→Option R'),o none=none→∀ k:A1→A2→A3→Option R,T (fun c1 c2 c3=>o (k c1 c2 c3))=o (T k)
abbrev Nt4{A1 A2 A3 A4:Type} (T:{R:Type}→(A1→A2→A3→A4→Option R)→Option R):Prop:=∀ {R R':Type} (o:Option R→Option R'),o none=none→∀ k:A1→A2→A3→A4→Option R,T (fun c1 c2 c3 c4=>o (k c1 c2 c3 c4))=o (T k)
abbrev Nt5{A1 A2 A3 A4 A5:Type} (T:{R:Type}→(A1→A2→A3→A4→A5→Option R)→Option R):Prop:=∀ {R R':Type} (o:Option R→Option R'),o none=none→∀ k:A1→A2→A3→A4→A5→Option R,T (fun c1 c2 c3 c4 c5=>o (k c1 c2 c3 c4 c5))=o (T k)
abbrev Nt6{A1 A2 A3 A4 A5 A6:Type} (T:{R:Type}→(A1→A2→A3→A4→A5→A6→Option R)→Option R):Prop:=∀ {R R':Type} (o:Option R→Option R'),o none=none→∀ k:A1→A2→A3→A4→A5→A6→Option R,T (fun c1 c2 c3 c4 c5 c6=>o (k c1 c2 c3 c4 c5 c6))=o (T k)
abbrev Nt8{A1 A2 A3 A4 A5 A6 A7 A8:Type} (T:{R:Type}→(A1→A2→A3→A4→A5→A6→A7→A8→Option R)→Option R):Prop:=∀ {R R':Type} (o:Option R→Option R'),o none=none→∀ k:A1→A2→A3→A4→A5→A6→A7→A8→Option R,T (fun c1 c2 c3 c4 c5 c6 c7 c8=>o (k c1 c2 c3 c4 c5 c6 c7 c8))=o (T k)
def zhq{R:Type}(k_:Bool→Option R):Option R:=(br (fcmp .neq .f64 a0 a0) (br (fcmp .neq .f64 a0 a0) (k_ (fcmp .neq .f64 a1 a1)) (k_ Bool.false)) (br (fcmp .neq .f64 a1 a1) (br (fcmp .neq .f64 a0 a0) (k_ (fcmp .neq .f64 a1 a1)) (k_ Bool.false)) (br (fcmp .eql .f64 a0 0) (br (fcmp .eql .f64 a1 0) (k_ (beqB (fcmp .gtr .f64 (fop .quo .f64 4607182418800017408 a0) 0) (fcmp .gtr .f64 (fop .quo .f64 4607182418800017408 a1) 0))) (k_ (fcmp .eql .f64 a0 a1))) (k_ (fcmp .eql .f64 a0 a1)))))
def z79:Option (Bool):=zhq a0 a1 (fun c0_=>some c0_)
theorem y4o:Nt1 (fun {R}=>zhq (R:=R) a0 a1):=by
 intro R R' o h0 k;unfold zhq;repeat (first | apply grd_out h0 | apply br_out | rfl)
def z7j:Bool:=(z79 a0 a1).isSome
def z6b:Bool:=((z79 a0 a1).getD default)
def zn4{R:Type}(k_:Bool→Option R):Option R:=(br (leI c1 c0) (k_ (leI c0 c2)) (k_ Bool.false))
def zac:Option (Bool):=zn4 c0 c1 c2 (fun c0_=>some c0_)
theorem yb6:Nt1 (fun {R}=>zn4 (R:=R) c0 c1 c2):=by
 intro R R' o h0 k;unfold zn4;repeat (first | apply grd_out h0 | apply br_out | rfl)
def za5:Bool:=(zac c0 c1 c2).isSome
def z4y:Bool:=((zac c0 c1 c2).getD default)
def zr6{R:Type}(k_:Bool→Option R):Option R:=(k_ (fcmp .eql .f32 (fop .sub .f32 a0 a0) 0))
def z9p:Option (Bool):=zr6 a0 (fun c0_=>some c0_)
theorem y7b:Nt1 (fun {R}=>zr6 (R:=R) a0):=by
 intro R R' o h0 k;unfold zr6;repeat (first | apply grd_out h0 | apply br_out | rfl)
def z2v:Bool:=(z9p a0).isSome
def z2f:Bool:=((z9p a0).getD default)
def zq5{R:Type}(k_:Bool→Option R):Option R:=(br (leI c1 c0) (k_ (leI c0 c2)) (k_ Bool.false))
def zbe:Option (Bool):=zq5 c0 c1 c2 (fun c0_=>some c0_)
theorem ycd:Nt1 (fun {R}=>zq5 (R:=R) c0 c1 c2):=by
 intro R R' o h0 k;unfold zq5;repeat (first | apply grd_out h0 | apply br_out | rfl)
def zxp:Bool:=(zbe c0 c1 c2).isSome
def zu6:Bool:=((zbe c0 c1 c2).getD default)
def zff{R:Type}(a:List Nat)(q2w:Int)(k_:Int→Option R):Option R:=(br (ltI (subI .i64 q2w (Int.ofNat a0)) 0) (k_ (Int.negSucc 0)) (k_ (subI .i64 q2w (Int.ofNat a0))))
def z64:Option (Int):=zff a0 g1 c2 (fun c0_=>some c0_)
theorem y2q:Nt1 (fun {R}=>zff (R:=R) a0 g1 c2):=by
 intro R R' o h0 k;unfold zff;repeat (first | apply grd_out h0 | apply br_out | rfl)
def zvl:Bool:=(z64 a0 g1 c2).isSome
def zkf:Int:=((z64 a0 g1 c2).getD default)
def zoi{R:Type}(k_:Bool→Option R):Option R:=(k_ (fcmp .eql .f32 (fop .sub .f32 a0 a0) 0))
def z98:Option (Bool):=zoi a0 (fun c0_=>some c0_)
theorem y5d:Nt1 (fun {R}=>zoi (R:=R) a0):=by
 intro R R' o h0 k;unfold zoi;repeat (first | apply grd_out h0 | apply br_out | rfl)
def z18:Bool:=(z98 a0).isSome
def z16:Bool:=((z98 a0).getD default)
def zfe{R:Type}(a:List Nat)(q2w:Int)(k_:Int→Option R):Option R:=(br (ltI (subI .i64 q2w (Int.ofNat a0)) 0) (k_ (Int.negSucc 0)) (k_ (subI .i64 q2w (Int.ofNat a0))))
def z69:Option (Int):=zfe a0 g1 c2 (fun c0_=>some c0_)
theorem y1k:Nt1 (fun {R}=>zfe (R:=R) a0 g1 c2):=by
 intro R R' o h0 k;unfold zfe;repeat (first | apply grd_out h0 | apply br_out | rfl)
def zf2:Bool:=(z69 a0 g1 c2).isSome
def z1m:Int:=((z69 a0 g1 c2).getD default)
def znx{R:Type}(q35 q38 q39:Nat)(k_:Unit→Option R):Option R:=(k_ ())
def zow:Option (Unit):=znx a0 a1 a2 (fun _=>some ())
theorem y40:Nt1 (fun {R}=>znx (R:=R) a0 a1 a2):=by
 intro R R' o h0 k;unfold znx;repeat (first | apply grd_out h0 | apply br_out | rfl)
def zyg:Bool:=(zow a0 a1 a2).isSome
def zjr{R:Type}(k_:Bool→Option R):Option R:=(br (fcmp .geq .f32 a0 a1) (k_ (fcmp .leq .f32 a0 a2)) (k_ Bool.false))
def z8a:Option (Bool):=zjr a0 a1 a2 (fun c0_=>some c0_)
theorem y66:Nt1 (fun {R}=>zjr (R:=R) a0 a1 a2):=by
 intro R R' o h0 k;unfold zjr;repeat (first | apply grd_out h0 | apply br_out | rfl)
def zpy:Bool:=(z8a a0 a1 a2).isSome
def zo5:Bool:=((z8a a0 a1 a2).getD default)
def z9t{R:Type}(q00:Nat)(q03:List Nat)(q02:Nat)(q06:List Nat)(q01:Nat)(q05:List Nat)(q09:Nat)(q0e:List Nat)(q0h:Int)(q0n q0m:Nat)(i:Int)(k_:Nat→Option R):Option R:=(grd (okIx i q09) (grd (okIx i q09) (k_ (fop .quo .f32 (fop .mul .f32 (fOI .f32 q0h) (gF q0e (Nat.succ (ixO 0 i 3)))) (fop .mul .f32 1086918619 (gF q0e (ixO 0 i 3)))))))
def z49:Option (Nat):=z9t a0 g1 a2 g3 a4 g5 a6 g7 c8 a9 a10 c11 (fun c0_=>some c0_)
theorem zwi:Nt1 (fun {R}=>z9t (R:=R) a0 g1 a2 g3 a4 g5 a6 g7 c8 a9 a10 c11):=by
 intro R R' o h0 k;unfold z9t;repeat (first | apply grd_out h0 | apply br_out | rfl)
def zp2:Bool:=(z49 a0 g1 a2 g3 a4 g5 a6 g7 c8 a9 a10 c11).isSome
def zdp:Nat:=((z49 a0 g1 a2 g3 a4 g5 a6 g7 c8 a9 a10 c11).getD default)
def zn8{R:Type}(q00:Nat)(q03:List Nat)(q02:Nat)(q06:List Nat)(q01:Nat)(q05:List Nat)(q09:Nat)(q0e:List Nat)(q0h:Int)(q0n q0m:Nat)(i:Int)(q3v:Nat)(k_:Nat→Option R):Option R:=(grd (okIx i q09) (k_ (fop .quo .f32 (fop .quo .f32 (fop .mul .f32 (fOI .f32 q0h) (fop .sub .f32 q0m (gF q0e (ixO 0 i 3)))) (fop .mul .f32 1073741824 (gF q0e (ixO 0 i 3)))) (fop .add .f32 (fop .quo .f32 (fop .mul .f32 (fOI .f32 q0h) (fop .sub .f32 q0m (gF q0e (ixO 0 i 3)))) (fop .mul .f32 1073741824 (gF q0e (ixO 0 i 3)))) q3v))))
def za4:Option (Nat):=zn8 a0 g1 a2 g3 a4 g5 a6 g7 c8 a9 a10 c11 a12 (fun c0_=>some c0_)
theorem yaa:Nt1 (fun {R}=>zn8 (R:=R) a0 g1 a2 g3 a4 g5 a6 g7 c8 a9 a10 c11 a12):=by
 intro R R' o h0 k;unfold zn8;repeat (first | apply grd_out h0 | apply br_out | rfl)
def y5x:Bool:=(za4 a0 g1 a2 g3 a4 g5 a6 g7 c8 a9 a10 c11 a12).isSome
def zsi:Nat:=((za4 a0 g1 a2 g3 a4 g5 a6 g7 c8 a9 a10 c11 a12).getD default)
def zdg{R:Type}(q00:Nat)(q03:List Nat)(q02:Nat)(q06:List Nat)(q01:Nat)(q05:List Nat)(q09:Nat)(q0e:List Nat)(q0h:Int)(q0n q0m:Nat)(i:Int)(k_:Nat→Option R):Option R:=(grd (okIx i q09) (k_ (fop .quo .f32 (fop .mul .f32 (fOI .f32 q0h) (gF q0e (Nat.succ (ixO 0 i 3)))) (fop .mul .f32 1086918619 (gF q0e (ixO 0 i 3))))))
def z5q:Option (Nat):=zdg a0 g1 a2 g3 a4 g5 a6 g7 c8 a9 a10 c11 (fun c0_=>some c0_)
theorem y0e:Nt1 (fun {R}=>zdg (R:=R) a0 g1 a2 g3 a4 g5 a6 g7 c8 a9 a10 c11):=by
 intro R R' o h0 k;unfold zdg;repeat (first | apply grd_out h0 | apply br_out | rfl)
def ztd:Bool:=(z5q a0 g1 a2 g3 a4 g5 a6 g7 c8 a9 a10 c11).isSome
def zj6:Nat:=((z5q a0 g1 a2 g3 a4 g5 a6 g7 c8 a9 a10 c11).getD default)
def zw6{R:Type}  (k_:Nat→Option R):Option R:=(grd (okU .f64 9221120237041090561) (k_ (cnI .f64 9221120237041090561)))
def zhh  : Option (Nat):=zw6 (fun c0_=>some c0_)
theorem yfj  : Nt1 (fun {R}=>zw6 (R:=R)):=by
 intro R R' o h0 k;unfold zw6;repeat (first | apply grd_out h0 | apply br_out | rfl)
def y5i  : Bool:=(zhh).isSome
def zta  : Nat:=((zhh).getD default)
def zx9{R:Type}(k_:Nat→Option R):Option R:=(k_ (fop .add .f32 a0 (fop .mul .f32 a2 (fop .sub .f32 a1 a0))))
def zg4:Option (Nat):=zx9 a0 a1 a2 (fun c0_=>some c0_)
theorem ycq:Nt1 (fun {R}=>zx9 (R:=R) a0 a1 a2):=by
 intro R R' o h0 k;unfold zx9;repeat (first | apply grd_out h0 | apply br_out | rfl)
def zwt:Bool:=(zg4 a0 a1 a2).isSome
def zuf:Nat:=((zg4 a0 a1 a2).getD default)
def zh9{R:Type}(k_:Nat→Option R):Option R:=(grd (fcvB .f64 .f32 a0) (k_ (fcvV .f64 .f32 a0)))
def z7f:Option (Nat):=zh9 a0 (fun c0_=>some c0_)
theorem y3v:Nt1 (fun {R}=>zh9 (R:=R) a0):=by
 intro R R' o h0 k;unfold zh9;repeat (first | apply grd_out h0 | apply br_out | rfl)
def zos:Bool:=(z7f a0).isSome
def zf3:Nat:=((z7f a0).getD default)
def zw2{R:Type}(k_:Nat→Option R):Option R:=(grd (bnot (nanQ .f64 a0)) (grd (okU .f64 (bitI .andNot .u64 (Int.ofNat a0) 9223372036854775808)) (k_ (cnI .f64 (bitI .andNot .u64 (Int.ofNat a0) 9223372036854775808)))))
def zi1:Option (Nat):=zw2 a0 (fun c0_=>some c0_)
theorem yf3:Nt1 (fun {R}=>zw2 (R:=R) a0):=by
 intro R R' o h0 k;unfold zw2;repeat (first | apply grd_out h0 | apply br_out | rfl)
def ydl:Bool:=(zi1 a0).isSome
def ybp:Nat:=((zi1 a0).getD default)
def zko{R:Type}(k_:Nat→Bool→Option R):Option R:=(grd (z2v a0) (br (bnot (z2f a0)) (k_ 0 Bool.false) (k_ a0 Bool.true)))
def z7m:Option (Nat×Bool):=zko a0 (fun c0_ c1_=>some (c0_,c1_))
theorem y8y:Nt2 (fun {R}=>zko (R:=R) a0):=by
 intro R R' o h0 k;unfold zko;repeat (first | apply grd_out h0 | apply br_out | rfl)
def zkn:Bool:=(z7m a0).isSome
def zjc:Nat:=((z7m a0).getD default).1
def zjs:Bool:=((z7m a0).getD default).2
def zhp{R:Type}(k_:Int→Option R):Option R:=(grd (zf2 a0 (pF g1 0 (muN a0 1)) c6) (br (ltI (z1m a0 (pF g1 0 (muN a0 1)) c6) 0) (k_ (Int.negSucc 0)) (grd (zf2 a2 (pF g3 0 (muN a2 1)) (z1m a0 (pF g1 0 (muN a0 1)) c6)) (br (ltI (z1m a2 (pF g3 0 (muN a2 1)) (z1m a0 (pF g1 0 (muN a0 1)) c6)) 0) (k_ (Int.negSucc 0)) (grd (zf2 a4 (pF g5 0 (muN a4 1)) (z1m a2 (pF g3 0 (muN a2 1)) (z1m a0 (pF g1 0 (muN a0 1)) c6))) (br (ltI (z1m a4 (pF g5 0 (muN a4 1)) (z1m a2 (pF g3 0 (muN a2 1)) (z1m a0 (pF g1 0 (muN a0 1)) c6))) 0) (k_ (Int.negSucc 0)) (k_ (z1m a4 (pF g5 0 (muN a4 1)) (z1m a2 (pF g3 0 (muN a2 1)) (z1m a0 (pF g1 0 (muN a0 1)) c6))))))))))
def z7d:Option (Int):=zhp a0 g1 a2 g3 a4 g5 c6 (fun c0_=>some c0_)
theorem y5k:Nt1 (fun {R}=>zhp (R:=R) a0 g1 a2 g3 a4 g5 c6):=by
 intro R R' o h0 k;unfold zhp;repeat (first | apply grd_out h0 | apply br_out | rfl)
def zy0:Bool:=(z7d a0 g1 a2 g3 a4 g5 c6).isSome
def zad:Int:=((z7d a0 g1 a2 g3 a4 g5 c6).getD default)
def zic{R:Type}(k_:Nat→Bool→Option R):Option R:=(grd (z18 a0) (br (bnot (z16 a0)) (k_ 0 Bool.false) (k_ a0 Bool.true)))
def z5f:Option (Nat×Bool):=zic a0 (fun c0_ c1_=>some (c0_,c1_))
theorem y56:Nt2 (fun {R}=>zic (R:=R) a0):=by
 intro R R' o h0 k;unfold zic;repeat (first | apply grd_out h0 | apply br_out | rfl)
def znt:Bool:=(z5f a0).isSome
def zm9:Nat:=((z5f a0).getD default).1
def zlq:Bool:=((z5f a0).getD default).2
def zjh{R:Type}(k_:Bool→Option R):Option R:=(grd (z18 a0) (br (z16 a0) (k_ (fcmp .gtr .f32 a0 0)) (k_ Bool.false)))
def z89:Option (Bool):=zjh a0 (fun c0_=>some c0_)
theorem y78:Nt1 (fun {R}=>zjh (R:=R) a0):=by
 intro R R' o h0 k;unfold zjh;repeat (first | apply grd_out h0 | apply br_out | rfl)
def z8e:Bool:=(z89 a0).isSome
def z7g:Bool:=((z89 a0).getD default)
def zkx{R:Type}(k_:Bool→Option R):Option R:=(grd (z2v a0) (br (z2f a0) (k_ (fcmp .geq .f32 a0 0)) (k_ Bool.false)))
def z96:Option (Bool):=zkx a0 (fun c0_=>some c0_)
theorem y89:Nt1 (fun {R}=>zkx (R:=R) a0):=by
 intro R R' o h0 k;unfold zkx;repeat (first | apply grd_out h0 | apply br_out | rfl)
def zt4:Bool:=(z96 a0).isSome
def zrf:Bool:=((z96 a0).getD default)
def zaq{R:Type}(k_:Bool→Option R):Option R:=(grd (z2v a0) (br (bnot (z2f a0)) (k_ Bool.true) (k_ (fcmp .leq .f32 a0 0))))
def z4t:Option (Bool):=zaq a0 (fun c0_=>some c0_)
theorem zyi:Nt1 (fun {R}=>zaq (R:=R) a0):=by
 intro R R' o h0 k;unfold zaq;repeat (first | apply grd_out h0 | apply br_out | rfl)
def zr8:Bool:=(z4t a0).isSome
def zox:Bool:=((z4t a0).getD default)
def zhk{R:Type}(k_:Bool→Option R):Option R:=(grd (z7j (fcvV .f32 .f64 a0) (fcvV .f32 .f64 a3)) (br (bnot (z6b (fcvV .f32 .f64 a0) (fcvV .f32 .f64 a3))) (k_ Bool.false) (grd (z7j (fcvV .f32 .f64 a1) (fcvV .f32 .f64 a4)) (br (bnot (z6b (fcvV .f32 .f64 a1) (fcvV .f32 .f64 a4))) (k_ Bool.false) (grd (z7j (fcvV .f32 .f64 a2) (fcvV .f32 .f64 a5)) (br (bnot (z6b (fcvV .f32 .f64 a2) (fcvV .f32 .f64 a5))) (k_ Bool.false) (k_ Bool.true)))))))
def z7b:Option (Bool):=zhk a0 a1 a2 a3 a4 a5 (fun c0_=>some c0_)
theorem y41:Nt1 (fun {R}=>zhk (R:=R) a0 a1 a2 a3 a4 a5):=by
 intro R R' o h0 k;unfold zhk;repeat (first | apply grd_out h0 | apply br_out | rfl)
def zy6:Bool:=(z7b a0 a1 a2 a3 a4 a5).isSome
def zvb:Bool:=((z7b a0 a1 a2 a3 a4 a5).getD default)
def zjq{R:Type}(k_:Bool→Option R):Option R:=(grd (z18 a0) (br (z16 a0) (k_ (fcmp .geq .f32 a0 0)) (k_ Bool.false)))
def z88:Option (Bool):=zjq a0 (fun c0_=>some c0_)
theorem y7l:Nt1 (fun {R}=>zjq (R:=R) a0):=by
 intro R R' o h0 k;unfold zjq;repeat (first | apply grd_out h0 | apply br_out | rfl)
def z9o:Bool:=(z88 a0).isSome
def z94:Bool:=((z88 a0).getD default)
def zjl{R:Type}(q00:Nat)(q03:List Nat)(q02:Nat)(q06:List Nat)(q01:Nat)(q05:List Nat)(q09:Nat)(q0e:List Nat)(q0h:Int)(q0n q0m:Nat)(i:Int)(q0l:Nat)(k_:Bool→Option R):Option R:=(grd (okIx i q09) (grd (z18 (fop .sub .f32 (fop .sub .f32 981668463 (gF q0e (Nat.succ (Nat.succ (ixO 0 i 3))))) q0l)) (br (z16 (fop .sub .f32 (fop .sub .f32 981668463 (gF q0e (Nat.succ (Nat.succ (ixO 0 i 3))))) q0l)) (grd (okIx i q09) (grd (z18 (fop .sub .f32 (fop .sub .f32 1048508891 (gF q0e (Nat.succ (Nat.succ (ixO 0 i 3))))) q0l)) (k_ (z16 (fop .sub .f32 (fop .sub .f32 1048508891 (gF q0e (Nat.succ (Nat.succ (ixO 0 i 3))))) q0l))))) (k_ Bool.false))))
def z8f:Option (Bool):=zjl a0 g1 a2 g3 a4 g5 a6 g7 c8 a9 a10 c11 a12 (fun c0_=>some c0_)
theorem y6c:Nt1 (fun {R}=>zjl (R:=R) a0 g1 a2 g3 a4 g5 a6 g7 c8 a9 a10 c11 a12):=by
 intro R R' o h0 k;unfold zjl;repeat (first | apply grd_out h0 | apply br_out | rfl)
def zzq:Bool:=(z8f a0 g1 a2 g3 a4 g5 a6 g7 c8 a9 a10 c11 a12).isSome
def zy7:Bool:=((z8f a0 g1 a2 g3 a4 g5 a6 g7 c8 a9 a10 c11 a12).getD default)
def zn5{R:Type}(k_:Nat→Nat→Bool→Option R):Option R:=(grd (z18 a0) (br (bnot (z16 a0)) (k_ 0 0 Bool.false) (grd (z18 a1) (br (bnot (z16 a1)) (k_ 0 0 Bool.false) (k_ a0 a1 Bool.true)))))
def z6z:Option (Nat×Nat×Bool):=zn5 a0 a1 (fun c0_ c1_ c2_=>some (c0_,c1_,c2_))
theorem y9v:Nt3 (fun {R}=>zn5 (R:=R) a0 a1):=by
 intro R R' o h0 k;unfold zn5;repeat (first | apply grd_out h0 | apply br_out | rfl)
def zur:Bool:=(z6z a0 a1).isSome
def zkp:Nat:=((z6z a0 a1).getD default).1
def zl0:Nat:=((z6z a0 a1).getD default).2.1
def zkz:Bool:=((z6z a0 a1).getD default).2.2
def zdm{R:Type}(k_:Bool→Option R):Option R:=(grd (z2v a0) (k_ (bnot (z2f a0))))
def z5m:Option (Bool):=zdm a0 (fun c0_=>some c0_)
theorem y1d:Nt1 (fun {R}=>zdm (R:=R) a0):=by
 intro R R' o h0 k;unfold zdm;repeat (first | apply grd_out h0 | apply br_out | rfl)
def ztk:Bool:=(z5m a0).isSome
def zry:Bool:=((z5m a0).getD default)
def z9i{R:Type}(q00:Nat)(q03:List Nat)(q02:Nat)(q06:List Nat)(q01:Nat)(q05:List Nat)(q09:Nat)(q0e:List Nat)(q0h:Int)(q0n q0m:Nat)(i:Int)(k_:Bool→Option R):Option R:=(grd (za5 i 0 (subI .i64 (Int.ofNat q09) 1)) (k_ (z4y i 0 (subI .i64 (Int.ofNat q09) 1))))
def z3f:Option (Bool):=z9i a0 g1 a2 g3 a4 g5 a6 g7 c8 a9 a10 c11 (fun c0_=>some c0_)
theorem zua:Nt1 (fun {R}=>z9i (R:=R) a0 g1 a2 g3 a4 g5 a6 g7 c8 a9 a10 c11):=by
 intro R R' o h0 k;unfold z9i;repeat (first | apply grd_out h0 | apply br_out | rfl)
def zn0:Bool:=(z3f a0 g1 a2 g3 a4 g5 a6 g7 c8 a9 a10 c11).isSome
def zla:Bool:=((z3f a0 g1 a2 g3 a4 g5 a6 g7 c8 a9 a10 c11).getD default)
def zn3{R:Type}(k_:Bool→Option R):Option R:=(grd (zpy a0 981668463 1048508891) (k_ (zo5 a0 981668463 1048508891)))
def za8:Option (Bool):=zn3 a0 (fun c0_=>some c0_)
theorem ybc:Nt1 (fun {R}=>zn3 (R:=R) a0):=by
 intro R R' o h0 k;unfold zn3;repeat (first | apply grd_out h0 | apply br_out | rfl)
def y5u:Bool:=(za8 a0).isSome
def y1t:Bool:=((za8 a0).getD default)
def zn7{R:Type}(k_:Bool→Option R):Option R:=(grd (ydl a0) (k_ (fcmp .geq .f64 (ybp a0) 4841369599423283200)))
def za7:Option (Bool):=zn7 a0 (fun c0_=>some c0_)
theorem yal:Nt1 (fun {R}=>zn7 (R:=R) a0):=by
 intro R R' o h0 k;unfold zn7;repeat (first | apply grd_out h0 | apply br_out | rfl)
def y5n:Bool:=(za7 a0).isSome
def y32:Bool:=((za7 a0).getD default)
def z22{R:Type}(kn_:Int→Int→Option R)(k0_:Unit→Option R)(k1_:Int→Int→Bool→Option R):Option R:=(br (ltI c3 (Int.ofNat a0)) (grd (okIx c3 a0) (br (fcmp .neq .f32 (gF g1 (ixO 0 c3 1)) (fOI .f32 c2)) (k0_ ()) (kn_ (addI .i64 c2 1) (addI .i64 c3 1)))) (k1_ c2 c3 (ltI c3 (Int.ofNat a0))))
theorem zu2{R R':Type}(o:Option R→Option R')(h0:o none=none)(kn_:Int→Int→Option R)(k0_:Unit→Option R)(k1_:Int→Int→Bool→Option R):z22 a0 g1 c2 c3 (fun k' i'=>o (kn_ k' i')) (fun _=>o (k0_ ())) (fun c0_ c1_ c2_=>o (k1_ c0_ c1_ c2_))=o (z22 a0 g1 c2 c3 kn_ k0_ k1_):=by
 unfold z22
 repeat (first | apply grd_out h0 | apply br_out | rfl)
def z0n(an:Nat)(b0:List Nat):Nat→Int→Int→Option ((Unit)⊕(Int×Int×Bool))
 | 0,_,_=>none
 | n+1,k,i=>z22 an b0  k i  (fun k' i'=>z0n an b0 n k' i') (fun _=>some (Sum.inl ())) (fun c0_ c1_ c2_=>some (Sum.inr (c0_,c1_,c2_)))
theorem zgz:z0n a0 g1 (a2+1) c3 c4=z22 a0 g1  c3 c4  (fun k' i'=>z0n a0 g1 a2 k' i') (fun _=>some (Sum.inl ())) (fun c0_ c1_ c2_=>some (Sum.inr (c0_,c1_,c2_))):=rfl
def zmz:Bool:=(z0n a0 g1 big c2 c3).isSome
def zl4:Bool:=oL (z0n a0 g1 big c2 c3)
def zji:Int:=((tR (z0n a0 g1 big c2 c3)).getD default).1
def zw5:Int:=((tR (z0n a0 g1 big c2 c3)).getD default).2.1
def zw0:Bool:=((tR (z0n a0 g1 big c2 c3)).getD default).2.2
def z2q{R:Type} (kn_:Int→(List Nat)→Option R) (k0_:Int→Bool→(List Nat)→Option R):Option R:=(br (ltI c3 (Int.ofNat a0)) (grd (okIx c3 a0) (grd (okIx c3 a1) (kn_ (addI .i64 c3 1) (sF g4 (ixO 0 c3 1) (gF g2 (ixO 0 c3 1)))))) (k0_ c3 (ltI c3 (Int.ofNat a0)) g4))
theorem zwp{R R':Type}(o:Option R→Option R')(h0:o none=none) (kn_:Int→(List Nat)→Option R) (k0_:Int→Bool→(List Nat)→Option R):z2q a0 a1 g2 c3 g4 (fun i' b1'=>o (kn_ i' b1')) (fun c0_ c1_ c2_=>o (k0_ c0_ c1_ c2_))=o (z2q a0 a1 g2 c3 g4 kn_ k0_):=by
 unfold z2q
 repeat (first | apply grd_out h0 | apply br_out | rfl)
def z1k(an q1s:Nat)(b0:List Nat):Nat→Int→(List Nat)→Option ((Int×Bool×(List Nat)))
 | 0,_,_=>none
 | n+1,i,b1=>z2q an q1s b0  i b1  (fun i' b1'=>z1k an q1s b0 n i' b1') (fun c0_ c1_ c2_=>some (c0_,c1_,c2_))
theorem zju:z1k a0 a1 g2 (a3+1) c4 g5=z2q a0 a1 g2  c4 g5  (fun i' b1'=>z1k a0 a1 g2 a3 i' b1') (fun c0_ c1_ c2_=>some (c0_,c1_,c2_)):=rfl
def zia:Bool:=(z1k a0 a1 g2 big c3 g4).isSome
def zyo:Int:=((z1k a0 a1 g2 big c3 g4).getD default).1
def zz3:Bool:=((z1k a0 a1 g2 big c3 g4).getD default).2.1
def zck:List Nat:=((z1k a0 a1 g2 big c3 g4).getD default).2.2
def z1r{R:Type}(kn_:Nat→Int→Option R)(k0_:Nat→Int→Bool→Option R):Option R:=(br (ltI c5 (Int.ofNat a0)) (grd (okIx (subI .i64 c5 1) a0) (grd (okIx c5 a0) (grd (okIx c5 a3) (grd (okIx (subI .i64 c5 1) a3) (kn_ (fop .add .f32 a4 (fop .mul .f32 (fop .sub .f32 (gF g1 (ixO 0 c5 3)) (gF g1 (ixO 0 (subI .i64 c5 1) 3))) (fop .quo .f32 (fop .add .f32 (gF g2 (ixO 0 (subI .i64 c5 1) 1)) (gF g2 (ixO 0 c5 1))) 1073741824))) (addI .i64 c5 1)))))) (k0_ a4 c5 (ltI c5 (Int.ofNat a0))))
theorem ztl{R R':Type}(o:Option R→Option R')(h0:o none=none)(kn_:Nat→Int→Option R)(k0_:Nat→Int→Bool→Option R):z1r a0 g1 g2 a3 a4 c5 (fun all' i'=>o (kn_ all' i')) (fun c0_ c1_ c2_=>o (k0_ c0_ c1_ c2_))=o (z1r a0 g1 g2 a3 a4 c5 kn_ k0_):=by
 unfold z1r
 repeat (first | apply grd_out h0 | apply br_out | rfl)
def z0m(q26:Nat)(b3 b4:List Nat)(q13:Nat):Nat→Nat→Int→Option ((Nat×Int×Bool))
 | 0,_,_=>none
 | n+1,all,i=>z1r q26 b3 b4 q13  all i  (fun all' i'=>z0m q26 b3 b4 q13 n all' i') (fun c0_ c1_ c2_=>some (c0_,c1_,c2_))
theorem zfv:z0m a0 g1 g2 a3 (a4+1) a5 c6=z1r a0 g1 g2 a3  a5 c6  (fun all' i'=>z0m a0 g1 g2 a3 a4 all' i') (fun c0_ c1_ c2_=>some (c0_,c1_,c2_)):=rfl
def zl9:Bool:=(z0m a0 g1 g2 a3 big a4 c5).isSome
def zil:Nat:=((z0m a0 g1 g2 a3 big a4 c5).getD default).1
def zul:Int:=((z0m a0 g1 g2 a3 big a4 c5).getD default).2.1
def zus:Bool:=((z0m a0 g1 g2 a3 big a4 c5).getD default).2.2
def z4q{R:Type}(kn_:Nat→Int→Option R)(k0_:Nat→Int→Bool→Option R):Option R:=(br (ltI (addI .i64 c5 1) (Int.ofNat a0)) (grd (okIx (addI .i64 c5 1) a2) (grd (okIx c5 a2) (grd (okIx c5 a0) (grd (okIx (addI .i64 c5 1) a0) (kn_ (fop .add .f32 a4 (fop .mul .f32 (fop .sub .f32 (gF g1 (ixO 0 (addI .i64 c5 1) 3)) (gF g1 (ixO 0 c5 3))) (fop .mul .f32 1056964608 (fop .add .f32 (gF g3 (ixO 0 c5 1)) (gF g3 (ixO 0 (addI .i64 c5 1) 1)))))) (addI .i64 c5 1)))))) (k0_ a4 c5 (ltI (addI .i64 c5 1) (Int.ofNat a0))))
theorem y4j{R R':Type}(o:Option R→Option R')(h0:o none=none)(kn_:Nat→Int→Option R)(k0_:Nat→Int→Bool→Option R):z4q a0 g1 a2 g3 a4 c5 (fun sum' i'=>o (kn_ sum' i')) (fun c0_ c1_ c2_=>o (k0_ c0_ c1_ c2_))=o (z4q a0 g1 a2 g3 a4 c5 kn_ k0_):=by
 unfold z4q
 repeat (first | apply grd_out h0 | apply br_out | rfl)
def z1e(q26:Nat)(b3:List Nat)(q0r:Nat)(b5:List Nat):Nat→Nat→Int→Option ((Nat×Int×Bool))
 | 0,_,_=>none
 | n+1,sum,i=>z4q q26 b3 q0r b5  sum i  (fun sum' i'=>z1e q26 b3 q0r b5 n sum' i') (fun c0_ c1_ c2_=>some (c0_,c1_,c2_))
theorem zp0:z1e a0 g1 a2 g3 (a4+1) a5 c6=z4q a0 g1 a2 g3  a5 c6  (fun sum' i'=>z1e a0 g1 a2 g3 a4 sum' i') (fun c0_ c1_ c2_=>some (c0_,c1_,c2_)):=rfl
def zwn:Bool:=(z1e a0 g1 a2 g3 big a4 c5).isSome
def zrr:Nat:=((z1e a0 g1 a2 g3 big a4 c5).getD default).1
def y7f:Int:=((z1e a0 g1 a2 g3 big a4 c5).getD default).2.1
def y7n:Bool:=((z1e a0 g1 a2 g3 big a4 c5).getD default).2.2
def z1b{R:Type}(kn_:Int→Option R)(k0_:Int→Option R)(k1_:Int→Bool→Option R):Option R:=(br (ltI c4 c2) (grd (okIx c4 a0) (br (beqB e1 (gB m3 (ixO 0 c4 1))) (k0_ c4) (kn_ (addI .i64 c4 1)))) (k1_ c4 (ltI c4 c2)))
theorem zo1{R R':Type}(o:Option R→Option R')(h0:o none=none)(kn_:Int→Option R)(k0_:Int→Option R)(k1_:Int→Bool→Option R):z1b a0 e1 c2 m3 c4 (fun t8'=>o (kn_ t8')) (fun c0_=>o (k0_ c0_)) (fun c0_ c1_=>o (k1_ c0_ c1_))=o (z1b a0 e1 c2 m3 c4 kn_ k0_ k1_):=by
 unfold z1b
 repeat (first | apply grd_out h0 | apply br_out | rfl)
def z0a(sn:Nat)(v:Bool)(t7:Int)(b0:List Bool):Nat→Int→Option ((Int)⊕(Int×Bool))
 | 0,_=>none
 | n+1,t8=>z1b sn v t7 b0  t8  (fun t8'=>z0a sn v t7 b0 n t8') (fun c0_=>some (Sum.inl c0_)) (fun c0_ c1_=>some (Sum.inr (c0_,c1_)))
theorem zaz:z0a a0 e1 c2 m3 (a4+1) c5=z1b a0 e1 c2 m3  c5  (fun t8'=>z0a a0 e1 c2 m3 a4 t8') (fun c0_=>some (Sum.inl c0_)) (fun c0_ c1_=>some (Sum.inr (c0_,c1_))):=rfl
def z9f:Bool:=(z0a a0 e1 c2 m3 big c4).isSome
def z8s:Bool:=oL (z0a a0 e1 c2 m3 big c4)
def zc7:Int:=((tL (z0a a0 e1 c2 m3 big c4)).getD default)
def zpf:Int:=((tR (z0a a0 e1 c2 m3 big c4)).getD default).1
def zpd:Bool:=((tR (z0a a0 e1 c2 m3 big c4)).getD default).2
def zku{R:Type}(q24:Int)(q2f q2g:Nat)(q2w:Int)(k_:Int→Option R):Option R:=(grd (zy0 a0 (pF g1 0 (muN a0 1)) a2 (pF g3 0 (muN a2 1)) a4 (pF g5 0 (muN a4 1)) q2w) (br (ltI (zad a0 (pF g1 0 (muN a0 1)) a2 (pF g3 0 (muN a2 1)) a4 (pF g5 0 (muN a4 1)) q2w) 0) (k_ (Int.negSucc 0)) (grd (zvl a6 (pF g7 0 (muN a6 3)) (zad a0 (pF g1 0 (muN a0 1)) a2 (pF g3 0 (muN a2 1)) a4 (pF g5 0 (muN a4 1)) q2w)) (br (ltI (zkf a6 (pF g7 0 (muN a6 3)) (zad a0 (pF g1 0 (muN a0 1)) a2 (pF g3 0 (muN a2 1)) a4 (pF g5 0 (muN a4 1)) q2w)) 0) (k_ (Int.negSucc 0)) (k_ (zkf a6 (pF g7 0 (muN a6 3)) (zad a0 (pF g1 0 (muN a0 1)) a2 (pF g3 0 (muN a2 1)) a4 (pF g5 0 (muN a4 1)) q2w)))))))
def z9b:Option (Int):=zku a0 g1 a2 g3 a4 g5 a6 g7 c8 a9 a10 c11 (fun c0_=>some c0_)
theorem y9a:Nt1 (fun {R}=>zku (R:=R) a0 g1 a2 g3 a4 g5 a6 g7 c8 a9 a10 c11):=by
 intro R R' o h0 k;unfold zku;repeat (first | apply grd_out h0 | apply br_out | rfl)
def zs6:Bool:=(z9b a0 g1 a2 g3 a4 g5 a6 g7 c8 a9 a10 c11).isSome
def zqk:Int:=((z9b a0 g1 a2 g3 a4 g5 a6 g7 c8 a9 a10 c11).getD default)
def zbr{R:Type}(k_:Int→Option R):Option R:=(grd (zmz a0 g1 c2 0) (br (zl4 a0 g1 c2 0) (k_ (Int.negSucc 0)) (k_ (zji a0 g1 c2 0))))
def z56:Option (Int):=zbr a0 g1 c2 (fun c0_=>some c0_)
theorem zyq:Nt1 (fun {R}=>zbr (R:=R) a0 g1 c2):=by
 intro R R' o h0 c2;unfold zbr;repeat (first | apply grd_out h0 | apply br_out | rfl)
def zrm:Bool:=(z56 a0 g1 c2).isSome
def zpl:Int:=((z56 a0 g1 c2).getD default)
def zfa{R:Type} (k_:Nat→(List Nat)→Option R):Option R:=(grd (okMk (Int.ofNat a0) (Int.ofNat a0) 4) (grd (zia a0 (toN (Int.ofNat a0)) g1 0 (rF (muN (toN (Int.ofNat a0)) 1))) (k_ (toN (Int.ofNat a0)) (zck a0 (toN (Int.ofNat a0)) g1 0 (rF (muN (toN (Int.ofNat a0)) 1))))))
def z4z:Option (Nat×(List Nat)):=zfa a0 g1 (fun c0_ c1_=>some (c0_,c1_))
theorem y2z:Nt2 (fun {R}=>zfa (R:=R) a0 g1):=by
 intro R R' o h0 k;unfold zfa;repeat (first | apply grd_out h0 | apply br_out | rfl)
def z52:Bool:=(z4z a0 g1).isSome
def z0p:Nat:=((z4z a0 g1).getD default).1
def z5h:List Nat:=((z4z a0 g1).getD default).2
def zar{R:Type}(q00:Nat)(q03:List Nat)(q02:Nat)(q06:List Nat)(q01:Nat)(q05:List Nat)(q09:Nat)(q0e:List Nat)(q0h:Int)(q0n q0m q1r:Nat)(q23:List Nat)(k_:Nat→Option R):Option R:=(grd (zl9 q1r q0e q23 q09 0 1) (k_ (zil q1r q0e q23 q09 0 1)))
def z4r:Option (Nat):=zar a0 g1 a2 g3 a4 g5 a6 g7 c8 a9 a10 a11 g12 (fun c0_=>some c0_)
theorem zxe:Nt1 (fun {R}=>zar (R:=R) a0 g1 a2 g3 a4 g5 a6 g7 c8 a9 a10 a11 g12):=by
 intro R R' o h0 k;unfold zar;repeat (first | apply grd_out h0 | apply br_out | rfl)
def zqb:Bool:=(z4r a0 g1 a2 g3 a4 g5 a6 g7 c8 a9 a10 a11 g12).isSome
def z9y:Nat:=((z4r a0 g1 a2 g3 a4 g5 a6 g7 c8 a9 a10 a11 g12).getD default)
def znb{R:Type}(q00:Nat)(q03:List Nat)(q02:Nat)(q06:List Nat)(q01:Nat)(q05:List Nat)(q09:Nat)(q0e:List Nat)(q0h:Int)(q0n q0m q1r:Nat)(q23:List Nat)(k_:Nat→Option R):Option R:=(grd (zwn q1r q0e q09 q23 0 0) (k_ (zrr q1r q0e q09 q23 0 0)))
def za9:Option (Nat):=znb a0 g1 a2 g3 a4 g5 a6 g7 c8 a9 a10 a11 g12 (fun c0_=>some c0_)
theorem ya1:Nt1 (fun {R}=>znb (R:=R) a0 g1 a2 g3 a4 g5 a6 g7 c8 a9 a10 a11 g12):=by
 intro R R' o h0 k;unfold znb;repeat (first | apply grd_out h0 | apply br_out | rfl)
def y5w:Bool:=(za9 a0 g1 a2 g3 a4 g5 a6 g7 c8 a9 a10 a11 g12).isSome
def zks:Nat:=((za9 a0 g1 a2 g3 a4 g5 a6 g7 c8 a9 a10 a11 g12).getD default)
def z80{R:Type}(k_:Int→Option R):Option R:=(grd (z9f a0 e2 (Int.ofNat a0) m1 0) (br (z8s a0 e2 (Int.ofNat a0) m1 0) (k_ (zc7 a0 e2 (Int.ofNat a0) m1 0)) (k_ (Int.negSucc 0))))
def z2o:Option (Int):=z80 a0 m1 e2 (fun c0_=>some c0_)
theorem zrj:Nt1 (fun {R}=>z80 (R:=R) a0 m1 e2):=by
 intro R R' o h0 k;unfold z80;repeat (first | apply grd_out h0 | apply br_out | rfl)
def zj9:Bool:=(z2o a0 m1 e2).isSome
def zij:Int:=((z2o a0 m1 e2).getD default)
def zfo{R:Type}(k_:Bool→Option R):Option R:=(grd (zt4 a0) (k_ (bnot (zrf a0))))
def z6d:Option (Bool):=zfo a0 (fun c0_=>some c0_)
theorem y1u:Nt1 (fun {R}=>zfo (R:=R) a0):=by
 intro R R' o h0 k;unfold zfo;repeat (first | apply grd_out h0 | apply br_out | rfl)
def zvn:Bool:=(z6d a0).isSome
def ztf:Bool:=((z6d a0).getD default)
def zqd{R:Type}(k_:Nat→Option R):Option R:=(grd (bnot (nanQ .f64 a0)) (k_ (fint Ieee.Toward.zero a0)))
def zbg:Option (Nat):=zqd a0 (fun c0_=>some c0_)
theorem ycb:Nt1 (fun {R}=>zqd (R:=R) a0):=by
 intro R R' o h0 k;unfold zqd;repeat (first | apply grd_out h0 | apply br_out | rfl)
def y7q:Bool:=(zbg a0).isSome
def zin:Nat:=((zbg a0).getD default)
def z2m{R:Type}(kn_:Int→Option R)(k0_:Unit→Option R)(k1_:Int→Bool→Option R):Option R:=(br (ltI c4 (Int.ofNat a0)) (grd (okIx c4 a0) (grd (okIx c4 a1) (grd (z7j (fcvV .f32 .f64 (gF g2 (ixO 0 c4 1))) (fcvV .f32 .f64 (gF g3 (ixO 0 c4 1)))) (br (bnot (z6b (fcvV .f32 .f64 (gF g2 (ixO 0 c4 1))) (fcvV .f32 .f64 (gF g3 (ixO 0 c4 1))))) (k0_ ()) (kn_ (addI .i64 c4 1)))))) (k1_ c4 (ltI c4 (Int.ofNat a0))))
theorem zxw{R R':Type}(o:Option R→Option R')(h0:o none=none)(kn_:Int→Option R)(k0_:Unit→Option R)(k1_:Int→Bool→Option R):z2m a0 a1 g2 g3 c4 (fun i'=>o (kn_ i')) (fun _=>o (k0_ ())) (fun c0_ c1_=>o (k1_ c0_ c1_))=o (z2m a0 a1 g2 g3 c4 kn_ k0_ k1_):=by
 unfold z2m
 repeat (first | apply grd_out h0 | apply br_out | rfl)
def z1i(an bn:Nat)(b0 b1:List Nat):Nat→Int→Option ((Unit)⊕(Int×Bool))
 | 0,_=>none
 | n+1,i=>z2m an bn b0 b1  i  (fun i'=>z1i an bn b0 b1 n i') (fun _=>some (Sum.inl ())) (fun c0_ c1_=>some (Sum.inr (c0_,c1_)))
theorem zjb:z1i a0 a1 g2 g3 (a4+1) c5=z2m a0 a1 g2 g3  c5  (fun i'=>z1i a0 a1 g2 g3 a4 i') (fun _=>some (Sum.inl ())) (fun c0_ c1_=>some (Sum.inr (c0_,c1_))):=rfl
def zqs:Bool:=(z1i a0 a1 g2 g3 big c4).isSome
def zp7:Bool:=oL (z1i a0 a1 g2 g3 big c4)
def zzg:Int:=((tR (z1i a0 a1 g2 g3 big c4)).getD default).1
def zz7:Bool:=((tR (z1i a0 a1 g2 g3 big c4)).getD default).2
def z2p{R:Type} (kn_:Int→(List Nat)→Option R) (k0_:Int→Bool→(List Nat)→Option R):Option R:=(br (ltI c3 (Int.ofNat a0)) (grd (okIx c3 a0) (grd (zyg (gF g2 (ixO 0 c3 3)) (gF g2 (Nat.succ (ixO 0 c3 3))) (gF g2 (Nat.succ (Nat.succ (ixO 0 c3 3))))) (grd (okIx c3 a1) (kn_ (addI .i64 c3 1) (sF (sF (sF g4 (ixO 0 c3 3) (gF g2 (ixO 0 c3 3))) (Nat.succ (ixO 0 c3 3)) (gF g2 (Nat.succ (ixO 0 c3 3)))) (Nat.succ (Nat.succ (ixO 0 c3 3))) (gF g2 (Nat.succ (Nat.succ (ixO 0 c3 3))))))))) (k0_ c3 (ltI c3 (Int.ofNat a0)) g4))
theorem zyh{R R':Type}(o:Option R→Option R')(h0:o none=none) (kn_:Int→(List Nat)→Option R) (k0_:Int→Bool→(List Nat)→Option R):z2p a0 a1 g2 c3 g4 (fun i' b1'=>o (kn_ i' b1')) (fun c0_ c1_ c2_=>o (k0_ c0_ c1_ c2_))=o (z2p a0 a1 g2 c3 g4 kn_ k0_):=by
 unfold z2p
 repeat (first | apply grd_out h0 | apply br_out | rfl)
def z12(an q1s:Nat)(b0:List Nat):Nat→Int→(List Nat)→Option ((Int×Bool×(List Nat)))
 | 0,_,_=>none
 | n+1,i,b1=>z2p an q1s b0  i b1  (fun i' b1'=>z12 an q1s b0 n i' b1') (fun c0_ c1_ c2_=>some (c0_,c1_,c2_))
theorem zjk:z12 a0 a1 g2 (a3+1) c4 g5=z2p a0 a1 g2  c4 g5  (fun i' b1'=>z12 a0 a1 g2 a3 i' b1') (fun c0_ c1_ c2_=>some (c0_,c1_,c2_)):=rfl
def zhg:Bool:=(z12 a0 a1 g2 big c3 g4).isSome
def zz6:Int:=((z12 a0 a1 g2 big c3 g4).getD default).1
def zzd:Bool:=((z12 a0 a1 g2 big c3 g4).getD default).2.1
def zcq:List Nat:=((z12 a0 a1 g2 big c3 g4).getD default).2.2
def z1y{R:Type}(kn_:Nat→Int→Option R)(k0_:Nat→Int→Bool→Option R):Option R:=(br (leI 1 c2) (kn_ (fop .sub .f64 4607182418800017408 (fop .quo .f64 (fop .mul .f64 a0 a1) (fOI .f64 (mulI .i64 (mulI .i64 2 c2) (addI .i64 (mulI .i64 2 c2) 1))))) (subI .i64 c2 1)) (k0_ a1 c2 (leI 1 c2)))
theorem zud{R R':Type}(o:Option R→Option R')(h0:o none=none)(kn_:Nat→Int→Option R)(k0_:Nat→Int→Bool→Option R):z1y a0 a1 c2 (fun t7' t8'=>o (kn_ t7' t8')) (fun c0_ c1_ c2_=>o (k0_ c0_ c1_ c2_))=o (z1y a0 a1 c2 kn_ k0_):=by
 unfold z1y
 repeat (first | apply grd_out h0 | apply br_out | rfl)
def z0y(t6:Nat):Nat→Nat→Int→Option ((Nat×Int×Bool))
 | 0,_,_=>none
 | n+1,t7,t8=>z1y t6  t7 t8  (fun t7' t8'=>z0y t6 n t7' t8') (fun c0_ c1_ c2_=>some (c0_,c1_,c2_))
theorem zh0:z0y a0 (a1+1) a2 c3=z1y a0  a2 c3  (fun t7' t8'=>z0y a0 a1 t7' t8') (fun c0_ c1_ c2_=>some (c0_,c1_,c2_)):=rfl
def z1n:Bool:=(z0y a0 big a1 c2).isSome
def z0d:Nat:=((z0y a0 big a1 c2).getD default).1
def zw1:Int:=((z0y a0 big a1 c2).getD default).2.1
def zwj:Bool:=((z0y a0 big a1 c2).getD default).2.2
def zfj{R:Type}(k_:Bool→Option R):Option R:=(br (neI (Int.ofNat a0) (Int.ofNat a2)) (k_ Bool.false) (grd (zqs a0 a2 g1 g3 0) (br (zp7 a0 a2 g1 g3 0) (k_ Bool.false) (k_ Bool.true))))
def z6a:Option (Bool):=zfj a0 g1 a2 g3 (fun c0_=>some c0_)
theorem y23:Nt1 (fun {R}=>zfj (R:=R) a0 g1 a2 g3):=by
 intro R R' o h0 k;unfold zfj;repeat (first | apply grd_out h0 | apply br_out | rfl)
def z8i:Bool:=(z6a a0 g1 a2 g3).isSome
def z7x:Bool:=((z6a a0 g1 a2 g3).getD default)
def z5y{R:Type}(k_:Bool→Option R):Option R:=(grd (zj9 a0 (pB m1 0 (muN a0 1)) e2) (k_ (leI 0 (zij a0 (pB m1 0 (muN a0 1)) e2))))
def z1u:Option (Bool):=z5y a0 m1 e2 (fun c0_=>some c0_)
theorem zno:Nt1 (fun {R}=>z5y (R:=R) a0 m1 e2):=by
 intro R R' o h0 k;unfold z5y;repeat (first | apply grd_out h0 | apply br_out | rfl)
def z5v:Bool:=(z1u a0 m1 e2).isSome
def z5e:Bool:=((z1u a0 m1 e2).getD default)
def zhu{R:Type} (k_:Nat→Nat→Nat→(List Nat)→(List Nat)→(List Nat)→Option R):Option R:=(grd (z52 a0 (pF g1 0 (muN a0 1))) (grd (z52 a2 (pF g3 0 (muN a2 1))) (grd (z52 a4 (pF g5 0 (muN a4 1))) (k_ (z0p a0 (pF g1 0 (muN a0 1))) (z0p a2 (pF g3 0 (muN a2 1))) (z0p a4 (pF g5 0 (muN a4 1))) (z5h a0 (pF g1 0 (muN a0 1))) (z5h a2 (pF g3 0 (muN a2 1))) (z5h a4 (pF g5 0 (muN a4 1)))))))
def z2g:Option (Nat×Nat×Nat×(List Nat)×(List Nat)×(List Nat)):=zhu a0 g1 a2 g3 a4 g5 (fun c0_ c1_ c2_ c3_ c4_ c5_=>some (c0_,c1_,c2_,c3_,c4_,c5_))
theorem y47:Nt6 (fun {R}=>zhu (R:=R) a0 g1 a2 g3 a4 g5):=by
 intro R R' o h0 k;unfold zhu;repeat (first | apply grd_out h0 | apply br_out | rfl)
def zwv:Bool:=(z2g a0 g1 a2 g3 a4 g5).isSome
def zvi:Nat:=((z2g a0 g1 a2 g3 a4 g5).getD default).1
def zv4:Nat:=((z2g a0 g1 a2 g3 a4 g5).getD default).2.1
def zvs:Nat:=((z2g a0 g1 a2 g3 a4 g5).getD default).2.2.1
def zvr:List Nat:=((z2g a0 g1 a2 g3 a4 g5).getD default).2.2.2.1
def zvu:List Nat:=((z2g a0 g1 a2 g3 a4 g5).getD default).2.2.2.2.1
def zvg:List Nat:=((z2g a0 g1 a2 g3 a4 g5).getD default).2.2.2.2.2
def zfi{R:Type} (k_:Nat→(List Nat)→Option R):Option R:=(grd (okMk (Int.ofNat a0) (Int.ofNat a0) 12) (grd (zhg a0 (toN (Int.ofNat a0)) g1 0 (rF (muN (toN (Int.ofNat a0)) 3))) (k_ (toN (Int.ofNat a0)) (zcq a0 (toN (Int.ofNat a0)) g1 0 (rF (muN (toN (Int.ofNat a0)) 3))))))
def z51:Option (Nat×(List Nat)):=zfi a0 g1 (fun c0_ c1_=>some (c0_,c1_))
theorem y2a:Nt2 (fun {R}=>zfi (R:=R) a0 g1):=by
 intro R R' o h0 k;unfold zfi;repeat (first | apply grd_out h0 | apply br_out | rfl)
def zvq:Bool:=(z51 a0 g1).isSome
def ztm:Nat:=((z51 a0 g1).getD default).1
def ztg:List Nat:=((z51 a0 g1).getD default).2
def z7o{R:Type}(k_:Nat→Option R):Option R:=(br (fcmp .neq .f64 (fop .sub .f64 a0 a0) 0) (grd y5i (k_ zta)) (br (fcmp .geq .f64 a0 4841369599423283200) (k_ 0) (br (fcmp .leq .f64 a0 14064741636278059008) (k_ 0) (grd (f2iB .f64 a0 .i64) (br (fcmp .lss .f64 (fop .sub .f64 a0 (fOI .f64 (f2iV .f64 a0 .i64))) 0) (br (fcmp .geq .f64 (fop .add .f64 (fop .sub .f64 a0 (fOI .f64 (f2iV .f64 a0 .i64))) 4607182418800017408) 4602678819172646912) (br (fcmp .gtr .f64 (fop .sub .f64 (fop .add .f64 (fop .sub .f64 a0 (fOI .f64 (f2iV .f64 a0 .i64))) 4607182418800017408) 4602678819172646912) 4598175219545276416) (grd (z1n (fop .mul .f64 (fop .mul .f64 (fop .sub .f64 4602678819172646912 (fop .sub .f64 (fop .add .f64 (fop .sub .f64 a0 (fOI .f64 (f2iV .f64 a0 .i64))) 4607182418800017408) 4602678819172646912)) 4618760256179416344) (fop .mul .f64 (fop .sub .f64 4602678819172646912 (fop .sub .f64 (fop .add .f64 (fop .sub .f64 a0 (fOI .f64 (f2iV .f64 a0 .i64))) 4607182418800017408) 4602678819172646912)) 4618760256179416344)) 4607182418800017408 8) (br (fcmp .geq .f64 (fop .add .f64 (fop .sub .f64 a0 (fOI .f64 (f2iV .f64 a0 .i64))) 4607182418800017408) 4602678819172646912) (k_ (fneg .f64 (fop .mul .f64 (fop .mul .f64 (fop .sub .f64 4602678819172646912 (fop .sub .f64 (fop .add .f64 (fop .sub .f64 a0 (fOI .f64 (f2iV .f64 a0 .i64))) 4607182418800017408) 4602678819172646912)) 4618760256179416344) (z0d (fop .mul .f64 (fop .mul .f64 (fop .sub .f64 4602678819172646912 (fop .sub .f64 (fop .add .f64 (fop .sub .f64 a0 (fOI .f64 (f2iV .f64 a0 .i64))) 4607182418800017408) 4602678819172646912)) 4618760256179416344) (fop .mul .f64 (fop .sub .f64 4602678819172646912 (fop .sub .f64 (fop .add .f64 (fop .sub .f64 a0 (fOI .f64 (f2iV .f64 a0 .i64))) 4607182418800017408) 4602678819172646912)) 4618760256179416344)) 4607182418800017408 8)))) (k_ (fop .mul .f64 (fop .mul .f64 (fop .sub .f64 4602678819172646912 (fop .sub .f64 (fop .add .f64 (fop .sub .f64 a0 (fOI .f64 (f2iV .f64 a0 .i64))) 4607182418800017408) 4602678819172646912)) 4618760256179416344) (z0d (fop .mul .f64 (fop .mul .f64 (fop .sub .f64 4602678819172646912 (fop .sub .f64 (fop .add .f64 (fop .sub .f64 a0 (fOI .f64 (f2iV .f64 a0 .i64))) 4607182418800017408) 4602678819172646912)) 4618760256179416344) (fop .mul .f64 (fop .sub .f64 4602678819172646912 (fop .sub .f64 (fop .add .f64 (fop .sub .f64 a0 (fOI .f64 (f2iV .f64 a0 .i64))) 4607182418800017408) 4602678819172646912)) 4618760256179416344)) 4607182418800017408 8))))) (grd (z1n (fop .mul .f64 (fop .mul .f64 (fop .sub .f64 (fop .add .f64 (fop .sub .f64 a0 (fOI .f64 (f2iV .f64 a0 .i64))) 4607182418800017408) 4602678819172646912) 4618760256179416344) (fop .mul .f64 (fop .sub .f64 (fop .add .f64 (fop .sub .f64 a0 (fOI .f64 (f2iV .f64 a0 .i64))) 4607182418800017408) 4602678819172646912) 4618760256179416344)) 4607182418800017408 8) (br (fcmp .geq .f64 (fop .add .f64 (fop .sub .f64 a0 (fOI .f64 (f2iV .f64 a0 .i64))) 4607182418800017408) 4602678819172646912) (k_ (fneg .f64 (fop .mul .f64 (fop .mul .f64 (fop .sub .f64 (fop .add .f64 (fop .sub .f64 a0 (fOI .f64 (f2iV .f64 a0 .i64))) 4607182418800017408) 4602678819172646912) 4618760256179416344) (z0d (fop .mul .f64 (fop .mul .f64 (fop .sub .f64 (fop .add .f64 (fop .sub .f64 a0 (fOI .f64 (f2iV .f64 a0 .i64))) 4607182418800017408) 4602678819172646912) 4618760256179416344) (fop .mul .f64 (fop .sub .f64 (fop .add .f64 (fop .sub .f64 a0 (fOI .f64 (f2iV .f64 a0 .i64))) 4607182418800017408) 4602678819172646912) 4618760256179416344)) 4607182418800017408 8)))) (k_ (fop .mul .f64 (fop .mul .f64 (fop .sub .f64 (fop .add .f64 (fop .sub .f64 a0 (fOI .f64 (f2iV .f64 a0 .i64))) 4607182418800017408) 4602678819172646912) 4618760256179416344) (z0d (fop .mul .f64 (fop .mul .f64 (fop .sub .f64 (fop .add .f64 (fop .sub .f64 a0 (fOI .f64 (f2iV .f64 a0 .i64))) 4607182418800017408) 4602678819172646912) 4618760256179416344) (fop .mul .f64 (fop .sub .f64 (fop .add .f64 (fop .sub .f64 a0 (fOI .f64 (f2iV .f64 a0 .i64))) 4607182418800017408) 4602678819172646912) 4618760256179416344)) 4607182418800017408 8)))))) (br (fcmp .gtr .f64 (fop .add .f64 (fop .sub .f64 a0 (fOI .f64 (f2iV .f64 a0 .i64))) 4607182418800017408) 4598175219545276416) (grd (z1n (fop .mul .f64 (fop .mul .f64 (fop .sub .f64 4602678819172646912 (fop .add .f64 (fop .sub .f64 a0 (fOI .f64 (f2iV .f64 a0 .i64))) 4607182418800017408)) 4618760256179416344) (fop .mul .f64 (fop .sub .f64 4602678819172646912 (fop .add .f64 (fop .sub .f64 a0 (fOI .f64 (f2iV .f64 a0 .i64))) 4607182418800017408)) 4618760256179416344)) 4607182418800017408 8) (br (fcmp .geq .f64 (fop .add .f64 (fop .sub .f64 a0 (fOI .f64 (f2iV .f64 a0 .i64))) 4607182418800017408) 4602678819172646912) (k_ (fneg .f64 (fop .mul .f64 (fop .mul .f64 (fop .sub .f64 4602678819172646912 (fop .add .f64 (fop .sub .f64 a0 (fOI .f64 (f2iV .f64 a0 .i64))) 4607182418800017408)) 4618760256179416344) (z0d (fop .mul .f64 (fop .mul .f64 (fop .sub .f64 4602678819172646912 (fop .add .f64 (fop .sub .f64 a0 (fOI .f64 (f2iV .f64 a0 .i64))) 4607182418800017408)) 4618760256179416344) (fop .mul .f64 (fop .sub .f64 4602678819172646912 (fop .add .f64 (fop .sub .f64 a0 (fOI .f64 (f2iV .f64 a0 .i64))) 4607182418800017408)) 4618760256179416344)) 4607182418800017408 8)))) (k_ (fop .mul .f64 (fop .mul .f64 (fop .sub .f64 4602678819172646912 (fop .add .f64 (fop .sub .f64 a0 (fOI .f64 (f2iV .f64 a0 .i64))) 4607182418800017408)) 4618760256179416344) (z0d (fop .mul .f64 (fop .mul .f64 (fop .sub .f64 4602678819172646912 (fop .add .f64 (fop .sub .f64 a0 (fOI .f64 (f2iV .f64 a0 .i64))) 4607182418800017408)) 4618760256179416344) (fop .mul .f64 (fop .sub .f64 4602678819172646912 (fop .add .f64 (fop .sub .f64 a0 (fOI .f64 (f2iV .f64 a0 .i64))) 4607182418800017408)) 4618760256179416344)) 4607182418800017408 8))))) (grd (z1n (fop .mul .f64 (fop .mul .f64 (fop .add .f64 (fop .sub .f64 a0 (fOI .f64 (f2iV .f64 a0 .i64))) 4607182418800017408) 4618760256179416344) (fop .mul .f64 (fop .add .f64 (fop .sub .f64 a0 (fOI .f64 (f2iV .f64 a0 .i64))) 4607182418800017408) 4618760256179416344)) 4607182418800017408 8) (br (fcmp .geq .f64 (fop .add .f64 (fop .sub .f64 a0 (fOI .f64 (f2iV .f64 a0 .i64))) 4607182418800017408) 4602678819172646912) (k_ (fneg .f64 (fop .mul .f64 (fop .mul .f64 (fop .add .f64 (fop .sub .f64 a0 (fOI .f64 (f2iV .f64 a0 .i64))) 4607182418800017408) 4618760256179416344) (z0d (fop .mul .f64 (fop .mul .f64 (fop .add .f64 (fop .sub .f64 a0 (fOI .f64 (f2iV .f64 a0 .i64))) 4607182418800017408) 4618760256179416344) (fop .mul .f64 (fop .add .f64 (fop .sub .f64 a0 (fOI .f64 (f2iV .f64 a0 .i64))) 4607182418800017408) 4618760256179416344)) 4607182418800017408 8)))) (k_ (fop .mul .f64 (fop .mul .f64 (fop .add .f64 (fop .sub .f64 a0 (fOI .f64 (f2iV .f64 a0 .i64))) 4607182418800017408) 4618760256179416344) (z0d (fop .mul .f64 (fop .mul .f64 (fop .add .f64 (fop .sub .f64 a0 (fOI .f64 (f2iV .f64 a0 .i64))) 4607182418800017408) 4618760256179416344) (fop .mul .f64 (fop .add .f64 (fop .sub .f64 a0 (fOI .f64 (f2iV .f64 a0 .i64))) 4607182418800017408) 4618760256179416344)) 4607182418800017408 8))))))) (br (fcmp .geq .f64 (fop .sub .f64 a0 (fOI .f64 (f2iV .f64 a0 .i64))) 4602678819172646912) (br (fcmp .gtr .f64 (fop .sub .f64 (fop .sub .f64 a0 (fOI .f64 (f2iV .f64 a0 .i64))) 4602678819172646912) 4598175219545276416) (grd (z1n (fop .mul .f64 (fop .mul .f64 (fop .sub .f64 4602678819172646912 (fop .sub .f64 (fop .sub .f64 a0 (fOI .f64 (f2iV .f64 a0 .i64))) 4602678819172646912)) 4618760256179416344) (fop .mul .f64 (fop .sub .f64 4602678819172646912 (fop .sub .f64 (fop .sub .f64 a0 (fOI .f64 (f2iV .f64 a0 .i64))) 4602678819172646912)) 4618760256179416344)) 4607182418800017408 8) (br (fcmp .geq .f64 (fop .sub .f64 a0 (fOI .f64 (f2iV .f64 a0 .i64))) 4602678819172646912) (k_ (fneg .f64 (fop .mul .f64 (fop .mul .f64 (fop .sub .f64 4602678819172646912 (fop .sub .f64 (fop .sub .f64 a0 (fOI .f64 (f2iV .f64 a0 .i64))) 4602678819172646912)) 4618760256179416344) (z0d (fop .mul .f64 (fop .mul .f64 (fop .sub .f64 4602678819172646912 (fop .sub .f64 (fop .sub .f64 a0 (fOI .f64 (f2iV .f64 a0 .i64))) 4602678819172646912)) 4618760256179416344) (fop .mul .f64 (fop .sub .f64 4602678819172646912 (fop .sub .f64 (fop .sub .f64 a0 (fOI .f64 (f2iV .f64 a0 .i64))) 4602678819172646912)) 4618760256179416344)) 4607182418800017408 8)))) (k_ (fop .mul .f64 (fop .mul .f64 (fop .sub .f64 4602678819172646912 (fop .sub .f64 (fop .sub .f64 a0 (fOI .f64 (f2iV .f64 a0 .i64))) 4602678819172646912)) 4618760256179416344) (z0d (fop .mul .f64 (fop .mul .f64 (fop .sub .f64 4602678819172646912 (fop .sub .f64 (fop .sub .f64 a0 (fOI .f64 (f2iV .f64 a0 .i64))) 4602678819172646912)) 4618760256179416344) (fop .mul .f64 (fop .sub .f64 4602678819172646912 (fop .sub .f64 (fop .sub .f64 a0 (fOI .f64 (f2iV .f64 a0 .i64))) 4602678819172646912)) 4618760256179416344)) 4607182418800017408 8))))) (grd (z1n (fop .mul .f64 (fop .mul .f64 (fop .sub .f64 (fop .sub .f64 a0 (fOI .f64 (f2iV .f64 a0 .i64))) 4602678819172646912) 4618760256179416344) (fop .mul .f64 (fop .sub .f64 (fop .sub .f64 a0 (fOI .f64 (f2iV .f64 a0 .i64))) 4602678819172646912) 4618760256179416344)) 4607182418800017408 8) (br (fcmp .geq .f64 (fop .sub .f64 a0 (fOI .f64 (f2iV .f64 a0 .i64))) 4602678819172646912) (k_ (fneg .f64 (fop .mul .f64 (fop .mul .f64 (fop .sub .f64 (fop .sub .f64 a0 (fOI .f64 (f2iV .f64 a0 .i64))) 4602678819172646912) 4618760256179416344) (z0d (fop .mul .f64 (fop .mul .f64 (fop .sub .f64 (fop .sub .f64 a0 (fOI .f64 (f2iV .f64 a0 .i64))) 4602678819172646912) 4618760256179416344) (fop .mul .f64 (fop .sub .f64 (fop .sub .f64 a0 (fOI .f64 (f2iV .f64 a0 .i64))) 4602678819172646912) 4618760256179416344)) 4607182418800017408 8)))) (k_ (fop .mul .f64 (fop .mul .f64 (fop .sub .f64 (fop .sub .f64 a0 (fOI .f64 (f2iV .f64 a0 .i64))) 4602678819172646912) 4618760256179416344) (z0d (fop .mul .f64 (fop .mul .f64 (fop .sub .f64 (fop .sub .f64 a0 (fOI .f64 (f2iV .f64 a0 .i64))) 4602678819172646912) 4618760256179416344) (fop .mul .f64 (fop .sub .f64 (fop .sub .f64 a0 (fOI .f64 (f2iV .f64 a0 .i64))) 4602678819172646912) 4618760256179416344)) 4607182418800017408 8)))))) (br (fcmp .gtr .f64 (fop .sub .f64 a0 (fOI .f64 (f2iV .f64 a0 .i64))) 4598175219545276416) (grd (z1n (fop .mul .f64 (fop .mul .f64 (fop .sub .f64 4602678819172646912 (fop .sub .f64 a0 (fOI .f64 (f2iV .f64 a0 .i64)))) 4618760256179416344) (fop .mul .f64 (fop .sub .f64 4602678819172646912 (fop .sub .f64 a0 (fOI .f64 (f2iV .f64 a0 .i64)))) 4618760256179416344)) 4607182418800017408 8) (br (fcmp .geq .f64 (fop .sub .f64 a0 (fOI .f64 (f2iV .f64 a0 .i64))) 4602678819172646912) (k_ (fneg .f64 (fop .mul .f64 (fop .mul .f64 (fop .sub .f64 4602678819172646912 (fop .sub .f64 a0 (fOI .f64 (f2iV .f64 a0 .i64)))) 4618760256179416344) (z0d (fop .mul .f64 (fop .mul .f64 (fop .sub .f64 4602678819172646912 (fop .sub .f64 a0 (fOI .f64 (f2iV .f64 a0 .i64)))) 4618760256179416344) (fop .mul .f64 (fop .sub .f64 4602678819172646912 (fop .sub .f64 a0 (fOI .f64 (f2iV .f64 a0 .i64)))) 4618760256179416344)) 4607182418800017408 8)))) (k_ (fop .mul .f64 (fop .mul .f64 (fop .sub .f64 4602678819172646912 (fop .sub .f64 a0 (fOI .f64 (f2iV .f64 a0 .i64)))) 4618760256179416344) (z0d (fop .mul .f64 (fop .mul .f64 (fop .sub .f64 4602678819172646912 (fop .sub .f64 a0 (fOI .f64 (f2iV .f64 a0 .i64)))) 4618760256179416344) (fop .mul .f64 (fop .sub .f64 4602678819172646912 (fop .sub .f64 a0 (fOI .f64 (f2iV .f64 a0 .i64)))) 4618760256179416344)) 4607182418800017408 8))))) (grd (z1n (fop .mul .f64 (fop .mul .f64 (fop .sub .f64 a0 (fOI .f64 (f2iV .f64 a0 .i64))) 4618760256179416344) (fop .mul .f64 (fop .sub .f64 a0 (fOI .f64 (f2iV .f64 a0 .i64))) 4618760256179416344)) 4607182418800017408 8) (br (fcmp .geq .f64 (fop .sub .f64 a0 (fOI .f64 (f2iV .f64 a0 .i64))) 4602678819172646912) (k_ (fneg .f64 (fop .mul .f64 (fop .mul .f64 (fop .sub .f64 a0 (fOI .f64 (f2iV .f64 a0 .i64))) 4618760256179416344) (z0d (fop .mul .f64 (fop .mul .f64 (fop .sub .f64 a0 (fOI .f64 (f2iV .f64 a0 .i64))) 4618760256179416344) (fop .mul .f64 (fop .sub .f64 a0 (fOI .f64 (f2iV .f64 a0 .i64))) 4618760256179416344)) 4607182418800017408 8)))) (k_ (fop .mul .f64 (fop .mul .f64 (fop .sub .f64 a0 (fOI .f64 (f2iV .f64 a0 .i64))) 4618760256179416344) (z0d (fop .mul .f64 (fop .mul .f64 (fop .sub .f64 a0 (fOI .f64 (f2iV .f64 a0 .i64))) 4618760256179416344) (fop .mul .f64 (fop .sub .f64 a0 (fOI .f64 (f2iV .f64 a0 .i64))) 4618760256179416344)) 4607182418800017408 8))))))))))))
def z2t:Option (Nat):=z7o a0 (fun c0_=>some c0_)
theorem y0l:Nt1 (fun {R}=>z7o (R:=R) a0):=by
 intro R R' o h0 k;unfold z7o;repeat (first | apply grd_out h0 | apply br_out | rfl)
def zth:Bool:=(z2t a0).isSome
def zj4:Nat:=((z2t a0).getD default)
def zfc{R:Type}(k_:Nat→Option R):Option R:=(grd (y7q a0) (br (fcmp .eql .f64 (zin a0) 0) (br (fcmp .lss .f64 (fop .sub .f64 a0 0) 0) (k_ (fop .add .f64 (fop .sub .f64 a0 0) 4607182418800017408)) (k_ (fop .sub .f64 a0 0))) (br (fcmp .lss .f64 (fop .sub .f64 a0 (zin a0)) 0) (k_ (fop .add .f64 (fop .sub .f64 a0 (zin a0)) 4607182418800017408)) (k_ (fop .sub .f64 a0 (zin a0))))))
def z6c:Option (Nat):=zfc a0 (fun c0_=>some c0_)
theorem y2y:Nt1 (fun {R}=>zfc (R:=R) a0):=by
 intro R R' o h0 k;unfold zfc;repeat (first | apply grd_out h0 | apply br_out | rfl)
def zvt:Bool:=(z6c a0).isSome
def z0g:Nat:=((z6c a0).getD default)
def z2s{R:Type}(kn_:Int→Option R)(k0_:Unit→Option R)(k1_:Int→Bool→Option R):Option R:=(br (ltI c4 (Int.ofNat a0)) (grd (okIx c4 a0) (grd (okIx c4 a1) (grd (zy6 (gF g2 (ixO 0 c4 3)) (gF g2 (Nat.succ (ixO 0 c4 3))) (gF g2 (Nat.succ (Nat.succ (ixO 0 c4 3)))) (gF g3 (ixO 0 c4 3)) (gF g3 (Nat.succ (ixO 0 c4 3))) (gF g3 (Nat.succ (Nat.succ (ixO 0 c4 3))))) (br (bnot (zvb (gF g2 (ixO 0 c4 3)) (gF g2 (Nat.succ (ixO 0 c4 3))) (gF g2 (Nat.succ (Nat.succ (ixO 0 c4 3)))) (gF g3 (ixO 0 c4 3)) (gF g3 (Nat.succ (ixO 0 c4 3))) (gF g3 (Nat.succ (Nat.succ (ixO 0 c4 3)))))) (k0_ ()) (kn_ (addI .i64 c4 1)))))) (k1_ c4 (ltI c4 (Int.ofNat a0))))
theorem zxx{R R':Type}(o:Option R→Option R')(h0:o none=none)(kn_:Int→Option R)(k0_:Unit→Option R)(k1_:Int→Bool→Option R):z2s a0 a1 g2 g3 c4 (fun i'=>o (kn_ i')) (fun _=>o (k0_ ())) (fun c0_ c1_=>o (k1_ c0_ c1_))=o (z2s a0 a1 g2 g3 c4 kn_ k0_ k1_):=by
 unfold z2s
 repeat (first | apply grd_out h0 | apply br_out | rfl)
def z1h(an bn:Nat)(b0 b1:List Nat):Nat→Int→Option ((Unit)⊕(Int×Bool))
 | 0,_=>none
 | n+1,i=>z2s an bn b0 b1  i  (fun i'=>z1h an bn b0 b1 n i') (fun _=>some (Sum.inl ())) (fun c0_ c1_=>some (Sum.inr (c0_,c1_)))
theorem zje:z1h a0 a1 g2 g3 (a4+1) c5=z2s a0 a1 g2 g3  c5  (fun i'=>z1h a0 a1 g2 g3 a4 i') (fun _=>some (Sum.inl ())) (fun c0_ c1_=>some (Sum.inr (c0_,c1_))):=rfl
def zid:Bool:=(z1h a0 a1 g2 g3 big c4).isSome
def zg8:Bool:=oL (z1h a0 a1 g2 g3 big c4)
def zyv:Int:=((tR (z1h a0 a1 g2 g3 big c4)).getD default).1
def zzm:Bool:=((tR (z1h a0 a1 g2 g3 big c4)).getD default).2
def z59{R:Type}(kn_:Int→Option R)(k0_:Unit→Option R)(k1_:Int→Bool→Option R):Option R:=(br (ltI c7 c0) (grd (okIx c7 a4) (br (fcmp .geq .f32 (gF g1 (ixO 0 c7 1)) 3204448256) (grd (okIx c7 a4) (br (bnot (fcmp .leq .f32 (gF g1 (ixO 0 c7 1)) 1056964608)) (k0_ ()) (br (ltI 0 c7) (grd (okIx c7 a4) (grd (okIx (subI .i64 c7 1) a4) (br (fcmp .leq .f32 (gF g1 (ixO 0 c7 1)) (gF g1 (ixO 0 (subI .i64 c7 1) 1))) (k0_ ()) (grd (okIx c7 a5) (grd (z18 (gF g2 (ixO 0 c7 1))) (br (bnot (z16 (gF g2 (ixO 0 c7 1)))) (k0_ ()) (grd (okIx c7 a6) (grd (z9o (gF g3 (ixO 0 c7 1))) (br (bnot (z94 (gF g3 (ixO 0 c7 1)))) (k0_ ()) (kn_ (addI .i64 c7 1))))))))))) (grd (okIx c7 a5) (grd (z18 (gF g2 (ixO 0 c7 1))) (br (bnot (z16 (gF g2 (ixO 0 c7 1)))) (k0_ ()) (grd (okIx c7 a6) (grd (z9o (gF g3 (ixO 0 c7 1))) (br (bnot (z94 (gF g3 (ixO 0 c7 1)))) (k0_ ()) (kn_ (addI .i64 c7 1))))))))))) (br (bnot Bool.false) (k0_ ()) (br (ltI 0 c7) (grd (okIx c7 a4) (grd (okIx (subI .i64 c7 1) a4) (br (fcmp .leq .f32 (gF g1 (ixO 0 c7 1)) (gF g1 (ixO 0 (subI .i64 c7 1) 1))) (k0_ ()) (grd (okIx c7 a5) (grd (z18 (gF g2 (ixO 0 c7 1))) (br (bnot (z16 (gF g2 (ixO 0 c7 1)))) (k0_ ()) (grd (okIx c7 a6) (grd (z9o (gF g3 (ixO 0 c7 1))) (br (bnot (z94 (gF g3 (ixO 0 c7 1)))) (k0_ ()) (kn_ (addI .i64 c7 1))))))))))) (grd (okIx c7 a5) (grd (z18 (gF g2 (ixO 0 c7 1))) (br (bnot (z16 (gF g2 (ixO 0 c7 1)))) (k0_ ()) (grd (okIx c7 a6) (grd (z9o (gF g3 (ixO 0 c7 1))) (br (bnot (z94 (gF g3 (ixO 0 c7 1)))) (k0_ ()) (kn_ (addI .i64 c7 1)))))))))))) (k1_ c7 (ltI c7 c0)))
theorem y6n{R R':Type}(o:Option R→Option R')(h0:o none=none)(kn_:Int→Option R)(k0_:Unit→Option R)(k1_:Int→Bool→Option R):z59 c0 g1 g2 g3 a4 a5 a6 c7 (fun t4'=>o (kn_ t4')) (fun _=>o (k0_ ())) (fun c0_ c1_=>o (k1_ c0_ c1_))=o (z59 c0 g1 g2 g3 a4 a5 a6 c7 kn_ k0_ k1_):=by
 unfold z59
 repeat (first | apply grd_out h0 | apply br_out | rfl)
def z29(t3:Int)(b0 b1 b2:List Nat)(q1p q20 q21:Nat):Nat→Int→Option ((Unit)⊕(Int×Bool))
 | 0,_=>none
 | n+1,t4=>z59 t3 b0 b1 b2 q1p q20 q21  t4  (fun t4'=>z29 t3 b0 b1 b2 q1p q20 q21 n t4') (fun _=>some (Sum.inl ())) (fun c0_ c1_=>some (Sum.inr (c0_,c1_)))
theorem zql:z29 c0 g1 g2 g3 a4 a5 a6 (a7+1) c8=z59 c0 g1 g2 g3 a4 a5 a6  c8  (fun t4'=>z29 c0 g1 g2 g3 a4 a5 a6 a7 t4') (fun _=>some (Sum.inl ())) (fun c0_ c1_=>some (Sum.inr (c0_,c1_))):=rfl
def zcu:Bool:=(z29 c0 g1 g2 g3 a4 a5 a6 big c7).isSome
def zb7:Bool:=oL (z29 c0 g1 g2 g3 a4 a5 a6 big c7)
def y9k:Int:=((tR (z29 c0 g1 g2 g3 a4 a5 a6 big c7)).getD default).1
def y7t:Bool:=((tR (z29 c0 g1 g2 g3 a4 a5 a6 big c7)).getD default).2
def z0h{R:Type}(kn_:Int→Option R)(k0_:Int→Option R)(k1_:Int→Bool→Option R):Option R:=(br (ltI c3 c1) (grd (okIx c3 a0) (grd (zr8 (gF g2 (ixO 0 c3 1))) (br (zox (gF g2 (ixO 0 c3 1))) (k0_ c3) (kn_ (addI .i64 c3 1))))) (k1_ c3 (ltI c3 c1)))
theorem zbn{R R':Type}(o:Option R→Option R')(h0:o none=none)(kn_:Int→Option R)(k0_:Int→Option R)(k1_:Int→Bool→Option R):z0h a0 c1 g2 c3 (fun t8'=>o (kn_ t8')) (fun c0_=>o (k0_ c0_)) (fun c0_ c1_=>o (k1_ c0_ c1_))=o (z0h a0 c1 g2 c3 kn_ k0_ k1_):=by
 unfold z0h
 repeat (first | apply grd_out h0 | apply br_out | rfl)
def z01(sn:Nat)(t7:Int)(b0:List Nat):Nat→Int→Option ((Int)⊕(Int×Bool))
 | 0,_=>none
 | n+1,t8=>z0h sn t7 b0  t8  (fun t8'=>z01 sn t7 b0 n t8') (fun c0_=>some (Sum.inl c0_)) (fun c0_ c1_=>some (Sum.inr (c0_,c1_)))
theorem z5c:z01 a0 c1 g2 (a3+1) c4=z0h a0 c1 g2  c4  (fun t8'=>z01 a0 c1 g2 a3 t8') (fun c0_=>some (Sum.inl c0_)) (fun c0_ c1_=>some (Sum.inr (c0_,c1_))):=rfl
def z3m:Bool:=(z01 a0 c1 g2 big c3).isSome
def z3d:Bool:=oL (z01 a0 c1 g2 big c3)
def z5s:Int:=((tL (z01 a0 c1 g2 big c3)).getD default)
def zc5:Int:=((tR (z01 a0 c1 g2 big c3)).getD default).1
def zc0:Bool:=((tR (z01 a0 c1 g2 big c3)).getD default).2
def z0j{R:Type}(kn_:Int→Option R)(k0_:Int→Option R)(k1_:Int→Bool→Option R):Option R:=(br (ltI c3 c1) (grd (okIx c3 a0) (grd (ztk (gF g2 (ixO 0 c3 1))) (br (zry (gF g2 (ixO 0 c3 1))) (k0_ c3) (kn_ (addI .i64 c3 1))))) (k1_ c3 (ltI c3 c1)))
theorem zcs{R R':Type}(o:Option R→Option R')(h0:o none=none)(kn_:Int→Option R)(k0_:Int→Option R)(k1_:Int→Bool→Option R):z0j a0 c1 g2 c3 (fun t8'=>o (kn_ t8')) (fun c0_=>o (k0_ c0_)) (fun c0_ c1_=>o (k1_ c0_ c1_))=o (z0j a0 c1 g2 c3 kn_ k0_ k1_):=by
 unfold z0j
 repeat (first | apply grd_out h0 | apply br_out | rfl)
def z02(sn:Nat)(t7:Int)(b0:List Nat):Nat→Int→Option ((Int)⊕(Int×Bool))
 | 0,_=>none
 | n+1,t8=>z0j sn t7 b0  t8  (fun t8'=>z02 sn t7 b0 n t8') (fun c0_=>some (Sum.inl c0_)) (fun c0_ c1_=>some (Sum.inr (c0_,c1_)))
theorem z5r:z02 a0 c1 g2 (a3+1) c4=z0j a0 c1 g2  c4  (fun t8'=>z02 a0 c1 g2 a3 t8') (fun c0_=>some (Sum.inl c0_)) (fun c0_ c1_=>some (Sum.inr (c0_,c1_))):=rfl
def z43:Bool:=(z02 a0 c1 g2 big c3).isSome
def z3u:Bool:=oL (z02 a0 c1 g2 big c3)
def z6k:Int:=((tL (z02 a0 c1 g2 big c3)).getD default)
def zdk:Int:=((tR (z02 a0 c1 g2 big c3)).getD default).1
def zdn:Bool:=((tR (z02 a0 c1 g2 big c3)).getD default).2
def zl3{R:Type}(q24:Int)(q2f q2g:Nat) (k_:Nat→Nat→Nat→Nat→(List Nat)→(List Nat)→(List Nat)→(List Nat)→Option R):Option R:=(grd (zwv a0 (pF g1 0 (muN a0 1)) a2 (pF g3 0 (muN a2 1)) a4 (pF g5 0 (muN a4 1))) (grd (zvq a6 (pF g7 0 (muN a6 3))) (k_ (zvi a0 (pF g1 0 (muN a0 1)) a2 (pF g3 0 (muN a2 1)) a4 (pF g5 0 (muN a4 1))) (zv4 a0 (pF g1 0 (muN a0 1)) a2 (pF g3 0 (muN a2 1)) a4 (pF g5 0 (muN a4 1))) (zvs a0 (pF g1 0 (muN a0 1)) a2 (pF g3 0 (muN a2 1)) a4 (pF g5 0 (muN a4 1))) (ztm a6 (pF g7 0 (muN a6 3))) (zvr a0 (pF g1 0 (muN a0 1)) a2 (pF g3 0 (muN a2 1)) a4 (pF g5 0 (muN a4 1))) (zvu a0 (pF g1 0 (muN a0 1)) a2 (pF g3 0 (muN a2 1)) a4 (pF g5 0 (muN a4 1))) (zvg a0 (pF g1 0 (muN a0 1)) a2 (pF g3 0 (muN a2 1)) a4 (pF g5 0 (muN a4 1))) (ztg a6 (pF g7 0 (muN a6 3))))))
def z2a:Option (Nat×Nat×Nat×Nat×(List Nat)×(List Nat)×(List Nat)×(List Nat)):=zl3 a0 g1 a2 g3 a4 g5 a6 g7 c8 a9 a10 (fun c0_ c1_ c2_ c3_ c4_ c5_ c6_ c7_=>some (c0_,c1_,c2_,c3_,c4_,c5_,c6_,c7_))
theorem y8t:Nt8 (fun {R}=>zl3 (R:=R) a0 g1 a2 g3 a4 g5 a6 g7 c8 a9 a10):=by
 intro R R' o h0 k;unfold zl3;repeat (first | apply grd_out h0 | apply br_out | rfl)
def zsz:Bool:=(z2a a0 g1 a2 g3 a4 g5 a6 g7 c8 a9 a10).isSome
def zpw:Nat:=((z2a a0 g1 a2 g3 a4 g5 a6 g7 c8 a9 a10).getD default).1
def zqh:Nat:=((z2a a0 g1 a2 g3 a4 g5 a6 g7 c8 a9 a10).getD default).2.1
def zqw:Nat:=((z2a a0 g1 a2 g3 a4 g5 a6 g7 c8 a9 a10).getD default).2.2.1
def zqt:Nat:=((z2a a0 g1 a2 g3 a4 g5 a6 g7 c8 a9 a10).getD default).2.2.2.1
def zr2:List Nat:=((z2a a0 g1 a2 g3 a4 g5 a6 g7 c8 a9 a10).getD default).2.2.2.2.1
def zqn:List Nat:=((z2a a0 g1 a2 g3 a4 g5 a6 g7 c8 a9 a10).getD default).2.2.2.2.2.1
def zq6:List Nat:=((z2a a0 g1 a2 g3 a4 g5 a6 g7 c8 a9 a10).getD default).2.2.2.2.2.2.1
def zq3:List Nat:=((z2a a0 g1 a2 g3 a4 g5 a6 g7 c8 a9 a10).getD default).2.2.2.2.2.2.2
def zhf{R:Type}(k_:Bool→Option R):Option R:=(grd (z8i a0 (pF g1 0 (muN a0 1)) a6 (pF g7 0 (muN a6 1))) (br (bnot (z7x a0 (pF g1 0 (muN a0 1)) a6 (pF g7 0 (muN a6 1)))) (k_ Bool.false) (grd (z8i a2 (pF g3 0 (muN a2 1)) a8 (pF g9 0 (muN a8 1))) (br (bnot (z7x a2 (pF g3 0 (muN a2 1)) a8 (pF g9 0 (muN a8 1)))) (k_ Bool.false) (grd (z8i a4 (pF g5 0 (muN a4 1)) a10 (pF g11 0 (muN a10 1))) (br (bnot (z7x a4 (pF g5 0 (muN a4 1)) a10 (pF g11 0 (muN a10 1)))) (k_ Bool.false) (k_ Bool.true)))))))
def z78:Option (Bool):=zhf a0 g1 a2 g3 a4 g5 a6 g7 a8 g9 a10 g11 (fun c0_=>some c0_)
theorem y4r:Nt1 (fun {R}=>zhf (R:=R) a0 g1 a2 g3 a4 g5 a6 g7 a8 g9 a10 g11):=by
 intro R R' o h0 k;unfold zhf;repeat (first | apply grd_out h0 | apply br_out | rfl)
def zy9:Bool:=(z78 a0 g1 a2 g3 a4 g5 a6 g7 a8 g9 a10 g11).isSome
def zvf:Bool:=((z78 a0 g1 a2 g3 a4 g5 a6 g7 a8 g9 a10 g11).getD default)
def zf9{R:Type}(k_:Bool→Option R):Option R:=(br (neI (Int.ofNat a0) (Int.ofNat a2)) (k_ Bool.false) (grd (zid a0 a2 g1 g3 0) (br (zg8 a0 a2 g1 g3 0) (k_ Bool.false) (k_ Bool.true))))
def z68:Option (Bool):=zf9 a0 g1 a2 g3 (fun c0_=>some c0_)
theorem y2v:Nt1 (fun {R}=>zf9 (R:=R) a0 g1 a2 g3):=by
 intro R R' o h0 k;unfold zf9;repeat (first | apply grd_out h0 | apply br_out | rfl)
def zv3:Bool:=(z68 a0 g1 a2 g3).isSome
def zto:Bool:=((z68 a0 g1 a2 g3).getD default)
def zqj{R:Type}(k_:Bool→Option R):Option R:=(br (ltI (Int.ofNat a0) 2) (k_ Bool.false) (br (ltI 24 (Int.ofNat a0)) (k_ Bool.false) (br (neI (Int.ofNat a2) (Int.ofNat a0)) (k_ Bool.false) (br (neI (Int.ofNat a4) (Int.ofNat a0)) (k_ Bool.false) (grd (zcu (Int.ofNat a0) g1 g3 g5 a0 a2 a4 0) (br (zb7 (Int.ofNat a0) g1 g3 g5 a0 a2 a4 0) (k_ Bool.false) (k_ Bool.true)))))))
def zbi:Option (Bool):=zqj a0 g1 a2 g3 a4 g5 (fun c0_=>some c0_)
theorem ycv:Nt1 (fun {R}=>zqj (R:=R) a0 g1 a2 g3 a4 g5):=by
 intro R R' o h0 k;unfold zqj;repeat (first | apply grd_out h0 | apply br_out | rfl)
def y85:Bool:=(zbi a0 g1 a2 g3 a4 g5).isSome
def y5s:Bool:=((zbi a0 g1 a2 g3 a4 g5).getD default)
def z2j{R:Type}(k_:Int→Option R):Option R:=(grd (z3m a0 (Int.ofNat a0) g1 0) (br (z3d a0 (Int.ofNat a0) g1 0) (k_ (z5s a0 (Int.ofNat a0) g1 0)) (k_ (Int.negSucc 0))))
def z11:Option (Int):=z2j a0 g1 (fun c0_=>some c0_)
theorem zdh:Nt1 (fun {R}=>z2j (R:=R) a0 g1):=by
 intro R R' o h0 k;unfold z2j;repeat (first | apply grd_out h0 | apply br_out | rfl)
def z83:Bool:=(z11 a0 g1).isSome
def z7r:Int:=((z11 a0 g1).getD default)
def z2u{R:Type}(k_:Int→Option R):Option R:=(grd (z43 a0 (Int.ofNat a0) g1 0) (br (z3u a0 (Int.ofNat a0) g1 0) (k_ (z6k a0 (Int.ofNat a0) g1 0)) (k_ (Int.negSucc 0))))
def z14:Option (Int):=z2u a0 g1 (fun c0_=>some c0_)
theorem zeh:Nt1 (fun {R}=>z2u (R:=R) a0 g1):=by
 intro R R' o h0 k;unfold z2u;repeat (first | apply grd_out h0 | apply br_out | rfl)
def z8p:Bool:=(z14 a0 g1).isSome
def z8b:Int:=((z14 a0 g1).getD default)
def zkt{R:Type}(k_:Nat→Option R):Option R:=(grd (zth (fcvV .f32 .f64 a0)) (grd (zos (zj4 (fcvV .f32 .f64 a0))) (k_ (zf3 (zj4 (fcvV .f32 .f64 a0))))))
def z7y:Option (Nat):=zkt a0 (fun c0_=>some c0_)
theorem y8l:Nt1 (fun {R}=>zkt (R:=R) a0):=by
 intro R R' o h0 k;unfold zkt;repeat (first | apply grd_out h0 | apply br_out | rfl)
def z95:Bool:=(z7y a0).isSome
def z1t:Nat:=((z7y a0).getD default)
def z0k{R:Type}(kn_:Int→Option R)(k0_:Int→Option R)(k1_:Int→Bool→Option R):Option R:=(br (ltI c3 c1) (grd (okIx c3 a0) (grd (zvn (gF g2 (ixO 0 c3 1))) (br (ztf (gF g2 (ixO 0 c3 1))) (k0_ c3) (kn_ (addI .i64 c3 1))))) (k1_ c3 (ltI c3 c1)))
theorem zdi{R R':Type}(o:Option R→Option R')(h0:o none=none)(kn_:Int→Option R)(k0_:Int→Option R)(k1_:Int→Bool→Option R):z0k a0 c1 g2 c3 (fun t8'=>o (kn_ t8')) (fun c0_=>o (k0_ c0_)) (fun c0_ c1_=>o (k1_ c0_ c1_))=o (z0k a0 c1 g2 c3 kn_ k0_ k1_):=by
 unfold z0k
 repeat (first | apply grd_out h0 | apply br_out | rfl)
def z03(sn:Nat)(t7:Int)(b0:List Nat):Nat→Int→Option ((Int)⊕(Int×Bool))
 | 0,_=>none
 | n+1,t8=>z0k sn t7 b0  t8  (fun t8'=>z03 sn t7 b0 n t8') (fun c0_=>some (Sum.inl c0_)) (fun c0_ c1_=>some (Sum.inr (c0_,c1_)))
theorem z63:z03 a0 c1 g2 (a3+1) c4=z0k a0 c1 g2  c4  (fun t8'=>z03 a0 c1 g2 a3 t8') (fun c0_=>some (Sum.inl c0_)) (fun c0_ c1_=>some (Sum.inr (c0_,c1_))):=rfl
def z4l:Bool:=(z03 a0 c1 g2 big c3).isSome
def z48:Bool:=oL (z03 a0 c1 g2 big c3)
def z6p:Int:=((tL (z03 a0 c1 g2 big c3)).getD default)
def ze4:Int:=((tR (z03 a0 c1 g2 big c3)).getD default).1
def zdv:Bool:=((tR (z03 a0 c1 g2 big c3)).getD default).2
def zkv{R:Type}(k_:Bool→Option R):Option R:=(grd (zy9 a0 (pF g1 0 (muN a0 1)) a2 (pF g3 0 (muN a2 1)) a4 (pF g5 0 (muN a4 1)) a11 (pF g12 0 (muN a11 1)) a13 (pF g14 0 (muN a13 1)) a15 (pF g16 0 (muN a15 1))) (br (bnot (zvf a0 (pF g1 0 (muN a0 1)) a2 (pF g3 0 (muN a2 1)) a4 (pF g5 0 (muN a4 1)) a11 (pF g12 0 (muN a11 1)) a13 (pF g14 0 (muN a13 1)) a15 (pF g16 0 (muN a15 1)))) (k_ Bool.false) (grd (zv3 a6 (pF g7 0 (muN a6 3)) a17 (pF g18 0 (muN a17 3))) (br (bnot (zto a6 (pF g7 0 (muN a6 3)) a17 (pF g18 0 (muN a17 3)))) (k_ Bool.false) (br (neI c8 c19) (k_ Bool.false) (grd (z7j (fcvV .f32 .f64 a9) (fcvV .f32 .f64 a20)) (br (bnot (z6b (fcvV .f32 .f64 a9) (fcvV .f32 .f64 a20))) (k_ Bool.false) (grd (z7j (fcvV .f32 .f64 a10) (fcvV .f32 .f64 a21)) (br (bnot (z6b (fcvV .f32 .f64 a10) (fcvV .f32 .f64 a21))) (k_ Bool.false) (k_ Bool.true))))))))))
def z9c:Option (Bool):=zkv a0 g1 a2 g3 a4 g5 a6 g7 c8 a9 a10 a11 g12 a13 g14 a15 g16 a17 g18 c19 a20 a21 (fun c0_=>some c0_)
theorem y8b:Nt1 (fun {R}=>zkv (R:=R) a0 g1 a2 g3 a4 g5 a6 g7 c8 a9 a10 a11 g12 a13 g14 a15 g16 a17 g18 c19 a20 a21):=by
 intro R R' o h0 k;unfold zkv;repeat (first | apply grd_out h0 | apply br_out | rfl)
def zsx:Bool:=(z9c a0 g1 a2 g3 a4 g5 a6 g7 c8 a9 a10 a11 g12 a13 g14 a15 g16 a17 g18 c19 a20 a21).isSome
def zqi:Bool:=((z9c a0 g1 a2 g3 a4 g5 a6 g7 c8 a9 a10 a11 g12 a13 g14 a15 g16 a17 g18 c19 a20 a21).getD default)
def z32{R:Type}(k_:Int→Option R):Option R:=(grd (z4l a0 (Int.ofNat a0) g1 0) (br (z48 a0 (Int.ofNat a0) g1 0) (k_ (z6p a0 (Int.ofNat a0) g1 0)) (k_ (Int.negSucc 0))))
def z17:Option (Int):=z32 a0 g1 (fun c0_=>some c0_)
theorem zge:Nt1 (fun {R}=>z32 (R:=R) a0 g1):=by
 intro R R' o h0 k;unfold z32;repeat (first | apply grd_out h0 | apply br_out | rfl)
def z8x:Bool:=(z17 a0 g1).isSome
def z8o:Int:=((z17 a0 g1).getD default)
def zqu{R:Type}(k_:Nat→Option R):Option R:=(grd (bnot (nanQ .f64 a0)) (k_ (fint Ieee.Toward.down a0)))
def zbo:Option (Nat):=zqu a0 (fun c0_=>some c0_)
theorem ycu:Nt1 (fun {R}=>zqu (R:=R) a0):=by
 intro R R' o h0 k;unfold zqu;repeat (first | apply grd_out h0 | apply br_out | rfl)
def zy4:Bool:=(zbo a0).isSome
def za6:Nat:=((zbo a0).getD default)
def z5z{R:Type}(kn_:Nat→Nat→Option R)(k0_:Nat→Nat→Bool→Option R):Option R:=(br (fcmp .geq .f64 a2 4607182418800017408) (kn_ (fop .sub .f64 4607182418800017408 (fop .quo .f64 (fop .mul .f64 a0 a1) (fop .mul .f64 (fop .mul .f64 4611686018427387904 a2) (fop .add .f64 (fop .mul .f64 4611686018427387904 a2) 4607182418800017408)))) (fop .sub .f64 a2 4607182418800017408)) (k0_ a1 a2 (fcmp .geq .f64 a2 4607182418800017408)))
theorem y8e{R R':Type}(o:Option R→Option R')(h0:o none=none)(kn_:Nat→Nat→Option R)(k0_:Nat→Nat→Bool→Option R):z5z a0 a1 a2 (fun p' k'=>o (kn_ p' k')) (fun c0_ c1_ c2_=>o (k0_ c0_ c1_ c2_))=o (z5z a0 a1 a2 kn_ k0_):=by
 unfold z5z
 repeat (first | apply grd_out h0 | apply br_out | rfl)
def z2c(u:Nat):Nat→Nat→Nat→Option ((Nat×Nat×Bool))
 | 0,_,_=>none
 | n+1,p,k=>z5z u  p k  (fun p' k'=>z2c u n p' k') (fun c0_ c1_ c2_=>some (c0_,c1_,c2_))
theorem zrs:z2c a0 (a1+1) a2 a3=z5z a0  a2 a3  (fun p' k'=>z2c a0 a1 p' k') (fun c0_ c1_ c2_=>some (c0_,c1_,c2_)):=rfl
def zb3:Bool:=(z2c a0 big a1 a2).isSome
def z8h:Nat:=((z2c a0 big a1 a2).getD default).1
def yac:Nat:=((z2c a0 big a1 a2).getD default).2.1
def yao:Bool:=((z2c a0 big a1 a2).getD default).2.2
def z20{R:Type}(k_:Bool→Option R):Option R:=(grd (z83 a0 (pF g1 0 (muN a0 1))) (k_ (leI 0 (z7r a0 (pF g1 0 (muN a0 1))))))
def z0r:Option (Bool):=z20 a0 g1 (fun c0_=>some c0_)
theorem zba:Nt1 (fun {R}=>z20 (R:=R) a0 g1):=by
 intro R R' o h0 k;unfold z20;repeat (first | apply grd_out h0 | apply br_out | rfl)
def z6w:Bool:=(z0r a0 g1).isSome
def z6f:Bool:=((z0r a0 g1).getD default)
def z2d{R:Type}(k_:Bool→Option R):Option R:=(grd (z8p a0 (pF g1 0 (muN a0 1))) (k_ (leI 0 (z8b a0 (pF g1 0 (muN a0 1))))))
def z0x:Option (Bool):=z2d a0 g1 (fun c0_=>some c0_)
theorem zcb:Nt1 (fun {R}=>z2d (R:=R) a0 g1):=by
 intro R R' o h0 k;unfold z2d;repeat (first | apply grd_out h0 | apply br_out | rfl)
def z7s:Bool:=(z0x a0 g1).isSome
def z73:Bool:=((z0x a0 g1).getD default)
def z2k{R:Type}(k_:Bool→Option R):Option R:=(grd (z8x a0 (pF g1 0 (muN a0 1))) (k_ (leI 0 (z8o a0 (pF g1 0 (muN a0 1))))))
def z10:Option (Bool):=z2k a0 g1 (fun c0_=>some c0_)
theorem zd0:Nt1 (fun {R}=>z2k (R:=R) a0 g1):=by
 intro R R' o h0 k;unfold z2k;repeat (first | apply grd_out h0 | apply br_out | rfl)
def z81:Bool:=(z10 a0 g1).isSome
def z7w:Bool:=((z10 a0 g1).getD default)
def ztc{R:Type}(k_:Nat→Option R):Option R:=(grd (zvt a0) (br (fcmp .geq .f64 (z0g a0) 4602678819172646912) (br (fcmp .gtr .f64 (fop .sub .f64 (z0g a0) 4602678819172646912) 4598175219545276416) (grd (zb3 (fop .mul .f64 (fop .mul .f64 (fop .sub .f64 4602678819172646912 (fop .sub .f64 (z0g a0) 4602678819172646912)) 4618760256179416344) (fop .mul .f64 (fop .sub .f64 4602678819172646912 (fop .sub .f64 (z0g a0) 4602678819172646912)) 4618760256179416344)) 4607182418800017408 4620693217682128896) (k_ (fneg .f64 (fop .mul .f64 (fop .mul .f64 (fop .sub .f64 4602678819172646912 (fop .sub .f64 (z0g a0) 4602678819172646912)) 4618760256179416344) (z8h (fop .mul .f64 (fop .mul .f64 (fop .sub .f64 4602678819172646912 (fop .sub .f64 (z0g a0) 4602678819172646912)) 4618760256179416344) (fop .mul .f64 (fop .sub .f64 4602678819172646912 (fop .sub .f64 (z0g a0) 4602678819172646912)) 4618760256179416344)) 4607182418800017408 4620693217682128896))))) (grd (zb3 (fop .mul .f64 (fop .mul .f64 (fop .sub .f64 (z0g a0) 4602678819172646912) 4618760256179416344) (fop .mul .f64 (fop .sub .f64 (z0g a0) 4602678819172646912) 4618760256179416344)) 4607182418800017408 4620693217682128896) (k_ (fneg .f64 (fop .mul .f64 (fop .mul .f64 (fop .sub .f64 (z0g a0) 4602678819172646912) 4618760256179416344) (z8h (fop .mul .f64 (fop .mul .f64 (fop .sub .f64 (z0g a0) 4602678819172646912) 4618760256179416344) (fop .mul .f64 (fop .sub .f64 (z0g a0) 4602678819172646912) 4618760256179416344)) 4607182418800017408 4620693217682128896)))))) (br (fcmp .gtr .f64 (z0g a0) 4598175219545276416) (grd (zb3 (fop .mul .f64 (fop .mul .f64 (fop .sub .f64 4602678819172646912 (z0g a0)) 4618760256179416344) (fop .mul .f64 (fop .sub .f64 4602678819172646912 (z0g a0)) 4618760256179416344)) 4607182418800017408 4620693217682128896) (k_ (fop .mul .f64 (fop .mul .f64 (fop .sub .f64 4602678819172646912 (z0g a0)) 4618760256179416344) (z8h (fop .mul .f64 (fop .mul .f64 (fop .sub .f64 4602678819172646912 (z0g a0)) 4618760256179416344) (fop .mul .f64 (fop .sub .f64 4602678819172646912 (z0g a0)) 4618760256179416344)) 4607182418800017408 4620693217682128896)))) (grd (zb3 (fop .mul .f64 (fop .mul .f64 (z0g a0) 4618760256179416344) (fop .mul .f64 (z0g a0) 4618760256179416344)) 4607182418800017408 4620693217682128896) (k_ (fop .mul .f64 (fop .mul .f64 (z0g a0) 4618760256179416344) (z8h (fop .mul .f64 (fop .mul .f64 (z0g a0) 4618760256179416344) (fop .mul .f64 (z0g a0) 4618760256179416344)) 4607182418800017408 4620693217682128896)))))))
def zdx:Option (Nat):=ztc a0 (fun c0_=>some c0_)
theorem ye5:Nt1 (fun {R}=>ztc (R:=R) a0):=by
 intro R R' o h0 k;unfold ztc;repeat (first | apply grd_out h0 | apply br_out | rfl)
def ybr:Bool:=(zdx a0).isSome
def zxq:Nat:=((zdx a0).getD default)
def zhm{R:Type}(k_:Nat→Option R):Option R:=(grd (zy4 (fop .add .f64 (fcvV .f32 .f64 a0) 4602678819172646912)) (grd (fcvB .f64 .f32 (fop .sub .f64 (fcvV .f32 .f64 a0) (za6 (fop .add .f64 (fcvV .f32 .f64 a0) 4602678819172646912)))) (br (fcmp .geq .f32 (fcvV .f64 .f32 (fop .sub .f64 (fcvV .f32 .f64 a0) (za6 (fop .add .f64 (fcvV .f32 .f64 a0) 4602678819172646912)))) 1056964608) (k_ 3204448256) (k_ (fcvV .f64 .f32 (fop .sub .f64 (fcvV .f32 .f64 a0) (za6 (fop .add .f64 (fcvV .f32 .f64 a0) 4602678819172646912))))))))
def z7h:Option (Nat):=zhm a0 (fun c0_=>some c0_)
theorem y5c:Nt1 (fun {R}=>zhm (R:=R) a0):=by
 intro R R' o h0 k;unfold zhm;repeat (first | apply grd_out h0 | apply br_out | rfl)
def zy8:Bool:=(z7h a0).isSome
def z1d:Nat:=((z7h a0).getD default)
def zkw{R:Type}(k_:Nat→Option R):Option R:=(grd (zy4 (fop .add .f64 (fcvV .f32 .f64 a0) 4602678819172646912)) (grd (zos (fop .sub .f64 (fcvV .f32 .f64 a0) (za6 (fop .add .f64 (fcvV .f32 .f64 a0) 4602678819172646912)))) (br (fcmp .geq .f32 (zf3 (fop .sub .f64 (fcvV .f32 .f64 a0) (za6 (fop .add .f64 (fcvV .f32 .f64 a0) 4602678819172646912)))) 1056964608) (k_ 3204448256) (k_ (zf3 (fop .sub .f64 (fcvV .f32 .f64 a0) (za6 (fop .add .f64 (fcvV .f32 .f64 a0) 4602678819172646912))))))))
def z90:Option (Nat):=zkw a0 (fun c0_=>some c0_)
theorem y7v:Nt1 (fun {R}=>zkw (R:=R) a0):=by
 intro R R' o h0 k;unfold zkw;repeat (first | apply grd_out h0 | apply br_out | rfl)
def y2k:Bool:=(z90 a0).isSome
def z5a:Nat:=((z90 a0).getD default)
def z5b{R:Type}(kn_:Nat→Int→Option R)(k0_:Unit→Option R)(k1_:Nat→Int→Bool→Option R):Option R:=(br (ltI c5 c0) (grd (okIx c5 a2) (br (bnot (fcmp .gtr .f32 (gF g1 (ixO 0 c5 3)) a4)) (k0_ ()) (br (bnot (fcmp .lss .f32 (gF g1 (ixO 0 c5 3)) a3)) (k0_ ()) (grd (z8e (gF g1 (Nat.succ (ixO 0 c5 3)))) (br (bnot (z7g (gF g1 (Nat.succ (ixO 0 c5 3))))) (k0_ ()) (grd (z18 (gF g1 (Nat.succ (Nat.succ (ixO 0 c5 3))))) (br (bnot (z16 (gF g1 (Nat.succ (Nat.succ (ixO 0 c5 3)))))) (k0_ ()) (kn_ (gF g1 (ixO 0 c5 3)) (addI .i64 c5 1))))))))) (k1_ a4 c5 (ltI c5 c0)))
theorem y6q{R R':Type}(o:Option R→Option R')(h0:o none=none)(kn_:Nat→Int→Option R)(k0_:Unit→Option R)(k1_:Nat→Int→Bool→Option R):z5b c0 g1 a2 a3 a4 c5 (fun t4' t58'=>o (kn_ t4' t58')) (fun _=>o (k0_ ())) (fun c0_ c1_ c2_=>o (k1_ c0_ c1_ c2_))=o (z5b c0 g1 a2 a3 a4 c5 kn_ k0_ k1_):=by
 unfold z5b
 repeat (first | apply grd_out h0 | apply br_out | rfl)
def z1f(t57:Int)(b3:List Nat)(q0r q0z:Nat):Nat→Nat→Int→Option ((Unit)⊕(Nat×Int×Bool))
 | 0,_,_=>none
 | n+1,t4,t58=>z5b t57 b3 q0r q0z  t4 t58  (fun t4' t58'=>z1f t57 b3 q0r q0z n t4' t58') (fun _=>some (Sum.inl ())) (fun c0_ c1_ c2_=>some (Sum.inr (c0_,c1_,c2_)))
theorem zrc:z1f c0 g1 a2 a3 (a4+1) a5 c6=z5b c0 g1 a2 a3  a5 c6  (fun t4' t58'=>z1f c0 g1 a2 a3 a4 t4' t58') (fun _=>some (Sum.inl ())) (fun c0_ c1_ c2_=>some (Sum.inr (c0_,c1_,c2_))):=rfl
def zja:Bool:=(z1f c0 g1 a2 a3 big a4 c5).isSome
def zhy:Bool:=oL (z1f c0 g1 a2 a3 big a4 c5)
def y7s:Nat:=((tR (z1f c0 g1 a2 a3 big a4 c5)).getD default).1
def y9h:Int:=((tR (z1f c0 g1 a2 a3 big a4 c5)).getD default).2.1
def y8k:Bool:=((tR (z1f c0 g1 a2 a3 big a4 c5)).getD default).2.2
def zcz{R:Type}(k_:Bool→Option R):Option R:=(grd (z6w a0 (pF g1 0 (muN a0 1))) (k_ (bnot (z6f a0 (pF g1 0 (muN a0 1))))))
def z24:Option (Bool):=zcz a0 g1 (fun c0_=>some c0_)
theorem y08:Nt1 (fun {R}=>zcz (R:=R) a0 g1):=by
 intro R R' o h0 k;unfold zcz;repeat (first | apply grd_out h0 | apply br_out | rfl)
def z7v:Bool:=(z24 a0 g1).isSome
def z6m:Bool:=((z24 a0 g1).getD default)
def zqz{R:Type}(k_:Bool→Option R):Option R:=(grd (y85 a0 (pF g1 0 (muN a0 1)) a2 (pF g3 0 (muN a2 1)) a4 (pF g5 0 (muN a4 1))) (br (bnot (y5s a0 (pF g1 0 (muN a0 1)) a2 (pF g3 0 (muN a2 1)) a4 (pF g5 0 (muN a4 1)))) (k_ Bool.false) (br (ltI (Int.ofNat a6) 2) (k_ Bool.false) (br (ltI 12 (Int.ofNat a6)) (k_ Bool.false) (grd (zxp c8 1 6) (br (bnot (zu6 c8 1 6)) (k_ Bool.false) (grd (z9o a9) (br (bnot (z94 a9)) (k_ Bool.false) (grd (z18 a10) (br (bnot (z16 a10)) (k_ Bool.false) (grd (zja (Int.ofNat a6) g7 a6 a10 a9 0) (br (zhy (Int.ofNat a6) g7 a6 a10 a9 0) (k_ Bool.false) (k_ Bool.true)))))))))))))
def zb4:Option (Bool):=zqz a0 g1 a2 g3 a4 g5 a6 g7 c8 a9 a10 (fun c0_=>some c0_)
theorem yco:Nt1 (fun {R}=>zqz (R:=R) a0 g1 a2 g3 a4 g5 a6 g7 c8 a9 a10):=by
 intro R R' o h0 k;unfold zqz;repeat (first | apply grd_out h0 | apply br_out | rfl)
def zr1:Bool:=(zb4 a0 g1 a2 g3 a4 g5 a6 g7 c8 a9 a10).isSome
def zn9:Bool:=((zb4 a0 g1 a2 g3 a4 g5 a6 g7 c8 a9 a10).getD default)
def zi8{R:Type}(k_:Bool→Option R):Option R:=(grd (z7s a0 (pF g1 0 (muN a0 1))) (k_ (bnot (z73 a0 (pF g1 0 (muN a0 1))))))
def z5j:Option (Bool):=zi8 a0 g1 (fun c0_=>some c0_)
theorem y4u:Nt1 (fun {R}=>zi8 (R:=R) a0 g1):=by
 intro R R' o h0 k;unfold zi8;repeat (first | apply grd_out h0 | apply br_out | rfl)
def zod:Bool:=(z5j a0 g1).isSome
def zm5:Bool:=((z5j a0 g1).getD default)
def zjp{R:Type}(k_:Bool→Option R):Option R:=(grd (z81 a0 (pF g1 0 (muN a0 1))) (k_ (bnot (z7w a0 (pF g1 0 (muN a0 1))))))
def z8c:Option (Bool):=zjp a0 g1 (fun c0_=>some c0_)
theorem y67:Nt1 (fun {R}=>zjp (R:=R) a0 g1):=by
 intro R R' o h0 k;unfold zjp;repeat (first | apply grd_out h0 | apply br_out | rfl)
def zzy:Bool:=(z8c a0 g1).isSome
def zx2:Bool:=((z8c a0 g1).getD default)
def zh7{R:Type}(k_:Nat→Option R):Option R:=(grd (z2v a0) (br (bnot (z2f a0)) (grd y5i (grd (fcvB .f64 .f32 zta) (k_ (fcvV .f64 .f32 zta)))) (grd (y5n (fcvV .f32 .f64 a0)) (br (y32 (fcvV .f32 .f64 a0)) (k_ 0) (grd (ybr (fcvV .f32 .f64 a0)) (grd (fcvB .f64 .f32 (zxq (fcvV .f32 .f64 a0))) (k_ (fcvV .f64 .f32 (zxq (fcvV .f32 .f64 a0))))))))))
def z7e:Option (Nat):=zh7 a0 (fun c0_=>some c0_)
theorem y3k:Nt1 (fun {R}=>zh7 (R:=R) a0):=by
 intro R R' o h0 k;unfold zh7;repeat (first | apply grd_out h0 | apply br_out | rfl)
def z5n:Bool:=(z7e a0).isSome
def z1v:Nat:=((z7e a0).getD default)
def zf4{R:Type}(k_:Nat→Nat→Bool→Option R):Option R:=(grd (zod 2 (pF [a0,a1] 0 (muN 2 1))) (br (bnot (zm5 2 (pF [a0,a1] 0 (muN 2 1)))) (k_ 0 0 Bool.false) (k_ a0 a1 Bool.true)))
def z3y:Option (Nat×Nat×Bool):=zf4 a0 a1 (fun c0_ c1_ c2_=>some (c0_,c1_,c2_))
theorem y2t:Nt3 (fun {R}=>zf4 (R:=R) a0 a1):=by
 intro R R' o h0 k;unfold zf4;repeat (first | apply grd_out h0 | apply br_out | rfl)
def zli:Bool:=(z3y a0 a1).isSome
def zjz:Nat:=((z3y a0 a1).getD default).1
def zk2:Nat:=((z3y a0 a1).getD default).2.1
def zk6:Bool:=((z3y a0 a1).getD default).2.2
def zf5{R:Type}(k_:Bool→Option R):Option R:=(grd (zr1 a0 (pF g1 0 (muN a0 1)) a2 (pF g3 0 (muN a2 1)) a4 (pF g5 0 (muN a4 1)) a6 (pF g7 0 (muN a6 3)) c8 a9 a10) (br (zn9 a0 (pF g1 0 (muN a0 1)) a2 (pF g3 0 (muN a2 1)) a4 (pF g5 0 (muN a4 1)) a6 (pF g7 0 (muN a6 3)) c8 a9 a10) (grd (zxp c11 0 (subI .i64 (Int.ofNat a6) 1)) (k_ (zu6 c11 0 (subI .i64 (Int.ofNat a6) 1)))) (k_ Bool.false)))
def z6e:Option (Bool):=zf5 a0 g1 a2 g3 a4 g5 a6 g7 c8 a9 a10 c11 (fun c0_=>some c0_)
theorem y3c:Nt1 (fun {R}=>zf5 (R:=R) a0 g1 a2 g3 a4 g5 a6 g7 c8 a9 a10 c11):=by
 intro R R' o h0 k;unfold zf5;repeat (first | apply grd_out h0 | apply br_out | rfl)
def zv9:Bool:=(z6e a0 g1 a2 g3 a4 g5 a6 g7 c8 a9 a10 c11).isSome
def ztz:Bool:=((z6e a0 g1 a2 g3 a4 g5 a6 g7 c8 a9 a10 c11).getD default)
def z9r{R:Type}(q00:Nat)(q03:List Nat)(q02:Nat)(q06:List Nat)(q01:Nat)(q05:List Nat)(q09:Nat)(q0e:List Nat)(q0h:Int)(q0n q0m:Nat)(i:Int)(q1o:Nat)(k_:Nat→Option R):Option R:=(grd (okIx i q09) (grd (z5n q1o) (k_ (fop .quo .f32 (fop .quo .f32 (fop .mul .f32 (fOI .f32 q0h) (fop .sub .f32 q0m (gF q0e (ixO 0 i 3)))) (fop .mul .f32 1073741824 (gF q0e (ixO 0 i 3)))) (fop .add .f32 (fop .quo .f32 (fop .mul .f32 (fOI .f32 q0h) (fop .sub .f32 q0m (gF q0e (ixO 0 i 3)))) (fop .mul .f32 1073741824 (gF q0e (ixO 0 i 3)))) (z1v q1o))))))
def z4d:Option (Nat):=z9r a0 g1 a2 g3 a4 g5 a6 g7 c8 a9 a10 c11 a12 (fun c0_=>some c0_)
theorem zwf:Nt1 (fun {R}=>z9r (R:=R) a0 g1 a2 g3 a4 g5 a6 g7 c8 a9 a10 c11 a12):=by
 intro R R' o h0 k;unfold z9r;repeat (first | apply grd_out h0 | apply br_out | rfl)
def zp8:Bool:=(z4d a0 g1 a2 g3 a4 g5 a6 g7 c8 a9 a10 c11 a12).isSome
def zdo:Nat:=((z4d a0 g1 a2 g3 a4 g5 a6 g7 c8 a9 a10 c11 a12).getD default)
def z0f{R:Type}(kn_:Int→Option R)(k0_:Int→Option R)(k1_:Int→Bool→Option R):Option R:=(br (ltI c4 c1) (grd (okIx c4 a0) (br (fcmp .gtr .f32 (gF g2 (ixO 0 c4 1)) a3) (k0_ c4) (kn_ (addI .i64 c4 1)))) (k1_ c4 (ltI c4 c1)))
theorem zb1{R R':Type}(o:Option R→Option R')(h0:o none=none)(kn_:Int→Option R)(k0_:Int→Option R)(k1_:Int→Bool→Option R):z0f a0 c1 g2 a3 c4 (fun t8'=>o (kn_ t8')) (fun c0_=>o (k0_ c0_)) (fun c0_ c1_=>o (k1_ c0_ c1_))=o (z0f a0 c1 g2 a3 c4 kn_ k0_ k1_):=by
 unfold z0f
 repeat (first | apply grd_out h0 | apply br_out | rfl)
def z00(sn:Nat)(t7:Int)(b0:List Nat)(b4:Nat):Nat→Int→Option ((Int)⊕(Int×Bool))
 | 0,_=>none
 | n+1,t8=>z0f sn t7 b0 b4  t8  (fun t8'=>z00 sn t7 b0 b4 n t8') (fun c0_=>some (Sum.inl c0_)) (fun c0_ c1_=>some (Sum.inr (c0_,c1_)))
theorem z58:z00 a0 c1 g2 a3 (a4+1) c5=z0f a0 c1 g2 a3  c5  (fun t8'=>z00 a0 c1 g2 a3 a4 t8') (fun c0_=>some (Sum.inl c0_)) (fun c0_ c1_=>some (Sum.inr (c0_,c1_))):=rfl
def z39:Bool:=(z00 a0 c1 g2 a3 big c4).isSome
def z36:Bool:=oL (z00 a0 c1 g2 a3 big c4)
def z0c:Int:=((tL (z00 a0 c1 g2 a3 big c4)).getD default)
def zbd:Int:=((tR (z00 a0 c1 g2 a3 big c4)).getD default).1
def zbl:Bool:=((tR (z00 a0 c1 g2 a3 big c4)).getD default).2
def z40{R:Type}(kn_:Int→Option R)(k0_:Int→Bool→Option R):Option R:=(br (leI 0 c3) (grd (okIx c3 a2) (br (fcmp .gtr .f32 (gF g1 (ixO 0 c3 1)) a0) (kn_ (subI .i64 c3 1)) (k0_ c3 (fcmp .gtr .f32 (gF g1 (ixO 0 c3 1)) a0)))) (k0_ c3 Bool.false))
theorem y3d{R R':Type}(o:Option R→Option R')(h0:o none=none)(kn_:Int→Option R)(k0_:Int→Bool→Option R):z40 a0 g1 a2 c3 (fun t10'=>o (kn_ t10')) (fun c0_ c1_=>o (k0_ c0_ c1_))=o (z40 a0 g1 a2 c3 kn_ k0_):=by
 unfold z40
 repeat (first | apply grd_out h0 | apply br_out | rfl)
def z1w(t8:Nat)(b0:List Nat)(q1p:Nat):Nat→Int→Option ((Int×Bool))
 | 0,_=>none
 | n+1,t10=>z40 t8 b0 q1p  t10  (fun t10'=>z1w t8 b0 q1p n t10') (fun c0_ c1_=>some (c0_,c1_))
theorem zn1:z1w a0 g1 a2 (a3+1) c4=z40 a0 g1 a2  c4  (fun t10'=>z1w a0 g1 a2 a3 t10') (fun c0_ c1_=>some (c0_,c1_)):=rfl
def zv6:Bool:=(z1w a0 g1 a2 big c3).isSome
def zqc:Int:=((z1w a0 g1 a2 big c3).getD default).1
def y4p:Bool:=((z1w a0 g1 a2 big c3).getD default).2
def znc{R:Type}(k_:Bool→Option R):Option R:=(grd (zv9 a0 (pF g1 0 (muN a0 1)) a2 (pF g3 0 (muN a2 1)) a4 (pF g5 0 (muN a4 1)) a6 (pF g7 0 (muN a6 3)) c8 a9 a10 c11) (br (ztz a0 (pF g1 0 (muN a0 1)) a2 (pF g3 0 (muN a2 1)) a4 (pF g5 0 (muN a4 1)) a6 (pF g7 0 (muN a6 3)) c8 a9 a10 c11) (grd (z8e a12) (br (z7g a12) (grd (z8e a13) (br (z7g a13) (grd (z18 a14) (br (z16 a14) (grd (zzq a0 (pF g1 0 (muN a0 1)) a2 (pF g3 0 (muN a2 1)) a4 (pF g5 0 (muN a4 1)) a6 (pF g7 0 (muN a6 3)) c8 a9 a10 c11 a14) (k_ (zy7 a0 (pF g1 0 (muN a0 1)) a2 (pF g3 0 (muN a2 1)) a4 (pF g5 0 (muN a4 1)) a6 (pF g7 0 (muN a6 3)) c8 a9 a10 c11 a14))) (k_ Bool.false))) (k_ Bool.false))) (k_ Bool.false))) (k_ Bool.false)))
def zab:Option (Bool):=znc a0 g1 a2 g3 a4 g5 a6 g7 c8 a9 a10 c11 a12 a13 a14 (fun c0_=>some c0_)
theorem ya4:Nt1 (fun {R}=>znc (R:=R) a0 g1 a2 g3 a4 g5 a6 g7 c8 a9 a10 c11 a12 a13 a14):=by
 intro R R' o h0 k;unfold znc;repeat (first | apply grd_out h0 | apply br_out | rfl)
def y5q:Bool:=(zab a0 g1 a2 g3 a4 g5 a6 g7 c8 a9 a10 c11 a12 a13 a14).isSome
def y2w:Bool:=((zab a0 g1 a2 g3 a4 g5 a6 g7 c8 a9 a10 c11 a12 a13 a14).getD default)
def z6r{R:Type}(q14:Nat)(q1h:List Nat)(q15:Nat)(q1i:List Nat)(x1:Nat)(k_:Int→Int→Nat→Nat→Nat→Option R):Option R:=(grd (zy8 x1) (grd (z39 a0 (Int.ofNat a0) g1 (z1d x1) 0) (br (z36 a0 (Int.ofNat a0) g1 (z1d x1) 0) (br (eqI (z0c a0 (Int.ofNat a0) g1 (z1d x1) 0) 0) (grd (okIx (subI .i64 (Int.ofNat a0) 1) a0) (grd (okIx 0 a0) (k_ (subI .i64 (Int.ofNat a0) 1) 0 (fop .sub .f32 (gF g1 (ixO 0 (subI .i64 (Int.ofNat a0) 1) 1)) 1065353216) (gF g1 (ixO 0 0 1)) (z1d x1)))) (br (ltI (z0c a0 (Int.ofNat a0) g1 (z1d x1) 0) 0) (grd (okIx (subI .i64 (Int.ofNat a0) 1) a0) (grd (okIx 0 a0) (k_ (subI .i64 (Int.ofNat a0) 1) 0 (gF g1 (ixO 0 (subI .i64 (Int.ofNat a0) 1) 1)) (fop .add .f32 (gF g1 (ixO 0 0 1)) 1065353216) (z1d x1)))) (grd (okIx (subI .i64 (z0c a0 (Int.ofNat a0) g1 (z1d x1) 0) 1) a0) (grd (okIx (z0c a0 (Int.ofNat a0) g1 (z1d x1) 0) a0) (k_ (subI .i64 (z0c a0 (Int.ofNat a0) g1 (z1d x1) 0) 1) (z0c a0 (Int.ofNat a0) g1 (z1d x1) 0) (gF g1 (ixO 0 (subI .i64 (z0c a0 (Int.ofNat a0) g1 (z1d x1) 0) 1) 1)) (gF g1 (ixO 0 (z0c a0 (Int.ofNat a0) g1 (z1d x1) 0) 1)) (z1d x1)))))) (grd (okIx (subI .i64 (Int.ofNat a0) 1) a0) (grd (okIx 0 a0) (k_ (subI .i64 (Int.ofNat a0) 1) 0 (gF g1 (ixO 0 (subI .i64 (Int.ofNat a0) 1) 1)) (fop .add .f32 (gF g1 (ixO 0 0 1)) 1065353216) (z1d x1)))))))
def z1a:Option (Int×Int×Nat×Nat×Nat):=z6r a0 g1 a2 g3 a4 g5 a6 (fun c0_ c1_ c2_ c3_ c4_=>some (c0_,c1_,c2_,c3_,c4_))
theorem zu5:Nt5 (fun {R}=>z6r (R:=R) a0 g1 a2 g3 a4 g5 a6):=by
 intro R R' o h0 k;unfold z6r;repeat (first | apply grd_out h0 | apply br_out | rfl)
def zmx:Bool:=(z1a a0 g1 a2 g3 a4 g5 a6).isSome
def z34:Int:=((z1a a0 g1 a2 g3 a4 g5 a6).getD default).1
def z35:Int:=((z1a a0 g1 a2 g3 a4 g5 a6).getD default).2.1
def z4o:Nat:=((z1a a0 g1 a2 g3 a4 g5 a6).getD default).2.2.1
def z8v:Nat:=((z1a a0 g1 a2 g3 a4 g5 a6).getD default).2.2.2.1
def zcr:Nat:=((z1a a0 g1 a2 g3 a4 g5 a6).getD default).2.2.2.2
def zd7:=(fop .add .f32 (gF g0 (ixO 0 0 1)) 1065353216)
def z0b:=(zqc (z5a a2) g1 a0 (subI .i64 (Int.ofNat a0) 1))
def z9w:=(gF g1 (ixO 0 (subI .i64 (Int.ofNat a0) 1) 1))
def zcv:=(fcmp .lss .f32 (z5a a1) (gF g0 (ixO 0 0 1)))
def zcw:=(okIx (z0b a0 g1 a2) a0)
def zd4:=(fop .sub .f32 (z9w a0 g1) 1065353216)
def z6g:=(gF g1 (ixO 0 (z0b a0 g1 a2) 1))
def za2:=(eqI (addI .i64 (z0b a0 g1 a2) 1) 0)
def z87:=(gF g1 (ixO 0 (addI .i64 (z0b a0 g1 a2) 1) 1))
def z9u:=(fop .sub .f32 (z6g a0 g1 a2) 1065353216)
def z5g:=(fop .sub .f32 (z5a a2) (z6g a0 g1 a2))
def z77:=(fop .sub .f32 (gF g1 (ixO 0 0 1)) (zd4 a0 g1))
def z7a:=(fop .sub .f32 (zd7 g1) (z9w a0 g1))
def zb6:=(fop .sub .f32 (z5a a2) (z9u a0 g1 a2))
def z7c:=(fop .sub .f32 (zd7 g1) (z6g a0 g1 a2))
def z76:=(fop .sub .f32 (gF g1 (ixO 0 0 1)) (z9u a0 g1 a2))
def z2y:=(fop .sub .f32 (z87 a0 g1 a2) (z6g a0 g1 a2))
def z7i:=(fop .sub .f32 (z87 a0 g1 a2) (z9u a0 g1 a2))
def z2x:=(fop .sub .f32 (fop .add .f32 (z87 a0 g1 a2) 1065353216) (z6g a0 g1 a2))
def zg9{R:Type}(q14:Nat)(q1h:List Nat)(q15:Nat)(q1i:List Nat)(x1:Nat)(k_:Int→Int→Nat→Nat→Option R):Option R:=(grd (y2k x1) (grd (zv6 (z5a x1) g1 a0 (subI .i64 (Int.ofNat a0) 1)) (br (ltI (z0b a0 g1 x1) 0) (grd (okIx (subI .i64 (Int.ofNat a0) 1) a0) (grd (okIx 0 a0) (br (zcv g1 x1) (br (fcmp .eql .f32 (z77 a0 g1) 0) (k_ (subI .i64 (Int.ofNat a0) 1) 0 0 (z77 a0 g1)) (k_ (subI .i64 (Int.ofNat a0) 1) 0 (fop .quo .f32 (fop .sub .f32 (z5a x1) (zd4 a0 g1)) (z77 a0 g1)) (z77 a0 g1))) (br (fcmp .eql .f32 (z7a a0 g1) 0) (k_ (subI .i64 (Int.ofNat a0) 1) 0 0 (z7a a0 g1)) (k_ (subI .i64 (Int.ofNat a0) 1) 0 (fop .quo .f32 (fop .sub .f32 (z5a x1) (z9w a0 g1)) (z7a a0 g1)) (z7a a0 g1)))))) (br (eqI (addI .i64 (z0b a0 g1 x1) 1) (Int.ofNat a0)) (grd (zcw a0 g1 x1) (grd (okIx 0 a0) (br (zcv g1 x1) (br (fcmp .eql .f32 (z76 a0 g1 x1) 0) (k_ (z0b a0 g1 x1) 0 0 (z76 a0 g1 x1)) (k_ (z0b a0 g1 x1) 0 (fop .quo .f32 (zb6 a0 g1 x1) (z76 a0 g1 x1)) (z76 a0 g1 x1))) (br (fcmp .eql .f32 (z7c a0 g1 x1) 0) (k_ (z0b a0 g1 x1) 0 0 (z7c a0 g1 x1)) (k_ (z0b a0 g1 x1) 0 (fop .quo .f32 (z5g a0 g1 x1) (z7c a0 g1 x1)) (z7c a0 g1 x1)))))) (grd (zcw a0 g1 x1) (grd (okIx (addI .i64 (z0b a0 g1 x1) 1) a0) (br (za2 a0 g1 x1) (br (fcmp .lss .f32 (z5a x1) (z87 a0 g1 x1)) (br (fcmp .eql .f32 (z7i a0 g1 x1) 0) (k_ (z0b a0 g1 x1) (addI .i64 (z0b a0 g1 x1) 1) 0 (z7i a0 g1 x1)) (k_ (z0b a0 g1 x1) (addI .i64 (z0b a0 g1 x1) 1) (fop .quo .f32 (zb6 a0 g1 x1) (z7i a0 g1 x1)) (z7i a0 g1 x1))) (br (za2 a0 g1 x1) (br (fcmp .eql .f32 (z2x a0 g1 x1) 0) (k_ (z0b a0 g1 x1) (addI .i64 (z0b a0 g1 x1) 1) 0 (z2x a0 g1 x1)) (k_ (z0b a0 g1 x1) (addI .i64 (z0b a0 g1 x1) 1) (fop .quo .f32 (z5g a0 g1 x1) (z2x a0 g1 x1)) (z2x a0 g1 x1))) (br (fcmp .eql .f32 (z2y a0 g1 x1) 0) (k_ (z0b a0 g1 x1) (addI .i64 (z0b a0 g1 x1) 1) 0 (z2y a0 g1 x1)) (k_ (z0b a0 g1 x1) (addI .i64 (z0b a0 g1 x1) 1) (fop .quo .f32 (z5g a0 g1 x1) (z2y a0 g1 x1)) (z2y a0 g1 x1))))) (br (za2 a0 g1 x1) (br (fcmp .eql .f32 (z2x a0 g1 x1) 0) (k_ (z0b a0 g1 x1) (addI .i64 (z0b a0 g1 x1) 1) 0 (z2x a0 g1 x1)) (k_ (z0b a0 g1 x1) (addI .i64 (z0b a0 g1 x1) 1) (fop .quo .f32 (z5g a0 g1 x1) (z2x a0 g1 x1)) (z2x a0 g1 x1))) (br (fcmp .eql .f32 (z2y a0 g1 x1) 0) (k_ (z0b a0 g1 x1) (addI .i64 (z0b a0 g1 x1) 1) 0 (z2y a0 g1 x1)) (k_ (z0b a0 g1 x1) (addI .i64 (z0b a0 g1 x1) 1) (fop .quo .f32 (z5g a0 g1 x1) (z2y a0 g1 x1)) (z2y a0 g1 x1)))))))))))
def z46:Option (Int×Int×Nat×Nat):=zg9 a0 g1 a2 g3 a4 g5 a6 (fun c0_ c1_ c2_ c3_=>some (c0_,c1_,c2_,c3_))
theorem y94:Nt4 (fun {R}=>zg9 (R:=R) a0 g1 a2 g3 a4 g5 a6):=by
 intro R R' o h0 k;unfold zg9;repeat (first | apply grd_out h0 | apply br_out | rfl)
def y2g:Bool:=(z46 a0 g1 a2 g3 a4 g5 a6).isSome
def zd3:Int:=((z46 a0 g1 a2 g3 a4 g5 a6).getD default).1
def zpq:Int:=((z46 a0 g1 a2 g3 a4 g5 a6).getD default).2.1
def zzs:Nat:=((z46 a0 g1 a2 g3 a4 g5 a6).getD default).2.2.1
def ydh:Nat:=((z46 a0 g1 a2 g3 a4 g5 a6).getD default).2.2.2
def z1x{R:Type}(kn_:Int→Option R)(k0_:Unit→Option R)(k1_:Int→Bool→Option R):Option R:=(br (ltI c4 c1) (grd (okIx c4 a0) (grd (zpy (gF g2 (ixO 0 c4 1)) 3204448256 1056964608) (br (bnot (zo5 (gF g2 (ixO 0 c4 1)) 3204448256 1056964608)) (k0_ ()) (br (ltI 0 c4) (grd (okIx (subI .i64 c4 1) a3) (br (fcmp .geq .f32 (gF g2 (ixO 0 (subI .i64 c4 1) 1)) (gF g2 (ixO 0 c4 1))) (k0_ ()) (kn_ (addI .i64 c4 1)))) (kn_ (addI .i64 c4 1)))))) (k1_ c4 (ltI c4 c1)))
theorem zuy{R R':Type}(o:Option R→Option R')(h0:o none=none)(kn_:Int→Option R)(k0_:Unit→Option R)(k1_:Int→Bool→Option R):z1x a0 c1 g2 a3 c4 (fun t44'=>o (kn_ t44')) (fun _=>o (k0_ ())) (fun c0_ c1_=>o (k1_ c0_ c1_))=o (z1x a0 c1 g2 a3 c4 kn_ k0_ k1_):=by
 unfold z1x
 repeat (first | apply grd_out h0 | apply br_out | rfl)
def z15(q3e:Nat)(t43:Int)(b0:List Nat)(q1p:Nat):Nat→Int→Option ((Unit)⊕(Int×Bool))
 | 0,_=>none
 | n+1,t44=>z1x q3e t43 b0 q1p  t44  (fun t44'=>z15 q3e t43 b0 q1p n t44') (fun _=>some (Sum.inl ())) (fun c0_ c1_=>some (Sum.inr (c0_,c1_)))
theorem zh1:z15 a0 c1 g2 a3 (a4+1) c5=z1x a0 c1 g2 a3  c5  (fun t44'=>z15 a0 c1 g2 a3 a4 t44') (fun _=>some (Sum.inl ())) (fun c0_ c1_=>some (Sum.inr (c0_,c1_))):=rfl
def z9k:Bool:=(z15 a0 c1 g2 a3 big c4).isSome
def z8u:Bool:=oL (z15 a0 c1 g2 a3 big c4)
def zw3:Int:=((tR (z15 a0 c1 g2 a3 big c4)).getD default).1
def zw7:Bool:=((tR (z15 a0 c1 g2 a3 big c4)).getD default).2
def zbt{R:Type}(k_:Bool→Option R):Option R:=(br (ltI (Int.ofNat a0) 2) (k_ Bool.false) (br (ltI 24 (Int.ofNat a0)) (k_ Bool.false) (br (neI (Int.ofNat a2) (Int.ofNat a0)) (k_ Bool.false) (br (neI (Int.ofNat a4) (Int.ofNat a0)) (k_ Bool.false) (grd (zod a2 (pF g3 0 (muN a2 1))) (br (bnot (zm5 a2 (pF g3 0 (muN a2 1)))) (k_ Bool.false) (grd (zzy a4 (pF g5 0 (muN a4 1))) (br (bnot (zx2 a4 (pF g5 0 (muN a4 1)))) (k_ Bool.false) (grd (z9k a0 (Int.ofNat a0) g1 a0 0) (br (z8u a0 (Int.ofNat a0) g1 a0 0) (k_ Bool.false) (k_ Bool.true)))))))))))
def z54:Option (Bool):=zbt a0 g1 a2 g3 a4 g5 (fun c0_=>some c0_)
theorem zzb:Nt1 (fun {R}=>zbt (R:=R) a0 g1 a2 g3 a4 g5):=by
 intro R R' o h0 k;unfold zbt;repeat (first | apply grd_out h0 | apply br_out | rfl)
def zs0:Bool:=(z54 a0 g1 a2 g3 a4 g5).isSome
def zr0:Bool:=((z54 a0 g1 a2 g3 a4 g5).getD default)
def zfb{R:Type}(k_:Nat→Option R):Option R:=(grd (zmx a0 (pF g1 0 (muN a0 1)) a2 (pF g3 0 (muN a2 1)) a4 (pF g5 0 (muN a4 1)) a8) (br (fcmp .neq .f32 (z4o a0 (pF g1 0 (muN a0 1)) a2 (pF g3 0 (muN a2 1)) a4 (pF g5 0 (muN a4 1)) a8) (z8v a0 (pF g1 0 (muN a0 1)) a2 (pF g3 0 (muN a2 1)) a4 (pF g5 0 (muN a4 1)) a8)) (grd (okIx (z34 a0 (pF g1 0 (muN a0 1)) a2 (pF g3 0 (muN a2 1)) a4 (pF g5 0 (muN a4 1)) a8) a6) (grd (okIx (z35 a0 (pF g1 0 (muN a0 1)) a2 (pF g3 0 (muN a2 1)) a4 (pF g5 0 (muN a4 1)) a8) a6) (grd (zwt (gF g7 (ixO 0 (z34 a0 (pF g1 0 (muN a0 1)) a2 (pF g3 0 (muN a2 1)) a4 (pF g5 0 (muN a4 1)) a8) 1)) (gF g7 (ixO 0 (z35 a0 (pF g1 0 (muN a0 1)) a2 (pF g3 0 (muN a2 1)) a4 (pF g5 0 (muN a4 1)) a8) 1)) (fop .quo .f32 (fop .sub .f32 (zcr a0 (pF g1 0 (muN a0 1)) a2 (pF g3 0 (muN a2 1)) a4 (pF g5 0 (muN a4 1)) a8) (z4o a0 (pF g1 0 (muN a0 1)) a2 (pF g3 0 (muN a2 1)) a4 (pF g5 0 (muN a4 1)) a8)) (fop .sub .f32 (z8v a0 (pF g1 0 (muN a0 1)) a2 (pF g3 0 (muN a2 1)) a4 (pF g5 0 (muN a4 1)) a8) (z4o a0 (pF g1 0 (muN a0 1)) a2 (pF g3 0 (muN a2 1)) a4 (pF g5 0 (muN a4 1)) a8)))) (k_ (zuf (gF g7 (ixO 0 (z34 a0 (pF g1 0 (muN a0 1)) a2 (pF g3 0 (muN a2 1)) a4 (pF g5 0 (muN a4 1)) a8) 1)) (gF g7 (ixO 0 (z35 a0 (pF g1 0 (muN a0 1)) a2 (pF g3 0 (muN a2 1)) a4 (pF g5 0 (muN a4 1)) a8) 1)) (fop .quo .f32 (fop .sub .f32 (zcr a0 (pF g1 0 (muN a0 1)) a2 (pF g3 0 (muN a2 1)) a4 (pF g5 0 (muN a4 1)) a8) (z4o a0 (pF g1 0 (muN a0 1)) a2 (pF g3 0 (muN a2 1)) a4 (pF g5 0 (muN a4 1)) a8)) (fop .sub .f32 (z8v a0 (pF g1 0 (muN a0 1)) a2 (pF g3 0 (muN a2 1)) a4 (pF g5 0 (muN a4 1)) a8) (z4o a0 (pF g1 0 (muN a0 1)) a2 (pF g3 0 (muN a2 1)) a4 (pF g5 0 (muN a4 1)) a8)))))))) (grd (okIx (z34 a0 (pF g1 0 (muN a0 1)) a2 (pF g3 0 (muN a2 1)) a4 (pF g5 0 (muN a4 1)) a8) a6) (grd (okIx (z35 a0 (pF g1 0 (muN a0 1)) a2 (pF g3 0 (muN a2 1)) a4 (pF g5 0 (muN a4 1)) a8) a6) (grd (zwt (gF g7 (ixO 0 (z34 a0 (pF g1 0 (muN a0 1)) a2 (pF g3 0 (muN a2 1)) a4 (pF g5 0 (muN a4 1)) a8) 1)) (gF g7 (ixO 0 (z35 a0 (pF g1 0 (muN a0 1)) a2 (pF g3 0 (muN a2 1)) a4 (pF g5 0 (muN a4 1)) a8) 1)) 0) (k_ (zuf (gF g7 (ixO 0 (z34 a0 (pF g1 0 (muN a0 1)) a2 (pF g3 0 (muN a2 1)) a4 (pF g5 0 (muN a4 1)) a8) 1)) (gF g7 (ixO 0 (z35 a0 (pF g1 0 (muN a0 1)) a2 (pF g3 0 (muN a2 1)) a4 (pF g5 0 (muN a4 1)) a8) 1)) 0)))))))
def z65:Option (Nat):=zfb a0 g1 a2 g3 a4 g5 a6 g7 a8 (fun c0_=>some c0_)
theorem y1v:Nt1 (fun {R}=>zfb (R:=R) a0 g1 a2 g3 a4 g5 a6 g7 a8):=by
 intro R R' o h0 k;unfold zfb;repeat (first | apply grd_out h0 | apply br_out | rfl)
def zlr:Bool:=(z65 a0 g1 a2 g3 a4 g5 a6 g7 a8).isSome
def z9m:Nat:=((z65 a0 g1 a2 g3 a4 g5 a6 g7 a8).getD default)
def zqx{R:Type}(k_:Nat→Option R):Option R:=(grd (y2g a0 (pF g1 0 (muN a0 1)) a2 (pF g3 0 (muN a2 1)) a4 (pF g5 0 (muN a4 1)) a8) (grd (okIx (zd3 a0 (pF g1 0 (muN a0 1)) a2 (pF g3 0 (muN a2 1)) a4 (pF g5 0 (muN a4 1)) a8) a6) (grd (okIx (zpq a0 (pF g1 0 (muN a0 1)) a2 (pF g3 0 (muN a2 1)) a4 (pF g5 0 (muN a4 1)) a8) a6) (grd (okIx (zd3 a0 (pF g1 0 (muN a0 1)) a2 (pF g3 0 (muN a2 1)) a4 (pF g5 0 (muN a4 1)) a8) a6) (k_ (fop .add .f32 (gF g7 (ixO 0 (zd3 a0 (pF g1 0 (muN a0 1)) a2 (pF g3 0 (muN a2 1)) a4 (pF g5 0 (muN a4 1)) a8) 1)) (fop .mul .f32 (zzs a0 (pF g1 0 (muN a0 1)) a2 (pF g3 0 (muN a2 1)) a4 (pF g5 0 (muN a4 1)) a8) (fop .sub .f32 (gF g7 (ixO 0 (zpq a0 (pF g1 0 (muN a0 1)) a2 (pF g3 0 (muN a2 1)) a4 (pF g5 0 (muN a4 1)) a8) 1)) (gF g7 (ixO 0 (zd3 a0 (pF g1 0 (muN a0 1)) a2 (pF g3 0 (muN a2 1)) a4 (pF g5 0 (muN a4 1)) a8) 1))))))))))
def zbf:Option (Nat):=zqx a0 g1 a2 g3 a4 g5 a6 g7 a8 (fun c0_=>some c0_)
theorem ybv:Nt1 (fun {R}=>zqx (R:=R) a0 g1 a2 g3 a4 g5 a6 g7 a8):=by
 intro R R' o h0 k;unfold zqx;repeat (first | apply grd_out h0 | apply br_out | rfl)
def zxh:Bool:=(zbf a0 g1 a2 g3 a4 g5 a6 g7 a8).isSome
def zuw:Nat:=((zbf a0 g1 a2 g3 a4 g5 a6 g7 a8).getD default)
def zbs{R:Type}(q0h:Int)(q0n q0m:Nat)(i:Int)(q1o q0l:Nat)(k_:Nat→Nat→Option R):Option R:=(grd (okIx i a6) (grd (zlr a0 (pF g1 0 (muN a0 1)) a2 (pF g3 0 (muN a2 1)) a4 (pF g5 0 (muN a4 1)) a2 (pF g3 0 (muN a2 1)) (fop .sub .f32 (fop .sub .f32 q1o (gF g7 (Nat.succ (Nat.succ (ixO 0 i 3))))) q0l)) (grd (zlr a0 (pF g1 0 (muN a0 1)) a2 (pF g3 0 (muN a2 1)) a4 (pF g5 0 (muN a4 1)) a4 (pF g5 0 (muN a4 1)) (fop .sub .f32 (fop .sub .f32 q1o (gF g7 (Nat.succ (Nat.succ (ixO 0 i 3))))) q0l)) (grd (z5n q1o) (grd (z5n (fop .add .f32 q1o 1048576000)) (k_ (fop .add .f32 (fop .mul .f32 (z9m a0 (pF g1 0 (muN a0 1)) a2 (pF g3 0 (muN a2 1)) a4 (pF g5 0 (muN a4 1)) a2 (pF g3 0 (muN a2 1)) (fop .sub .f32 (fop .sub .f32 q1o (gF g7 (Nat.succ (Nat.succ (ixO 0 i 3))))) q0l)) (z1v (fop .add .f32 q1o 1048576000))) (fop .mul .f32 (z9m a0 (pF g1 0 (muN a0 1)) a2 (pF g3 0 (muN a2 1)) a4 (pF g5 0 (muN a4 1)) a4 (pF g5 0 (muN a4 1)) (fop .sub .f32 (fop .sub .f32 q1o (gF g7 (Nat.succ (Nat.succ (ixO 0 i 3))))) q0l)) (z1v q1o))) (fop .sub .f32 (fop .mul .f32 (z9m a0 (pF g1 0 (muN a0 1)) a2 (pF g3 0 (muN a2 1)) a4 (pF g5 0 (muN a4 1)) a2 (pF g3 0 (muN a2 1)) (fop .sub .f32 (fop .sub .f32 q1o (gF g7 (Nat.succ (Nat.succ (ixO 0 i 3))))) q0l)) (z1v q1o)) (fop .mul .f32 (z9m a0 (pF g1 0 (muN a0 1)) a2 (pF g3 0 (muN a2 1)) a4 (pF g5 0 (muN a4 1)) a4 (pF g5 0 (muN a4 1)) (fop .sub .f32 (fop .sub .f32 q1o (gF g7 (Nat.succ (Nat.succ (ixO 0 i 3))))) q0l)) (z1v (fop .add .f32 q1o 1048576000))))))))))
def z31:Option (Nat×Nat):=zbs a0 g1 a2 g3 a4 g5 a6 g7 c8 a9 a10 c11 a12 a13 (fun c0_ c1_=>some (c0_,c1_))
theorem zzf:Nt2 (fun {R}=>zbs (R:=R) a0 g1 a2 g3 a4 g5 a6 g7 c8 a9 a10 c11 a12 a13):=by
 intro R R' o h0 k;unfold zbs;repeat (first | apply grd_out h0 | apply br_out | rfl)
def zj3:Bool:=(z31 a0 g1 a2 g3 a4 g5 a6 g7 c8 a9 a10 c11 a12 a13).isSome
def zi3:Nat:=((z31 a0 g1 a2 g3 a4 g5 a6 g7 c8 a9 a10 c11 a12 a13).getD default).1
def zi6:Nat:=((z31 a0 g1 a2 g3 a4 g5 a6 g7 c8 a9 a10 c11 a12 a13).getD default).2
def zkm{R:Type}(k_:Nat→Option R):Option R:=(grd (zxh a0 (pF g1 0 (muN a0 1)) a2 (pF g3 0 (muN a2 1)) a4 (pF g5 0 (muN a4 1)) a2 (pF g3 0 (muN a2 1)) a6) (k_ (zuw a0 (pF g1 0 (muN a0 1)) a2 (pF g3 0 (muN a2 1)) a4 (pF g5 0 (muN a4 1)) a2 (pF g3 0 (muN a2 1)) a6)))
def z92:Option (Nat):=zkm a0 g1 a2 g3 a4 g5 a6 (fun c0_=>some c0_)
theorem y9g:Nt1 (fun {R}=>zkm (R:=R) a0 g1 a2 g3 a4 g5 a6):=by
 intro R R' o h0 k;unfold zkm;repeat (first | apply grd_out h0 | apply br_out | rfl)
def y20:Bool:=(z92 a0 g1 a2 g3 a4 g5 a6).isSome
def zqa:Nat:=((z92 a0 g1 a2 g3 a4 g5 a6).getD default)
def zkr{R:Type}(k_:Nat→Option R):Option R:=(grd (zxh a0 (pF g1 0 (muN a0 1)) a2 (pF g3 0 (muN a2 1)) a4 (pF g5 0 (muN a4 1)) a4 (pF g5 0 (muN a4 1)) a6) (k_ (zuw a0 (pF g1 0 (muN a0 1)) a2 (pF g3 0 (muN a2 1)) a4 (pF g5 0 (muN a4 1)) a4 (pF g5 0 (muN a4 1)) a6)))
def z9e:Option (Nat):=zkr a0 g1 a2 g3 a4 g5 a6 (fun c0_=>some c0_)
theorem y8m:Nt1 (fun {R}=>zkr (R:=R) a0 g1 a2 g3 a4 g5 a6):=by
 intro R R' o h0 k;unfold zkr;repeat (first | apply grd_out h0 | apply br_out | rfl)
def y30:Bool:=(z9e a0 g1 a2 g3 a4 g5 a6).isSome
def zpt:Nat:=((z9e a0 g1 a2 g3 a4 g5 a6).getD default)
def zbq{R:Type}(k_:Nat→Nat→Option R):Option R:=(grd (zj3 a0 (pF g1 0 (muN a0 1)) a2 (pF g3 0 (muN a2 1)) a4 (pF g5 0 (muN a4 1)) a6 (pF g7 0 (muN a6 3)) c8 a9 a10 c11 a12 a13) (grd (z5n a12) (grd (z5n (fop .add .f32 a12 1048576000)) (grd (zp2 a0 (pF g1 0 (muN a0 1)) a2 (pF g3 0 (muN a2 1)) a4 (pF g5 0 (muN a4 1)) a6 (pF g7 0 (muN a6 3)) c8 a9 a10 c11) (grd (zp8 a0 (pF g1 0 (muN a0 1)) a2 (pF g3 0 (muN a2 1)) a4 (pF g5 0 (muN a4 1)) a6 (pF g7 0 (muN a6 3)) c8 a9 a10 c11 a12) (k_ (fop .quo .f32 (fop .mul .f32 (zdp a0 (pF g1 0 (muN a0 1)) a2 (pF g3 0 (muN a2 1)) a4 (pF g5 0 (muN a4 1)) a6 (pF g7 0 (muN a6 3)) c8 a9 a10 c11) (zi3 a0 (pF g1 0 (muN a0 1)) a2 (pF g3 0 (muN a2 1)) a4 (pF g5 0 (muN a4 1)) a6 (pF g7 0 (muN a6 3)) c8 a9 a10 c11 a12 a13)) (fop .mul .f32 (fop .mul .f32 (fop .mul .f32 1082130432 (zdo a0 (pF g1 0 (muN a0 1)) a2 (pF g3 0 (muN a2 1)) a4 (pF g5 0 (muN a4 1)) a6 (pF g7 0 (muN a6 3)) c8 a9 a10 c11 a12)) (z1v a12)) (z1v a12))) (fop .quo .f32 (fop .mul .f32 (zdp a0 (pF g1 0 (muN a0 1)) a2 (pF g3 0 (muN a2 1)) a4 (pF g5 0 (muN a4 1)) a6 (pF g7 0 (muN a6 3)) c8 a9 a10 c11) (zi6 a0 (pF g1 0 (muN a0 1)) a2 (pF g3 0 (muN a2 1)) a4 (pF g5 0 (muN a4 1)) a6 (pF g7 0 (muN a6 3)) c8 a9 a10 c11 a12 a13)) (fop .mul .f32 (fop .mul .f32 (fop .mul .f32 1082130432 (zdo a0 (pF g1 0 (muN a0 1)) a2 (pF g3 0 (muN a2 1)) a4 (pF g5 0 (muN a4 1)) a6 (pF g7 0 (muN a6 3)) c8 a9 a10 c11 a12)) (z1v a12)) (z1v (fop .add .f32 a12 1048576000))))))))))
def z3x:Option (Nat×Nat):=zbq a0 g1 a2 g3 a4 g5 a6 g7 c8 a9 a10 c11 a12 a13 (fun c0_ c1_=>some (c0_,c1_))
theorem zze:Nt2 (fun {R}=>zbq (R:=R) a0 g1 a2 g3 a4 g5 a6 g7 c8 a9 a10 c11 a12 a13):=by
 intro R R' o h0 k;unfold zbq;repeat (first | apply grd_out h0 | apply br_out | rfl)
def ziv:Bool:=(z3x a0 g1 a2 g3 a4 g5 a6 g7 c8 a9 a10 c11 a12 a13).isSome
def zhd:Nat:=((z3x a0 g1 a2 g3 a4 g5 a6 g7 c8 a9 a10 c11 a12 a13).getD default).1
def zi9:Nat:=((z3x a0 g1 a2 g3 a4 g5 a6 g7 c8 a9 a10 c11 a12 a13).getD default).2
def zhx{R:Type}(q0h:Int)(q0n q0m:Nat)(i:Int)(q1o q0l:Nat)(k_:Nat→Nat→Option R):Option R:=(grd (okIx i a6) (grd (y20 a0 (pF g1 0 (muN a0 1)) a2 (pF g3 0 (muN a2 1)) a4 (pF g5 0 (muN a4 1)) (fop .sub .f32 (fop .sub .f32 q1o (gF g7 (Nat.succ (Nat.succ (ixO 0 i 3))))) q0l)) (grd (y30 a0 (pF g1 0 (muN a0 1)) a2 (pF g3 0 (muN a2 1)) a4 (pF g5 0 (muN a4 1)) (fop .sub .f32 (fop .sub .f32 q1o (gF g7 (Nat.succ (Nat.succ (ixO 0 i 3))))) q0l)) (grd (z95 q1o) (grd (z95 (fop .add .f32 q1o 1048576000)) (k_ (fop .add .f32 (fop .mul .f32 (zqa a0 (pF g1 0 (muN a0 1)) a2 (pF g3 0 (muN a2 1)) a4 (pF g5 0 (muN a4 1)) (fop .sub .f32 (fop .sub .f32 q1o (gF g7 (Nat.succ (Nat.succ (ixO 0 i 3))))) q0l)) (z1t (fop .add .f32 q1o 1048576000))) (fop .mul .f32 (zpt a0 (pF g1 0 (muN a0 1)) a2 (pF g3 0 (muN a2 1)) a4 (pF g5 0 (muN a4 1)) (fop .sub .f32 (fop .sub .f32 q1o (gF g7 (Nat.succ (Nat.succ (ixO 0 i 3))))) q0l)) (z1t q1o))) (fop .sub .f32 (fop .mul .f32 (zqa a0 (pF g1 0 (muN a0 1)) a2 (pF g3 0 (muN a2 1)) a4 (pF g5 0 (muN a4 1)) (fop .sub .f32 (fop .sub .f32 q1o (gF g7 (Nat.succ (Nat.succ (ixO 0 i 3))))) q0l)) (z1t q1o)) (fop .mul .f32 (zpt a0 (pF g1 0 (muN a0 1)) a2 (pF g3 0 (muN a2 1)) a4 (pF g5 0 (muN a4 1)) (fop .sub .f32 (fop .sub .f32 q1o (gF g7 (Nat.succ (Nat.succ (ixO 0 i 3))))) q0l)) (z1t (fop .add .f32 q1o 1048576000))))))))))
def z5l:Option (Nat×Nat):=zhx a0 g1 a2 g3 a4 g5 a6 g7 c8 a9 a10 c11 a12 a13 (fun c0_ c1_=>some (c0_,c1_))
theorem y43:Nt2 (fun {R}=>zhx (R:=R) a0 g1 a2 g3 a4 g5 a6 g7 c8 a9 a10 c11 a12 a13):=by
 intro R R' o h0 k;unfold zhx;repeat (first | apply grd_out h0 | apply br_out | rfl)
def zyf:Bool:=(z5l a0 g1 a2 g3 a4 g5 a6 g7 c8 a9 a10 c11 a12 a13).isSome
def zm6:Nat:=((z5l a0 g1 a2 g3 a4 g5 a6 g7 c8 a9 a10 c11 a12 a13).getD default).1
def zmj:Nat:=((z5l a0 g1 a2 g3 a4 g5 a6 g7 c8 a9 a10 c11 a12 a13).getD default).2
def z2n{R:Type}(kn_:Nat→Int→Option R)(k0_:Unit→Option R)(k1_:Nat→Int→Bool→Option R):Option R:=(br (ltI c5 c1) (grd (okIx c5 a0) (br (fcmp .gtr .f32 (gF g2 (ixO 0 c5 3)) a4) (br (bnot (fcmp .lss .f32 (gF g2 (ixO 0 c5 3)) a3)) (k0_ ()) (grd (z7v 1 (pF [(gF g2 (Nat.succ (ixO 0 c5 3)))] 0 (muN 1 1))) (br (bnot (z6m 1 (pF [(gF g2 (Nat.succ (ixO 0 c5 3)))] 0 (muN 1 1)))) (k0_ ()) (grd (z2v (gF g2 (Nat.succ (Nat.succ (ixO 0 c5 3))))) (br (bnot (z2f (gF g2 (Nat.succ (Nat.succ (ixO 0 c5 3)))))) (k0_ ()) (kn_ (gF g2 (ixO 0 c5 3)) (addI .i64 c5 1))))))) (br (bnot Bool.false) (k0_ ()) (grd (z7v 1 (pF [(gF g2 (Nat.succ (ixO 0 c5 3)))] 0 (muN 1 1))) (br (bnot (z6m 1 (pF [(gF g2 (Nat.succ (ixO 0 c5 3)))] 0 (muN 1 1)))) (k0_ ()) (grd (z2v (gF g2 (Nat.succ (Nat.succ (ixO 0 c5 3))))) (br (bnot (z2f (gF g2 (Nat.succ (Nat.succ (ixO 0 c5 3)))))) (k0_ ()) (kn_ (gF g2 (ixO 0 c5 3)) (addI .i64 c5 1))))))))) (k1_ a4 c5 (ltI c5 c1)))
theorem zym{R R':Type}(o:Option R→Option R')(h0:o none=none)(kn_:Nat→Int→Option R)(k0_:Unit→Option R)(k1_:Nat→Int→Bool→Option R):z2n a0 c1 g2 a3 a4 c5 (fun t4' t45'=>o (kn_ t4' t45')) (fun _=>o (k0_ ())) (fun c0_ c1_ c2_=>o (k1_ c0_ c1_ c2_))=o (z2n a0 c1 g2 a3 a4 c5 kn_ k0_ k1_):=by
 unfold z2n
 repeat (first | apply grd_out h0 | apply br_out | rfl)
def z0q(q3d:Nat)(t44:Int)(b3:List Nat)(q0z:Nat):Nat→Nat→Int→Option ((Unit)⊕(Nat×Int×Bool))
 | 0,_,_=>none
 | n+1,t4,t45=>z2n q3d t44 b3 q0z  t4 t45  (fun t4' t45'=>z0q q3d t44 b3 q0z n t4' t45') (fun _=>some (Sum.inl ())) (fun c0_ c1_ c2_=>some (Sum.inr (c0_,c1_,c2_)))
theorem zjm:z0q a0 c1 g2 a3 (a4+1) a5 c6=z2n a0 c1 g2 a3  a5 c6  (fun t4' t45'=>z0q a0 c1 g2 a3 a4 t4' t45') (fun _=>some (Sum.inl ())) (fun c0_ c1_ c2_=>some (Sum.inr (c0_,c1_,c2_))):=rfl
def zah:Bool:=(z0q a0 c1 g2 a3 big a4 c5).isSome
def za0:Bool:=oL (z0q a0 c1 g2 a3 big a4 c5)
def zzk:Nat:=((tR (z0q a0 c1 g2 a3 big a4 c5)).getD default).1
def zyp:Int:=((tR (z0q a0 c1 g2 a3 big a4 c5)).getD default).2.1
def zzj:Bool:=((tR (z0q a0 c1 g2 a3 big a4 c5)).getD default).2.2
def zfn{R:Type}(k_:Bool→Option R):Option R:=(grd (zs0 a0 (pF g1 0 (muN a0 1)) a2 (pF g3 0 (muN a2 1)) a4 (pF g5 0 (muN a4 1))) (br (bnot (zr0 a0 (pF g1 0 (muN a0 1)) a2 (pF g3 0 (muN a2 1)) a4 (pF g5 0 (muN a4 1)))) (k_ Bool.false) (grd (za5 c8 1 6) (br (bnot (z4y c8 1 6)) (k_ Bool.false) (br (ltI (Int.ofNat a6) 2) (k_ Bool.false) (br (ltI 12 (Int.ofNat a6)) (k_ Bool.false) (grd (zt4 a9) (br (bnot (zrf a9)) (k_ Bool.false) (grd (z2v a10) (br (bnot (z2f a10)) (k_ Bool.false) (grd (zah a6 (Int.ofNat a6) g7 a10 a9 0) (br (za0 a6 (Int.ofNat a6) g7 a10 a9 0) (k_ Bool.false) (k_ Bool.true)))))))))))))
def z66:Option (Bool):=zfn a0 g1 a2 g3 a4 g5 a6 g7 c8 a9 a10 (fun c0_=>some c0_)
theorem y2h:Nt1 (fun {R}=>zfn (R:=R) a0 g1 a2 g3 a4 g5 a6 g7 c8 a9 a10):=by
 intro R R' o h0 k;unfold zfn;repeat (first | apply grd_out h0 | apply br_out | rfl)
def zae:Bool:=(z66 a0 g1 a2 g3 a4 g5 a6 g7 c8 a9 a10).isSome
def z7t:Bool:=((z66 a0 g1 a2 g3 a4 g5 a6 g7 c8 a9 a10).getD default)
def zl2{R:Type}(k_:Nat→Nat→Nat→Nat→Option R):Option R:=(grd (zyf a0 (pF g1 0 (muN a0 1)) a2 (pF g3 0 (muN a2 1)) a4 (pF g5 0 (muN a4 1)) a6 (pF g7 0 (muN a6 3)) c8 a9 a10 c11 a12 a13) (grd (z95 a12) (grd (z95 (fop .add .f32 a12 1048576000)) (grd (y5x a0 (pF g1 0 (muN a0 1)) a2 (pF g3 0 (muN a2 1)) a4 (pF g5 0 (muN a4 1)) a6 (pF g7 0 (muN a6 3)) c8 a9 a10 c11 (z1t a12)) (grd (ztd a0 (pF g1 0 (muN a0 1)) a2 (pF g3 0 (muN a2 1)) a4 (pF g5 0 (muN a4 1)) a6 (pF g7 0 (muN a6 3)) c8 a9 a10 c11) (k_ (fop .quo .f32 (fop .mul .f32 (zj6 a0 (pF g1 0 (muN a0 1)) a2 (pF g3 0 (muN a2 1)) a4 (pF g5 0 (muN a4 1)) a6 (pF g7 0 (muN a6 3)) c8 a9 a10 c11) (zm6 a0 (pF g1 0 (muN a0 1)) a2 (pF g3 0 (muN a2 1)) a4 (pF g5 0 (muN a4 1)) a6 (pF g7 0 (muN a6 3)) c8 a9 a10 c11 a12 a13)) (fop .mul .f32 (fop .mul .f32 (fop .mul .f32 1082130432 (zsi a0 (pF g1 0 (muN a0 1)) a2 (pF g3 0 (muN a2 1)) a4 (pF g5 0 (muN a4 1)) a6 (pF g7 0 (muN a6 3)) c8 a9 a10 c11 (z1t a12))) (z1t a12)) (z1t a12))) (fop .quo .f32 (fop .mul .f32 (zj6 a0 (pF g1 0 (muN a0 1)) a2 (pF g3 0 (muN a2 1)) a4 (pF g5 0 (muN a4 1)) a6 (pF g7 0 (muN a6 3)) c8 a9 a10 c11) (zmj a0 (pF g1 0 (muN a0 1)) a2 (pF g3 0 (muN a2 1)) a4 (pF g5 0 (muN a4 1)) a6 (pF g7 0 (muN a6 3)) c8 a9 a10 c11 a12 a13)) (fop .mul .f32 (fop .mul .f32 (fop .mul .f32 1082130432 (zsi a0 (pF g1 0 (muN a0 1)) a2 (pF g3 0 (muN a2 1)) a4 (pF g5 0 (muN a4 1)) a6 (pF g7 0 (muN a6 3)) c8 a9 a10 c11 (z1t a12))) (z1t a12)) (z1t (fop .add .f32 a12 1048576000)))) (zm6 a0 (pF g1 0 (muN a0 1)) a2 (pF g3 0 (muN a2 1)) a4 (pF g5 0 (muN a4 1)) a6 (pF g7 0 (muN a6 3)) c8 a9 a10 c11 a12 a13) (zmj a0 (pF g1 0 (muN a0 1)) a2 (pF g3 0 (muN a2 1)) a4 (pF g5 0 (muN a4 1)) a6 (pF g7 0 (muN a6 3)) c8 a9 a10 c11 a12 a13)))))))
def z4x:Option (Nat×Nat×Nat×Nat):=zl2 a0 g1 a2 g3 a4 g5 a6 g7 c8 a9 a10 c11 a12 a13 (fun c0_ c1_ c2_ c3_=>some (c0_,c1_,c2_,c3_))
theorem y8h:Nt4 (fun {R}=>zl2 (R:=R) a0 g1 a2 g3 a4 g5 a6 g7 c8 a9 a10 c11 a12 a13):=by
 intro R R' o h0 k;unfold zl2;repeat (first | apply grd_out h0 | apply br_out | rfl)
def zss:Bool:=(z4x a0 g1 a2 g3 a4 g5 a6 g7 c8 a9 a10 c11 a12 a13).isSome
def zpi:Nat:=((z4x a0 g1 a2 g3 a4 g5 a6 g7 c8 a9 a10 c11 a12 a13).getD default).1
def zqv:Nat:=((z4x a0 g1 a2 g3 a4 g5 a6 g7 c8 a9 a10 c11 a12 a13).getD default).2.1
def zzz:Nat:=((z4x a0 g1 a2 g3 a4 g5 a6 g7 c8 a9 a10 c11 a12 a13).getD default).2.2.1
def zzn:Nat:=((z4x a0 g1 a2 g3 a4 g5 a6 g7 c8 a9 a10 c11 a12 a13).getD default).2.2.2
def zay{R:Type}(k_:Nat→Option R):Option R:=(grd (ziv a0 (pF g1 0 (muN a0 1)) a2 (pF g3 0 (muN a2 1)) a4 (pF g5 0 (muN a4 1)) a6 (pF g7 0 (muN a6 3)) c8 a9 a10 c11 a12 a15) (grd (z5n a12) (grd (z5n (fop .add .f32 a12 1048576000)) (grd (okIx c11 a6) (k_ (fop .sub .f32 (fop .mul .f32 (z1v a12) (fop .add .f32 1065353216 (zhd a0 (pF g1 0 (muN a0 1)) a2 (pF g3 0 (muN a2 1)) a4 (pF g5 0 (muN a4 1)) a6 (pF g7 0 (muN a6 3)) c8 a9 a10 c11 a12 a15))) (fop .mul .f32 (fop .mul .f32 (fop .quo .f32 a13 (fop .mul .f32 a14 (gF g7 (ixO 0 c11 3)))) (z1v (fop .add .f32 a12 1048576000))) (fop .sub .f32 1065353216 (zi9 a0 (pF g1 0 (muN a0 1)) a2 (pF g3 0 (muN a2 1)) a4 (pF g5 0 (muN a4 1)) a6 (pF g7 0 (muN a6 3)) c8 a9 a10 c11 a12 a15)))))))))
def z3a:Option (Nat):=zay a0 g1 a2 g3 a4 g5 a6 g7 c8 a9 a10 c11 a12 a13 a14 a15 (fun c0_=>some c0_)
theorem zxn:Nt1 (fun {R}=>zay (R:=R) a0 g1 a2 g3 a4 g5 a6 g7 c8 a9 a10 c11 a12 a13 a14 a15):=by
 intro R R' o h0 k;unfold zay;repeat (first | apply grd_out h0 | apply br_out | rfl)
def zpj:Bool:=(z3a a0 g1 a2 g3 a4 g5 a6 g7 c8 a9 a10 c11 a12 a13 a14 a15).isSome
def z9v:Nat:=((z3a a0 g1 a2 g3 a4 g5 a6 g7 c8 a9 a10 c11 a12 a13 a14 a15).getD default)
def zky{R:Type}(k_:Bool→Option R):Option R:=(grd (zae a0 (pF g1 0 (muN a0 1)) a2 (pF g3 0 (muN a2 1)) a4 (pF g5 0 (muN a4 1)) a6 (pF g7 0 (muN a6 3)) c8 a9 a10) (br (z7t a0 (pF g1 0 (muN a0 1)) a2 (pF g3 0 (muN a2 1)) a4 (pF g5 0 (muN a4 1)) a6 (pF g7 0 (muN a6 3)) c8 a9 a10) (grd (zn0 a0 (pF g1 0 (muN a0 1)) a2 (pF g3 0 (muN a2 1)) a4 (pF g5 0 (muN a4 1)) a6 (pF g7 0 (muN a6 3)) c8 a9 a10 c11) (br (zla a0 (pF g1 0 (muN a0 1)) a2 (pF g3 0 (muN a2 1)) a4 (pF g5 0 (muN a4 1)) a6 (pF g7 0 (muN a6 3)) c8 a9 a10 c11) (grd (z7v 2 (pF [a12,a13] 0 (muN 2 1))) (br (z6m 2 (pF [a12,a13] 0 (muN 2 1))) (grd (z2v a14) (br (z2f a14) (grd (okIx c11 a6) (grd (z2v (fop .sub .f32 (fop .sub .f32 981668463 (gF g7 (Nat.succ (Nat.succ (ixO 0 c11 3))))) a14)) (k_ (z2f (fop .sub .f32 (fop .sub .f32 981668463 (gF g7 (Nat.succ (Nat.succ (ixO 0 c11 3))))) a14))))) (k_ Bool.false))) (k_ Bool.false))) (k_ Bool.false))) (k_ Bool.false)))
def z9a:Option (Bool):=zky a0 g1 a2 g3 a4 g5 a6 g7 c8 a9 a10 c11 a12 a13 a14 (fun c0_=>some c0_)
theorem y8z:Nt1 (fun {R}=>zky (R:=R) a0 g1 a2 g3 a4 g5 a6 g7 c8 a9 a10 c11 a12 a13 a14):=by
 intro R R' o h0 k;unfold zky;repeat (first | apply grd_out h0 | apply br_out | rfl)
def zsm:Bool:=(z9a a0 g1 a2 g3 a4 g5 a6 g7 c8 a9 a10 c11 a12 a13 a14).isSome
def zqr:Bool:=((z9a a0 g1 a2 g3 a4 g5 a6 g7 c8 a9 a10 c11 a12 a13 a14).getD default)
def zfh{R:Type}(k_:Nat→Option R):Option R:=(grd (zss a0 (pF g1 0 (muN a0 1)) a2 (pF g3 0 (muN a2 1)) a4 (pF g5 0 (muN a4 1)) a6 (pF g7 0 (muN a6 3)) c8 a9 a10 c11 a12 a15) (grd (z95 a12) (grd (z95 (fop .add .f32 a12 1048576000)) (grd (okIx c11 a6) (k_ (fop .sub .f32 (fop .mul .f32 (z1t a12) (fop .add .f32 1065353216 (zpi a0 (pF g1 0 (muN a0 1)) a2 (pF g3 0 (muN a2 1)) a4 (pF g5 0 (muN a4 1)) a6 (pF g7 0 (muN a6 3)) c8 a9 a10 c11 a12 a15))) (fop .mul .f32 (fop .mul .f32 (fop .quo .f32 a13 (fop .mul .f32 a14 (gF g7 (ixO 0 c11 3)))) (z1t (fop .add .f32 a12 1048576000))) (fop .sub .f32 1065353216 (zqv a0 (pF g1 0 (muN a0 1)) a2 (pF g3 0 (muN a2 1)) a4 (pF g5 0 (muN a4 1)) a6 (pF g7 0 (muN a6 3)) c8 a9 a10 c11 a12 a15)))))))))
def z42:Option (Nat):=zfh a0 g1 a2 g3 a4 g5 a6 g7 c8 a9 a10 c11 a12 a13 a14 a15 (fun c0_=>some c0_)
theorem y25:Nt1 (fun {R}=>zfh (R:=R) a0 g1 a2 g3 a4 g5 a6 g7 c8 a9 a10 c11 a12 a13 a14 a15):=by
 intro R R' o h0 k;unfold zfh;repeat (first | apply grd_out h0 | apply br_out | rfl)
def zvd:Bool:=(z42 a0 g1 a2 g3 a4 g5 a6 g7 c8 a9 a10 c11 a12 a13 a14 a15).isSome
def zdc:Nat:=((z42 a0 g1 a2 g3 a4 g5 a6 g7 c8 a9 a10 c11 a12 a13 a14 a15).getD default)
def zhw{R:Type}(k_:Nat→Bool→Option R):Option R:=(grd (zsm a0 (pF g1 0 (muN a0 1)) a2 (pF g3 0 (muN a2 1)) a4 (pF g5 0 (muN a4 1)) a6 (pF g7 0 (muN a6 3)) c8 a9 a10 c11 a13 a14 a15) (br (bnot (zqr a0 (pF g1 0 (muN a0 1)) a2 (pF g3 0 (muN a2 1)) a4 (pF g5 0 (muN a4 1)) a6 (pF g7 0 (muN a6 3)) c8 a9 a10 c11 a13 a14 a15)) (k_ 0 Bool.false) (grd (y5u a12) (br (bnot (y1t a12)) (k_ 0 Bool.false) (grd (zpj a0 (pF g1 0 (muN a0 1)) a2 (pF g3 0 (muN a2 1)) a4 (pF g5 0 (muN a4 1)) a6 (pF g7 0 (muN a6 3)) c8 a9 a10 c11 a12 a13 a14 a15) (grd (zkn (z9v a0 (pF g1 0 (muN a0 1)) a2 (pF g3 0 (muN a2 1)) a4 (pF g5 0 (muN a4 1)) a6 (pF g7 0 (muN a6 3)) c8 a9 a10 c11 a12 a13 a14 a15)) (k_ (zjc (z9v a0 (pF g1 0 (muN a0 1)) a2 (pF g3 0 (muN a2 1)) a4 (pF g5 0 (muN a4 1)) a6 (pF g7 0 (muN a6 3)) c8 a9 a10 c11 a12 a13 a14 a15)) (zjs (z9v a0 (pF g1 0 (muN a0 1)) a2 (pF g3 0 (muN a2 1)) a4 (pF g5 0 (muN a4 1)) a6 (pF g7 0 (muN a6 3)) c8 a9 a10 c11 a12 a13 a14 a15)))))))))
end
section
variable {a0:Nat} {c0:Int} {a1:Nat} {c1:Int} {e1:Bool} {g1:List Nat} {m1:List Bool} {a2:Nat} {c2:Int} {e2:Bool} {g2:List Nat} {a3:Nat} {c3:Int} {e3:Bool} {g3:List Nat} {m3:List Bool} {a4:Nat} {c4:Int} {e4:Bool} {g4:List Nat} {a5:Nat} {c5:Int} {g5:List Nat} {a6:Nat} {c6:Int} {e6:Bool} {a7:Nat} {c7:Int} {g7:List Nat} {a8:Nat} {c8:Int} {a9:Nat} {g9:List Nat} {a10:Nat} {a11:Nat} {c11:Int} {e11:Bool} {g11:List Nat} {a12:Nat} {c12:Int} {e12:Bool} {g12:List Nat} {a13:Nat} {e13:Bool} {a14:Nat} {g14:List Nat} {a15:Nat} {e15:Bool} {a16:Nat} {g16:List Nat} {a17:Nat} {g18:List Nat} {c19:Int} {a20:Nat} {a21:Nat} {e22:Bool}
theorem of1{α1:Type} [Inhabited (α1)] {x:Option (α1)} {r:α1} (h:x=some r):x.isSome=true∧(x.getD default)=r:=by
 subst h;exact⟨rfl,rfl⟩
theorem ol1{β α1:Type} [Inhabited (α1)] {x:Option ((α1)⊕β)} {r:α1} (h:x=some (.inl r)):x.isSome=true∧oL x=true∧((tL x).getD default)=r:=by
 subst h;exact⟨rfl,rfl,rfl⟩
theorem of2{α1 α2:Type} [Inhabited (α1×α2)] {x:Option (α1×α2)} {r:α1×α2} (h:x=some r):x.isSome=true∧(x.getD default).1=r.1∧(x.getD default).2=r.2:=by
 subst h;exact⟨rfl,rfl,rfl⟩
theorem or2{β α1 α2:Type} [Inhabited (α1×α2)] {x:Option (β⊕(α1×α2))} {r:α1×α2} (h:x=some (.inr r)):x.isSome=true∧oL x=false∧((tR x).getD default).1=r.1∧((tR x).getD default).2=r.2:=by
 subst h;exact⟨rfl,rfl,rfl,rfl⟩
theorem of3{α1 α2 α3:Type} [Inhabited (α1×α2×α3)] {x:Option (α1×α2×α3)} {r:α1×α2×α3} (h:x=some r):x.isSome=true∧(x.getD default).1=r.1∧(x.getD default).2.1=r.2.1∧(x.getD default).2.2=r.2.2:=by
 subst h;exact⟨rfl,rfl,rfl,rfl⟩
theorem or3{β α1 α2 α3:Type} [Inhabited (α1×α2×α3)] {x:Option (β⊕(α1×α2×α3))} {r:α1×α2×α3} (h:x=some (.inr r)):x.isSome=true∧oL x=false∧((tR x).getD default).1=r.1∧((tR x).getD default).2.1=r.2.1∧((tR x).getD default).2.2=r.2.2:=by
 subst h;exact⟨rfl,rfl,rfl,rfl,rfl⟩
theorem of4{α1 α2 α3 α4:Type} [Inhabited (α1×α2×α3×α4)] {x:Option (α1×α2×α3×α4)} {r:α1×α2×α3×α4} (h:x=some r):x.isSome=true∧(x.getD default).1=r.1∧(x.getD default).2.1=r.2.1∧(x.getD default).2.2.1=r.2.2.1∧(x.getD default).2.2.2=r.2.2.2:=by
 subst h;exact⟨rfl,rfl,rfl,rfl,rfl⟩
theorem or4{β α1 α2 α3 α4:Type} [Inhabited (α1×α2×α3×α4)] {x:Option (β⊕(α1×α2×α3×α4))} {r:α1×α2×α3×α4} (h:x=some (.inr r)):x.isSome=true∧oL x=false∧((tR x).getD default).1=r.1∧((tR x).getD default).2.1=r.2.1∧((tR x).getD default).2.2.1=r.2.2.1∧((tR x).getD default).2.2.2=r.2.2.2:=by
 subst h;exact⟨rfl,rfl,rfl,rfl,rfl,rfl⟩
theorem of5{α1 α2 α3 α4 α5:Type} [Inhabited (α1×α2×α3×α4×α5)] {x:Option (α1×α2×α3×α4×α5)} {r:α1×α2×α3×α4×α5} (h:x=some r):x.isSome=true∧(x.getD default).1=r.1∧(x.getD default).2.1=r.2.1∧(x.getD default).2.2.1=r.2.2.1∧(x.getD default).2.2.2.1=r.2.2.2.1∧(x.getD default).2.2.2.2=r.2.2.2.2:=by
 subst h;exact⟨rfl,rfl,rfl,rfl,rfl,rfl⟩
theorem of6{α1 α2 α3 α4 α5 α6:Type} [Inhabited (α1×α2×α3×α4×α5×α6)] {x:Option (α1×α2×α3×α4×α5×α6)} {r:α1×α2×α3×α4×α5×α6} (h:x=some r):x.isSome=true∧(x.getD default).1=r.1∧(x.getD default).2.1=r.2.1∧(x.getD default).2.2.1=r.2.2.1∧(x.getD default).2.2.2.1=r.2.2.2.1∧(x.getD default).2.2.2.2.1=r.2.2.2.2.1∧(x.getD default).2.2.2.2.2=r.2.2.2.2.2:=by
 subst h;exact⟨rfl,rfl,rfl,rfl,rfl,rfl,rfl⟩
theorem or6{β α1 α2 α3 α4 α5 α6:Type} [Inhabited (α1×α2×α3×α4×α5×α6)] {x:Option (β⊕(α1×α2×α3×α4×α5×α6))} {r:α1×α2×α3×α4×α5×α6} (h:x=some (.inr r)):x.isSome=true∧oL x=false∧((tR x).getD default).1=r.1∧((tR x).getD default).2.1=r.2.1∧((tR x).getD default).2.2.1=r.2.2.1∧((tR x).getD default).2.2.2.1=r.2.2.2.1∧((tR x).getD default).2.2.2.2.1=r.2.2.2.2.1∧((tR x).getD default).2.2.2.2.2=r.2.2.2.2.2:=by
 subst h;exact⟨rfl,rfl,rfl,rfl,rfl,rfl,rfl,rfl⟩
theorem of8{α1 α2 α3 α4 α5 α6 α7 α8:Type} [Inhabited (α1×α2×α3×α4×α5×α6×α7×α8)] {x:Option (α1×α2×α3×α4×α5×α6×α7×α8)} {r:α1×α2×α3×α4×α5×α6×α7×α8} (h:x=some r):x.isSome=true∧(x.getD default).1=r.1∧(x.getD default).2.1=r.2.1∧(x.getD default).2.2.1=r.2.2.1∧(x.getD default).2.2.2.1=r.2.2.2.1∧(x.getD default).2.2.2.2.1=r.2.2.2.2.1∧(x.getD default).2.2.2.2.2.1=r.2.2.2.2.2.1∧(x.getD default).2.2.2.2.2.2.1=r.2.2.2.2.2.2.1∧(x.getD default).2.2.2.2.2.2.2=r.2.2.2.2.2.2.2:=by
 subst h;exact⟨rfl,rfl,rfl,rfl,rfl,rfl,rfl,rfl,rfl⟩
theorem ol0{α β:Type} {x:Option (α⊕β)} {r:α} (h:x=some (.inl r)):x.isSome=true∧oL x=true:=by
 subst h;exact⟨rfl,rfl⟩
theorem z8m(h:z79 a0 a1=some e2):z7j a0 a1=true∧z6b a0 a1=e2:=of1 h
theorem zs9(h:zac c0 c1 c2=some e3):za5 c0 c1 c2=true∧z4y c0 c1 c2=e3:=of1 h
theorem z3h(h:z9p a0=some e1):z2v a0=true∧z2f a0=e1:=of1 h
theorem y5v(h:zbe c0 c1 c2=some e3):zxp c0 c1 c2=true∧zu6 c0 c1 c2=e3:=of1 h
theorem y7w(h:z64 a0 g1 c2=some c3):zvl a0 g1 c2=true∧zkf a0 g1 c2=c3:=of1 h
theorem z1p(h:z98 a0=some e1):z18 a0=true∧z16 a0=e1:=of1 h
theorem zjx(h:z69 a0 g1 c2=some c3):zf2 a0 g1 c2=true∧z1m a0 g1 c2=c3:=of1 h
theorem zxs(h:z8a a0 a1 a2=some e3):zpy a0 a1 a2=true∧zo5 a0 a1 a2=e3:=of1 h
theorem y0v(h:z49 a0 g1 a2 g3 a4 g5 a6 g7 c8 a9 a10 c11=some a12):zp2 a0 g1 a2 g3 a4 g5 a6 g7 c8 a9 a10 c11=true∧zdp a0 g1 a2 g3 a4 g5 a6 g7 c8 a9 a10 c11=a12:=of1 h
theorem ygk(h:za4 a0 g1 a2 g3 a4 g5 a6 g7 c8 a9 a10 c11 a12=some a13):y5x a0 g1 a2 g3 a4 g5 a6 g7 c8 a9 a10 c11 a12=true∧zsi a0 g1 a2 g3 a4 g5 a6 g7 c8 a9 a10 c11 a12=a13:=of1 h
theorem y6m(h:z5q a0 g1 a2 g3 a4 g5 a6 g7 c8 a9 a10 c11=some a12):ztd a0 g1 a2 g3 a4 g5 a6 g7 c8 a9 a10 c11=true∧zj6 a0 g1 a2 g3 a4 g5 a6 g7 c8 a9 a10 c11=a12:=of1 h
theorem ybs(h:zhh=some a0):y5i=true∧zta=a0:=of1 h
theorem yh3(h:zg4 a0 a1 a2=some a3):zwt a0 a1 a2=true∧zuf a0 a1 a2=a3:=of1 h
theorem zv8(h:z7f a0=some a1):zos a0=true∧zf3 a0=a1:=of1 h
theorem yi5(h:zi1 a0=some a1):ydl a0=true∧ybp a0=a1:=of1 h
theorem zq1{r:Nat×Bool}(h:z7m a0=some r):zkn a0=true∧zjc a0=r.1∧zjs a0=r.2:=of2 h
theorem ya9(h:z7d a0 g1 a2 g3 a4 g5 c6=some c7):zy0 a0 g1 a2 g3 a4 g5 c6=true∧zad a0 g1 a2 g3 a4 g5 c6=c7:=of1 h
theorem zvm{r:Nat×Bool}(h:z5f a0=some r):znt a0=true∧zm9 a0=r.1∧zlq a0=r.2:=of2 h
theorem z9d(h:z89 a0=some e1):z8e a0=true∧z7g a0=e1:=of1 h
theorem zzx(h:z96 a0=some e1):zt4 a0=true∧zrf a0=e1:=of1 h
theorem y38(h:z4t a0=some e1):zr8 a0=true∧zox a0=e1:=of1 h
theorem yaz(h:z7b a0 a1 a2 a3 a4 a5=some e6):zy6 a0 a1 a2 a3 a4 a5=true∧zvb a0 a1 a2 a3 a4 a5=e6:=of1 h
theorem zxi(h:z88 a0=some e1):z9o a0=true∧z94 a0=e1:=of1 h
theorem ydd(h:z8f a0 g1 a2 g3 a4 g5 a6 g7 c8 a9 a10 c11 a12=some e13):zzq a0 g1 a2 g3 a4 g5 a6 g7 c8 a9 a10 c11 a12=true∧zy7 a0 g1 a2 g3 a4 g5 a6 g7 c8 a9 a10 c11 a12=e13:=of1 h
theorem yf7{r:Nat×Nat×Bool}(h:z6z a0 a1=some r):zur a0 a1=true∧zkp a0 a1=r.1∧zl0 a0 a1=r.2.1∧zkz a0 a1=r.2.2:=of3 h
theorem y62(h:z5m a0=some e1):ztk a0=true∧zry a0=e1:=of1 h
theorem zyr(h:z3f a0 g1 a2 g3 a4 g5 a6 g7 c8 a9 a10 c11=some e12):zn0 a0 g1 a2 g3 a4 g5 a6 g7 c8 a9 a10 c11=true∧zla a0 g1 a2 g3 a4 g5 a6 g7 c8 a9 a10 c11=e12:=of1 h
theorem yfq(h:za8 a0=some e1):y5u a0=true∧y1t a0=e1:=of1 h
theorem yf6(h:za7 a0=some e1):y5n a0=true∧y32 a0=e1:=of1 h
theorem zxg{r:Int×Int×Bool}(hm:a4=big) (h:z0n a0 g1 a4 c2 c3=some (Sum.inr r)):zmz a0 g1 c2 c3=true∧zl4 a0 g1 c2 c3=false∧zji a0 g1 c2 c3=r.1∧zw5 a0 g1 c2 c3=r.2.1∧zw0 a0 g1 c2 c3=r.2.2:=by
 subst hm;exact or3 h
theorem y1h {r:Int×Bool×(List Nat)} (hm:a5=big) (h:z1k a0 a1 g2 a5 c3 g4=some r):zia a0 a1 g2 c3 g4=true∧zyo a0 a1 g2 c3 g4=r.1∧zz3 a0 a1 g2 c3 g4=r.2.1∧zck a0 a1 g2 c3 g4=r.2.2:=by
 subst hm;exact of3 h
theorem zwb{r:Nat×Int×Bool}(hm:a6=big)(h:z0m a0 g1 g2 a3 a6 a4 c5=some r):zl9 a0 g1 g2 a3 a4 c5=true∧zil a0 g1 g2 a3 a4 c5=r.1∧zul a0 g1 g2 a3 a4 c5=r.2.1∧zus a0 g1 g2 a3 a4 c5=r.2.2:=by
 subst hm;exact of3 h
theorem y7o{r:Nat×Int×Bool}(hm:a6=big)(h:z1e a0 g1 a2 g3 a6 a4 c5=some r):zwn a0 g1 a2 g3 a4 c5=true∧zrr a0 g1 a2 g3 a4 c5=r.1∧y7f a0 g1 a2 g3 a4 c5=r.2.1∧y7n a0 g1 a2 g3 a4 c5=r.2.2:=by
 subst hm;exact of3 h
theorem zrg(hm:a5=big) (h:z0a a0 e1 c2 m3 a5 c4=some (Sum.inl c6)):z9f a0 e1 c2 m3 c4=true∧z8s a0 e1 c2 m3 c4=true∧zc7 a0 e1 c2 m3 c4=c6:=by
 subst hm;exact ol1 h
theorem zq9{r:Int×Bool}(hm:a5=big) (h:z0a a0 e1 c2 m3 a5 c4=some (Sum.inr r)):z9f a0 e1 c2 m3 c4=true∧z8s a0 e1 c2 m3 c4=false∧zpf a0 e1 c2 m3 c4=r.1∧zpd a0 e1 c2 m3 c4=r.2:=by
 subst hm;exact or2 h
theorem ydr(h:z9b a0 g1 a2 g3 a4 g5 a6 g7 c8 a9 a10 c11=some c12):zs6 a0 g1 a2 g3 a4 g5 a6 g7 c8 a9 a10 c11=true∧zqk a0 g1 a2 g3 a4 g5 a6 g7 c8 a9 a10 c11=c12:=of1 h
theorem y5j(h:z56 a0 g1 c2=some c3):zrm a0 g1 c2=true∧zpl a0 g1 c2=c3:=of1 h
theorem zcx {r:Nat×(List Nat)} (h:z4z a0 g1=some r):z52 a0 g1=true∧z0p a0 g1=r.1∧z5h a0 g1=r.2:=of2 h
theorem y2b(h:z4r a0 g1 a2 g3 a4 g5 a6 g7 c8 a9 a10 a11 g12=some a13):zqb a0 g1 a2 g3 a4 g5 a6 g7 c8 a9 a10 a11 g12=true∧z9y a0 g1 a2 g3 a4 g5 a6 g7 c8 a9 a10 a11 g12=a13:=of1 h
theorem yfw(h:za9 a0 g1 a2 g3 a4 g5 a6 g7 c8 a9 a10 a11 g12=some a13):y5w a0 g1 a2 g3 a4 g5 a6 g7 c8 a9 a10 a11 g12=true∧zks a0 g1 a2 g3 a4 g5 a6 g7 c8 a9 a10 a11 g12=a13:=of1 h
theorem zu7(h:z2o a0 m1 e2=some c3):zj9 a0 m1 e2=true∧zij a0 m1 e2=c3:=of1 h
theorem y9j(h:z6d a0=some e1):zvn a0=true∧ztf a0=e1:=of1 h
theorem yh8(h:zbg a0=some a1):y7q a0=true∧zin a0=a1:=of1 h
theorem y16{r:Int×Bool}(hm:a5=big) (h:z1i a0 a1 g2 g3 a5 c4=some (Sum.inr r)):zqs a0 a1 g2 g3 c4=true∧zp7 a0 a1 g2 g3 c4=false∧zzg a0 a1 g2 g3 c4=r.1∧zz7 a0 a1 g2 g3 c4=r.2:=by
 subst hm;exact or2 h
theorem y0d {r:Int×Bool×(List Nat)} (hm:a5=big) (h:z12 a0 a1 g2 a5 c3 g4=some r):zhg a0 a1 g2 c3 g4=true∧zz6 a0 a1 g2 c3 g4=r.1∧zzd a0 a1 g2 c3 g4=r.2.1∧zcq a0 a1 g2 c3 g4=r.2.2:=by
 subst hm;exact of3 h
theorem zyd{r:Nat×Int×Bool}(hm:a3=big)(h:z0y a0 a3 a1 c2=some r):z1n a0 a1 c2=true∧z0d a0 a1 c2=r.1∧zw1 a0 a1 c2=r.2.1∧zwj a0 a1 c2=r.2.2:=by
 subst hm;exact of3 h
theorem z9n(h:z6a a0 g1 a2 g3=some e4):z8i a0 g1 a2 g3=true∧z7x a0 g1 a2 g3=e4:=of1 h
theorem zrk(h:z1u a0 m1 e2=some e3):z5v a0 m1 e2=true∧z5e a0 m1 e2=e3:=of1 h
theorem yah {r:Nat×Nat×Nat×(List Nat)×(List Nat)×(List Nat)} (h:z2g a0 g1 a2 g3 a4 g5=some r):zwv a0 g1 a2 g3 a4 g5=true∧zvi a0 g1 a2 g3 a4 g5=r.1∧zv4 a0 g1 a2 g3 a4 g5=r.2.1∧zvs a0 g1 a2 g3 a4 g5=r.2.2.1∧zvr a0 g1 a2 g3 a4 g5=r.2.2.2.1∧zvu a0 g1 a2 g3 a4 g5=r.2.2.2.2.1∧zvg a0 g1 a2 g3 a4 g5=r.2.2.2.2.2:=of6 h
theorem y9d {r:Nat×(List Nat)} (h:z51 a0 g1=some r):zvq a0 g1=true∧ztm a0 g1=r.1∧ztg a0 g1=r.2:=of2 h
theorem y6l(h:z2t a0=some a1):zth a0=true∧zj4 a0=a1:=of1 h
theorem y8d(h:z6c a0=some a1):zvt a0=true∧z0g a0=a1:=of1 h
theorem y1a{r:Int×Bool}(hm:a5=big) (h:z1h a0 a1 g2 g3 a5 c4=some (Sum.inr r)):zid a0 a1 g2 g3 c4=true∧zg8 a0 a1 g2 g3 c4=false∧zyv a0 a1 g2 g3 c4=r.1∧zzm a0 a1 g2 g3 c4=r.2:=by
 subst hm;exact or2 h
theorem yam{r:Unit}(hm:a8=big) (h:z29 c0 g1 g2 g3 a4 a5 a6 a8 c7=some (Sum.inl r)):zcu c0 g1 g2 g3 a4 a5 a6 c7=true∧zb7 c0 g1 g2 g3 a4 a5 a6 c7=true:=by
 subst hm;exact ol0 h
theorem yb3{r:Int×Bool}(hm:a8=big) (h:z29 c0 g1 g2 g3 a4 a5 a6 a8 c7=some (Sum.inr r)):zcu c0 g1 g2 g3 a4 a5 a6 c7=true∧zb7 c0 g1 g2 g3 a4 a5 a6 c7=false∧y9k c0 g1 g2 g3 a4 a5 a6 c7=r.1∧y7t c0 g1 g2 g3 a4 a5 a6 c7=r.2:=by
 subst hm;exact or2 h
theorem zci(hm:a4=big) (h:z01 a0 c1 g2 a4 c3=some (Sum.inl c5)):z3m a0 c1 g2 c3=true∧z3d a0 c1 g2 c3=true∧z5s a0 c1 g2 c3=c5:=by
 subst hm;exact ol1 h
theorem zcc{r:Int×Bool}(hm:a4=big) (h:z01 a0 c1 g2 a4 c3=some (Sum.inr r)):z3m a0 c1 g2 c3=true∧z3d a0 c1 g2 c3=false∧zc5 a0 c1 g2 c3=r.1∧zc0 a0 c1 g2 c3=r.2:=by
 subst hm;exact or2 h
theorem zdq(hm:a4=big) (h:z02 a0 c1 g2 a4 c3=some (Sum.inl c5)):z43 a0 c1 g2 c3=true∧z3u a0 c1 g2 c3=true∧z6k a0 c1 g2 c3=c5:=by
 subst hm;exact ol1 h
theorem zdr{r:Int×Bool}(hm:a4=big) (h:z02 a0 c1 g2 a4 c3=some (Sum.inr r)):z43 a0 c1 g2 c3=true∧z3u a0 c1 g2 c3=false∧zdk a0 c1 g2 c3=r.1∧zdn a0 c1 g2 c3=r.2:=by
 subst hm;exact or2 h
theorem ydv {r:Nat×Nat×Nat×Nat×(List Nat)×(List Nat)×(List Nat)×(List Nat)} (h:z2a a0 g1 a2 g3 a4 g5 a6 g7 c8 a9 a10=some r):zsz a0 g1 a2 g3 a4 g5 a6 g7 c8 a9 a10=true∧zpw a0 g1 a2 g3 a4 g5 a6 g7 c8 a9 a10=r.1∧zqh a0 g1 a2 g3 a4 g5 a6 g7 c8 a9 a10=r.2.1∧zqw a0 g1 a2 g3 a4 g5 a6 g7 c8 a9 a10=r.2.2.1∧zqt a0 g1 a2 g3 a4 g5 a6 g7 c8 a9 a10=r.2.2.2.1∧zr2 a0 g1 a2 g3 a4 g5 a6 g7 c8 a9 a10=r.2.2.2.2.1∧zqn a0 g1 a2 g3 a4 g5 a6 g7 c8 a9 a10=r.2.2.2.2.2.1∧zq6 a0 g1 a2 g3 a4 g5 a6 g7 c8 a9 a10=r.2.2.2.2.2.2.1∧zq3 a0 g1 a2 g3 a4 g5 a6 g7 c8 a9 a10=r.2.2.2.2.2.2.2:=of8 h
theorem yap(h:z78 a0 g1 a2 g3 a4 g5 a6 g7 a8 g9 a10 g11=some e12):zy9 a0 g1 a2 g3 a4 g5 a6 g7 a8 g9 a10 g11=true∧zvf a0 g1 a2 g3 a4 g5 a6 g7 a8 g9 a10 g11=e12:=of1 h
theorem y8r(h:z68 a0 g1 a2 g3=some e4):zv3 a0 g1 a2 g3=true∧zto a0 g1 a2 g3=e4:=of1 h
theorem yh1(h:zbi a0 g1 a2 g3 a4 g5=some e6):y85 a0 g1 a2 g3 a4 g5=true∧y5s a0 g1 a2 g3 a4 g5=e6:=of1 h
theorem zg1(h:z11 a0 g1=some c2):z83 a0 g1=true∧z7r a0 g1=c2:=of1 h
theorem zhb(h:z14 a0 g1=some c2):z8p a0 g1=true∧z8b a0 g1=c2:=of1 h
theorem za1(h:z7y a0=some a1):z95 a0=true∧z1t a0=a1:=of1 h
theorem zej(hm:a4=big) (h:z03 a0 c1 g2 a4 c3=some (Sum.inl c5)):z4l a0 c1 g2 c3=true∧z48 a0 c1 g2 c3=true∧z6p a0 c1 g2 c3=c5:=by
 subst hm;exact ol1 h
theorem zeo{r:Int×Bool}(hm:a4=big) (h:z03 a0 c1 g2 a4 c3=some (Sum.inr r)):z4l a0 c1 g2 c3=true∧z48 a0 c1 g2 c3=false∧ze4 a0 c1 g2 c3=r.1∧zdv a0 c1 g2 c3=r.2:=by
 subst hm;exact or2 h
theorem yec(h:z9c a0 g1 a2 g3 a4 g5 a6 g7 c8 a9 a10 a11 g12 a13 g14 a15 g16 a17 g18 c19 a20 a21=some e22):zsx a0 g1 a2 g3 a4 g5 a6 g7 c8 a9 a10 a11 g12 a13 g14 a15 g16 a17 g18 c19 a20 a21=true∧zqi a0 g1 a2 g3 a4 g5 a6 g7 c8 a9 a10 a11 g12 a13 g14 a15 g16 a17 g18 c19 a20 a21=e22:=of1 h
theorem zii(h:z17 a0 g1=some c2):z8x a0 g1=true∧z8o a0 g1=c2:=of1 h
theorem y5t(h:zbo a0=some a1):zy4 a0=true∧za6 a0=a1:=of1 h
theorem ycc{r:Nat×Nat×Bool}(hm:a3=big)(h:z2c a0 a3 a1 a2=some r):zb3 a0 a1 a2=true∧z8h a0 a1 a2=r.1∧yac a0 a1 a2=r.2.1∧yao a0 a1 a2=r.2.2:=by
 subst hm;exact of3 h
theorem zdj(h:z0r a0 g1=some e2):z6w a0 g1=true∧z6f a0 g1=e2:=of1 h
theorem zei(h:z0x a0 g1=some e2):z7s a0 g1=true∧z73 a0 g1=e2:=of1 h
theorem zfq(h:z10 a0 g1=some e2):z81 a0 g1=true∧z7w a0 g1=e2:=of1 h
theorem yhy(h:zdx a0=some a1):ybr a0=true∧zxq a0=a1:=of1 h
theorem yb9(h:z7h a0=some a1):zy8 a0=true∧z1d a0=a1:=of1 h
theorem ydq(h:z90 a0=some a1):y2k a0=true∧z5a a0=a1:=of1 h
theorem yax{r:Unit}(hm:a6=big) (h:z1f c0 g1 a2 a3 a6 a4 c5=some (Sum.inl r)):zja c0 g1 a2 a3 a4 c5=true∧zhy c0 g1 a2 a3 a4 c5=true:=by
 subst hm;exact ol0 h
theorem yb5{r:Nat×Int×Bool}(hm:a6=big) (h:z1f c0 g1 a2 a3 a6 a4 c5=some (Sum.inr r)):zja c0 g1 a2 a3 a4 c5=true∧zhy c0 g1 a2 a3 a4 c5=false∧y7s c0 g1 a2 a3 a4 c5=r.1∧y9h c0 g1 a2 a3 a4 c5=r.2.1∧y8k c0 g1 a2 a3 a4 c5=r.2.2:=by
 subst hm;exact or3 h
theorem zbp(h:z24 a0 g1=some e2):z7v a0 g1=true∧z6m a0 g1=e2:=of1 h
theorem zux(h:zb4 a0 g1 a2 g3 a4 g5 a6 g7 c8 a9 a10=some e11):zr1 a0 g1 a2 g3 a4 g5 a6 g7 c8 a9 a10=true∧zn9 a0 g1 a2 g3 a4 g5 a6 g7 c8 a9 a10=e11:=of1 h
theorem zvp(h:z5j a0 g1=some e2):zod a0 g1=true∧zm5 a0 g1=e2:=of1 h
theorem yd9(h:z8c a0 g1=some e2):zzy a0 g1=true∧zx2 a0 g1=e2:=of1 h
theorem z8j(h:z7e a0=some a1):z5n a0=true∧z1v a0=a1:=of1 h
theorem y87{r:Nat×Nat×Bool}(h:z3y a0 a1=some r):zli a0 a1=true∧zjz a0 a1=r.1∧zk2 a0 a1=r.2.1∧zk6 a0 a1=r.2.2:=of3 h
theorem y98(h:z6e a0 g1 a2 g3 a4 g5 a6 g7 c8 a9 a10 c11=some e12):zv9 a0 g1 a2 g3 a4 g5 a6 g7 c8 a9 a10 c11=true∧ztz a0 g1 a2 g3 a4 g5 a6 g7 c8 a9 a10 c11=e12:=of1 h
theorem y14(h:z4d a0 g1 a2 g3 a4 g5 a6 g7 c8 a9 a10 c11 a12=some a13):zp8 a0 g1 a2 g3 a4 g5 a6 g7 c8 a9 a10 c11 a12=true∧zdo a0 g1 a2 g3 a4 g5 a6 g7 c8 a9 a10 c11 a12=a13:=of1 h
theorem zc6(hm:a5=big) (h:z00 a0 c1 g2 a3 a5 c4=some (Sum.inl c6)):z39 a0 c1 g2 a3 c4=true∧z36 a0 c1 g2 a3 c4=true∧z0c a0 c1 g2 a3 c4=c6:=by
 subst hm;exact ol1 h
theorem zc2{r:Int×Bool}(hm:a5=big) (h:z00 a0 c1 g2 a3 a5 c4=some (Sum.inr r)):z39 a0 c1 g2 a3 c4=true∧z36 a0 c1 g2 a3 c4=false∧zbd a0 c1 g2 a3 c4=r.1∧zbl a0 c1 g2 a3 c4=r.2:=by
 subst hm;exact or2 h
theorem zrl{r:Int×Bool}(hm:a4=big)(h:z1w a0 g1 a2 a4 c3=some r):zv6 a0 g1 a2 c3=true∧zqc a0 g1 a2 c3=r.1∧y4p a0 g1 a2 c3=r.2:=by
 subst hm;exact of2 h
theorem yg1(h:zab a0 g1 a2 g3 a4 g5 a6 g7 c8 a9 a10 c11 a12 a13 a14=some e15):y5q a0 g1 a2 g3 a4 g5 a6 g7 c8 a9 a10 c11 a12 a13 a14=true∧y2w a0 g1 a2 g3 a4 g5 a6 g7 c8 a9 a10 c11 a12 a13 a14=e15:=of1 h
theorem zz1{r:Int×Int×Nat×Nat×Nat}(h:z1a a0 g1 a2 g3 a4 g5 a6=some r):zmx a0 g1 a2 g3 a4 g5 a6=true∧z34 a0 g1 a2 g3 a4 g5 a6=r.1∧z35 a0 g1 a2 g3 a4 g5 a6=r.2.1∧z4o a0 g1 a2 g3 a4 g5 a6=r.2.2.1∧z8v a0 g1 a2 g3 a4 g5 a6=r.2.2.2.1∧zcr a0 g1 a2 g3 a4 g5 a6=r.2.2.2.2:=of5 h
theorem ye0{r:Int×Int×Nat×Nat}(h:z46 a0 g1 a2 g3 a4 g5 a6=some r):y2g a0 g1 a2 g3 a4 g5 a6=true∧zd3 a0 g1 a2 g3 a4 g5 a6=r.1∧zpq a0 g1 a2 g3 a4 g5 a6=r.2.1∧zzs a0 g1 a2 g3 a4 g5 a6=r.2.2.1∧ydh a0 g1 a2 g3 a4 g5 a6=r.2.2.2:=of4 h
theorem zx4{r:Unit}(hm:a5=big) (h:z15 a0 c1 g2 a3 a5 c4=some (Sum.inl r)):z9k a0 c1 g2 a3 c4=true∧z8u a0 c1 g2 a3 c4=true:=by
 subst hm;exact ol0 h
theorem zyn{r:Int×Bool}(hm:a5=big) (h:z15 a0 c1 g2 a3 a5 c4=some (Sum.inr r)):z9k a0 c1 g2 a3 c4=true∧z8u a0 c1 g2 a3 c4=false∧zw3 a0 c1 g2 a3 c4=r.1∧zw7 a0 c1 g2 a3 c4=r.2:=by
 subst hm;exact or2 h
theorem y5e(h:z54 a0 g1 a2 g3 a4 g5=some e6):zs0 a0 g1 a2 g3 a4 g5=true∧zr0 a0 g1 a2 g3 a4 g5=e6:=of1 h
theorem ztr(h:z65 a0 g1 a2 g3 a4 g5 a6 g7 a8=some a9):zlr a0 g1 a2 g3 a4 g5 a6 g7 a8=true∧z9m a0 g1 a2 g3 a4 g5 a6 g7 a8=a9:=of1 h
theorem y5y(h:zbf a0 g1 a2 g3 a4 g5 a6 g7 a8=some a9):zxh a0 g1 a2 g3 a4 g5 a6 g7 a8=true∧zuw a0 g1 a2 g3 a4 g5 a6 g7 a8=a9:=of1 h
theorem zr9{r:Nat×Nat}(h:z31 a0 g1 a2 g3 a4 g5 a6 g7 c8 a9 a10 c11 a12 a13=some r):zj3 a0 g1 a2 g3 a4 g5 a6 g7 c8 a9 a10 c11 a12 a13=true∧zi3 a0 g1 a2 g3 a4 g5 a6 g7 c8 a9 a10 c11 a12 a13=r.1∧zi6 a0 g1 a2 g3 a4 g5 a6 g7 c8 a9 a10 c11 a12 a13=r.2:=of2 h
theorem yem(h:z92 a0 g1 a2 g3 a4 g5 a6=some a7):y20 a0 g1 a2 g3 a4 g5 a6=true∧zqa a0 g1 a2 g3 a4 g5 a6=a7:=of1 h
theorem ydi(h:z9e a0 g1 a2 g3 a4 g5 a6=some a7):y30 a0 g1 a2 g3 a4 g5 a6=true∧zpt a0 g1 a2 g3 a4 g5 a6=a7:=of1 h
theorem zqm{r:Nat×Nat}(h:z3x a0 g1 a2 g3 a4 g5 a6 g7 c8 a9 a10 c11 a12 a13=some r):ziv a0 g1 a2 g3 a4 g5 a6 g7 c8 a9 a10 c11 a12 a13=true∧zhd a0 g1 a2 g3 a4 g5 a6 g7 c8 a9 a10 c11 a12 a13=r.1∧zi9 a0 g1 a2 g3 a4 g5 a6 g7 c8 a9 a10 c11 a12 a13=r.2:=of2 h
theorem yb2{r:Nat×Nat}(h:z5l a0 g1 a2 g3 a4 g5 a6 g7 c8 a9 a10 c11 a12 a13=some r):zyf a0 g1 a2 g3 a4 g5 a6 g7 c8 a9 a10 c11 a12 a13=true∧zm6 a0 g1 a2 g3 a4 g5 a6 g7 c8 a9 a10 c11 a12 a13=r.1∧zmj a0 g1 a2 g3 a4 g5 a6 g7 c8 a9 a10 c11 a12 a13=r.2:=of2 h
theorem y19{r:Unit}(hm:a6=big) (h:z0q a0 c1 g2 a3 a6 a4 c5=some (Sum.inl r)):zah a0 c1 g2 a3 a4 c5=true∧za0 a0 c1 g2 a3 a4 c5=true:=by
 subst hm;exact ol0 h
theorem y0h{r:Nat×Int×Bool}(hm:a6=big) (h:z0q a0 c1 g2 a3 a6 a4 c5=some (Sum.inr r)):zah a0 c1 g2 a3 a4 c5=true∧za0 a0 c1 g2 a3 a4 c5=false∧zzk a0 c1 g2 a3 a4 c5=r.1∧zyp a0 c1 g2 a3 a4 c5=r.2.1∧zzj a0 c1 g2 a3 a4 c5=r.2.2:=by
 subst hm;exact or3 h
theorem zkb(h:z66 a0 g1 a2 g3 a4 g5 a6 g7 c8 a9 a10=some e11):zae a0 g1 a2 g3 a4 g5 a6 g7 c8 a9 a10=true∧z7t a0 g1 a2 g3 a4 g5 a6 g7 c8 a9 a10=e11:=of1 h
theorem zzw{r:Nat×Nat×Nat×Nat}(h:z4x a0 g1 a2 g3 a4 g5 a6 g7 c8 a9 a10 c11 a12 a13=some r):zss a0 g1 a2 g3 a4 g5 a6 g7 c8 a9 a10 c11 a12 a13=true∧zpi a0 g1 a2 g3 a4 g5 a6 g7 c8 a9 a10 c11 a12 a13=r.1∧zqv a0 g1 a2 g3 a4 g5 a6 g7 c8 a9 a10 c11 a12 a13=r.2.1∧zzz a0 g1 a2 g3 a4 g5 a6 g7 c8 a9 a10 c11 a12 a13=r.2.2.1∧zzn a0 g1 a2 g3 a4 g5 a6 g7 c8 a9 a10 c11 a12 a13=r.2.2.2:=of4 h
theorem y28(h:z3a a0 g1 a2 g3 a4 g5 a6 g7 c8 a9 a10 c11 a12 a13 a14 a15=some a16):zpj a0 g1 a2 g3 a4 g5 a6 g7 c8 a9 a10 c11 a12 a13 a14 a15=true∧z9v a0 g1 a2 g3 a4 g5 a6 g7 c8 a9 a10 c11 a12 a13 a14 a15=a16:=of1 h
theorem zzu(h:z9a a0 g1 a2 g3 a4 g5 a6 g7 c8 a9 a10 c11 a12 a13 a14=some e15):zsm a0 g1 a2 g3 a4 g5 a6 g7 c8 a9 a10 c11 a12 a13 a14=true∧zqr a0 g1 a2 g3 a4 g5 a6 g7 c8 a9 a10 c11 a12 a13 a14=e15:=of1 h
theorem y97(h:z42 a0 g1 a2 g3 a4 g5 a6 g7 c8 a9 a10 c11 a12 a13 a14 a15=some a16):zvd a0 g1 a2 g3 a4 g5 a6 g7 c8 a9 a10 c11 a12 a13 a14 a15=true∧zdc a0 g1 a2 g3 a4 g5 a6 g7 c8 a9 a10 c11 a12 a13 a14 a15=a16:=of1 h
end
end Go.Rf
