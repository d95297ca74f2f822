import Derived.Test.YtijjhfailnmeoaaGreatB
set_option linter.unusedVariables false
set_option linter.unusedSimpArgs false
set_option linter.unusedSectionVars false
set_option maxRecDepth 100000
set_option maxHeartbeats 4000000
namespace Go.Rf
open Go
noncomputable section
variable (a0:Nat) (c0:Int) (g0:List Nat) (a1:Nat) (c1:Int) (e1:Bool) (g1:List Nat) (m1:List Bool) (a2:Nat) (c2:Int) (e2:Bool) (g2:List Nat) (a3:Nat) (c3:Int) (g3:List Nat) (m3:List Bool) (a4:Nat) (c4:Int) (g4:List Nat) (a5:Nat) (c5:Int) (g5:List Nat) (a6:Nat) (c6:Int) (a7:Nat) (c7:Int) (g7:List Nat) (a8:Nat) (c8:Int) (a9:Nat) (g9:List Nat) (a10:Nat) (a11:Nat) (c11:Int) (g11:List Nat) (a12:Nat) (g12:List Nat) (a13:Nat) (a14:Nat) (g14:List Nat) (a15:Nat) (g16:List Nat) (a17:Nat) (g18:List Nat) (c19:Int) (a20:Nat) (a21:Nat)
abbrev Nt1{A1:Type} (T:{R:Type}→(A1→Option R)→Option R):Prop:=∀ {R R':Type} (o:Option R→Option R'),o none=none→∀ k:A1→Option R,T (fun c1=>o (k c1))=o (T k)
abbrev Nt2{A1 A2:Type} (T:{R:Type}→(A1→A2→Option R)→Option R):Prop:=∀ {R R':Type} (o:Option R→Option R'),o none=none→∀ k:A1→A2→Option R,T (fun c1 c2=>o (k c1 c2))=o (T k)
abbrev Nt3{A1 A2 A3:Type} (T:{R:Type}→(A1→A2→A3→Option R)→Option R):Prop:=∀ {R R':Type} (o:Option R→Option R'),o none=none→∀ k:A1→A2→A3→Option R,T (fun c1 c2 c3=>o (k c1 c2 c3))=o (T k)
abbrev Nt4{A1 A2 A3 A4:Type} (T:{R:Type}→(A1→A2→A3→A4→Option R)→Option R):Prop:=∀ {R R':Type} (o:Option R→Option R'),o none=none→∀ k:A1→A2→A3→A4→Option R,T (fun c1 c2 c3 c4=>o (k c1 c2 c3 c4))=o (T k)
abbrev Nt5{A1 A2 A3 A4 A5:Type} (T:{R:Type}→(A1→A2→A3→A4→A5→Option R)→Option R):Prop:=∀ {R R':Type} (o:Option R→Option R'),o none=none→∀ k:A1→A2→A3→A4→A5→Option R,T (fun c1 c2 c3 c4 c5=>o (k c1 c2 c3 c4 c5))=o (T k)
abbrev Nt6{A1 A2 A3 A4 A5 A6:Type} (T:{R:Type}→(A1→A2→A3→A4→A5→A6→Option R)→Option R):Prop:=∀ {R R':Type} (o:Option R→Option R'),o none=none→∀ k:A1→A2→A3→A4→A5→A6→Option R,T (fun c1 c2 c3 c4 c5 c6=>o (k c1 c2 c3 c4 c5 c6))=o (T k)
abbrev Nt8{A1 A2 A3 A4 A5 A6 A7 A8:Type} (T:{R:Type}→(A1→A2→A3→A4→A5→A6→A7→A8→Option R)→Option R):Prop:=∀ {R R':Type} (o:Option R→Option R'),o none=none→∀ k:A1→A2→A3→A4→A5→A6→A7→A8→Option R,T (fun c1 c2 c3 c4 c5 c6 c7 c8=>o (k c1 c2 c3 c4 c5 c6 c7 c8))=o (T k)
def zep{R:Type}(k_:Bool→Option R):Option R:=(br (fcmp .neq .f64 a0 a0) (br (fcmp .neq .f64 a0 a0) (k_ (fcmp .neq .f64 a1 a1)) (k_ Bool.false)) (br (fcmp .neq .f64 a1 a1) (br (fcmp .neq .f64 a0 a0) (k_ (fcmp .neq .f64 a1 a1)) (k_ Bool.false)) (br (fcmp .eql .f64 a0 0) (br (fcmp .eql .f64 a1 0) (k_ (beqB (fcmp .gtr .f64 (fop .quo .f64 4607182418800017408 a0) 0) (fcmp .gtr .f64 (fop .quo .f64 4607182418800017408 a1) 0))) (k_ (fcmp .eql .f64 a0 a1))) (k_ (fcmp .eql .f64 a0 a1)))))
def z66:Option (Bool):=zep a0 a1 (fun c0_=>some c0_)
theorem y10:Nt1 (fun {R}=>zep (R:=R) a0 a1):=by
 intro R R' o h0 k;unfold zep;repeat (first | apply grd_out h0 | apply br_out | rfl)
def z4n:Bool:=(z66 a0 a1).isSome
def z47:Bool:=((z66 a0 a1).getD default)
def zke{R:Type}(k_:Bool→Option R):Option R:=(br (leI c1 c0) (k_ (leI c0 c2)) (k_ Bool.false))
def z8z:Option (Bool):=zke c0 c1 c2 (fun c0_=>some c0_)
theorem y7s:Nt1 (fun {R}=>zke (R:=R) c0 c1 c2):=by
 intro R R' o h0 k;unfold zke;repeat (first | apply grd_out h0 | apply br_out | rfl)
def z97:Bool:=(z8z c0 c1 c2).isSome
def z45:Bool:=((z8z c0 c1 c2).getD default)
def zon{R:Type}(k_:Bool→Option R):Option R:=(k_ (fcmp .eql .f32 (fop .sub .f32 a0 a0) 0))
def z8t:Option (Bool):=zon a0 (fun c0_=>some c0_)
theorem y3l:Nt1 (fun {R}=>zon (R:=R) a0):=by
 intro R R' o h0 k;unfold zon;repeat (first | apply grd_out h0 | apply br_out | rfl)
def z2s:Bool:=(z8t a0).isSome
def z2b:Bool:=((z8t a0).getD default)
def zoa{R:Type}(k_:Bool→Option R):Option R:=(br (leI c1 c0) (k_ (leI c0 c2)) (k_ Bool.false))
def za5:Option (Bool):=zoa c0 c1 c2 (fun c0_=>some c0_)
theorem y9r:Nt1 (fun {R}=>zoa (R:=R) c0 c1 c2):=by
 intro R R' o h0 k;unfold zoa;repeat (first | apply grd_out h0 | apply br_out | rfl)
def zv1:Bool:=(za5 c0 c1 c2).isSome
def zry:Bool:=((za5 c0 c1 c2).getD default)
def zda{R:Type}(a:List Nat)(q2j:Int)(k_:Int→Option R):Option R:=(br (ltI (subI .i64 q2j (Int.ofNat a0)) 0) (k_ (Int.negSucc 0)) (k_ (subI .i64 q2j (Int.ofNat a0))))
def z5e:Option (Int):=zda a0 g1 c2 (fun c0_=>some c0_)
theorem zz0:Nt1 (fun {R}=>zda (R:=R) a0 g1 c2):=by
 intro R R' o h0 k;unfold zda;repeat (first | apply grd_out h0 | apply br_out | rfl)
def zs9:Bool:=(z5e a0 g1 c2).isSome
def zhw:Int:=((z5e a0 g1 c2).getD default)
def zlj{R:Type}(k_:Bool→Option R):Option R:=(k_ (fcmp .eql .f32 (fop .sub .f32 a0 a0) 0))
def z7t:Option (Bool):=zlj a0 (fun c0_=>some c0_)
theorem y18:Nt1 (fun {R}=>zlj (R:=R) a0):=by
 intro R R' o h0 k;unfold zlj;repeat (first | apply grd_out h0 | apply br_out | rfl)
def z12:Bool:=(z7t a0).isSome
def z0v:Bool:=((z7t a0).getD default)
def zde{R:Type}(a:List Nat)(q2j:Int)(k_:Int→Option R):Option R:=(br (ltI (subI .i64 q2j (Int.ofNat a0)) 0) (k_ (Int.negSucc 0)) (k_ (subI .i64 q2j (Int.ofNat a0))))
def z5d:Option (Int):=zde a0 g1 c2 (fun c0_=>some c0_)
theorem zzv:Nt1 (fun {R}=>zde (R:=R) a0 g1 c2):=by
 intro R R' o h0 k;unfold zde;repeat (first | apply grd_out h0 | apply br_out | rfl)
def zdg:Bool:=(z5d a0 g1 c2).isSome
def z1c:Int:=((z5d a0 g1 c2).getD default)
def zkm{R:Type}(q2p q2t q2s:Nat)(k_:Unit→Option R):Option R:=(k_ ())
def zl8:Option (Unit):=zkm a0 a1 a2 (fun _=>some ())
theorem y21:Nt1 (fun {R}=>zkm (R:=R) a0 a1 a2):=by
 intro R R' o h0 k;unfold zkm;repeat (first | apply grd_out h0 | apply br_out | rfl)
def zvn:Bool:=(zl8 a0 a1 a2).isSome
def zh6{R:Type}(k_:Bool→Option R):Option R:=(br (fcmp .geq .f32 a0 a1) (k_ (fcmp .leq .f32 a0 a2)) (k_ Bool.false))
def z6y:Option (Bool):=zh6 a0 a1 a2 (fun c0_=>some c0_)
theorem y3j:Nt1 (fun {R}=>zh6 (R:=R) a0 a1 a2):=by
 intro R R' o h0 k;unfold zh6;repeat (first | apply grd_out h0 | apply br_out | rfl)
def zns:Bool:=(z6y a0 a1 a2).isSome
def zlb:Bool:=((z6y a0 a1 a2).getD default)
def z8k{R:Type}(q00:Nat)(q03:List Nat)(q02:Nat)(q05:List Nat)(q01:Nat)(q04:List Nat)(q06:Nat)(q0b:List Nat)(q0g:Int)(q0n q0m:Nat)(i:Int)(k_:Nat→Option R):Option R:=(grd (okIx i q06) (grd (okIx i q06) (k_ (fop .quo .f32 (fop .mul .f32 (fOI .f32 q0g) (gF q0b (Nat.succ (ixO 0 i 3)))) (fop .mul .f32 1086918619 (gF q0b (ixO 0 i 3)))))))
def z3g:Option (Nat):=z8k a0 g1 a2 g3 a4 g5 a6 g7 c8 a9 a10 c11 (fun c0_=>some c0_)
theorem zth:Nt1 (fun {R}=>z8k (R:=R) a0 g1 a2 g3 a4 g5 a6 g7 c8 a9 a10 c11):=by
 intro R R' o h0 k;unfold z8k;repeat (first | apply grd_out h0 | apply br_out | rfl)
def zm8:Bool:=(z3g a0 g1 a2 g3 a4 g5 a6 g7 c8 a9 a10 c11).isSome
def zc9:Nat:=((z3g a0 g1 a2 g3 a4 g5 a6 g7 c8 a9 a10 c11).getD default)
def zka{R:Type}(q00:Nat)(q03:List Nat)(q02:Nat)(q05:List Nat)(q01:Nat)(q04:List Nat)(q06:Nat)(q0b:List Nat)(q0g:Int)(q0n q0m:Nat)(i:Int)(q3g:Nat)(k_:Nat→Option R):Option R:=(grd (okIx i q06) (k_ (fop .quo .f32 (fop .quo .f32 (fop .mul .f32 (fOI .f32 q0g) (fop .sub .f32 q0m (gF q0b (ixO 0 i 3)))) (fop .mul .f32 1073741824 (gF q0b (ixO 0 i 3)))) (fop .add .f32 (fop .quo .f32 (fop .mul .f32 (fOI .f32 q0g) (fop .sub .f32 q0m (gF q0b (ixO 0 i 3)))) (fop .mul .f32 1073741824 (gF q0b (ixO 0 i 3)))) q3g))))
def z90:Option (Nat):=zka a0 g1 a2 g3 a4 g5 a6 g7 c8 a9 a10 c11 a12 (fun c0_=>some c0_)
theorem y74:Nt1 (fun {R}=>zka (R:=R) a0 g1 a2 g3 a4 g5 a6 g7 c8 a9 a10 c11 a12):=by
 intro R R' o h0 k;unfold zka;repeat (first | apply grd_out h0 | apply br_out | rfl)
def y2t:Bool:=(z90 a0 g1 a2 g3 a4 g5 a6 g7 c8 a9 a10 c11 a12).isSome
def zq5:Nat:=((z90 a0 g1 a2 g3 a4 g5 a6 g7 c8 a9 a10 c11 a12).getD default)
def zbw{R:Type}(q00:Nat)(q03:List Nat)(q02:Nat)(q05:List Nat)(q01:Nat)(q04:List Nat)(q06:Nat)(q0b:List Nat)(q0g:Int)(q0n q0m:Nat)(i:Int)(k_:Nat→Option R):Option R:=(grd (okIx i q06) (k_ (fop .quo .f32 (fop .mul .f32 (fOI .f32 q0g) (gF q0b (Nat.succ (ixO 0 i 3)))) (fop .mul .f32 1086918619 (gF q0b (ixO 0 i 3))))))
def z4x:Option (Nat):=zbw a0 g1 a2 g3 a4 g5 a6 g7 c8 a9 a10 c11 (fun c0_=>some c0_)
theorem zxk:Nt1 (fun {R}=>zbw (R:=R) a0 g1 a2 g3 a4 g5 a6 g7 c8 a9 a10 c11):=by
 intro R R' o h0 k;unfold zbw;repeat (first | apply grd_out h0 | apply br_out | rfl)
def zqw:Bool:=(z4x a0 g1 a2 g3 a4 g5 a6 g7 c8 a9 a10 c11).isSome
def zgf:Nat:=((z4x a0 g1 a2 g3 a4 g5 a6 g7 c8 a9 a10 c11).getD default)
def ztk{R:Type}  (k_:Nat→Option R):Option R:=(grd (okU .f64 9221120237041090561) (k_ (cnI .f64 9221120237041090561)))
def zet  : Option (Nat):=ztk (fun c0_=>some c0_)
theorem ych  : Nt1 (fun {R}=>ztk (R:=R)):=by
 intro R R' o h0 k;unfold ztk;repeat (first | apply grd_out h0 | apply br_out | rfl)
def y2d  : Bool:=(zet).isSome
def zqo  : Nat:=((zet).getD default)
def zuy{R:Type}(k_:Nat→Option R):Option R:=(k_ (fop .add .f32 a0 (fop .mul .f32 a2 (fop .sub .f32 a1 a0))))
def zdm:Option (Nat):=zuy a0 a1 a2 (fun c0_=>some c0_)
theorem y9c:Nt1 (fun {R}=>zuy (R:=R) a0 a1 a2):=by
 intro R R' o h0 k;unfold zuy;repeat (first | apply grd_out h0 | apply br_out | rfl)
def zve:Bool:=(zdm a0 a1 a2).isSome
def zra:Nat:=((zdm a0 a1 a2).getD default)
def zf1{R:Type}(k_:Nat→Option R):Option R:=(grd (fcvB .f64 .f32 a0) (k_ (fcvV .f64 .f32 a0)))
def z6f:Option (Nat):=zf1 a0 (fun c0_=>some c0_)
theorem y0h:Nt1 (fun {R}=>zf1 (R:=R) a0):=by
 intro R R' o h0 k;unfold zf1;repeat (first | apply grd_out h0 | apply br_out | rfl)
def zkl:Bool:=(z6f a0).isSome
def zcv:Nat:=((z6f a0).getD default)
def ztd{R:Type}(k_:Nat→Option R):Option R:=(grd (bnot (nanQ .f64 a0)) (grd (okU .f64 (bitI .andNot .u64 (Int.ofNat a0) 9223372036854775808)) (k_ (cnI .f64 (bitI .andNot .u64 (Int.ofNat a0) 9223372036854775808)))))
def zfq:Option (Nat):=ztd a0 (fun c0_=>some c0_)
theorem yc7:Nt1 (fun {R}=>ztd (R:=R) a0):=by
 intro R R' o h0 k;unfold ztd;repeat (first | apply grd_out h0 | apply br_out | rfl)
def yb1:Bool:=(zfq a0).isSome
def y8u:Nat:=((zfq a0).getD default)
def zi9{R:Type}(k_:Nat→Bool→Option R):Option R:=(grd (z2s a0) (br (bnot (z2b a0)) (k_ 0 Bool.false) (k_ a0 Bool.true)))
def z6q:Option (Nat×Bool):=zi9 a0 (fun c0_ c1_=>some (c0_,c1_))
theorem y6l:Nt2 (fun {R}=>zi9 (R:=R) a0):=by
 intro R R' o h0 k;unfold zi9;repeat (first | apply grd_out h0 | apply br_out | rfl)
def zib:Bool:=(z6q a0).isSome
def z8j:Nat:=((z6q a0).getD default).1
def zhb:Bool:=((z6q a0).getD default).2
def zew{R:Type}(k_:Int→Option R):Option R:=(grd (zdg a0 (pF g1 0 (muN a0 1)) c6) (br (ltI (z1c a0 (pF g1 0 (muN a0 1)) c6) 0) (k_ (Int.negSucc 0)) (grd (zdg a2 (pF g3 0 (muN a2 1)) (z1c a0 (pF g1 0 (muN a0 1)) c6)) (br (ltI (z1c a2 (pF g3 0 (muN a2 1)) (z1c a0 (pF g1 0 (muN a0 1)) c6)) 0) (k_ (Int.negSucc 0)) (grd (zdg a4 (pF g5 0 (muN a4 1)) (z1c a2 (pF g3 0 (muN a2 1)) (z1c a0 (pF g1 0 (muN a0 1)) c6))) (br (ltI (z1c a4 (pF g5 0 (muN a4 1)) (z1c a2 (pF g3 0 (muN a2 1)) (z1c a0 (pF g1 0 (muN a0 1)) c6))) 0) (k_ (Int.negSucc 0)) (k_ (z1c a4 (pF g5 0 (muN a4 1)) (z1c a2 (pF g3 0 (muN a2 1)) (z1c a0 (pF g1 0 (muN a0 1)) c6))))))))))
def z67:Option (Int):=zew a0 g1 a2 g3 a4 g5 c6 (fun c0_=>some c0_)
theorem y0y:Nt1 (fun {R}=>zew (R:=R) a0 g1 a2 g3 a4 g5 c6):=by
 intro R R' o h0 k;unfold zew;repeat (first | apply grd_out h0 | apply br_out | rfl)
def zuf:Bool:=(z67 a0 g1 a2 g3 a4 g5 c6).isSome
def z99:Int:=((z67 a0 g1 a2 g3 a4 g5 c6).getD default)
def zf7{R:Type}(k_:Nat→Bool→Option R):Option R:=(grd (z12 a0) (br (bnot (z0v a0)) (k_ 0 Bool.false) (k_ a0 Bool.true)))
def z4v:Option (Nat×Bool):=zf7 a0 (fun c0_ c1_=>some (c0_,c1_))
theorem y1i:Nt2 (fun {R}=>zf7 (R:=R) a0):=by
 intro R R' o h0 k;unfold zf7;repeat (first | apply grd_out h0 | apply br_out | rfl)
def zll:Bool:=(z4v a0).isSome
def zjm:Nat:=((z4v a0).getD default).1
def zjg:Bool:=((z4v a0).getD default).2
def zha{R:Type}(k_:Bool→Option R):Option R:=(grd (z12 a0) (br (z0v a0) (k_ (fcmp .gtr .f32 a0 0)) (k_ Bool.false)))
def z6x:Option (Bool):=zha a0 (fun c0_=>some c0_)
theorem y3e:Nt1 (fun {R}=>zha (R:=R) a0):=by
 intro R R' o h0 k;unfold zha;repeat (first | apply grd_out h0 | apply br_out | rfl)
def zbu:Bool:=(z6x a0).isSome
def zad:Bool:=((z6x a0).getD default)
def zi3{R:Type}(k_:Bool→Option R):Option R:=(grd (z2s a0) (br (z2b a0) (k_ (fcmp .geq .f32 a0 0)) (k_ Bool.false)))
def z7s:Option (Bool):=zi3 a0 (fun c0_=>some c0_)
theorem y6e:Nt1 (fun {R}=>zi3 (R:=R) a0):=by
 intro R R' o h0 k;unfold zi3;repeat (first | apply grd_out h0 | apply br_out | rfl)
def zq2:Bool:=(z7s a0).isSome
def zmq:Bool:=((z7s a0).getD default)
def z9r{R:Type}(k_:Bool→Option R):Option R:=(grd (z2s a0) (br (bnot (z2b a0)) (k_ Bool.true) (k_ (fcmp .leq .f32 a0 0))))
def z3z:Option (Bool):=z9r a0 (fun c0_=>some c0_)
theorem zua:Nt1 (fun {R}=>z9r (R:=R) a0):=by
 intro R R' o h0 k;unfold z9r;repeat (first | apply grd_out h0 | apply br_out | rfl)
def zms:Bool:=(z3z a0).isSome
def zmj:Bool:=((z3z a0).getD default)
def zf0{R:Type}(k_:Bool→Option R):Option R:=(grd (z4n (fcvV .f32 .f64 a0) (fcvV .f32 .f64 a3)) (br (bnot (z47 (fcvV .f32 .f64 a0) (fcvV .f32 .f64 a3))) (k_ Bool.false) (grd (z4n (fcvV .f32 .f64 a1) (fcvV .f32 .f64 a4)) (br (bnot (z47 (fcvV .f32 .f64 a1) (fcvV .f32 .f64 a4))) (k_ Bool.false) (grd (z4n (fcvV .f32 .f64 a2) (fcvV .f32 .f64 a5)) (br (bnot (z47 (fcvV .f32 .f64 a2) (fcvV .f32 .f64 a5))) (k_ Bool.false) (k_ Bool.true)))))))
def z6e:Option (Bool):=zf0 a0 a1 a2 a3 a4 a5 (fun c0_=>some c0_)
theorem y16:Nt1 (fun {R}=>zf0 (R:=R) a0 a1 a2 a3 a4 a5):=by
 intro R R' o h0 k;unfold zf0;repeat (first | apply grd_out h0 | apply br_out | rfl)
def zu5:Bool:=(z6e a0 a1 a2 a3 a4 a5).isSome
def zsc:Bool:=((z6e a0 a1 a2 a3 a4 a5).getD default)
def zh1{R:Type}(k_:Bool→Option R):Option R:=(grd (z12 a0) (br (z0v a0) (k_ (fcmp .geq .f32 a0 0)) (k_ Bool.false)))
def z6z:Option (Bool):=zh1 a0 (fun c0_=>some c0_)
theorem y4q:Nt1 (fun {R}=>zh1 (R:=R) a0):=by
 intro R R' o h0 k;unfold zh1;repeat (first | apply grd_out h0 | apply br_out | rfl)
def z8u:Bool:=(z6z a0).isSome
def z85:Bool:=((z6z a0).getD default)
def zgz{R:Type}(q00:Nat)(q03:List Nat)(q02:Nat)(q05:List Nat)(q01:Nat)(q04:List Nat)(q06:Nat)(q0b:List Nat)(q0g:Int)(q0n q0m:Nat)(i:Int)(q0o:Nat)(k_:Bool→Option R):Option R:=(grd (okIx i q06) (grd (z12 (fop .sub .f32 (fop .sub .f32 981668463 (gF q0b (Nat.succ (Nat.succ (ixO 0 i 3))))) q0o)) (br (z0v (fop .sub .f32 (fop .sub .f32 981668463 (gF q0b (Nat.succ (Nat.succ (ixO 0 i 3))))) q0o)) (grd (okIx i q06) (grd (z12 (fop .sub .f32 (fop .sub .f32 1048508891 (gF q0b (Nat.succ (Nat.succ (ixO 0 i 3))))) q0o)) (k_ (z0v (fop .sub .f32 (fop .sub .f32 1048508891 (gF q0b (Nat.succ (Nat.succ (ixO 0 i 3))))) q0o))))) (k_ Bool.false))))
def z70:Option (Bool):=zgz a0 g1 a2 g3 a4 g5 a6 g7 c8 a9 a10 c11 a12 (fun c0_=>some c0_)
theorem y4o:Nt1 (fun {R}=>zgz (R:=R) a0 g1 a2 g3 a4 g5 a6 g7 c8 a9 a10 c11 a12):=by
 intro R R' o h0 k;unfold zgz;repeat (first | apply grd_out h0 | apply br_out | rfl)
def zwo:Bool:=(z70 a0 g1 a2 g3 a4 g5 a6 g7 c8 a9 a10 c11 a12).isSome
def zu7:Bool:=((z70 a0 g1 a2 g3 a4 g5 a6 g7 c8 a9 a10 c11 a12).getD default)
def zkd{R:Type}(k_:Nat→Nat→Bool→Option R):Option R:=(grd (z12 a0) (br (bnot (z0v a0)) (k_ 0 0 Bool.false) (grd (z12 a1) (br (bnot (z0v a1)) (k_ 0 0 Bool.false) (k_ a0 a1 Bool.true)))))
def z61:Option (Nat×Nat×Bool):=zkd a0 a1 (fun c0_ c1_ c2_=>some (c0_,c1_,c2_))
theorem y8k:Nt3 (fun {R}=>zkd (R:=R) a0 a1):=by
 intro R R' o h0 k;unfold zkd;repeat (first | apply grd_out h0 | apply br_out | rfl)
def zrq:Bool:=(z61 a0 a1).isSome
def zic:Nat:=((z61 a0 a1).getD default).1
def zi8:Nat:=((z61 a0 a1).getD default).2.1
def zik:Bool:=((z61 a0 a1).getD default).2.2
def zbg{R:Type}(k_:Bool→Option R):Option R:=(grd (z2s a0) (k_ (bnot (z2b a0))))
def z4m:Option (Bool):=zbg a0 (fun c0_=>some c0_)
theorem zxp:Nt1 (fun {R}=>zbg (R:=R) a0):=by
 intro R R' o h0 k;unfold zbg;repeat (first | apply grd_out h0 | apply br_out | rfl)
def zr6:Bool:=(z4m a0).isSome
def zpb:Bool:=((z4m a0).getD default)
def z88{R:Type}(q00:Nat)(q03:List Nat)(q02:Nat)(q05:List Nat)(q01:Nat)(q04:List Nat)(q06:Nat)(q0b:List Nat)(q0g:Int)(q0n q0m:Nat)(i:Int)(k_:Bool→Option R):Option R:=(grd (z97 i 0 (subI .i64 (Int.ofNat q06) 1)) (k_ (z45 i 0 (subI .i64 (Int.ofNat q06) 1))))
def z2z:Option (Bool):=z88 a0 g1 a2 g3 a4 g5 a6 g7 c8 a9 a10 c11 (fun c0_=>some c0_)
theorem zrm:Nt1 (fun {R}=>z88 (R:=R) a0 g1 a2 g3 a4 g5 a6 g7 c8 a9 a10 c11):=by
 intro R R' o h0 k;unfold z88;repeat (first | apply grd_out h0 | apply br_out | rfl)
def zk2:Bool:=(z2z a0 g1 a2 g3 a4 g5 a6 g7 c8 a9 a10 c11).isSome
def zir:Bool:=((z2z a0 g1 a2 g3 a4 g5 a6 g7 c8 a9 a10 c11).getD default)
def zk9{R:Type}(k_:Bool→Option R):Option R:=(grd (zns a0 981668463 1048508891) (k_ (zlb a0 981668463 1048508891)))
def z94:Option (Bool):=zk9 a0 (fun c0_=>some c0_)
theorem y7t:Nt1 (fun {R}=>zk9 (R:=R) a0):=by
 intro R R' o h0 k;unfold zk9;repeat (first | apply grd_out h0 | apply br_out | rfl)
def y2m:Bool:=(z94 a0).isSome
def zzk:Bool:=((z94 a0).getD default)
def zkh{R:Type}(k_:Bool→Option R):Option R:=(grd (yb1 a0) (k_ (fcmp .geq .f64 (y8u a0) 4841369599423283200)))
def z96:Option (Bool):=zkh a0 (fun c0_=>some c0_)
theorem y7r:Nt1 (fun {R}=>zkh (R:=R) a0):=by
 intro R R' o h0 k;unfold zkh;repeat (first | apply grd_out h0 | apply br_out | rfl)
def y2k:Bool:=(z96 a0).isSome
def zyj:Bool:=((z96 a0).getD default)
def z28{R:Type} (kn_:Int→(List Nat)→Option R) (k0_:Int→Bool→(List Nat)→Option R):Option R:=(br (ltI c3 (Int.ofNat a0)) (grd (okIx c3 a0) (grd (okIx c3 a1) (kn_ (addI .i64 c3 1) (sF g4 (ixO 0 c3 1) (gF g2 (ixO 0 c3 1)))))) (k0_ c3 (ltI c3 (Int.ofNat a0)) g4))
theorem zuo{R R':Type}(o:Option R→Option R')(h0:o none=none) (kn_:Int→(List Nat)→Option R) (k0_:Int→Bool→(List Nat)→Option R):z28 a0 a1 g2 c3 g4 (fun i' b1'=>o (kn_ i' b1')) (fun c0_ c1_ c2_=>o (k0_ c0_ c1_ c2_))=o (z28 a0 a1 g2 c3 g4 kn_ k0_):=by
 unfold z28
 repeat (first | apply grd_out h0 | apply br_out | rfl)
def z19(an q2e:Nat)(b0:List Nat):Nat→Int→(List Nat)→Option ((Int×Bool×(List Nat)))
 | 0,_,_=>none
 | n+1,i,b1=>z28 an q2e b0  i b1  (fun i' b1'=>z19 an q2e b0 n i' b1') (fun c0_ c1_ c2_=>some (c0_,c1_,c2_))
theorem zgy:z19 a0 a1 g2 (a3+1) c4 g5=z28 a0 a1 g2  c4 g5  (fun i' b1'=>z19 a0 a1 g2 a3 i' b1') (fun c0_ c1_ c2_=>some (c0_,c1_,c2_)):=rfl
def zg2:Bool:=(z19 a0 a1 g2 big c3 g4).isSome
def zw2:Int:=((z19 a0 a1 g2 big c3 g4).getD default).1
def zwc:Bool:=((z19 a0 a1 g2 big c3 g4).getD default).2.1
def zb7:List Nat:=((z19 a0 a1 g2 big c3 g4).getD default).2.2
def z1f{R:Type}(kn_:Nat→Int→Option R)(k0_:Nat→Int→Bool→Option R):Option R:=(br (ltI c5 (Int.ofNat a0)) (grd (okIx (subI .i64 c5 1) a0) (grd (okIx c5 a0) (grd (okIx c5 a3) (grd (okIx (subI .i64 c5 1) a3) (kn_ (fop .add .f32 a4 (fop .mul .f32 (fop .sub .f32 (gF g1 (ixO 0 c5 3)) (gF g1 (ixO 0 (subI .i64 c5 1) 3))) (fop .quo .f32 (fop .add .f32 (gF g2 (ixO 0 (subI .i64 c5 1) 1)) (gF g2 (ixO 0 c5 1))) 1073741824))) (addI .i64 c5 1)))))) (k0_ a4 c5 (ltI c5 (Int.ofNat a0))))
theorem zqx{R R':Type}(o:Option R→Option R')(h0:o none=none)(kn_:Nat→Int→Option R)(k0_:Nat→Int→Bool→Option R):z1f a0 g1 g2 a3 a4 c5 (fun all' i'=>o (kn_ all' i')) (fun c0_ c1_ c2_=>o (k0_ c0_ c1_ c2_))=o (z1f a0 g1 g2 a3 a4 c5 kn_ k0_):=by
 unfold z1f
 repeat (first | apply grd_out h0 | apply br_out | rfl)
def z0f(q1g:Nat)(b3 b4:List Nat)(q1k:Nat):Nat→Nat→Int→Option ((Nat×Int×Bool))
 | 0,_,_=>none
 | n+1,all,i=>z1f q1g b3 b4 q1k  all i  (fun all' i'=>z0f q1g b3 b4 q1k n all' i') (fun c0_ c1_ c2_=>some (c0_,c1_,c2_))
theorem zeb:z0f a0 g1 g2 a3 (a4+1) a5 c6=z1f a0 g1 g2 a3  a5 c6  (fun all' i'=>z0f a0 g1 g2 a3 a4 all' i') (fun c0_ c1_ c2_=>some (c0_,c1_,c2_)):=rfl
def zin:Bool:=(z0f a0 g1 g2 a3 big a4 c5).isSome
def zg9:Nat:=((z0f a0 g1 g2 a3 big a4 c5).getD default).1
def zs0:Int:=((z0f a0 g1 g2 a3 big a4 c5).getD default).2.1
def zrn:Bool:=((z0f a0 g1 g2 a3 big a4 c5).getD default).2.2
def z3y{R:Type}(kn_:Nat→Int→Option R)(k0_:Nat→Int→Bool→Option R):Option R:=(br (ltI (addI .i64 c5 1) (Int.ofNat a0)) (grd (okIx (addI .i64 c5 1) a2) (grd (okIx c5 a2) (grd (okIx c5 a0) (grd (okIx (addI .i64 c5 1) a0) (kn_ (fop .add .f32 a4 (fop .mul .f32 (fop .sub .f32 (gF g1 (ixO 0 (addI .i64 c5 1) 3)) (gF g1 (ixO 0 c5 3))) (fop .mul .f32 1056964608 (fop .add .f32 (gF g3 (ixO 0 c5 1)) (gF g3 (ixO 0 (addI .i64 c5 1) 1)))))) (addI .i64 c5 1)))))) (k0_ a4 c5 (ltI (addI .i64 c5 1) (Int.ofNat a0))))
theorem y11{R R':Type}(o:Option R→Option R')(h0:o none=none)(kn_:Nat→Int→Option R)(k0_:Nat→Int→Bool→Option R):z3y a0 g1 a2 g3 a4 c5 (fun sum' i'=>o (kn_ sum' i')) (fun c0_ c1_ c2_=>o (k0_ c0_ c1_ c2_))=o (z3y a0 g1 a2 g3 a4 c5 kn_ k0_):=by
 unfold z3y
 repeat (first | apply grd_out h0 | apply br_out | rfl)
def z13(q1g:Nat)(b3:List Nat)(q0r:Nat)(b5:List Nat):Nat→Nat→Int→Option ((Nat×Int×Bool))
 | 0,_,_=>none
 | n+1,sum,i=>z3y q1g b3 q0r b5  sum i  (fun sum' i'=>z13 q1g b3 q0r b5 n sum' i') (fun c0_ c1_ c2_=>some (c0_,c1_,c2_))
theorem zmd:z13 a0 g1 a2 g3 (a4+1) a5 c6=z3y a0 g1 a2 g3  a5 c6  (fun sum' i'=>z13 a0 g1 a2 g3 a4 sum' i') (fun c0_ c1_ c2_=>some (c0_,c1_,c2_)):=rfl
def zty:Bool:=(z13 a0 g1 a2 g3 big a4 c5).isSome
def zp6:Nat:=((z13 a0 g1 a2 g3 big a4 c5).getD default).1
def y49:Int:=((z13 a0 g1 a2 g3 big a4 c5).getD default).2.1
def y3a:Bool:=((z13 a0 g1 a2 g3 big a4 c5).getD default).2.2
def z37{R:Type}(kn_:Int→Int→Option R)(k0_:Int→Int→Bool→Option R):Option R:=(br (ltI c4 c1) (grd (okIx c4 a0) (grd (okIx c3 a0) (br (fcmp .gtr .f32 (gF g2 (ixO 0 c4 1)) (gF g2 (ixO 0 c3 1))) (kn_ c4 (addI .i64 c4 1)) (kn_ c3 (addI .i64 c4 1))))) (k0_ c3 c4 (ltI c4 c1)))
theorem zyg{R R':Type}(o:Option R→Option R')(h0:o none=none)(kn_:Int→Int→Option R)(k0_:Int→Int→Bool→Option R):z37 a0 c1 g2 c3 c4 (fun q2b' t8'=>o (kn_ q2b' t8')) (fun c0_ c1_ c2_=>o (k0_ c0_ c1_ c2_))=o (z37 a0 c1 g2 c3 c4 kn_ k0_):=by
 unfold z37
 repeat (first | apply grd_out h0 | apply br_out | rfl)
def z0u(q1g:Nat)(t7:Int)(b0:List Nat):Nat→Int→Int→Option ((Int×Int×Bool))
 | 0,_,_=>none
 | n+1,q2b,t8=>z37 q1g t7 b0  q2b t8  (fun q2b' t8'=>z0u q1g t7 b0 n q2b' t8') (fun c0_ c1_ c2_=>some (c0_,c1_,c2_))
theorem zk5:z0u a0 c1 g2 (a3+1) c4 c5=z37 a0 c1 g2  c4 c5  (fun q2b' t8'=>z0u a0 c1 g2 a3 q2b' t8') (fun c0_ c1_ c2_=>some (c0_,c1_,c2_)):=rfl
def zso:Bool:=(z0u a0 c1 g2 big c3 c4).isSome
def z9q:Int:=((z0u a0 c1 g2 big c3 c4).getD default).1
def y22:Int:=((z0u a0 c1 g2 big c3 c4).getD default).2.1
def y0k:Bool:=((z0u a0 c1 g2 big c3 c4).getD default).2.2
def z0z{R:Type}(kn_:Int→Option R)(k0_:Int→Option R)(k1_:Int→Bool→Option R):Option R:=(br (ltI c4 c2) (grd (okIx c4 a0) (br (beqB e1 (gB m3 (ixO 0 c4 1))) (k0_ c4) (kn_ (addI .i64 c4 1)))) (k1_ c4 (ltI c4 c2)))
theorem zlq{R R':Type}(o:Option R→Option R')(h0:o none=none)(kn_:Int→Option R)(k0_:Int→Option R)(k1_:Int→Bool→Option R):z0z a0 e1 c2 m3 c4 (fun t8'=>o (kn_ t8')) (fun c0_=>o (k0_ c0_)) (fun c0_ c1_=>o (k1_ c0_ c1_))=o (z0z a0 e1 c2 m3 c4 kn_ k0_ k1_):=by
 unfold z0z
 repeat (first | apply grd_out h0 | apply br_out | rfl)
def z05(sn:Nat)(v:Bool)(t7:Int)(b0:List Bool):Nat→Int→Option ((Int)⊕(Int×Bool))
 | 0,_=>none
 | n+1,t8=>z0z sn v t7 b0  t8  (fun t8'=>z05 sn v t7 b0 n t8') (fun c0_=>some (Sum.inl c0_)) (fun c0_ c1_=>some (Sum.inr (c0_,c1_)))
theorem z9v:z05 a0 e1 c2 m3 (a4+1) c5=z0z a0 e1 c2 m3  c5  (fun t8'=>z05 a0 e1 c2 m3 a4 t8') (fun c0_=>some (Sum.inl c0_)) (fun c0_ c1_=>some (Sum.inr (c0_,c1_))):=rfl
def z81:Bool:=(z05 a0 e1 c2 m3 big c4).isSome
def z7e:Bool:=oL (z05 a0 e1 c2 m3 big c4)
def zat:Int:=((tL (z05 a0 e1 c2 m3 big c4)).getD default)
def zmp:Int:=((tR (z05 a0 e1 c2 m3 big c4)).getD default).1
def zmo:Bool:=((tR (z05 a0 e1 c2 m3 big c4)).getD default).2
def zia{R:Type}(q25:Int)(q2c q2d:Nat)(q2j:Int)(k_:Int→Option R):Option R:=(grd (zuf a0 (pF g1 0 (muN a0 1)) a2 (pF g3 0 (muN a2 1)) a4 (pF g5 0 (muN a4 1)) q2j) (br (ltI (z99 a0 (pF g1 0 (muN a0 1)) a2 (pF g3 0 (muN a2 1)) a4 (pF g5 0 (muN a4 1)) q2j) 0) (k_ (Int.negSucc 0)) (grd (zs9 a6 (pF g7 0 (muN a6 3)) (z99 a0 (pF g1 0 (muN a0 1)) a2 (pF g3 0 (muN a2 1)) a4 (pF g5 0 (muN a4 1)) q2j)) (br (ltI (zhw a6 (pF g7 0 (muN a6 3)) (z99 a0 (pF g1 0 (muN a0 1)) a2 (pF g3 0 (muN a2 1)) a4 (pF g5 0 (muN a4 1)) q2j)) 0) (k_ (Int.negSucc 0)) (k_ (zhw a6 (pF g7 0 (muN a6 3)) (z99 a0 (pF g1 0 (muN a0 1)) a2 (pF g3 0 (muN a2 1)) a4 (pF g5 0 (muN a4 1)) q2j)))))))
def z7x:Option (Int):=zia a0 g1 a2 g3 a4 g5 a6 g7 c8 a9 a10 c11 (fun c0_=>some c0_)
theorem y64:Nt1 (fun {R}=>zia (R:=R) a0 g1 a2 g3 a4 g5 a6 g7 c8 a9 a10 c11):=by
 intro R R' o h0 k;unfold zia;repeat (first | apply grd_out h0 | apply br_out | rfl)
def zqm:Bool:=(z7x a0 g1 a2 g3 a4 g5 a6 g7 c8 a9 a10 c11).isSome
def zod:Int:=((z7x a0 g1 a2 g3 a4 g5 a6 g7 c8 a9 a10 c11).getD default)
def zd9{R:Type} (k_:Nat→(List Nat)→Option R):Option R:=(grd (okMk (Int.ofNat a0) (Int.ofNat a0) 4) (grd (zg2 a0 (toN (Int.ofNat a0)) g1 0 (rF (muN (toN (Int.ofNat a0)) 1))) (k_ (toN (Int.ofNat a0)) (zb7 a0 (toN (Int.ofNat a0)) g1 0 (rF (muN (toN (Int.ofNat a0)) 1))))))
def z4a:Option (Nat×(List Nat)):=zd9 a0 g1 (fun c0_ c1_=>some (c0_,c1_))
theorem zzp:Nt2 (fun {R}=>zd9 (R:=R) a0 g1):=by
 intro R R' o h0 k;unfold zd9;repeat (first | apply grd_out h0 | apply br_out | rfl)
def z5b:Bool:=(z4a a0 g1).isSome
def z0o:Nat:=((z4a a0 g1).getD default).1
def z8h:List Nat:=((z4a a0 g1).getD default).2
def z9n{R:Type}(q00:Nat)(q03:List Nat)(q02:Nat)(q05:List Nat)(q01:Nat)(q04:List Nat)(q06:Nat)(q0b:List Nat)(q0g:Int)(q0n q0m q1i:Nat)(q1y:List Nat)(k_:Nat→Option R):Option R:=(grd (zin q1i q0b q1y q06 0 1) (k_ (zg9 q1i q0b q1y q06 0 1)))
def z41:Option (Nat):=z9n a0 g1 a2 g3 a4 g5 a6 g7 c8 a9 a10 a11 g12 (fun c0_=>some c0_)
theorem zv2:Nt1 (fun {R}=>z9n (R:=R) a0 g1 a2 g3 a4 g5 a6 g7 c8 a9 a10 a11 g12):=by
 intro R R' o h0 k;unfold z9n;repeat (first | apply grd_out h0 | apply br_out | rfl)
def znp:Bool:=(z41 a0 g1 a2 g3 a4 g5 a6 g7 c8 a9 a10 a11 g12).isSome
def z8n:Nat:=((z41 a0 g1 a2 g3 a4 g5 a6 g7 c8 a9 a10 a11 g12).getD default)
def zkb{R:Type}(q00:Nat)(q03:List Nat)(q02:Nat)(q05:List Nat)(q01:Nat)(q04:List Nat)(q06:Nat)(q0b:List Nat)(q0g:Int)(q0n q0m q1i:Nat)(q1y:List Nat)(k_:Nat→Option R):Option R:=(grd (zty q1i q0b q06 q1y 0 0) (k_ (zp6 q1i q0b q06 q1y 0 0)))
def z95:Option (Nat):=zkb a0 g1 a2 g3 a4 g5 a6 g7 c8 a9 a10 a11 g12 (fun c0_=>some c0_)
theorem y6z:Nt1 (fun {R}=>zkb (R:=R) a0 g1 a2 g3 a4 g5 a6 g7 c8 a9 a10 a11 g12):=by
 intro R R' o h0 k;unfold zkb;repeat (first | apply grd_out h0 | apply br_out | rfl)
def y2y:Bool:=(z95 a0 g1 a2 g3 a4 g5 a6 g7 c8 a9 a10 a11 g12).isSome
def zi5:Nat:=((z95 a0 g1 a2 g3 a4 g5 a6 g7 c8 a9 a10 a11 g12).getD default)
def zie{R:Type}(k_:Int→Nat→Option R):Option R:=(grd (zso a0 (Int.ofNat a0) g1 0 0) (grd (okIx (z9q a0 (Int.ofNat a0) g1 0 0) a0) (k_ (z9q a0 (Int.ofNat a0) g1 0 0) (gF g1 (ixO 0 (z9q a0 (Int.ofNat a0) g1 0 0) 1)))))
def z6h:Option (Int×Nat):=zie a0 g1 (fun c0_ c1_=>some (c0_,c1_))
theorem y6g:Nt2 (fun {R}=>zie (R:=R) a0 g1):=by
 intro R R' o h0 k;unfold zie;repeat (first | apply grd_out h0 | apply br_out | rfl)
def zyr:Bool:=(z6h a0 g1).isSome
def zwr:Int:=((z6h a0 g1).getD default).1
def zwv:Nat:=((z6h a0 g1).getD default).2
def z6s{R:Type}(k_:Int→Option R):Option R:=(grd (z81 a0 e2 (Int.ofNat a0) m1 0) (br (z7e a0 e2 (Int.ofNat a0) m1 0) (k_ (zat a0 e2 (Int.ofNat a0) m1 0)) (k_ (Int.negSucc 0))))
def z23:Option (Int):=z6s a0 m1 e2 (fun c0_=>some c0_)
theorem zos:Nt1 (fun {R}=>z6s (R:=R) a0 m1 e2):=by
 intro R R' o h0 k;unfold z6s;repeat (first | apply grd_out h0 | apply br_out | rfl)
def zh4:Bool:=(z23 a0 m1 e2).isSome
def zg6:Int:=((z23 a0 m1 e2).getD default)
def zd5{R:Type}(k_:Bool→Option R):Option R:=(grd (zq2 a0) (k_ (bnot (zmq a0))))
def z5c:Option (Bool):=zd5 a0 (fun c0_=>some c0_)
theorem y0c:Nt1 (fun {R}=>zd5 (R:=R) a0):=by
 intro R R' o h0 k;unfold zd5;repeat (first | apply grd_out h0 | apply br_out | rfl)
def zss:Bool:=(z5c a0).isSome
def zr2:Bool:=((z5c a0).getD default)
def zmz{R:Type}(k_:Nat→Option R):Option R:=(grd (bnot (nanQ .f64 a0)) (k_ (fint Ieee.Toward.zero a0)))
def za7:Option (Nat):=zmz a0 (fun c0_=>some c0_)
theorem y9g:Nt1 (fun {R}=>zmz (R:=R) a0):=by
 intro R R' o h0 k;unfold zmz;repeat (first | apply grd_out h0 | apply br_out | rfl)
def y6h:Bool:=(za7 a0).isSome
def zg8:Nat:=((za7 a0).getD default)
def z26{R:Type}(kn_:Int→Option R)(k0_:Unit→Option R)(k1_:Int→Bool→Option R):Option R:=(br (ltI c4 (Int.ofNat a0)) (grd (okIx c4 a0) (grd (okIx c4 a1) (grd (z4n (fcvV .f32 .f64 (gF g2 (ixO 0 c4 1))) (fcvV .f32 .f64 (gF g3 (ixO 0 c4 1)))) (br (bnot (z47 (fcvV .f32 .f64 (gF g2 (ixO 0 c4 1))) (fcvV .f32 .f64 (gF g3 (ixO 0 c4 1))))) (k0_ ()) (kn_ (addI .i64 c4 1)))))) (k1_ c4 (ltI c4 (Int.ofNat a0))))
theorem zuh{R R':Type}(o:Option R→Option R')(h0:o none=none)(kn_:Int→Option R)(k0_:Unit→Option R)(k1_:Int→Bool→Option R):z26 a0 a1 g2 g3 c4 (fun i'=>o (kn_ i')) (fun _=>o (k0_ ())) (fun c0_ c1_=>o (k1_ c0_ c1_))=o (z26 a0 a1 g2 g3 c4 kn_ k0_ k1_):=by
 unfold z26
 repeat (first | apply grd_out h0 | apply br_out | rfl)
def z17(an bn:Nat)(b0 b1:List Nat):Nat→Int→Option ((Unit)⊕(Int×Bool))
 | 0,_=>none
 | n+1,i=>z26 an bn b0 b1  i  (fun i'=>z17 an bn b0 b1 n i') (fun _=>some (Sum.inl ())) (fun c0_ c1_=>some (Sum.inr (c0_,c1_)))
theorem zh7:z17 a0 a1 g2 g3 (a4+1) c5=z26 a0 a1 g2 g3  c5  (fun i'=>z17 a0 a1 g2 g3 a4 i') (fun _=>some (Sum.inl ())) (fun c0_ c1_=>some (Sum.inr (c0_,c1_))):=rfl
def zmu:Bool:=(z17 a0 a1 g2 g3 big c4).isSome
def zmi:Bool:=oL (z17 a0 a1 g2 g3 big c4)
def zw6:Int:=((tR (z17 a0 a1 g2 g3 big c4)).getD default).1
def zvt:Bool:=((tR (z17 a0 a1 g2 g3 big c4)).getD default).2
def z27{R:Type} (kn_:Int→(List Nat)→Option R) (k0_:Int→Bool→(List Nat)→Option R):Option R:=(br (ltI c3 (Int.ofNat a0)) (grd (okIx c3 a0) (grd (zvn (gF g2 (ixO 0 c3 3)) (gF g2 (Nat.succ (ixO 0 c3 3))) (gF g2 (Nat.succ (Nat.succ (ixO 0 c3 3))))) (grd (okIx c3 a1) (kn_ (addI .i64 c3 1) (sF (sF (sF g4 (ixO 0 c3 3) (gF g2 (ixO 0 c3 3))) (Nat.succ (ixO 0 c3 3)) (gF g2 (Nat.succ (ixO 0 c3 3)))) (Nat.succ (Nat.succ (ixO 0 c3 3))) (gF g2 (Nat.succ (Nat.succ (ixO 0 c3 3))))))))) (k0_ c3 (ltI c3 (Int.ofNat a0)) g4))
theorem zv0{R R':Type}(o:Option R→Option R')(h0:o none=none) (kn_:Int→(List Nat)→Option R) (k0_:Int→Bool→(List Nat)→Option R):z27 a0 a1 g2 c3 g4 (fun i' b1'=>o (kn_ i' b1')) (fun c0_ c1_ c2_=>o (k0_ c0_ c1_ c2_))=o (z27 a0 a1 g2 c3 g4 kn_ k0_):=by
 unfold z27
 repeat (first | apply grd_out h0 | apply br_out | rfl)
def z0p(an q2e:Nat)(b0:List Nat):Nat→Int→(List Nat)→Option ((Int×Bool×(List Nat)))
 | 0,_,_=>none
 | n+1,i,b1=>z27 an q2e b0  i b1  (fun i' b1'=>z0p an q2e b0 n i' b1') (fun c0_ c1_ c2_=>some (c0_,c1_,c2_))
theorem zhd:z0p a0 a1 g2 (a3+1) c4 g5=z27 a0 a1 g2  c4 g5  (fun i' b1'=>z0p a0 a1 g2 a3 i' b1') (fun c0_ c1_ c2_=>some (c0_,c1_,c2_)):=rfl
def zf6:Bool:=(z0p a0 a1 g2 big c3 g4).isSome
def zw7:Int:=((z0p a0 a1 g2 big c3 g4).getD default).1
def zwl:Bool:=((z0p a0 a1 g2 big c3 g4).getD default).2.1
def zb5:List Nat:=((z0p a0 a1 g2 big c3 g4).getD default).2.2
def z1q{R:Type}(kn_:Nat→Int→Option R)(k0_:Nat→Int→Bool→Option R):Option R:=(br (leI 1 c2) (kn_ (fop .sub .f64 4607182418800017408 (fop .quo .f64 (fop .mul .f64 a0 a1) (fOI .f64 (mulI .i64 (mulI .i64 2 c2) (addI .i64 (mulI .i64 2 c2) 1))))) (subI .i64 c2 1)) (k0_ a1 c2 (leI 1 c2)))
theorem zro{R R':Type}(o:Option R→Option R')(h0:o none=none)(kn_:Nat→Int→Option R)(k0_:Nat→Int→Bool→Option R):z1q a0 a1 c2 (fun t7' t8'=>o (kn_ t7' t8')) (fun c0_ c1_ c2_=>o (k0_ c0_ c1_ c2_))=o (z1q a0 a1 c2 kn_ k0_):=by
 unfold z1q
 repeat (first | apply grd_out h0 | apply br_out | rfl)
def z0l(t6:Nat):Nat→Nat→Int→Option ((Nat×Int×Bool))
 | 0,_,_=>none
 | n+1,t7,t8=>z1q t6  t7 t8  (fun t7' t8'=>z0l t6 n t7' t8') (fun c0_ c1_ c2_=>some (c0_,c1_,c2_))
theorem zei:z0l a0 (a1+1) a2 c3=z1q a0  a2 c3  (fun t7' t8'=>z0l a0 a1 t7' t8') (fun c0_ c1_ c2_=>some (c0_,c1_,c2_)):=rfl
def z1d:Bool:=(z0l a0 big a1 c2).isSome
def z08:Nat:=((z0l a0 big a1 c2).getD default).1
def ztg:Int:=((z0l a0 big a1 c2).getD default).2.1
def ztf:Bool:=((z0l a0 big a1 c2).getD default).2.2
def zd0{R:Type}(k_:Bool→Option R):Option R:=(br (neI (Int.ofNat a0) (Int.ofNat a2)) (k_ Bool.false) (grd (zmu a0 a2 g1 g3 0) (br (zmi a0 a2 g1 g3 0) (k_ Bool.false) (k_ Bool.true))))
def z5g:Option (Bool):=zd0 a0 g1 a2 g3 (fun c0_=>some c0_)
theorem y06:Nt1 (fun {R}=>zd0 (R:=R) a0 g1 a2 g3):=by
 intro R R' o h0 k;unfold zd0;repeat (first | apply grd_out h0 | apply br_out | rfl)
def z98:Bool:=(z5g a0 g1 a2 g3).isSome
def z8f:Bool:=((z5g a0 g1 a2 g3).getD default)
def z57{R:Type}(k_:Bool→Option R):Option R:=(grd (zh4 a0 (pB m1 0 (muN a0 1)) e2) (k_ (leI 0 (zg6 a0 (pB m1 0 (muN a0 1)) e2))))
def z1i:Option (Bool):=z57 a0 m1 e2 (fun c0_=>some c0_)
theorem zlh:Nt1 (fun {R}=>z57 (R:=R) a0 m1 e2):=by
 intro R R' o h0 k;unfold z57;repeat (first | apply grd_out h0 | apply br_out | rfl)
def z56:Bool:=(z1i a0 m1 e2).isSome
def z4l:Bool:=((z1i a0 m1 e2).getD default)
def zfc{R:Type} (k_:Nat→Nat→Nat→(List Nat)→(List Nat)→(List Nat)→Option R):Option R:=(grd (z5b a0 (pF g1 0 (muN a0 1))) (grd (z5b a2 (pF g3 0 (muN a2 1))) (grd (z5b a4 (pF g5 0 (muN a4 1))) (k_ (z0o a0 (pF g1 0 (muN a0 1))) (z0o a2 (pF g3 0 (muN a2 1))) (z0o a4 (pF g5 0 (muN a4 1))) (z8h a0 (pF g1 0 (muN a0 1))) (z8h a2 (pF g3 0 (muN a2 1))) (z8h a4 (pF g5 0 (muN a4 1)))))))
def z1y:Option (Nat×Nat×Nat×(List Nat)×(List Nat)×(List Nat)):=zfc a0 g1 a2 g3 a4 g5 (fun c0_ c1_ c2_ c3_ c4_ c5_=>some (c0_,c1_,c2_,c3_,c4_,c5_))
theorem y29:Nt6 (fun {R}=>zfc (R:=R) a0 g1 a2 g3 a4 g5):=by
 intro R R' o h0 k;unfold zfc;repeat (first | apply grd_out h0 | apply br_out | rfl)
def zus:Bool:=(z1y a0 g1 a2 g3 a4 g5).isSome
def zt5:Nat:=((z1y a0 g1 a2 g3 a4 g5).getD default).1
def zsv:Nat:=((z1y a0 g1 a2 g3 a4 g5).getD default).2.1
def zsw:Nat:=((z1y a0 g1 a2 g3 a4 g5).getD default).2.2.1
def zsr:List Nat:=((z1y a0 g1 a2 g3 a4 g5).getD default).2.2.2.1
def zs7:List Nat:=((z1y a0 g1 a2 g3 a4 g5).getD default).2.2.2.2.1
def zsz:List Nat:=((z1y a0 g1 a2 g3 a4 g5).getD default).2.2.2.2.2
def zdb{R:Type} (k_:Nat→(List Nat)→Option R):Option R:=(grd (okMk (Int.ofNat a0) (Int.ofNat a0) 12) (grd (zf6 a0 (toN (Int.ofNat a0)) g1 0 (rF (muN (toN (Int.ofNat a0)) 3))) (k_ (toN (Int.ofNat a0)) (zb5 a0 (toN (Int.ofNat a0)) g1 0 (rF (muN (toN (Int.ofNat a0)) 3))))))
def z48:Option (Nat×(List Nat)):=zdb a0 g1 (fun c0_ c1_=>some (c0_,c1_))
theorem y01:Nt2 (fun {R}=>zdb (R:=R) a0 g1):=by
 intro R R' o h0 k;unfold zdb;repeat (first | apply grd_out h0 | apply br_out | rfl)
def zs6:Bool:=(z48 a0 g1).isSome
def zqq:Nat:=((z48 a0 g1).getD default).1
def zr4:List Nat:=((z48 a0 g1).getD default).2
def z6j{R:Type}(k_:Nat→Option R):Option R:=(br (fcmp .neq .f64 (fop .sub .f64 a0 a0) 0) (grd y2d (k_ zqo)) (br (fcmp .geq .f64 a0 4841369599423283200) (k_ 0) (br (fcmp .leq .f64 a0 14064741636278059008) (k_ 0) (grd (f2iB .f64 a0 .i64) (br (fcmp .lss .f64 (fop .sub .f64 a0 (fOI .f64 (f2iV .f64 a0 .i64))) 0) (br (fcmp .geq .f64 (fop .add .f64 (fop .sub .f64 a0 (fOI .f64 (f2iV .f64 a0 .i64))) 4607182418800017408) 4602678819172646912) (br (fcmp .gtr .f64 (fop .sub .f64 (fop .add .f64 (fop .sub .f64 a0 (fOI .f64 (f2iV .f64 a0 .i64))) 4607182418800017408) 4602678819172646912) 4598175219545276416) (grd (z1d (fop .mul .f64 (fop .mul .f64 (fop .sub .f64 4602678819172646912 (fop .sub .f64 (fop .add .f64 (fop .sub .f64 a0 (fOI .f64 (f2iV .f64 a0 .i64))) 4607182418800017408) 4602678819172646912)) 4618760256179416344) (fop .mul .f64 (fop .sub .f64 4602678819172646912 (fop .sub .f64 (fop .add .f64 (fop .sub .f64 a0 (fOI .f64 (f2iV .f64 a0 .i64))) 4607182418800017408) 4602678819172646912)) 4618760256179416344)) 4607182418800017408 8) (br (fcmp .geq .f64 (fop .add .f64 (fop .sub .f64 a0 (fOI .f64 (f2iV .f64 a0 .i64))) 4607182418800017408) 4602678819172646912) (k_ (fneg .f64 (fop .mul .f64 (fop .mul .f64 (fop .sub .f64 4602678819172646912 (fop .sub .f64 (fop .add .f64 (fop .sub .f64 a0 (fOI .f64 (f2iV .f64 a0 .i64))) 4607182418800017408) 4602678819172646912)) 4618760256179416344) (z08 (fop .mul .f64 (fop .mul .f64 (fop .sub .f64 4602678819172646912 (fop .sub .f64 (fop .add .f64 (fop .sub .f64 a0 (fOI .f64 (f2iV .f64 a0 .i64))) 4607182418800017408) 4602678819172646912)) 4618760256179416344) (fop .mul .f64 (fop .sub .f64 4602678819172646912 (fop .sub .f64 (fop .add .f64 (fop .sub .f64 a0 (fOI .f64 (f2iV .f64 a0 .i64))) 4607182418800017408) 4602678819172646912)) 4618760256179416344)) 4607182418800017408 8)))) (k_ (fop .mul .f64 (fop .mul .f64 (fop .sub .f64 4602678819172646912 (fop .sub .f64 (fop .add .f64 (fop .sub .f64 a0 (fOI .f64 (f2iV .f64 a0 .i64))) 4607182418800017408) 4602678819172646912)) 4618760256179416344) (z08 (fop .mul .f64 (fop .mul .f64 (fop .sub .f64 4602678819172646912 (fop .sub .f64 (fop .add .f64 (fop .sub .f64 a0 (fOI .f64 (f2iV .f64 a0 .i64))) 4607182418800017408) 4602678819172646912)) 4618760256179416344) (fop .mul .f64 (fop .sub .f64 4602678819172646912 (fop .sub .f64 (fop .add .f64 (fop .sub .f64 a0 (fOI .f64 (f2iV .f64 a0 .i64))) 4607182418800017408) 4602678819172646912)) 4618760256179416344)) 4607182418800017408 8))))) (grd (z1d (fop .mul .f64 (fop .mul .f64 (fop .sub .f64 (fop .add .f64 (fop .sub .f64 a0 (fOI .f64 (f2iV .f64 a0 .i64))) 4607182418800017408) 4602678819172646912) 4618760256179416344) (fop .mul .f64 (fop .sub .f64 (fop .add .f64 (fop .sub .f64 a0 (fOI .f64 (f2iV .f64 a0 .i64))) 4607182418800017408) 4602678819172646912) 4618760256179416344)) 4607182418800017408 8) (br (fcmp .geq .f64 (fop .add .f64 (fop .sub .f64 a0 (fOI .f64 (f2iV .f64 a0 .i64))) 4607182418800017408) 4602678819172646912) (k_ (fneg .f64 (fop .mul .f64 (fop .mul .f64 (fop .sub .f64 (fop .add .f64 (fop .sub .f64 a0 (fOI .f64 (f2iV .f64 a0 .i64))) 4607182418800017408) 4602678819172646912) 4618760256179416344) (z08 (fop .mul .f64 (fop .mul .f64 (fop .sub .f64 (fop .add .f64 (fop .sub .f64 a0 (fOI .f64 (f2iV .f64 a0 .i64))) 4607182418800017408) 4602678819172646912) 4618760256179416344) (fop .mul .f64 (fop .sub .f64 (fop .add .f64 (fop .sub .f64 a0 (fOI .f64 (f2iV .f64 a0 .i64))) 4607182418800017408) 4602678819172646912) 4618760256179416344)) 4607182418800017408 8)))) (k_ (fop .mul .f64 (fop .mul .f64 (fop .sub .f64 (fop .add .f64 (fop .sub .f64 a0 (fOI .f64 (f2iV .f64 a0 .i64))) 4607182418800017408) 4602678819172646912) 4618760256179416344) (z08 (fop .mul .f64 (fop .mul .f64 (fop .sub .f64 (fop .add .f64 (fop .sub .f64 a0 (fOI .f64 (f2iV .f64 a0 .i64))) 4607182418800017408) 4602678819172646912) 4618760256179416344) (fop .mul .f64 (fop .sub .f64 (fop .add .f64 (fop .sub .f64 a0 (fOI .f64 (f2iV .f64 a0 .i64))) 4607182418800017408) 4602678819172646912) 4618760256179416344)) 4607182418800017408 8)))))) (br (fcmp .gtr .f64 (fop .add .f64 (fop .sub .f64 a0 (fOI .f64 (f2iV .f64 a0 .i64))) 4607182418800017408) 4598175219545276416) (grd (z1d (fop .mul .f64 (fop .mul .f64 (fop .sub .f64 4602678819172646912 (fop .add .f64 (fop .sub .f64 a0 (fOI .f64 (f2iV .f64 a0 .i64))) 4607182418800017408)) 4618760256179416344) (fop .mul .f64 (fop .sub .f64 4602678819172646912 (fop .add .f64 (fop .sub .f64 a0 (fOI .f64 (f2iV .f64 a0 .i64))) 4607182418800017408)) 4618760256179416344)) 4607182418800017408 8) (br (fcmp .geq .f64 (fop .add .f64 (fop .sub .f64 a0 (fOI .f64 (f2iV .f64 a0 .i64))) 4607182418800017408) 4602678819172646912) (k_ (fneg .f64 (fop .mul .f64 (fop .mul .f64 (fop .sub .f64 4602678819172646912 (fop .add .f64 (fop .sub .f64 a0 (fOI .f64 (f2iV .f64 a0 .i64))) 4607182418800017408)) 4618760256179416344) (z08 (fop .mul .f64 (fop .mul .f64 (fop .sub .f64 4602678819172646912 (fop .add .f64 (fop .sub .f64 a0 (fOI .f64 (f2iV .f64 a0 .i64))) 4607182418800017408)) 4618760256179416344) (fop .mul .f64 (fop .sub .f64 4602678819172646912 (fop .add .f64 (fop .sub .f64 a0 (fOI .f64 (f2iV .f64 a0 .i64))) 4607182418800017408)) 4618760256179416344)) 4607182418800017408 8)))) (k_ (fop .mul .f64 (fop .mul .f64 (fop .sub .f64 4602678819172646912 (fop .add .f64 (fop .sub .f64 a0 (fOI .f64 (f2iV .f64 a0 .i64))) 4607182418800017408)) 4618760256179416344) (z08 (fop .mul .f64 (fop .mul .f64 (fop .sub .f64 4602678819172646912 (fop .add .f64 (fop .sub .f64 a0 (fOI .f64 (f2iV .f64 a0 .i64))) 4607182418800017408)) 4618760256179416344) (fop .mul .f64 (fop .sub .f64 4602678819172646912 (fop .add .f64 (fop .sub .f64 a0 (fOI .f64 (f2iV .f64 a0 .i64))) 4607182418800017408)) 4618760256179416344)) 4607182418800017408 8))))) (grd (z1d (fop .mul .f64 (fop .mul .f64 (fop .add .f64 (fop .sub .f64 a0 (fOI .f64 (f2iV .f64 a0 .i64))) 4607182418800017408) 4618760256179416344) (fop .mul .f64 (fop .add .f64 (fop .sub .f64 a0 (fOI .f64 (f2iV .f64 a0 .i64))) 4607182418800017408) 4618760256179416344)) 4607182418800017408 8) (br (fcmp .geq .f64 (fop .add .f64 (fop .sub .f64 a0 (fOI .f64 (f2iV .f64 a0 .i64))) 4607182418800017408) 4602678819172646912) (k_ (fneg .f64 (fop .mul .f64 (fop .mul .f64 (fop .add .f64 (fop .sub .f64 a0 (fOI .f64 (f2iV .f64 a0 .i64))) 4607182418800017408) 4618760256179416344) (z08 (fop .mul .f64 (fop .mul .f64 (fop .add .f64 (fop .sub .f64 a0 (fOI .f64 (f2iV .f64 a0 .i64))) 4607182418800017408) 4618760256179416344) (fop .mul .f64 (fop .add .f64 (fop .sub .f64 a0 (fOI .f64 (f2iV .f64 a0 .i64))) 4607182418800017408) 4618760256179416344)) 4607182418800017408 8)))) (k_ (fop .mul .f64 (fop .mul .f64 (fop .add .f64 (fop .sub .f64 a0 (fOI .f64 (f2iV .f64 a0 .i64))) 4607182418800017408) 4618760256179416344) (z08 (fop .mul .f64 (fop .mul .f64 (fop .add .f64 (fop .sub .f64 a0 (fOI .f64 (f2iV .f64 a0 .i64))) 4607182418800017408) 4618760256179416344) (fop .mul .f64 (fop .add .f64 (fop .sub .f64 a0 (fOI .f64 (f2iV .f64 a0 .i64))) 4607182418800017408) 4618760256179416344)) 4607182418800017408 8))))))) (br (fcmp .geq .f64 (fop .sub .f64 a0 (fOI .f64 (f2iV .f64 a0 .i64))) 4602678819172646912) (br (fcmp .gtr .f64 (fop .sub .f64 (fop .sub .f64 a0 (fOI .f64 (f2iV .f64 a0 .i64))) 4602678819172646912) 4598175219545276416) (grd (z1d (fop .mul .f64 (fop .mul .f64 (fop .sub .f64 4602678819172646912 (fop .sub .f64 (fop .sub .f64 a0 (fOI .f64 (f2iV .f64 a0 .i64))) 4602678819172646912)) 4618760256179416344) (fop .mul .f64 (fop .sub .f64 4602678819172646912 (fop .sub .f64 (fop .sub .f64 a0 (fOI .f64 (f2iV .f64 a0 .i64))) 4602678819172646912)) 4618760256179416344)) 4607182418800017408 8) (br (fcmp .geq .f64 (fop .sub .f64 a0 (fOI .f64 (f2iV .f64 a0 .i64))) 4602678819172646912) (k_ (fneg .f64 (fop .mul .f64 (fop .mul .f64 (fop .sub .f64 4602678819172646912 (fop .sub .f64 (fop .sub .f64 a0 (fOI .f64 (f2iV .f64 a0 .i64))) 4602678819172646912)) 4618760256179416344) (z08 (fop .mul .f64 (fop .mul .f64 (fop .sub .f64 4602678819172646912 (fop .sub .f64 (fop .sub .f64 a0 (fOI .f64 (f2iV .f64 a0 .i64))) 4602678819172646912)) 4618760256179416344) (fop .mul .f64 (fop .sub .f64 4602678819172646912 (fop .sub .f64 (fop .sub .f64 a0 (fOI .f64 (f2iV .f64 a0 .i64))) 4602678819172646912)) 4618760256179416344)) 4607182418800017408 8)))) (k_ (fop .mul .f64 (fop .mul .f64 (fop .sub .f64 4602678819172646912 (fop .sub .f64 (fop .sub .f64 a0 (fOI .f64 (f2iV .f64 a0 .i64))) 4602678819172646912)) 4618760256179416344) (z08 (fop .mul .f64 (fop .mul .f64 (fop .sub .f64 4602678819172646912 (fop .sub .f64 (fop .sub .f64 a0 (fOI .f64 (f2iV .f64 a0 .i64))) 4602678819172646912)) 4618760256179416344) (fop .mul .f64 (fop .sub .f64 4602678819172646912 (fop .sub .f64 (fop .sub .f64 a0 (fOI .f64 (f2iV .f64 a0 .i64))) 4602678819172646912)) 4618760256179416344)) 4607182418800017408 8))))) (grd (z1d (fop .mul .f64 (fop .mul .f64 (fop .sub .f64 (fop .sub .f64 a0 (fOI .f64 (f2iV .f64 a0 .i64))) 4602678819172646912) 4618760256179416344) (fop .mul .f64 (fop .sub .f64 (fop .sub .f64 a0 (fOI .f64 (f2iV .f64 a0 .i64))) 4602678819172646912) 4618760256179416344)) 4607182418800017408 8) (br (fcmp .geq .f64 (fop .sub .f64 a0 (fOI .f64 (f2iV .f64 a0 .i64))) 4602678819172646912) (k_ (fneg .f64 (fop .mul .f64 (fop .mul .f64 (fop .sub .f64 (fop .sub .f64 a0 (fOI .f64 (f2iV .f64 a0 .i64))) 4602678819172646912) 4618760256179416344) (z08 (fop .mul .f64 (fop .mul .f64 (fop .sub .f64 (fop .sub .f64 a0 (fOI .f64 (f2iV .f64 a0 .i64))) 4602678819172646912) 4618760256179416344) (fop .mul .f64 (fop .sub .f64 (fop .sub .f64 a0 (fOI .f64 (f2iV .f64 a0 .i64))) 4602678819172646912) 4618760256179416344)) 4607182418800017408 8)))) (k_ (fop .mul .f64 (fop .mul .f64 (fop .sub .f64 (fop .sub .f64 a0 (fOI .f64 (f2iV .f64 a0 .i64))) 4602678819172646912) 4618760256179416344) (z08 (fop .mul .f64 (fop .mul .f64 (fop .sub .f64 (fop .sub .f64 a0 (fOI .f64 (f2iV .f64 a0 .i64))) 4602678819172646912) 4618760256179416344) (fop .mul .f64 (fop .sub .f64 (fop .sub .f64 a0 (fOI .f64 (f2iV .f64 a0 .i64))) 4602678819172646912) 4618760256179416344)) 4607182418800017408 8)))))) (br (fcmp .gtr .f64 (fop .sub .f64 a0 (fOI .f64 (f2iV .f64 a0 .i64))) 4598175219545276416) (grd (z1d (fop .mul .f64 (fop .mul .f64 (fop .sub .f64 4602678819172646912 (fop .sub .f64 a0 (fOI .f64 (f2iV .f64 a0 .i64)))) 4618760256179416344) (fop .mul .f64 (fop .sub .f64 4602678819172646912 (fop .sub .f64 a0 (fOI .f64 (f2iV .f64 a0 .i64)))) 4618760256179416344)) 4607182418800017408 8) (br (fcmp .geq .f64 (fop .sub .f64 a0 (fOI .f64 (f2iV .f64 a0 .i64))) 4602678819172646912) (k_ (fneg .f64 (fop .mul .f64 (fop .mul .f64 (fop .sub .f64 4602678819172646912 (fop .sub .f64 a0 (fOI .f64 (f2iV .f64 a0 .i64)))) 4618760256179416344) (z08 (fop .mul .f64 (fop .mul .f64 (fop .sub .f64 4602678819172646912 (fop .sub .f64 a0 (fOI .f64 (f2iV .f64 a0 .i64)))) 4618760256179416344) (fop .mul .f64 (fop .sub .f64 4602678819172646912 (fop .sub .f64 a0 (fOI .f64 (f2iV .f64 a0 .i64)))) 4618760256179416344)) 4607182418800017408 8)))) (k_ (fop .mul .f64 (fop .mul .f64 (fop .sub .f64 4602678819172646912 (fop .sub .f64 a0 (fOI .f64 (f2iV .f64 a0 .i64)))) 4618760256179416344) (z08 (fop .mul .f64 (fop .mul .f64 (fop .sub .f64 4602678819172646912 (fop .sub .f64 a0 (fOI .f64 (f2iV .f64 a0 .i64)))) 4618760256179416344) (fop .mul .f64 (fop .sub .f64 4602678819172646912 (fop .sub .f64 a0 (fOI .f64 (f2iV .f64 a0 .i64)))) 4618760256179416344)) 4607182418800017408 8))))) (grd (z1d (fop .mul .f64 (fop .mul .f64 (fop .sub .f64 a0 (fOI .f64 (f2iV .f64 a0 .i64))) 4618760256179416344) (fop .mul .f64 (fop .sub .f64 a0 (fOI .f64 (f2iV .f64 a0 .i64))) 4618760256179416344)) 4607182418800017408 8) (br (fcmp .geq .f64 (fop .sub .f64 a0 (fOI .f64 (f2iV .f64 a0 .i64))) 4602678819172646912) (k_ (fneg .f64 (fop .mul .f64 (fop .mul .f64 (fop .sub .f64 a0 (fOI .f64 (f2iV .f64 a0 .i64))) 4618760256179416344) (z08 (fop .mul .f64 (fop .mul .f64 (fop .sub .f64 a0 (fOI .f64 (f2iV .f64 a0 .i64))) 4618760256179416344) (fop .mul .f64 (fop .sub .f64 a0 (fOI .f64 (f2iV .f64 a0 .i64))) 4618760256179416344)) 4607182418800017408 8)))) (k_ (fop .mul .f64 (fop .mul .f64 (fop .sub .f64 a0 (fOI .f64 (f2iV .f64 a0 .i64))) 4618760256179416344) (z08 (fop .mul .f64 (fop .mul .f64 (fop .sub .f64 a0 (fOI .f64 (f2iV .f64 a0 .i64))) 4618760256179416344) (fop .mul .f64 (fop .sub .f64 a0 (fOI .f64 (f2iV .f64 a0 .i64))) 4618760256179416344)) 4607182418800017408 8))))))))))))
def z29:Option (Nat):=z6j a0 (fun c0_=>some c0_)
theorem zy3:Nt1 (fun {R}=>z6j (R:=R) a0):=by
 intro R R' o h0 k;unfold z6j;repeat (first | apply grd_out h0 | apply br_out | rfl)
def zr0:Bool:=(z29 a0).isSome
def zgs:Nat:=((z29 a0).getD default)
def zd7{R:Type}(k_:Nat→Option R):Option R:=(grd (y6h a0) (br (fcmp .eql .f64 (zg8 a0) 0) (br (fcmp .lss .f64 (fop .sub .f64 a0 0) 0) (k_ (fop .add .f64 (fop .sub .f64 a0 0) 4607182418800017408)) (k_ (fop .sub .f64 a0 0))) (br (fcmp .lss .f64 (fop .sub .f64 a0 (zg8 a0)) 0) (k_ (fop .add .f64 (fop .sub .f64 a0 (zg8 a0)) 4607182418800017408)) (k_ (fop .sub .f64 a0 (zg8 a0))))))
def z5a:Option (Nat):=zd7 a0 (fun c0_=>some c0_)
theorem zz1:Nt1 (fun {R}=>zd7 (R:=R) a0):=by
 intro R R' o h0 k;unfold zd7;repeat (first | apply grd_out h0 | apply br_out | rfl)
def zt8:Bool:=(z5a a0).isSome
def z09:Nat:=((z5a a0).getD default)
def z24{R:Type}(kn_:Int→Option R)(k0_:Unit→Option R)(k1_:Int→Bool→Option R):Option R:=(br (ltI c4 (Int.ofNat a0)) (grd (okIx c4 a0) (grd (okIx c4 a1) (grd (zu5 (gF g2 (ixO 0 c4 3)) (gF g2 (Nat.succ (ixO 0 c4 3))) (gF g2 (Nat.succ (Nat.succ (ixO 0 c4 3)))) (gF g3 (ixO 0 c4 3)) (gF g3 (Nat.succ (ixO 0 c4 3))) (gF g3 (Nat.succ (Nat.succ (ixO 0 c4 3))))) (br (bnot (zsc (gF g2 (ixO 0 c4 3)) (gF g2 (Nat.succ (ixO 0 c4 3))) (gF g2 (Nat.succ (Nat.succ (ixO 0 c4 3)))) (gF g3 (ixO 0 c4 3)) (gF g3 (Nat.succ (ixO 0 c4 3))) (gF g3 (Nat.succ (Nat.succ (ixO 0 c4 3)))))) (k0_ ()) (kn_ (addI .i64 c4 1)))))) (k1_ c4 (ltI c4 (Int.ofNat a0))))
theorem zuz{R R':Type}(o:Option R→Option R')(h0:o none=none)(kn_:Int→Option R)(k0_:Unit→Option R)(k1_:Int→Bool→Option R):z24 a0 a1 g2 g3 c4 (fun i'=>o (kn_ i')) (fun _=>o (k0_ ())) (fun c0_ c1_=>o (k1_ c0_ c1_))=o (z24 a0 a1 g2 g3 c4 kn_ k0_ k1_):=by
 unfold z24
 repeat (first | apply grd_out h0 | apply br_out | rfl)
def z18(an bn:Nat)(b0 b1:List Nat):Nat→Int→Option ((Unit)⊕(Int×Bool))
 | 0,_=>none
 | n+1,i=>z24 an bn b0 b1  i  (fun i'=>z18 an bn b0 b1 n i') (fun _=>some (Sum.inl ())) (fun c0_ c1_=>some (Sum.inr (c0_,c1_)))
theorem zh3:z18 a0 a1 g2 g3 (a4+1) c5=z24 a0 a1 g2 g3  c5  (fun i'=>z18 a0 a1 g2 g3 a4 i') (fun _=>some (Sum.inl ())) (fun c0_ c1_=>some (Sum.inr (c0_,c1_))):=rfl
def zfw:Bool:=(z18 a0 a1 g2 g3 big c4).isSome
def ze2:Bool:=oL (z18 a0 a1 g2 g3 big c4)
def zwk:Int:=((tR (z18 a0 a1 g2 g3 big c4)).getD default).1
def zvv:Bool:=((tR (z18 a0 a1 g2 g3 big c4)).getD default).2
def z4h{R:Type}(kn_:Int→Option R)(k0_:Unit→Option R)(k1_:Int→Bool→Option R):Option R:=(br (ltI c7 c0) (grd (okIx c7 a4) (br (fcmp .geq .f32 (gF g1 (ixO 0 c7 1)) 3204448256) (grd (okIx c7 a4) (br (bnot (fcmp .leq .f32 (gF g1 (ixO 0 c7 1)) 1056964608)) (k0_ ()) (br (ltI 0 c7) (grd (okIx c7 a4) (grd (okIx (subI .i64 c7 1) a4) (br (fcmp .leq .f32 (gF g1 (ixO 0 c7 1)) (gF g1 (ixO 0 (subI .i64 c7 1) 1))) (k0_ ()) (grd (okIx c7 a5) (grd (z12 (gF g2 (ixO 0 c7 1))) (br (bnot (z0v (gF g2 (ixO 0 c7 1)))) (k0_ ()) (grd (okIx c7 a6) (grd (z8u (gF g3 (ixO 0 c7 1))) (br (bnot (z85 (gF g3 (ixO 0 c7 1)))) (k0_ ()) (kn_ (addI .i64 c7 1))))))))))) (grd (okIx c7 a5) (grd (z12 (gF g2 (ixO 0 c7 1))) (br (bnot (z0v (gF g2 (ixO 0 c7 1)))) (k0_ ()) (grd (okIx c7 a6) (grd (z8u (gF g3 (ixO 0 c7 1))) (br (bnot (z85 (gF g3 (ixO 0 c7 1)))) (k0_ ()) (kn_ (addI .i64 c7 1))))))))))) (br (bnot Bool.false) (k0_ ()) (br (ltI 0 c7) (grd (okIx c7 a4) (grd (okIx (subI .i64 c7 1) a4) (br (fcmp .leq .f32 (gF g1 (ixO 0 c7 1)) (gF g1 (ixO 0 (subI .i64 c7 1) 1))) (k0_ ()) (grd (okIx c7 a5) (grd (z12 (gF g2 (ixO 0 c7 1))) (br (bnot (z0v (gF g2 (ixO 0 c7 1)))) (k0_ ()) (grd (okIx c7 a6) (grd (z8u (gF g3 (ixO 0 c7 1))) (br (bnot (z85 (gF g3 (ixO 0 c7 1)))) (k0_ ()) (kn_ (addI .i64 c7 1))))))))))) (grd (okIx c7 a5) (grd (z12 (gF g2 (ixO 0 c7 1))) (br (bnot (z0v (gF g2 (ixO 0 c7 1)))) (k0_ ()) (grd (okIx c7 a6) (grd (z8u (gF g3 (ixO 0 c7 1))) (br (bnot (z85 (gF g3 (ixO 0 c7 1)))) (k0_ ()) (kn_ (addI .i64 c7 1)))))))))))) (k1_ c7 (ltI c7 c0)))
theorem y4i{R R':Type}(o:Option R→Option R')(h0:o none=none)(kn_:Int→Option R)(k0_:Unit→Option R)(k1_:Int→Bool→Option R):z4h c0 g1 g2 g3 a4 a5 a6 c7 (fun t4'=>o (kn_ t4')) (fun _=>o (k0_ ())) (fun c0_ c1_=>o (k1_ c0_ c1_))=o (z4h c0 g1 g2 g3 a4 a5 a6 c7 kn_ k0_ k1_):=by
 unfold z4h
 repeat (first | apply grd_out h0 | apply br_out | rfl)
def z1x(t3:Int)(b0 b1 b2:List Nat)(q1l q20 q1z:Nat):Nat→Int→Option ((Unit)⊕(Int×Bool))
 | 0,_=>none
 | n+1,t4=>z4h t3 b0 b1 b2 q1l q20 q1z  t4  (fun t4'=>z1x t3 b0 b1 b2 q1l q20 q1z n t4') (fun _=>some (Sum.inl ())) (fun c0_ c1_=>some (Sum.inr (c0_,c1_)))
theorem zok:z1x c0 g1 g2 g3 a4 a5 a6 (a7+1) c8=z4h c0 g1 g2 g3 a4 a5 a6  c8  (fun t4'=>z1x c0 g1 g2 g3 a4 a5 a6 a7 t4') (fun _=>some (Sum.inl ())) (fun c0_ c1_=>some (Sum.inr (c0_,c1_))):=rfl
def zb8:Bool:=(z1x c0 g1 g2 g3 a4 a5 a6 big c7).isSome
def zac:Bool:=oL (z1x c0 g1 g2 g3 a4 a5 a6 big c7)
def y5y:Int:=((tR (z1x c0 g1 g2 g3 a4 a5 a6 big c7)).getD default).1
def y53:Bool:=((tR (z1x c0 g1 g2 g3 a4 a5 a6 big c7)).getD default).2
def z0b{R:Type}(kn_:Int→Option R)(k0_:Int→Option R)(k1_:Int→Bool→Option R):Option R:=(br (ltI c3 c1) (grd (okIx c3 a0) (grd (zms (gF g2 (ixO 0 c3 1))) (br (zmj (gF g2 (ixO 0 c3 1))) (k0_ c3) (kn_ (addI .i64 c3 1))))) (k1_ c3 (ltI c3 c1)))
theorem zaa{R R':Type}(o:Option R→Option R')(h0:o none=none)(kn_:Int→Option R)(k0_:Int→Option R)(k1_:Int→Bool→Option R):z0b a0 c1 g2 c3 (fun t8'=>o (kn_ t8')) (fun c0_=>o (k0_ c0_)) (fun c0_ c1_=>o (k1_ c0_ c1_))=o (z0b a0 c1 g2 c3 kn_ k0_ k1_):=by
 unfold z0b
 repeat (first | apply grd_out h0 | apply br_out | rfl)
def z01(sn:Nat)(t7:Int)(b0:List Nat):Nat→Int→Option ((Int)⊕(Int×Bool))
 | 0,_=>none
 | n+1,t8=>z0b sn t7 b0  t8  (fun t8'=>z01 sn t7 b0 n t8') (fun c0_=>some (Sum.inl c0_)) (fun c0_ c1_=>some (Sum.inr (c0_,c1_)))
theorem z4j:z01 a0 c1 g2 (a3+1) c4=z0b a0 c1 g2  c4  (fun t8'=>z01 a0 c1 g2 a3 t8') (fun c0_=>some (Sum.inl c0_)) (fun c0_ c1_=>some (Sum.inr (c0_,c1_))):=rfl
def z31:Bool:=(z01 a0 c1 g2 big c3).isSome
def z2p:Bool:=oL (z01 a0 c1 g2 big c3)
def z4z:Int:=((tL (z01 a0 c1 g2 big c3)).getD default)
def zap:Int:=((tR (z01 a0 c1 g2 big c3)).getD default).1
def zaq:Bool:=((tR (z01 a0 c1 g2 big c3)).getD default).2
def z0c{R:Type}(kn_:Int→Option R)(k0_:Int→Option R)(k1_:Int→Bool→Option R):Option R:=(br (ltI c3 c1) (grd (okIx c3 a0) (grd (zr6 (gF g2 (ixO 0 c3 1))) (br (zpb (gF g2 (ixO 0 c3 1))) (k0_ c3) (kn_ (addI .i64 c3 1))))) (k1_ c3 (ltI c3 c1)))
theorem zb2{R R':Type}(o:Option R→Option R')(h0:o none=none)(kn_:Int→Option R)(k0_:Int→Option R)(k1_:Int→Bool→Option R):z0c a0 c1 g2 c3 (fun t8'=>o (kn_ t8')) (fun c0_=>o (k0_ c0_)) (fun c0_ c1_=>o (k1_ c0_ c1_))=o (z0c a0 c1 g2 c3 kn_ k0_ k1_):=by
 unfold z0c
 repeat (first | apply grd_out h0 | apply br_out | rfl)
def z02(sn:Nat)(t7:Int)(b0:List Nat):Nat→Int→Option ((Int)⊕(Int×Bool))
 | 0,_=>none
 | n+1,t8=>z0c sn t7 b0  t8  (fun t8'=>z02 sn t7 b0 n t8') (fun c0_=>some (Sum.inl c0_)) (fun c0_ c1_=>some (Sum.inr (c0_,c1_)))
theorem z4y:z02 a0 c1 g2 (a3+1) c4=z0c a0 c1 g2  c4  (fun t8'=>z02 a0 c1 g2 a3 t8') (fun c0_=>some (Sum.inl c0_)) (fun c0_ c1_=>some (Sum.inr (c0_,c1_))):=rfl
def z3k:Bool:=(z02 a0 c1 g2 big c3).isSome
def z33:Bool:=oL (z02 a0 c1 g2 big c3)
def z5s:Int:=((tL (z02 a0 c1 g2 big c3)).getD default)
def zby:Int:=((tR (z02 a0 c1 g2 big c3)).getD default).1
def zbl:Bool:=((tR (z02 a0 c1 g2 big c3)).getD default).2
def zif{R:Type}(q25:Int)(q2c q2d:Nat) (k_:Nat→Nat→Nat→Nat→(List Nat)→(List Nat)→(List Nat)→(List Nat)→Option R):Option R:=(grd (zus a0 (pF g1 0 (muN a0 1)) a2 (pF g3 0 (muN a2 1)) a4 (pF g5 0 (muN a4 1))) (grd (zs6 a6 (pF g7 0 (muN a6 3))) (k_ (zt5 a0 (pF g1 0 (muN a0 1)) a2 (pF g3 0 (muN a2 1)) a4 (pF g5 0 (muN a4 1))) (zsv a0 (pF g1 0 (muN a0 1)) a2 (pF g3 0 (muN a2 1)) a4 (pF g5 0 (muN a4 1))) (zsw a0 (pF g1 0 (muN a0 1)) a2 (pF g3 0 (muN a2 1)) a4 (pF g5 0 (muN a4 1))) (zqq a6 (pF g7 0 (muN a6 3))) (zsr a0 (pF g1 0 (muN a0 1)) a2 (pF g3 0 (muN a2 1)) a4 (pF g5 0 (muN a4 1))) (zs7 a0 (pF g1 0 (muN a0 1)) a2 (pF g3 0 (muN a2 1)) a4 (pF g5 0 (muN a4 1))) (zsz a0 (pF g1 0 (muN a0 1)) a2 (pF g3 0 (muN a2 1)) a4 (pF g5 0 (muN a4 1))) (zr4 a6 (pF g7 0 (muN a6 3))))))
def z1w:Option (Nat×Nat×Nat×Nat×(List Nat)×(List Nat)×(List Nat)×(List Nat)):=zif a0 g1 a2 g3 a4 g5 a6 g7 c8 a9 a10 (fun c0_ c1_ c2_ c3_ c4_ c5_ c6_ c7_=>some (c0_,c1_,c2_,c3_,c4_,c5_,c6_,c7_))
theorem y5l:Nt8 (fun {R}=>zif (R:=R) a0 g1 a2 g3 a4 g5 a6 g7 c8 a9 a10):=by
 intro R R' o h0 k;unfold zif;repeat (first | apply grd_out h0 | apply br_out | rfl)
def zpg:Bool:=(z1w a0 g1 a2 g3 a4 g5 a6 g7 c8 a9 a10).isSome
def znx:Nat:=((z1w a0 g1 a2 g3 a4 g5 a6 g7 c8 a9 a10).getD default).1
def zny:Nat:=((z1w a0 g1 a2 g3 a4 g5 a6 g7 c8 a9 a10).getD default).2.1
def zna:Nat:=((z1w a0 g1 a2 g3 a4 g5 a6 g7 c8 a9 a10).getD default).2.2.1
def znu:Nat:=((z1w a0 g1 a2 g3 a4 g5 a6 g7 c8 a9 a10).getD default).2.2.2.1
def zmv:List Nat:=((z1w a0 g1 a2 g3 a4 g5 a6 g7 c8 a9 a10).getD default).2.2.2.2.1
def zne:List Nat:=((z1w a0 g1 a2 g3 a4 g5 a6 g7 c8 a9 a10).getD default).2.2.2.2.2.1
def zop:List Nat:=((z1w a0 g1 a2 g3 a4 g5 a6 g7 c8 a9 a10).getD default).2.2.2.2.2.2.1
def zo0:List Nat:=((z1w a0 g1 a2 g3 a4 g5 a6 g7 c8 a9 a10).getD default).2.2.2.2.2.2.2
def zf4{R:Type}(k_:Bool→Option R):Option R:=(grd (z98 a0 (pF g1 0 (muN a0 1)) a6 (pF g7 0 (muN a6 1))) (br (bnot (z8f a0 (pF g1 0 (muN a0 1)) a6 (pF g7 0 (muN a6 1)))) (k_ Bool.false) (grd (z98 a2 (pF g3 0 (muN a2 1)) a8 (pF g9 0 (muN a8 1))) (br (bnot (z8f a2 (pF g3 0 (muN a2 1)) a8 (pF g9 0 (muN a8 1)))) (k_ Bool.false) (grd (z98 a4 (pF g5 0 (muN a4 1)) a10 (pF g11 0 (muN a10 1))) (br (bnot (z8f a4 (pF g5 0 (muN a4 1)) a10 (pF g11 0 (muN a10 1)))) (k_ Bool.false) (k_ Bool.true)))))))
def z64:Option (Bool):=zf4 a0 g1 a2 g3 a4 g5 a6 g7 a8 g9 a10 g11 (fun c0_=>some c0_)
theorem y2i:Nt1 (fun {R}=>zf4 (R:=R) a0 g1 a2 g3 a4 g5 a6 g7 a8 g9 a10 g11):=by
 intro R R' o h0 k;unfold zf4;repeat (first | apply grd_out h0 | apply br_out | rfl)
def zu0:Bool:=(z64 a0 g1 a2 g3 a4 g5 a6 g7 a8 g9 a10 g11).isSome
def zt6:Bool:=((z64 a0 g1 a2 g3 a4 g5 a6 g7 a8 g9 a10 g11).getD default)
def zcx{R:Type}(k_:Bool→Option R):Option R:=(br (neI (Int.ofNat a0) (Int.ofNat a2)) (k_ Bool.false) (grd (zfw a0 a2 g1 g3 0) (br (ze2 a0 a2 g1 g3 0) (k_ Bool.false) (k_ Bool.true))))
def z5k:Option (Bool):=zcx a0 g1 a2 g3 (fun c0_=>some c0_)
theorem zyp:Nt1 (fun {R}=>zcx (R:=R) a0 g1 a2 g3):=by
 intro R R' o h0 k;unfold zcx;repeat (first | apply grd_out h0 | apply br_out | rfl)
def zsy:Bool:=(z5k a0 g1 a2 g3).isSome
def zr5:Bool:=((z5k a0 g1 a2 g3).getD default)
def znz{R:Type}(k_:Bool→Option R):Option R:=(br (ltI (Int.ofNat a0) 2) (k_ Bool.false) (br (ltI 24 (Int.ofNat a0)) (k_ Bool.false) (br (neI (Int.ofNat a2) (Int.ofNat a0)) (k_ Bool.false) (br (neI (Int.ofNat a4) (Int.ofNat a0)) (k_ Bool.false) (grd (zb8 (Int.ofNat a0) g1 g3 g5 a0 a2 a4 0) (br (zac (Int.ofNat a0) g1 g3 g5 a0 a2 a4 0) (k_ Bool.false) (k_ Bool.true)))))))
def za6:Option (Bool):=znz a0 g1 a2 g3 a4 g5 (fun c0_=>some c0_)
theorem ya7:Nt1 (fun {R}=>znz (R:=R) a0 g1 a2 g3 a4 g5):=by
 intro R R' o h0 k;unfold znz;repeat (first | apply grd_out h0 | apply br_out | rfl)
def y67:Bool:=(za6 a0 g1 a2 g3 a4 g5).isSome
def y2w:Bool:=((za6 a0 g1 a2 g3 a4 g5).getD default)
def z20{R:Type}(k_:Int→Option R):Option R:=(grd (z31 a0 (Int.ofNat a0) g1 0) (br (z2p a0 (Int.ofNat a0) g1 0) (k_ (z4z a0 (Int.ofNat a0) g1 0)) (k_ (Int.negSucc 0))))
def z0m:Option (Int):=z20 a0 g1 (fun c0_=>some c0_)
theorem zbd:Nt1 (fun {R}=>z20 (R:=R) a0 g1):=by
 intro R R' o h0 k;unfold z20;repeat (first | apply grd_out h0 | apply br_out | rfl)
def z6u:Bool:=(z0m a0 g1).isSome
def z6l:Int:=((z0m a0 g1).getD default)
def z2a{R:Type}(k_:Int→Option R):Option R:=(grd (z3k a0 (Int.ofNat a0) g1 0) (br (z33 a0 (Int.ofNat a0) g1 0) (k_ (z5s a0 (Int.ofNat a0) g1 0)) (k_ (Int.negSucc 0))))
def z0r:Option (Int):=z2a a0 g1 (fun c0_=>some c0_)
theorem zcs:Nt1 (fun {R}=>z2a (R:=R) a0 g1):=by
 intro R R' o h0 k;unfold z2a;repeat (first | apply grd_out h0 | apply br_out | rfl)
def z7a:Bool:=(z0r a0 g1).isSome
def z72:Int:=((z0r a0 g1).getD default)
def zil{R:Type}(k_:Nat→Option R):Option R:=(grd (zr0 (fcvV .f32 .f64 a0)) (grd (zkl (zgs (fcvV .f32 .f64 a0))) (k_ (zcv (zgs (fcvV .f32 .f64 a0))))))
def z6n:Option (Nat):=zil a0 (fun c0_=>some c0_)
theorem y6b:Nt1 (fun {R}=>zil (R:=R) a0):=by
 intro R R' o h0 k;unfold zil;repeat (first | apply grd_out h0 | apply br_out | rfl)
def z7r:Bool:=(z6n a0).isSome
def z1h:Nat:=((z6n a0).getD default)
def z0d{R:Type}(kn_:Int→Option R)(k0_:Int→Option R)(k1_:Int→Bool→Option R):Option R:=(br (ltI c3 c1) (grd (okIx c3 a0) (grd (zss (gF g2 (ixO 0 c3 1))) (br (zr2 (gF g2 (ixO 0 c3 1))) (k0_ c3) (kn_ (addI .i64 c3 1))))) (k1_ c3 (ltI c3 c1)))
theorem zbf{R R':Type}(o:Option R→Option R')(h0:o none=none)(kn_:Int→Option R)(k0_:Int→Option R)(k1_:Int→Bool→Option R):z0d a0 c1 g2 c3 (fun t8'=>o (kn_ t8')) (fun c0_=>o (k0_ c0_)) (fun c0_ c1_=>o (k1_ c0_ c1_))=o (z0d a0 c1 g2 c3 kn_ k0_ k1_):=by
 unfold z0d
 repeat (first | apply grd_out h0 | apply br_out | rfl)
def z03(sn:Nat)(t7:Int)(b0:List Nat):Nat→Int→Option ((Int)⊕(Int×Bool))
 | 0,_=>none
 | n+1,t8=>z0d sn t7 b0  t8  (fun t8'=>z03 sn t7 b0 n t8') (fun c0_=>some (Sum.inl c0_)) (fun c0_ c1_=>some (Sum.inr (c0_,c1_)))
theorem z59:z03 a0 c1 g2 (a3+1) c4=z0d a0 c1 g2  c4  (fun t8'=>z03 a0 c1 g2 a3 t8') (fun c0_=>some (Sum.inl c0_)) (fun c0_ c1_=>some (Sum.inr (c0_,c1_))):=rfl
def z3n:Bool:=(z03 a0 c1 g2 big c3).isSome
def z3i:Bool:=oL (z03 a0 c1 g2 big c3)
def z5w:Int:=((tL (z03 a0 c1 g2 big c3)).getD default)
def zc0:Int:=((tR (z03 a0 c1 g2 big c3)).getD default).1
def zc6:Bool:=((tR (z03 a0 c1 g2 big c3)).getD default).2
def zii{R:Type}(k_:Bool→Option R):Option R:=(grd (zu0 a0 (pF g1 0 (muN a0 1)) a2 (pF g3 0 (muN a2 1)) a4 (pF g5 0 (muN a4 1)) a11 (pF g12 0 (muN a11 1)) a13 (pF g14 0 (muN a13 1)) a15 (pF g16 0 (muN a15 1))) (br (bnot (zt6 a0 (pF g1 0 (muN a0 1)) a2 (pF g3 0 (muN a2 1)) a4 (pF g5 0 (muN a4 1)) a11 (pF g12 0 (muN a11 1)) a13 (pF g14 0 (muN a13 1)) a15 (pF g16 0 (muN a15 1)))) (k_ Bool.false) (grd (zsy a6 (pF g7 0 (muN a6 3)) a17 (pF g18 0 (muN a17 3))) (br (bnot (zr5 a6 (pF g7 0 (muN a6 3)) a17 (pF g18 0 (muN a17 3)))) (k_ Bool.false) (br (neI c8 c19) (k_ Bool.false) (grd (z4n (fcvV .f32 .f64 a9) (fcvV .f32 .f64 a20)) (br (bnot (z47 (fcvV .f32 .f64 a9) (fcvV .f32 .f64 a20))) (k_ Bool.false) (grd (z4n (fcvV .f32 .f64 a10) (fcvV .f32 .f64 a21)) (br (bnot (z47 (fcvV .f32 .f64 a10) (fcvV .f32 .f64 a21))) (k_ Bool.false) (k_ Bool.true))))))))))
def z7y:Option (Bool):=zii a0 g1 a2 g3 a4 g5 a6 g7 c8 a9 a10 a11 g12 a13 g14 a15 g16 a17 g18 c19 a20 a21 (fun c0_=>some c0_)
theorem y5t:Nt1 (fun {R}=>zii (R:=R) a0 g1 a2 g3 a4 g5 a6 g7 c8 a9 a10 a11 g12 a13 g14 a15 g16 a17 g18 c19 a20 a21):=by
 intro R R' o h0 k;unfold zii;repeat (first | apply grd_out h0 | apply br_out | rfl)
def zpi:Bool:=(z7y a0 g1 a2 g3 a4 g5 a6 g7 c8 a9 a10 a11 g12 a13 g14 a15 g16 a17 g18 c19 a20 a21).isSome
def znn:Bool:=((z7y a0 g1 a2 g3 a4 g5 a6 g7 c8 a9 a10 a11 g12 a13 g14 a15 g16 a17 g18 c19 a20 a21).getD default)
def z2g{R:Type}(k_:Int→Option R):Option R:=(grd (z3n a0 (Int.ofNat a0) g1 0) (br (z3i a0 (Int.ofNat a0) g1 0) (k_ (z5w a0 (Int.ofNat a0) g1 0)) (k_ (Int.negSucc 0))))
def z0t:Option (Int):=z2g a0 g1 (fun c0_=>some c0_)
theorem zdh:Nt1 (fun {R}=>z2g (R:=R) a0 g1):=by
 intro R R' o h0 k;unfold z2g;repeat (first | apply grd_out h0 | apply br_out | rfl)
def z7k:Bool:=(z0t a0 g1).isSome
def z7b:Int:=((z0t a0 g1).getD default)
def zoe{R:Type}(k_:Nat→Option R):Option R:=(grd (bnot (nanQ .f64 a0)) (k_ (fint Ieee.Toward.down a0)))
def za2:Option (Nat):=zoe a0 (fun c0_=>some c0_)
theorem yai:Nt1 (fun {R}=>zoe (R:=R) a0):=by
 intro R R' o h0 k;unfold zoe;repeat (first | apply grd_out h0 | apply br_out | rfl)
def zv4:Bool:=(za2 a0).isSome
def z93:Nat:=((za2 a0).getD default)
def z53{R:Type}(kn_:Nat→Nat→Option R)(k0_:Nat→Nat→Bool→Option R):Option R:=(br (fcmp .geq .f64 a2 4607182418800017408) (kn_ (fop .sub .f64 4607182418800017408 (fop .quo .f64 (fop .mul .f64 a0 a1) (fop .mul .f64 (fop .mul .f64 4611686018427387904 a2) (fop .add .f64 (fop .mul .f64 4611686018427387904 a2) 4607182418800017408)))) (fop .sub .f64 a2 4607182418800017408)) (k0_ a1 a2 (fcmp .geq .f64 a2 4607182418800017408)))
theorem y5i{R R':Type}(o:Option R→Option R')(h0:o none=none)(kn_:Nat→Nat→Option R)(k0_:Nat→Nat→Bool→Option R):z53 a0 a1 a2 (fun p' k'=>o (kn_ p' k')) (fun c0_ c1_ c2_=>o (k0_ c0_ c1_ c2_))=o (z53 a0 a1 a2 kn_ k0_):=by
 unfold z53
 repeat (first | apply grd_out h0 | apply br_out | rfl)
def z1u(u:Nat):Nat→Nat→Nat→Option ((Nat×Nat×Bool))
 | 0,_,_=>none
 | n+1,p,k=>z53 u  p k  (fun p' k'=>z1u u n p' k') (fun c0_ c1_ c2_=>some (c0_,c1_,c2_))
theorem zp3:z1u a0 (a1+1) a2 a3=z53 a0  a2 a3  (fun p' k'=>z1u a0 a1 p' k') (fun c0_ c1_ c2_=>some (c0_,c1_,c2_)):=rfl
def z9y:Bool:=(z1u a0 big a1 a2).isSome
def z74:Nat:=((z1u a0 big a1 a2).getD default).1
def y77:Nat:=((z1u a0 big a1 a2).getD default).2.1
def y7g:Bool:=((z1u a0 big a1 a2).getD default).2.2
def z1o{R:Type}(k_:Bool→Option R):Option R:=(grd (z6u a0 (pF g1 0 (muN a0 1))) (k_ (leI 0 (z6l a0 (pF g1 0 (muN a0 1))))))
def z0i:Option (Bool):=z1o a0 g1 (fun c0_=>some c0_)
theorem zaf:Nt1 (fun {R}=>z1o (R:=R) a0 g1):=by
 intro R R' o h0 k;unfold z1o;repeat (first | apply grd_out h0 | apply br_out | rfl)
def z5u:Bool:=(z0i a0 g1).isSome
def z5p:Bool:=((z0i a0 g1).getD default)
def z1t{R:Type}(k_:Bool→Option R):Option R:=(grd (z7a a0 (pF g1 0 (muN a0 1))) (k_ (leI 0 (z72 a0 (pF g1 0 (muN a0 1))))))
def z0k:Option (Bool):=z1t a0 g1 (fun c0_=>some c0_)
theorem zax:Nt1 (fun {R}=>z1t (R:=R) a0 g1):=by
 intro R R' o h0 k;unfold z1t;repeat (first | apply grd_out h0 | apply br_out | rfl)
def z6r:Bool:=(z0k a0 g1).isSome
def z62:Bool:=((z0k a0 g1).getD default)
def z21{R:Type}(k_:Bool→Option R):Option R:=(grd (z7k a0 (pF g1 0 (muN a0 1))) (k_ (leI 0 (z7b a0 (pF g1 0 (muN a0 1))))))
def z0n:Option (Bool):=z21 a0 g1 (fun c0_=>some c0_)
theorem zbx:Nt1 (fun {R}=>z21 (R:=R) a0 g1):=by
 intro R R' o h0 k;unfold z21;repeat (first | apply grd_out h0 | apply br_out | rfl)
def z6t:Bool:=(z0n a0 g1).isSome
def z6g:Bool:=((z0n a0 g1).getD default)
def zqn{R:Type}(k_:Nat→Option R):Option R:=(grd (zt8 a0) (br (fcmp .geq .f64 (z09 a0) 4602678819172646912) (br (fcmp .gtr .f64 (fop .sub .f64 (z09 a0) 4602678819172646912) 4598175219545276416) (grd (z9y (fop .mul .f64 (fop .mul .f64 (fop .sub .f64 4602678819172646912 (fop .sub .f64 (z09 a0) 4602678819172646912)) 4618760256179416344) (fop .mul .f64 (fop .sub .f64 4602678819172646912 (fop .sub .f64 (z09 a0) 4602678819172646912)) 4618760256179416344)) 4607182418800017408 4620693217682128896) (k_ (fneg .f64 (fop .mul .f64 (fop .mul .f64 (fop .sub .f64 4602678819172646912 (fop .sub .f64 (z09 a0) 4602678819172646912)) 4618760256179416344) (z74 (fop .mul .f64 (fop .mul .f64 (fop .sub .f64 4602678819172646912 (fop .sub .f64 (z09 a0) 4602678819172646912)) 4618760256179416344) (fop .mul .f64 (fop .sub .f64 4602678819172646912 (fop .sub .f64 (z09 a0) 4602678819172646912)) 4618760256179416344)) 4607182418800017408 4620693217682128896))))) (grd (z9y (fop .mul .f64 (fop .mul .f64 (fop .sub .f64 (z09 a0) 4602678819172646912) 4618760256179416344) (fop .mul .f64 (fop .sub .f64 (z09 a0) 4602678819172646912) 4618760256179416344)) 4607182418800017408 4620693217682128896) (k_ (fneg .f64 (fop .mul .f64 (fop .mul .f64 (fop .sub .f64 (z09 a0) 4602678819172646912) 4618760256179416344) (z74 (fop .mul .f64 (fop .mul .f64 (fop .sub .f64 (z09 a0) 4602678819172646912) 4618760256179416344) (fop .mul .f64 (fop .sub .f64 (z09 a0) 4602678819172646912) 4618760256179416344)) 4607182418800017408 4620693217682128896)))))) (br (fcmp .gtr .f64 (z09 a0) 4598175219545276416) (grd (z9y (fop .mul .f64 (fop .mul .f64 (fop .sub .f64 4602678819172646912 (z09 a0)) 4618760256179416344) (fop .mul .f64 (fop .sub .f64 4602678819172646912 (z09 a0)) 4618760256179416344)) 4607182418800017408 4620693217682128896) (k_ (fop .mul .f64 (fop .mul .f64 (fop .sub .f64 4602678819172646912 (z09 a0)) 4618760256179416344) (z74 (fop .mul .f64 (fop .mul .f64 (fop .sub .f64 4602678819172646912 (z09 a0)) 4618760256179416344) (fop .mul .f64 (fop .sub .f64 4602678819172646912 (z09 a0)) 4618760256179416344)) 4607182418800017408 4620693217682128896)))) (grd (z9y (fop .mul .f64 (fop .mul .f64 (z09 a0) 4618760256179416344) (fop .mul .f64 (z09 a0) 4618760256179416344)) 4607182418800017408 4620693217682128896) (k_ (fop .mul .f64 (fop .mul .f64 (z09 a0) 4618760256179416344) (z74 (fop .mul .f64 (fop .mul .f64 (z09 a0) 4618760256179416344) (fop .mul .f64 (z09 a0) 4618760256179416344)) 4607182418800017408 4620693217682128896)))))))
def zc5:Option (Nat):=zqn a0 (fun c0_=>some c0_)
theorem yba:Nt1 (fun {R}=>zqn (R:=R) a0):=by
 intro R R' o h0 k;unfold zqn;repeat (first | apply grd_out h0 | apply br_out | rfl)
def y8x:Bool:=(zc5 a0).isSome
def zuc:Nat:=((zc5 a0).getD default)
def zfm{R:Type}(k_:Nat→Option R):Option R:=(grd (zv4 (fop .add .f64 (fcvV .f32 .f64 a0) 4602678819172646912)) (grd (fcvB .f64 .f32 (fop .sub .f64 (fcvV .f32 .f64 a0) (z93 (fop .add .f64 (fcvV .f32 .f64 a0) 4602678819172646912)))) (br (fcmp .geq .f32 (fcvV .f64 .f32 (fop .sub .f64 (fcvV .f32 .f64 a0) (z93 (fop .add .f64 (fcvV .f32 .f64 a0) 4602678819172646912)))) 1056964608) (k_ 3204448256) (k_ (fcvV .f64 .f32 (fop .sub .f64 (fcvV .f32 .f64 a0) (z93 (fop .add .f64 (fcvV .f32 .f64 a0) 4602678819172646912))))))))
def z65:Option (Nat):=zfm a0 (fun c0_=>some c0_)
theorem y28:Nt1 (fun {R}=>zfm (R:=R) a0):=by
 intro R R' o h0 k;unfold zfm;repeat (first | apply grd_out h0 | apply br_out | rfl)
def zuj:Bool:=(z65 a0).isSome
def z11:Nat:=((z65 a0).getD default)
def zi4{R:Type}(k_:Nat→Option R):Option R:=(grd (zv4 (fop .add .f64 (fcvV .f32 .f64 a0) 4602678819172646912)) (grd (zkl (fop .sub .f64 (fcvV .f32 .f64 a0) (z93 (fop .add .f64 (fcvV .f32 .f64 a0) 4602678819172646912)))) (br (fcmp .geq .f32 (zcv (fop .sub .f64 (fcvV .f32 .f64 a0) (z93 (fop .add .f64 (fcvV .f32 .f64 a0) 4602678819172646912)))) 1056964608) (k_ 3204448256) (k_ (zcv (fop .sub .f64 (fcvV .f32 .f64 a0) (z93 (fop .add .f64 (fcvV .f32 .f64 a0) 4602678819172646912))))))))
def z7v:Option (Nat):=zi4 a0 (fun c0_=>some c0_)
theorem y4y:Nt1 (fun {R}=>zi4 (R:=R) a0):=by
 intro R R' o h0 k;unfold zi4;repeat (first | apply grd_out h0 | apply br_out | rfl)
def zzu:Bool:=(z7v a0).isSome
def z4f:Nat:=((z7v a0).getD default)
def z4g{R:Type}(kn_:Nat→Int→Option R)(k0_:Unit→Option R)(k1_:Nat→Int→Bool→Option R):Option R:=(br (ltI c5 c0) (grd (okIx c5 a2) (br (bnot (fcmp .gtr .f32 (gF g1 (ixO 0 c5 3)) a4)) (k0_ ()) (br (bnot (fcmp .lss .f32 (gF g1 (ixO 0 c5 3)) a3)) (k0_ ()) (grd (zbu (gF g1 (Nat.succ (ixO 0 c5 3)))) (br (bnot (zad (gF g1 (Nat.succ (ixO 0 c5 3))))) (k0_ ()) (grd (z12 (gF g1 (Nat.succ (Nat.succ (ixO 0 c5 3))))) (br (bnot (z0v (gF g1 (Nat.succ (Nat.succ (ixO 0 c5 3)))))) (k0_ ()) (kn_ (gF g1 (ixO 0 c5 3)) (addI .i64 c5 1))))))))) (k1_ a4 c5 (ltI c5 c0)))
theorem y3q{R R':Type}(o:Option R→Option R')(h0:o none=none)(kn_:Nat→Int→Option R)(k0_:Unit→Option R)(k1_:Nat→Int→Bool→Option R):z4g c0 g1 a2 a3 a4 c5 (fun t4' t58'=>o (kn_ t4' t58')) (fun _=>o (k0_ ())) (fun c0_ c1_ c2_=>o (k1_ c0_ c1_ c2_))=o (z4g c0 g1 a2 a3 a4 c5 kn_ k0_ k1_):=by
 unfold z4g
 repeat (first | apply grd_out h0 | apply br_out | rfl)
def z14(t57:Int)(b3:List Nat)(q0r q0z:Nat):Nat→Nat→Int→Option ((Unit)⊕(Nat×Int×Bool))
 | 0,_,_=>none
 | n+1,t4,t58=>z4g t57 b3 q0r q0z  t4 t58  (fun t4' t58'=>z14 t57 b3 q0r q0z n t4' t58') (fun _=>some (Sum.inl ())) (fun c0_ c1_ c2_=>some (Sum.inr (c0_,c1_,c2_)))
theorem zmx:z14 c0 g1 a2 a3 (a4+1) a5 c6=z4g c0 g1 a2 a3  a5 c6  (fun t4' t58'=>z14 c0 g1 a2 a3 a4 t4' t58') (fun _=>some (Sum.inl ())) (fun c0_ c1_ c2_=>some (Sum.inr (c0_,c1_,c2_))):=rfl
def zh5:Bool:=(z14 c0 g1 a2 a3 big a4 c5).isSome
def zf5:Bool:=oL (z14 c0 g1 a2 a3 big a4 c5)
def y4w:Nat:=((tR (z14 c0 g1 a2 a3 big a4 c5)).getD default).1
def y5p:Int:=((tR (z14 c0 g1 a2 a3 big a4 c5)).getD default).2.1
def y66:Bool:=((tR (z14 c0 g1 a2 a3 big a4 c5)).getD default).2.2
def zbq{R:Type}(k_:Bool→Option R):Option R:=(grd (z5u a0 (pF g1 0 (muN a0 1))) (k_ (bnot (z5p a0 (pF g1 0 (muN a0 1))))))
def z1s:Option (Bool):=zbq a0 g1 (fun c0_=>some c0_)
theorem zxw:Nt1 (fun {R}=>zbq (R:=R) a0 g1):=by
 intro R R' o h0 k;unfold zbq;repeat (first | apply grd_out h0 | apply br_out | rfl)
def z8b:Bool:=(z1s a0 g1).isSome
def z7m:Bool:=((z1s a0 g1).getD default)
def znv{R:Type}(k_:Bool→Option R):Option R:=(grd (y67 a0 (pF g1 0 (muN a0 1)) a2 (pF g3 0 (muN a2 1)) a4 (pF g5 0 (muN a4 1))) (br (bnot (y2w a0 (pF g1 0 (muN a0 1)) a2 (pF g3 0 (muN a2 1)) a4 (pF g5 0 (muN a4 1)))) (k_ Bool.false) (br (ltI (Int.ofNat a6) 2) (k_ Bool.false) (br (ltI 12 (Int.ofNat a6)) (k_ Bool.false) (grd (zv1 c8 1 6) (br (bnot (zry c8 1 6)) (k_ Bool.false) (grd (z8u a9) (br (bnot (z85 a9)) (k_ Bool.false) (grd (z12 a10) (br (bnot (z0v a10)) (k_ Bool.false) (grd (zh5 (Int.ofNat a6) g7 a6 a10 a9 0) (br (zf5 (Int.ofNat a6) g7 a6 a10 a9 0) (k_ Bool.false) (k_ Bool.true)))))))))))))
def zab:Option (Bool):=znv a0 g1 a2 g3 a4 g5 a6 g7 c8 a9 a10 (fun c0_=>some c0_)
theorem ya5:Nt1 (fun {R}=>znv (R:=R) a0 g1 a2 g3 a4 g5 a6 g7 c8 a9 a10):=by
 intro R R' o h0 k;unfold znv;repeat (first | apply grd_out h0 | apply br_out | rfl)
def zvd:Bool:=(zab a0 g1 a2 g3 a4 g5 a6 g7 c8 a9 a10).isSome
def zrd:Bool:=((zab a0 g1 a2 g3 a4 g5 a6 g7 c8 a9 a10).getD default)
def zfl{R:Type}(k_:Bool→Option R):Option R:=(grd (z6r a0 (pF g1 0 (muN a0 1))) (k_ (bnot (z62 a0 (pF g1 0 (muN a0 1))))))
def z4u:Option (Bool):=zfl a0 g1 (fun c0_=>some c0_)
theorem y0n:Nt1 (fun {R}=>zfl (R:=R) a0 g1):=by
 intro R R' o h0 k;unfold zfl;repeat (first | apply grd_out h0 | apply br_out | rfl)
def zl1:Bool:=(z4u a0 g1).isSome
def zit:Bool:=((z4u a0 g1).getD default)
def zh2{R:Type}(k_:Bool→Option R):Option R:=(grd (z6t a0 (pF g1 0 (muN a0 1))) (k_ (bnot (z6g a0 (pF g1 0 (muN a0 1))))))
def z71:Option (Bool):=zh2 a0 g1 (fun c0_=>some c0_)
theorem y2z:Nt1 (fun {R}=>zh2 (R:=R) a0 g1):=by
 intro R R' o h0 k;unfold zh2;repeat (first | apply grd_out h0 | apply br_out | rfl)
def zx2:Bool:=(z71 a0 g1).isSome
def zut:Bool:=((z71 a0 g1).getD default)
def zg1{R:Type}(k_:Nat→Option R):Option R:=(grd (z2s a0) (br (bnot (z2b a0)) (grd y2d (grd (fcvB .f64 .f32 zqo) (k_ (fcvV .f64 .f32 zqo)))) (grd (y2k (fcvV .f32 .f64 a0)) (br (zyj (fcvV .f32 .f64 a0)) (k_ 0) (grd (y8x (fcvV .f32 .f64 a0)) (grd (fcvB .f64 .f32 (zuc (fcvV .f32 .f64 a0))) (k_ (fcvV .f64 .f32 (zuc (fcvV .f32 .f64 a0))))))))))
def z68:Option (Nat):=zg1 a0 (fun c0_=>some c0_)
theorem y0m:Nt1 (fun {R}=>zg1 (R:=R) a0):=by
 intro R R' o h0 k;unfold zg1;repeat (first | apply grd_out h0 | apply br_out | rfl)
def z4s:Bool:=(z68 a0).isSome
def z1l:Nat:=((z68 a0).getD default)
def zd3{R:Type}(k_:Nat→Nat→Bool→Option R):Option R:=(grd (zl1 2 (pF [a0,a1] 0 (muN 2 1))) (br (bnot (zit 2 (pF [a0,a1] 0 (muN 2 1)))) (k_ 0 0 Bool.false) (k_ a0 a1 Bool.true)))
def z38:Option (Nat×Nat×Bool):=zd3 a0 a1 (fun c0_ c1_ c2_=>some (c0_,c1_,c2_))
theorem zyt:Nt3 (fun {R}=>zd3 (R:=R) a0 a1):=by
 intro R R' o h0 k;unfold zd3;repeat (first | apply grd_out h0 | apply br_out | rfl)
def ziw:Bool:=(z38 a0 a1).isSome
def zhn:Nat:=((z38 a0 a1).getD default).1
def zi1:Nat:=((z38 a0 a1).getD default).2.1
def zhl:Bool:=((z38 a0 a1).getD default).2.2
def zd8{R:Type}(k_:Bool→Option R):Option R:=(grd (zvd a0 (pF g1 0 (muN a0 1)) a2 (pF g3 0 (muN a2 1)) a4 (pF g5 0 (muN a4 1)) a6 (pF g7 0 (muN a6 3)) c8 a9 a10) (br (zrd a0 (pF g1 0 (muN a0 1)) a2 (pF g3 0 (muN a2 1)) a4 (pF g5 0 (muN a4 1)) a6 (pF g7 0 (muN a6 3)) c8 a9 a10) (grd (zv1 c11 0 (subI .i64 (Int.ofNat a6) 1)) (k_ (zry c11 0 (subI .i64 (Int.ofNat a6) 1)))) (k_ Bool.false)))
def z5l:Option (Bool):=zd8 a0 g1 a2 g3 a4 g5 a6 g7 c8 a9 a10 c11 (fun c0_=>some c0_)
theorem zys:Nt1 (fun {R}=>zd8 (R:=R) a0 g1 a2 g3 a4 g5 a6 g7 c8 a9 a10 c11):=by
 intro R R' o h0 k;unfold zd8;repeat (first | apply grd_out h0 | apply br_out | rfl)
def zt0:Bool:=(z5l a0 g1 a2 g3 a4 g5 a6 g7 c8 a9 a10 c11).isSome
def zr1:Bool:=((z5l a0 g1 a2 g3 a4 g5 a6 g7 c8 a9 a10 c11).getD default)
def z8q{R:Type}(q00:Nat)(q03:List Nat)(q02:Nat)(q05:List Nat)(q01:Nat)(q04:List Nat)(q06:Nat)(q0b:List Nat)(q0g:Int)(q0n q0m:Nat)(i:Int)(q1j:Nat)(k_:Nat→Option R):Option R:=(grd (okIx i q06) (grd (z4s q1j) (k_ (fop .quo .f32 (fop .quo .f32 (fop .mul .f32 (fOI .f32 q0g) (fop .sub .f32 q0m (gF q0b (ixO 0 i 3)))) (fop .mul .f32 1073741824 (gF q0b (ixO 0 i 3)))) (fop .add .f32 (fop .quo .f32 (fop .mul .f32 (fOI .f32 q0g) (fop .sub .f32 q0m (gF q0b (ixO 0 i 3)))) (fop .mul .f32 1073741824 (gF q0b (ixO 0 i 3)))) (z1l q1j))))))
def z3h:Option (Nat):=z8q a0 g1 a2 g3 a4 g5 a6 g7 c8 a9 a10 c11 a12 (fun c0_=>some c0_)
theorem zte:Nt1 (fun {R}=>z8q (R:=R) a0 g1 a2 g3 a4 g5 a6 g7 c8 a9 a10 c11 a12):=by
 intro R R' o h0 k;unfold z8q;repeat (first | apply grd_out h0 | apply br_out | rfl)
def zma:Bool:=(z3h a0 g1 a2 g3 a4 g5 a6 g7 c8 a9 a10 c11 a12).isSome
def zcf:Nat:=((z3h a0 g1 a2 g3 a4 g5 a6 g7 c8 a9 a10 c11 a12).getD default)
def z0a{R:Type}(kn_:Int→Option R)(k0_:Int→Option R)(k1_:Int→Bool→Option R):Option R:=(br (ltI c4 c1) (grd (okIx c4 a0) (br (fcmp .gtr .f32 (gF g2 (ixO 0 c4 1)) a3) (k0_ c4) (kn_ (addI .i64 c4 1)))) (k1_ c4 (ltI c4 c1)))
theorem z9w{R R':Type}(o:Option R→Option R')(h0:o none=none)(kn_:Int→Option R)(k0_:Int→Option R)(k1_:Int→Bool→Option R):z0a a0 c1 g2 a3 c4 (fun t8'=>o (kn_ t8')) (fun c0_=>o (k0_ c0_)) (fun c0_ c1_=>o (k1_ c0_ c1_))=o (z0a a0 c1 g2 a3 c4 kn_ k0_ k1_):=by
 unfold z0a
 repeat (first | apply grd_out h0 | apply br_out | rfl)
def z00(sn:Nat)(t7:Int)(b0:List Nat)(b4:Nat):Nat→Int→Option ((Int)⊕(Int×Bool))
 | 0,_=>none
 | n+1,t8=>z0a sn t7 b0 b4  t8  (fun t8'=>z00 sn t7 b0 b4 n t8') (fun c0_=>some (Sum.inl c0_)) (fun c0_ c1_=>some (Sum.inr (c0_,c1_)))
theorem z4i:z00 a0 c1 g2 a3 (a4+1) c5=z0a a0 c1 g2 a3  c5  (fun t8'=>z00 a0 c1 g2 a3 a4 t8') (fun c0_=>some (Sum.inl c0_)) (fun c0_ c1_=>some (Sum.inr (c0_,c1_))):=rfl
def z2u:Bool:=(z00 a0 c1 g2 a3 big c4).isSome
def z2o:Bool:=oL (z00 a0 c1 g2 a3 big c4)
def z07:Int:=((tL (z00 a0 c1 g2 a3 big c4)).getD default)
def za9:Int:=((tR (z00 a0 c1 g2 a3 big c4)).getD default).1
def za1:Bool:=((tR (z00 a0 c1 g2 a3 big c4)).getD default).2
def z39{R:Type}(kn_:Int→Option R)(k0_:Int→Bool→Option R):Option R:=(br (leI 0 c3) (grd (okIx c3 a2) (br (fcmp .gtr .f32 (gF g1 (ixO 0 c3 1)) a0) (kn_ (subI .i64 c3 1)) (k0_ c3 (fcmp .gtr .f32 (gF g1 (ixO 0 c3 1)) a0)))) (k0_ c3 Bool.false))
theorem zzh{R R':Type}(o:Option R→Option R')(h0:o none=none)(kn_:Int→Option R)(k0_:Int→Bool→Option R):z39 a0 g1 a2 c3 (fun t10'=>o (kn_ t10')) (fun c0_ c1_=>o (k0_ c0_ c1_))=o (z39 a0 g1 a2 c3 kn_ k0_):=by
 unfold z39
 repeat (first | apply grd_out h0 | apply br_out | rfl)
def z1j(t8:Nat)(b0:List Nat)(q1l:Nat):Nat→Int→Option ((Int×Bool))
 | 0,_=>none
 | n+1,t10=>z39 t8 b0 q1l  t10  (fun t10'=>z1j t8 b0 q1l n t10') (fun c0_ c1_=>some (c0_,c1_))
theorem zk1:z1j a0 g1 a2 (a3+1) c4=z39 a0 g1 a2  c4  (fun t10'=>z1j a0 g1 a2 a3 t10') (fun c0_ c1_=>some (c0_,c1_)):=rfl
def zsp:Bool:=(z1j a0 g1 a2 big c3).isSome
def zoo:Int:=((z1j a0 g1 a2 big c3).getD default).1
def y15:Bool:=((z1j a0 g1 a2 big c3).getD default).2
def zkg{R:Type}(k_:Bool→Option R):Option R:=(grd (zt0 a0 (pF g1 0 (muN a0 1)) a2 (pF g3 0 (muN a2 1)) a4 (pF g5 0 (muN a4 1)) a6 (pF g7 0 (muN a6 3)) c8 a9 a10 c11) (br (zr1 a0 (pF g1 0 (muN a0 1)) a2 (pF g3 0 (muN a2 1)) a4 (pF g5 0 (muN a4 1)) a6 (pF g7 0 (muN a6 3)) c8 a9 a10 c11) (grd (zbu a12) (br (zad a12) (grd (zbu a13) (br (zad a13) (grd (z12 a14) (br (z0v a14) (grd (zwo a0 (pF g1 0 (muN a0 1)) a2 (pF g3 0 (muN a2 1)) a4 (pF g5 0 (muN a4 1)) a6 (pF g7 0 (muN a6 3)) c8 a9 a10 c11 a14) (k_ (zu7 a0 (pF g1 0 (muN a0 1)) a2 (pF g3 0 (muN a2 1)) a4 (pF g5 0 (muN a4 1)) a6 (pF g7 0 (muN a6 3)) c8 a9 a10 c11 a14))) (k_ Bool.false))) (k_ Bool.false))) (k_ Bool.false))) (k_ Bool.false)))
def z91:Option (Bool):=zkg a0 g1 a2 g3 a4 g5 a6 g7 c8 a9 a10 c11 a12 a13 a14 (fun c0_=>some c0_)
theorem y75:Nt1 (fun {R}=>zkg (R:=R) a0 g1 a2 g3 a4 g5 a6 g7 c8 a9 a10 c11 a12 a13 a14):=by
 intro R R' o h0 k;unfold zkg;repeat (first | apply grd_out h0 | apply br_out | rfl)
def y2v:Bool:=(z91 a0 g1 a2 g3 a4 g5 a6 g7 c8 a9 a10 c11 a12 a13 a14).isSome
def zyz:Bool:=((z91 a0 g1 a2 g3 a4 g5 a6 g7 c8 a9 a10 c11 a12 a13 a14).getD default)
def z5y{R:Type}(q13:Nat)(q1d:List Nat)(q14:Nat)(q1e:List Nat)(x1:Nat)(k_:Int→Int→Nat→Nat→Nat→Option R):Option R:=(grd (zuj x1) (grd (z2u a0 (Int.ofNat a0) g1 (z11 x1) 0) (br (z2o a0 (Int.ofNat a0) g1 (z11 x1) 0) (br (eqI (z07 a0 (Int.ofNat a0) g1 (z11 x1) 0) 0) (grd (okIx (subI .i64 (Int.ofNat a0) 1) a0) (grd (okIx 0 a0) (k_ (subI .i64 (Int.ofNat a0) 1) 0 (fop .sub .f32 (gF g1 (ixO 0 (subI .i64 (Int.ofNat a0) 1) 1)) 1065353216) (gF g1 (ixO 0 0 1)) (z11 x1)))) (br (ltI (z07 a0 (Int.ofNat a0) g1 (z11 x1) 0) 0) (grd (okIx (subI .i64 (Int.ofNat a0) 1) a0) (grd (okIx 0 a0) (k_ (subI .i64 (Int.ofNat a0) 1) 0 (gF g1 (ixO 0 (subI .i64 (Int.ofNat a0) 1) 1)) (fop .add .f32 (gF g1 (ixO 0 0 1)) 1065353216) (z11 x1)))) (grd (okIx (subI .i64 (z07 a0 (Int.ofNat a0) g1 (z11 x1) 0) 1) a0) (grd (okIx (z07 a0 (Int.ofNat a0) g1 (z11 x1) 0) a0) (k_ (subI .i64 (z07 a0 (Int.ofNat a0) g1 (z11 x1) 0) 1) (z07 a0 (Int.ofNat a0) g1 (z11 x1) 0) (gF g1 (ixO 0 (subI .i64 (z07 a0 (Int.ofNat a0) g1 (z11 x1) 0) 1) 1)) (gF g1 (ixO 0 (z07 a0 (Int.ofNat a0) g1 (z11 x1) 0) 1)) (z11 x1)))))) (grd (okIx (subI .i64 (Int.ofNat a0) 1) a0) (grd (okIx 0 a0) (k_ (subI .i64 (Int.ofNat a0) 1) 0 (gF g1 (ixO 0 (subI .i64 (Int.ofNat a0) 1) 1)) (fop .add .f32 (gF g1 (ixO 0 0 1)) 1065353216) (z11 x1)))))))
def z0x:Option (Int×Int×Nat×Nat×Nat):=z5y a0 g1 a2 g3 a4 g5 a6 (fun c0_ c1_ c2_ c3_ c4_=>some (c0_,c1_,c2_,c3_,c4_))
theorem zrc:Nt5 (fun {R}=>z5y (R:=R) a0 g1 a2 g3 a4 g5 a6):=by
 intro R R' o h0 k;unfold z5y;repeat (first | apply grd_out h0 | apply br_out | rfl)
def zk3:Bool:=(z0x a0 g1 a2 g3 a4 g5 a6).isSome
def z2m:Int:=((z0x a0 g1 a2 g3 a4 g5 a6).getD default).1
def z2l:Int:=((z0x a0 g1 a2 g3 a4 g5 a6).getD default).2.1
def z3s:Nat:=((z0x a0 g1 a2 g3 a4 g5 a6).getD default).2.2.1
def z7f:Nat:=((z0x a0 g1 a2 g3 a4 g5 a6).getD default).2.2.2.1
def zb6:Nat:=((z0x a0 g1 a2 g3 a4 g5 a6).getD default).2.2.2.2
def zbv:=(fop .add .f32 (gF g0 (ixO 0 0 1)) 1065353216)
def z06:=(zoo (z4f a2) g1 a0 (subI .i64 (Int.ofNat a0) 1))
def z8y:=(gF g1 (ixO 0 (subI .i64 (Int.ofNat a0) 1) 1))
def zbm:=(fcmp .lss .f32 (z4f a1) (gF g0 (ixO 0 0 1)))
def zbj:=(okIx (z06 a0 g1 a2) a0)
def zbk:=(fop .sub .f32 (z8y a0 g1) 1065353216)
def z5o:=(gF g1 (ixO 0 (z06 a0 g1 a2) 1))
def z8p:=(eqI (addI .i64 (z06 a0 g1 a2) 1) 0)
def z6w:=(gF g1 (ixO 0 (addI .i64 (z06 a0 g1 a2) 1) 1))
def z8o:=(fop .sub .f32 (z5o a0 g1 a2) 1065353216)
def z4w:=(fop .sub .f32 (z4f a2) (z5o a0 g1 a2))
def z6c:=(fop .sub .f32 (gF g1 (ixO 0 0 1)) (zbk a0 g1))
def z6d:=(fop .sub .f32 (zbv g1) (z8y a0 g1))
def za3:=(fop .sub .f32 (z4f a2) (z8o a0 g1 a2))
def z69:=(fop .sub .f32 (zbv g1) (z5o a0 g1 a2))
def z6b:=(fop .sub .f32 (gF g1 (ixO 0 0 1)) (z8o a0 g1 a2))
def z2c:=(fop .sub .f32 (z6w a0 g1 a2) (z5o a0 g1 a2))
def z6a:=(fop .sub .f32 (z6w a0 g1 a2) (z8o a0 g1 a2))
def z2d:=(fop .sub .f32 (fop .add .f32 (z6w a0 g1 a2) 1065353216) (z5o a0 g1 a2))
def zdo{R:Type}(q13:Nat)(q1d:List Nat)(q14:Nat)(q1e:List Nat)(x1:Nat)(k_:Int→Int→Nat→Nat→Option R):Option R:=(grd (zzu x1) (grd (zsp (z4f x1) g1 a0 (subI .i64 (Int.ofNat a0) 1)) (br (ltI (z06 a0 g1 x1) 0) (grd (okIx (subI .i64 (Int.ofNat a0) 1) a0) (grd (okIx 0 a0) (br (zbm g1 x1) (br (fcmp .eql .f32 (z6c a0 g1) 0) (k_ (subI .i64 (Int.ofNat a0) 1) 0 0 (z6c a0 g1)) (k_ (subI .i64 (Int.ofNat a0) 1) 0 (fop .quo .f32 (fop .sub .f32 (z4f x1) (zbk a0 g1)) (z6c a0 g1)) (z6c a0 g1))) (br (fcmp .eql .f32 (z6d a0 g1) 0) (k_ (subI .i64 (Int.ofNat a0) 1) 0 0 (z6d a0 g1)) (k_ (subI .i64 (Int.ofNat a0) 1) 0 (fop .quo .f32 (fop .sub .f32 (z4f x1) (z8y a0 g1)) (z6d a0 g1)) (z6d a0 g1)))))) (br (eqI (addI .i64 (z06 a0 g1 x1) 1) (Int.ofNat a0)) (grd (zbj a0 g1 x1) (grd (okIx 0 a0) (br (zbm g1 x1) (br (fcmp .eql .f32 (z6b a0 g1 x1) 0) (k_ (z06 a0 g1 x1) 0 0 (z6b a0 g1 x1)) (k_ (z06 a0 g1 x1) 0 (fop .quo .f32 (za3 a0 g1 x1) (z6b a0 g1 x1)) (z6b a0 g1 x1))) (br (fcmp .eql .f32 (z69 a0 g1 x1) 0) (k_ (z06 a0 g1 x1) 0 0 (z69 a0 g1 x1)) (k_ (z06 a0 g1 x1) 0 (fop .quo .f32 (z4w a0 g1 x1) (z69 a0 g1 x1)) (z69 a0 g1 x1)))))) (grd (zbj a0 g1 x1) (grd (okIx (addI .i64 (z06 a0 g1 x1) 1) a0) (br (z8p a0 g1 x1) (br (fcmp .lss .f32 (z4f x1) (z6w a0 g1 x1)) (br (fcmp .eql .f32 (z6a a0 g1 x1) 0) (k_ (z06 a0 g1 x1) (addI .i64 (z06 a0 g1 x1) 1) 0 (z6a a0 g1 x1)) (k_ (z06 a0 g1 x1) (addI .i64 (z06 a0 g1 x1) 1) (fop .quo .f32 (za3 a0 g1 x1) (z6a a0 g1 x1)) (z6a a0 g1 x1))) (br (z8p a0 g1 x1) (br (fcmp .eql .f32 (z2d a0 g1 x1) 0) (k_ (z06 a0 g1 x1) (addI .i64 (z06 a0 g1 x1) 1) 0 (z2d a0 g1 x1)) (k_ (z06 a0 g1 x1) (addI .i64 (z06 a0 g1 x1) 1) (fop .quo .f32 (z4w a0 g1 x1) (z2d a0 g1 x1)) (z2d a0 g1 x1))) (br (fcmp .eql .f32 (z2c a0 g1 x1) 0) (k_ (z06 a0 g1 x1) (addI .i64 (z06 a0 g1 x1) 1) 0 (z2c a0 g1 x1)) (k_ (z06 a0 g1 x1) (addI .i64 (z06 a0 g1 x1) 1) (fop .quo .f32 (z4w a0 g1 x1) (z2c a0 g1 x1)) (z2c a0 g1 x1))))) (br (z8p a0 g1 x1) (br (fcmp .eql .f32 (z2d a0 g1 x1) 0) (k_ (z06 a0 g1 x1) (addI .i64 (z06 a0 g1 x1) 1) 0 (z2d a0 g1 x1)) (k_ (z06 a0 g1 x1) (addI .i64 (z06 a0 g1 x1) 1) (fop .quo .f32 (z4w a0 g1 x1) (z2d a0 g1 x1)) (z2d a0 g1 x1))) (br (fcmp .eql .f32 (z2c a0 g1 x1) 0) (k_ (z06 a0 g1 x1) (addI .i64 (z06 a0 g1 x1) 1) 0 (z2c a0 g1 x1)) (k_ (z06 a0 g1 x1) (addI .i64 (z06 a0 g1 x1) 1) (fop .quo .f32 (z4w a0 g1 x1) (z2c a0 g1 x1)) (z2c a0 g1 x1)))))))))))
def z3b:Option (Int×Int×Nat×Nat):=zdo a0 g1 a2 g3 a4 g5 a6 (fun c0_ c1_ c2_ c3_=>some (c0_,c1_,c2_,c3_))
theorem y51:Nt4 (fun {R}=>zdo (R:=R) a0 g1 a2 g3 a4 g5 a6):=by
 intro R R' o h0 k;unfold zdo;repeat (first | apply grd_out h0 | apply br_out | rfl)
def y04:Bool:=(z3b a0 g1 a2 g3 a4 g5 a6).isSome
def zbe:Int:=((z3b a0 g1 a2 g3 a4 g5 a6).getD default).1
def zog:Int:=((z3b a0 g1 a2 g3 a4 g5 a6).getD default).2.1
def zws:Nat:=((z3b a0 g1 a2 g3 a4 g5 a6).getD default).2.2.1
def yb4:Nat:=((z3b a0 g1 a2 g3 a4 g5 a6).getD default).2.2.2
def z1p{R:Type}(kn_:Int→Option R)(k0_:Unit→Option R)(k1_:Int→Bool→Option R):Option R:=(br (ltI c4 c1) (grd (okIx c4 a0) (grd (zns (gF g2 (ixO 0 c4 1)) 3204448256 1056964608) (br (bnot (zlb (gF g2 (ixO 0 c4 1)) 3204448256 1056964608)) (k0_ ()) (br (ltI 0 c4) (grd (okIx (subI .i64 c4 1) a3) (br (fcmp .geq .f32 (gF g2 (ixO 0 (subI .i64 c4 1) 1)) (gF g2 (ixO 0 c4 1))) (k0_ ()) (kn_ (addI .i64 c4 1)))) (kn_ (addI .i64 c4 1)))))) (k1_ c4 (ltI c4 c1)))
theorem zs2{R R':Type}(o:Option R→Option R')(h0:o none=none)(kn_:Int→Option R)(k0_:Unit→Option R)(k1_:Int→Bool→Option R):z1p a0 c1 g2 a3 c4 (fun t44'=>o (kn_ t44')) (fun _=>o (k0_ ())) (fun c0_ c1_=>o (k1_ c0_ c1_))=o (z1p a0 c1 g2 a3 c4 kn_ k0_ k1_):=by
 unfold z1p
 repeat (first | apply grd_out h0 | apply br_out | rfl)
def z0s(q2z:Nat)(t43:Int)(b0:List Nat)(q1l:Nat):Nat→Int→Option ((Unit)⊕(Int×Bool))
 | 0,_=>none
 | n+1,t44=>z1p q2z t43 b0 q1l  t44  (fun t44'=>z0s q2z t43 b0 q1l n t44') (fun _=>some (Sum.inl ())) (fun c0_ c1_=>some (Sum.inr (c0_,c1_)))
theorem zek:z0s a0 c1 g2 a3 (a4+1) c5=z1p a0 c1 g2 a3  c5  (fun t44'=>z0s a0 c1 g2 a3 a4 t44') (fun _=>some (Sum.inl ())) (fun c0_ c1_=>some (Sum.inr (c0_,c1_))):=rfl
def z8a:Bool:=(z0s a0 c1 g2 a3 big c4).isSome
def z7i:Bool:=oL (z0s a0 c1 g2 a3 big c4)
def ztm:Int:=((tR (z0s a0 c1 g2 a3 big c4)).getD default).1
def ztn:Bool:=((tR (z0s a0 c1 g2 a3 big c4)).getD default).2
def zal{R:Type}(k_:Bool→Option R):Option R:=(br (ltI (Int.ofNat a0) 2) (k_ Bool.false) (br (ltI 24 (Int.ofNat a0)) (k_ Bool.false) (br (neI (Int.ofNat a2) (Int.ofNat a0)) (k_ Bool.false) (br (neI (Int.ofNat a4) (Int.ofNat a0)) (k_ Bool.false) (grd (zl1 a2 (pF g3 0 (muN a2 1))) (br (bnot (zit a2 (pF g3 0 (muN a2 1)))) (k_ Bool.false) (grd (zx2 a4 (pF g5 0 (muN a4 1))) (br (bnot (zut a4 (pF g5 0 (muN a4 1)))) (k_ Bool.false) (grd (z8a a0 (Int.ofNat a0) g1 a0 0) (br (z7i a0 (Int.ofNat a0) g1 a0 0) (k_ Bool.false) (k_ Bool.true)))))))))))
def z4e:Option (Bool):=zal a0 g1 a2 g3 a4 g5 (fun c0_=>some c0_)
theorem zwj:Nt1 (fun {R}=>zal (R:=R) a0 g1 a2 g3 a4 g5):=by
 intro R R' o h0 k;unfold zal;repeat (first | apply grd_out h0 | apply br_out | rfl)
def zp1:Bool:=(z4e a0 g1 a2 g3 a4 g5).isSome
def znj:Bool:=((z4e a0 g1 a2 g3 a4 g5).getD default)
def zcu{R:Type}(k_:Nat→Option R):Option R:=(grd (zk3 a0 (pF g1 0 (muN a0 1)) a2 (pF g3 0 (muN a2 1)) a4 (pF g5 0 (muN a4 1)) a8) (br (fcmp .neq .f32 (z3s a0 (pF g1 0 (muN a0 1)) a2 (pF g3 0 (muN a2 1)) a4 (pF g5 0 (muN a4 1)) a8) (z7f a0 (pF g1 0 (muN a0 1)) a2 (pF g3 0 (muN a2 1)) a4 (pF g5 0 (muN a4 1)) a8)) (grd (okIx (z2m a0 (pF g1 0 (muN a0 1)) a2 (pF g3 0 (muN a2 1)) a4 (pF g5 0 (muN a4 1)) a8) a6) (grd (okIx (z2l a0 (pF g1 0 (muN a0 1)) a2 (pF g3 0 (muN a2 1)) a4 (pF g5 0 (muN a4 1)) a8) a6) (grd (zve (gF g7 (ixO 0 (z2m a0 (pF g1 0 (muN a0 1)) a2 (pF g3 0 (muN a2 1)) a4 (pF g5 0 (muN a4 1)) a8) 1)) (gF g7 (ixO 0 (z2l a0 (pF g1 0 (muN a0 1)) a2 (pF g3 0 (muN a2 1)) a4 (pF g5 0 (muN a4 1)) a8) 1)) (fop .quo .f32 (fop .sub .f32 (zb6 a0 (pF g1 0 (muN a0 1)) a2 (pF g3 0 (muN a2 1)) a4 (pF g5 0 (muN a4 1)) a8) (z3s a0 (pF g1 0 (muN a0 1)) a2 (pF g3 0 (muN a2 1)) a4 (pF g5 0 (muN a4 1)) a8)) (fop .sub .f32 (z7f a0 (pF g1 0 (muN a0 1)) a2 (pF g3 0 (muN a2 1)) a4 (pF g5 0 (muN a4 1)) a8) (z3s a0 (pF g1 0 (muN a0 1)) a2 (pF g3 0 (muN a2 1)) a4 (pF g5 0 (muN a4 1)) a8)))) (k_ (zra (gF g7 (ixO 0 (z2m a0 (pF g1 0 (muN a0 1)) a2 (pF g3 0 (muN a2 1)) a4 (pF g5 0 (muN a4 1)) a8) 1)) (gF g7 (ixO 0 (z2l a0 (pF g1 0 (muN a0 1)) a2 (pF g3 0 (muN a2 1)) a4 (pF g5 0 (muN a4 1)) a8) 1)) (fop .quo .f32 (fop .sub .f32 (zb6 a0 (pF g1 0 (muN a0 1)) a2 (pF g3 0 (muN a2 1)) a4 (pF g5 0 (muN a4 1)) a8) (z3s a0 (pF g1 0 (muN a0 1)) a2 (pF g3 0 (muN a2 1)) a4 (pF g5 0 (muN a4 1)) a8)) (fop .sub .f32 (z7f a0 (pF g1 0 (muN a0 1)) a2 (pF g3 0 (muN a2 1)) a4 (pF g5 0 (muN a4 1)) a8) (z3s a0 (pF g1 0 (muN a0 1)) a2 (pF g3 0 (muN a2 1)) a4 (pF g5 0 (muN a4 1)) a8)))))))) (grd (okIx (z2m a0 (pF g1 0 (muN a0 1)) a2 (pF g3 0 (muN a2 1)) a4 (pF g5 0 (muN a4 1)) a8) a6) (grd (okIx (z2l a0 (pF g1 0 (muN a0 1)) a2 (pF g3 0 (muN a2 1)) a4 (pF g5 0 (muN a4 1)) a8) a6) (grd (zve (gF g7 (ixO 0 (z2m a0 (pF g1 0 (muN a0 1)) a2 (pF g3 0 (muN a2 1)) a4 (pF g5 0 (muN a4 1)) a8) 1)) (gF g7 (ixO 0 (z2l a0 (pF g1 0 (muN a0 1)) a2 (pF g3 0 (muN a2 1)) a4 (pF g5 0 (muN a4 1)) a8) 1)) 0) (k_ (zra (gF g7 (ixO 0 (z2m a0 (pF g1 0 (muN a0 1)) a2 (pF g3 0 (muN a2 1)) a4 (pF g5 0 (muN a4 1)) a8) 1)) (gF g7 (ixO 0 (z2l a0 (pF g1 0 (muN a0 1)) a2 (pF g3 0 (muN a2 1)) a4 (pF g5 0 (muN a4 1)) a8) 1)) 0)))))))
def z5f:Option (Nat):=zcu a0 g1 a2 g3 a4 g5 a6 g7 a8 (fun c0_=>some c0_)
theorem zyq:Nt1 (fun {R}=>zcu (R:=R) a0 g1 a2 g3 a4 g5 a6 g7 a8):=by
 intro R R' o h0 k;unfold zcu;repeat (first | apply grd_out h0 | apply br_out | rfl)
def zjl:Bool:=(z5f a0 g1 a2 g3 a4 g5 a6 g7 a8).isSome
def z8d:Nat:=((z5f a0 g1 a2 g3 a4 g5 a6 g7 a8).getD default)
def znr{R:Type}(k_:Nat→Option R):Option R:=(grd (y04 a0 (pF g1 0 (muN a0 1)) a2 (pF g3 0 (muN a2 1)) a4 (pF g5 0 (muN a4 1)) a8) (grd (okIx (zbe a0 (pF g1 0 (muN a0 1)) a2 (pF g3 0 (muN a2 1)) a4 (pF g5 0 (muN a4 1)) a8) a6) (grd (okIx (zog a0 (pF g1 0 (muN a0 1)) a2 (pF g3 0 (muN a2 1)) a4 (pF g5 0 (muN a4 1)) a8) a6) (grd (okIx (zbe a0 (pF g1 0 (muN a0 1)) a2 (pF g3 0 (muN a2 1)) a4 (pF g5 0 (muN a4 1)) a8) a6) (k_ (fop .add .f32 (gF g7 (ixO 0 (zbe a0 (pF g1 0 (muN a0 1)) a2 (pF g3 0 (muN a2 1)) a4 (pF g5 0 (muN a4 1)) a8) 1)) (fop .mul .f32 (zws a0 (pF g1 0 (muN a0 1)) a2 (pF g3 0 (muN a2 1)) a4 (pF g5 0 (muN a4 1)) a8) (fop .sub .f32 (gF g7 (ixO 0 (zog a0 (pF g1 0 (muN a0 1)) a2 (pF g3 0 (muN a2 1)) a4 (pF g5 0 (muN a4 1)) a8) 1)) (gF g7 (ixO 0 (zbe a0 (pF g1 0 (muN a0 1)) a2 (pF g3 0 (muN a2 1)) a4 (pF g5 0 (muN a4 1)) a8) 1))))))))))
def zae:Option (Nat):=znr a0 g1 a2 g3 a4 g5 a6 g7 a8 (fun c0_=>some c0_)
theorem y9q:Nt1 (fun {R}=>znr (R:=R) a0 g1 a2 g3 a4 g5 a6 g7 a8):=by
 intro R R' o h0 k;unfold znr;repeat (first | apply grd_out h0 | apply br_out | rfl)
def zud:Bool:=(zae a0 g1 a2 g3 a4 g5 a6 g7 a8).isSome
def zr9:Nat:=((zae a0 g1 a2 g3 a4 g5 a6 g7 a8).getD default)
def zak{R:Type}(q0g:Int)(q0n q0m:Nat)(i:Int)(q1j q0o:Nat)(k_:Nat→Nat→Option R):Option R:=(grd (okIx i a6) (grd (zjl a0 (pF g1 0 (muN a0 1)) a2 (pF g3 0 (muN a2 1)) a4 (pF g5 0 (muN a4 1)) a2 (pF g3 0 (muN a2 1)) (fop .sub .f32 (fop .sub .f32 q1j (gF g7 (Nat.succ (Nat.succ (ixO 0 i 3))))) q0o)) (grd (zjl a0 (pF g1 0 (muN a0 1)) a2 (pF g3 0 (muN a2 1)) a4 (pF g5 0 (muN a4 1)) a4 (pF g5 0 (muN a4 1)) (fop .sub .f32 (fop .sub .f32 q1j (gF g7 (Nat.succ (Nat.succ (ixO 0 i 3))))) q0o)) (grd (z4s q1j) (grd (z4s (fop .add .f32 q1j 1048576000)) (k_ (fop .add .f32 (fop .mul .f32 (z8d a0 (pF g1 0 (muN a0 1)) a2 (pF g3 0 (muN a2 1)) a4 (pF g5 0 (muN a4 1)) a2 (pF g3 0 (muN a2 1)) (fop .sub .f32 (fop .sub .f32 q1j (gF g7 (Nat.succ (Nat.succ (ixO 0 i 3))))) q0o)) (z1l (fop .add .f32 q1j 1048576000))) (fop .mul .f32 (z8d a0 (pF g1 0 (muN a0 1)) a2 (pF g3 0 (muN a2 1)) a4 (pF g5 0 (muN a4 1)) a4 (pF g5 0 (muN a4 1)) (fop .sub .f32 (fop .sub .f32 q1j (gF g7 (Nat.succ (Nat.succ (ixO 0 i 3))))) q0o)) (z1l q1j))) (fop .sub .f32 (fop .mul .f32 (z8d a0 (pF g1 0 (muN a0 1)) a2 (pF g3 0 (muN a2 1)) a4 (pF g5 0 (muN a4 1)) a2 (pF g3 0 (muN a2 1)) (fop .sub .f32 (fop .sub .f32 q1j (gF g7 (Nat.succ (Nat.succ (ixO 0 i 3))))) q0o)) (z1l q1j)) (fop .mul .f32 (z8d a0 (pF g1 0 (muN a0 1)) a2 (pF g3 0 (muN a2 1)) a4 (pF g5 0 (muN a4 1)) a4 (pF g5 0 (muN a4 1)) (fop .sub .f32 (fop .sub .f32 q1j (gF g7 (Nat.succ (Nat.succ (ixO 0 i 3))))) q0o)) (z1l (fop .add .f32 q1j 1048576000))))))))))
def z2f:Option (Nat×Nat):=zak a0 g1 a2 g3 a4 g5 a6 g7 c8 a9 a10 c11 a12 a13 (fun c0_ c1_=>some (c0_,c1_))
theorem zvx:Nt2 (fun {R}=>zak (R:=R) a0 g1 a2 g3 a4 g5 a6 g7 c8 a9 a10 c11 a12 a13):=by
 intro R R' o h0 k;unfold zak;repeat (first | apply grd_out h0 | apply br_out | rfl)
def zgl:Bool:=(z2f a0 g1 a2 g3 a4 g5 a6 g7 c8 a9 a10 c11 a12 a13).isSome
def zfs:Nat:=((z2f a0 g1 a2 g3 a4 g5 a6 g7 c8 a9 a10 c11 a12 a13).getD default).1
def zez:Nat:=((z2f a0 g1 a2 g3 a4 g5 a6 g7 c8 a9 a10 c11 a12 a13).getD default).2
def zig{R:Type}(k_:Nat→Option R):Option R:=(grd (zud a0 (pF g1 0 (muN a0 1)) a2 (pF g3 0 (muN a2 1)) a4 (pF g5 0 (muN a4 1)) a2 (pF g3 0 (muN a2 1)) a6) (k_ (zr9 a0 (pF g1 0 (muN a0 1)) a2 (pF g3 0 (muN a2 1)) a4 (pF g5 0 (muN a4 1)) a2 (pF g3 0 (muN a2 1)) a6)))
def z80:Option (Nat):=zig a0 g1 a2 g3 a4 g5 a6 (fun c0_=>some c0_)
theorem y61:Nt1 (fun {R}=>zig (R:=R) a0 g1 a2 g3 a4 g5 a6):=by
 intro R R' o h0 k;unfold zig;repeat (first | apply grd_out h0 | apply br_out | rfl)
def y08:Bool:=(z80 a0 g1 a2 g3 a4 g5 a6).isSome
def znw:Nat:=((z80 a0 g1 a2 g3 a4 g5 a6).getD default)
def zid{R:Type}(k_:Nat→Option R):Option R:=(grd (zud a0 (pF g1 0 (muN a0 1)) a2 (pF g3 0 (muN a2 1)) a4 (pF g5 0 (muN a4 1)) a4 (pF g5 0 (muN a4 1)) a6) (k_ (zr9 a0 (pF g1 0 (muN a0 1)) a2 (pF g3 0 (muN a2 1)) a4 (pF g5 0 (muN a4 1)) a4 (pF g5 0 (muN a4 1)) a6)))
def z83:Option (Nat):=zid a0 g1 a2 g3 a4 g5 a6 (fun c0_=>some c0_)
theorem y55:Nt1 (fun {R}=>zid (R:=R) a0 g1 a2 g3 a4 g5 a6):=by
 intro R R' o h0 k;unfold zid;repeat (first | apply grd_out h0 | apply br_out | rfl)
def zz3:Bool:=(z83 a0 g1 a2 g3 a4 g5 a6).isSome
def zni:Nat:=((z83 a0 g1 a2 g3 a4 g5 a6).getD default)
def zah{R:Type}(k_:Nat→Nat→Option R):Option R:=(grd (zgl a0 (pF g1 0 (muN a0 1)) a2 (pF g3 0 (muN a2 1)) a4 (pF g5 0 (muN a4 1)) a6 (pF g7 0 (muN a6 3)) c8 a9 a10 c11 a12 a13) (grd (z4s a12) (grd (z4s (fop .add .f32 a12 1048576000)) (grd (zm8 a0 (pF g1 0 (muN a0 1)) a2 (pF g3 0 (muN a2 1)) a4 (pF g5 0 (muN a4 1)) a6 (pF g7 0 (muN a6 3)) c8 a9 a10 c11) (grd (zma a0 (pF g1 0 (muN a0 1)) a2 (pF g3 0 (muN a2 1)) a4 (pF g5 0 (muN a4 1)) a6 (pF g7 0 (muN a6 3)) c8 a9 a10 c11 a12) (k_ (fop .quo .f32 (fop .mul .f32 (zc9 a0 (pF g1 0 (muN a0 1)) a2 (pF g3 0 (muN a2 1)) a4 (pF g5 0 (muN a4 1)) a6 (pF g7 0 (muN a6 3)) c8 a9 a10 c11) (zfs a0 (pF g1 0 (muN a0 1)) a2 (pF g3 0 (muN a2 1)) a4 (pF g5 0 (muN a4 1)) a6 (pF g7 0 (muN a6 3)) c8 a9 a10 c11 a12 a13)) (fop .mul .f32 (fop .mul .f32 (fop .mul .f32 1082130432 (zcf a0 (pF g1 0 (muN a0 1)) a2 (pF g3 0 (muN a2 1)) a4 (pF g5 0 (muN a4 1)) a6 (pF g7 0 (muN a6 3)) c8 a9 a10 c11 a12)) (z1l a12)) (z1l a12))) (fop .quo .f32 (fop .mul .f32 (zc9 a0 (pF g1 0 (muN a0 1)) a2 (pF g3 0 (muN a2 1)) a4 (pF g5 0 (muN a4 1)) a6 (pF g7 0 (muN a6 3)) c8 a9 a10 c11) (zez a0 (pF g1 0 (muN a0 1)) a2 (pF g3 0 (muN a2 1)) a4 (pF g5 0 (muN a4 1)) a6 (pF g7 0 (muN a6 3)) c8 a9 a10 c11 a12 a13)) (fop .mul .f32 (fop .mul .f32 (fop .mul .f32 1082130432 (zcf a0 (pF g1 0 (muN a0 1)) a2 (pF g3 0 (muN a2 1)) a4 (pF g5 0 (muN a4 1)) a6 (pF g7 0 (muN a6 3)) c8 a9 a10 c11 a12)) (z1l a12)) (z1l (fop .add .f32 a12 1048576000))))))))))
def z36:Option (Nat×Nat):=zah a0 g1 a2 g3 a4 g5 a6 g7 c8 a9 a10 c11 a12 a13 (fun c0_ c1_=>some (c0_,c1_))
theorem zw5:Nt2 (fun {R}=>zah (R:=R) a0 g1 a2 g3 a4 g5 a6 g7 c8 a9 a10 c11 a12 a13):=by
 intro R R' o h0 k;unfold zah;repeat (first | apply grd_out h0 | apply br_out | rfl)
def zgu:Bool:=(z36 a0 g1 a2 g3 a4 g5 a6 g7 c8 a9 a10 c11 a12 a13).isSome
def zex:Nat:=((z36 a0 g1 a2 g3 a4 g5 a6 g7 c8 a9 a10 c11 a12 a13).getD default).1
def zeu:Nat:=((z36 a0 g1 a2 g3 a4 g5 a6 g7 c8 a9 a10 c11 a12 a13).getD default).2
def zfv{R:Type}(q0g:Int)(q0n q0m:Nat)(i:Int)(q1j q0o:Nat)(k_:Nat→Nat→Option R):Option R:=(grd (okIx i a6) (grd (y08 a0 (pF g1 0 (muN a0 1)) a2 (pF g3 0 (muN a2 1)) a4 (pF g5 0 (muN a4 1)) (fop .sub .f32 (fop .sub .f32 q1j (gF g7 (Nat.succ (Nat.succ (ixO 0 i 3))))) q0o)) (grd (zz3 a0 (pF g1 0 (muN a0 1)) a2 (pF g3 0 (muN a2 1)) a4 (pF g5 0 (muN a4 1)) (fop .sub .f32 (fop .sub .f32 q1j (gF g7 (Nat.succ (Nat.succ (ixO 0 i 3))))) q0o)) (grd (z7r q1j) (grd (z7r (fop .add .f32 q1j 1048576000)) (k_ (fop .add .f32 (fop .mul .f32 (znw a0 (pF g1 0 (muN a0 1)) a2 (pF g3 0 (muN a2 1)) a4 (pF g5 0 (muN a4 1)) (fop .sub .f32 (fop .sub .f32 q1j (gF g7 (Nat.succ (Nat.succ (ixO 0 i 3))))) q0o)) (z1h (fop .add .f32 q1j 1048576000))) (fop .mul .f32 (zni a0 (pF g1 0 (muN a0 1)) a2 (pF g3 0 (muN a2 1)) a4 (pF g5 0 (muN a4 1)) (fop .sub .f32 (fop .sub .f32 q1j (gF g7 (Nat.succ (Nat.succ (ixO 0 i 3))))) q0o)) (z1h q1j))) (fop .sub .f32 (fop .mul .f32 (znw a0 (pF g1 0 (muN a0 1)) a2 (pF g3 0 (muN a2 1)) a4 (pF g5 0 (muN a4 1)) (fop .sub .f32 (fop .sub .f32 q1j (gF g7 (Nat.succ (Nat.succ (ixO 0 i 3))))) q0o)) (z1h q1j)) (fop .mul .f32 (zni a0 (pF g1 0 (muN a0 1)) a2 (pF g3 0 (muN a2 1)) a4 (pF g5 0 (muN a4 1)) (fop .sub .f32 (fop .sub .f32 q1j (gF g7 (Nat.succ (Nat.succ (ixO 0 i 3))))) q0o)) (z1h (fop .add .f32 q1j 1048576000))))))))))
def z4q:Option (Nat×Nat):=zfv a0 g1 a2 g3 a4 g5 a6 g7 c8 a9 a10 c11 a12 a13 (fun c0_ c1_=>some (c0_,c1_))
theorem y17:Nt2 (fun {R}=>zfv (R:=R) a0 g1 a2 g3 a4 g5 a6 g7 c8 a9 a10 c11 a12 a13):=by
 intro R R' o h0 k;unfold zfv;repeat (first | apply grd_out h0 | apply br_out | rfl)
def zvk:Bool:=(z4q a0 g1 a2 g3 a4 g5 a6 g7 c8 a9 a10 c11 a12 a13).isSome
def zjq:Nat:=((z4q a0 g1 a2 g3 a4 g5 a6 g7 c8 a9 a10 c11 a12 a13).getD default).1
def zjp:Nat:=((z4q a0 g1 a2 g3 a4 g5 a6 g7 c8 a9 a10 c11 a12 a13).getD default).2
def z25{R:Type}(kn_:Nat→Int→Option R)(k0_:Unit→Option R)(k1_:Nat→Int→Bool→Option R):Option R:=(br (ltI c5 c1) (grd (okIx c5 a0) (br (fcmp .gtr .f32 (gF g2 (ixO 0 c5 3)) a4) (br (bnot (fcmp .lss .f32 (gF g2 (ixO 0 c5 3)) a3)) (k0_ ()) (grd (z8b 1 (pF [(gF g2 (Nat.succ (ixO 0 c5 3)))] 0 (muN 1 1))) (br (bnot (z7m 1 (pF [(gF g2 (Nat.succ (ixO 0 c5 3)))] 0 (muN 1 1)))) (k0_ ()) (grd (z2s (gF g2 (Nat.succ (Nat.succ (ixO 0 c5 3))))) (br (bnot (z2b (gF g2 (Nat.succ (Nat.succ (ixO 0 c5 3)))))) (k0_ ()) (kn_ (gF g2 (ixO 0 c5 3)) (addI .i64 c5 1))))))) (br (bnot Bool.false) (k0_ ()) (grd (z8b 1 (pF [(gF g2 (Nat.succ (ixO 0 c5 3)))] 0 (muN 1 1))) (br (bnot (z7m 1 (pF [(gF g2 (Nat.succ (ixO 0 c5 3)))] 0 (muN 1 1)))) (k0_ ()) (grd (z2s (gF g2 (Nat.succ (Nat.succ (ixO 0 c5 3))))) (br (bnot (z2b (gF g2 (Nat.succ (Nat.succ (ixO 0 c5 3)))))) (k0_ ()) (kn_ (gF g2 (ixO 0 c5 3)) (addI .i64 c5 1))))))))) (k1_ a4 c5 (ltI c5 c1)))
theorem zvp{R R':Type}(o:Option R→Option R')(h0:o none=none)(kn_:Nat→Int→Option R)(k0_:Unit→Option R)(k1_:Nat→Int→Bool→Option R):z25 a0 c1 g2 a3 a4 c5 (fun t4' t45'=>o (kn_ t4' t45')) (fun _=>o (k0_ ())) (fun c0_ c1_ c2_=>o (k1_ c0_ c1_ c2_))=o (z25 a0 c1 g2 a3 a4 c5 kn_ k0_ k1_):=by
 unfold z25
 repeat (first | apply grd_out h0 | apply br_out | rfl)
def z0h(q2x:Nat)(t44:Int)(b3:List Nat)(q0z:Nat):Nat→Nat→Int→Option ((Unit)⊕(Nat×Int×Bool))
 | 0,_,_=>none
 | n+1,t4,t45=>z25 q2x t44 b3 q0z  t4 t45  (fun t4' t45'=>z0h q2x t44 b3 q0z n t4' t45') (fun _=>some (Sum.inl ())) (fun c0_ c1_ c2_=>some (Sum.inr (c0_,c1_,c2_)))
theorem zh9:z0h a0 c1 g2 a3 (a4+1) a5 c6=z25 a0 c1 g2 a3  a5 c6  (fun t4' t45'=>z0h a0 c1 g2 a3 a4 t4' t45') (fun _=>some (Sum.inl ())) (fun c0_ c1_ c2_=>some (Sum.inr (c0_,c1_,c2_))):=rfl
def z9u:Bool:=(z0h a0 c1 g2 a3 big a4 c5).isSome
def z8w:Bool:=oL (z0h a0 c1 g2 a3 big a4 c5)
def zwg:Nat:=((tR (z0h a0 c1 g2 a3 big a4 c5)).getD default).1
def zwf:Int:=((tR (z0h a0 c1 g2 a3 big a4 c5)).getD default).2.1
def zw9:Bool:=((tR (z0h a0 c1 g2 a3 big a4 c5)).getD default).2.2
def zdf{R:Type}(k_:Bool→Option R):Option R:=(grd (zp1 a0 (pF g1 0 (muN a0 1)) a2 (pF g3 0 (muN a2 1)) a4 (pF g5 0 (muN a4 1))) (br (bnot (znj a0 (pF g1 0 (muN a0 1)) a2 (pF g3 0 (muN a2 1)) a4 (pF g5 0 (muN a4 1)))) (k_ Bool.false) (grd (z97 c8 1 6) (br (bnot (z45 c8 1 6)) (k_ Bool.false) (br (ltI (Int.ofNat a6) 2) (k_ Bool.false) (br (ltI 12 (Int.ofNat a6)) (k_ Bool.false) (grd (zq2 a9) (br (bnot (zmq a9)) (k_ Bool.false) (grd (z2s a10) (br (bnot (z2b a10)) (k_ Bool.false) (grd (z9u a6 (Int.ofNat a6) g7 a10 a9 0) (br (z8w a6 (Int.ofNat a6) g7 a10 a9 0) (k_ Bool.false) (k_ Bool.true)))))))))))))
def z5j:Option (Bool):=zdf a0 g1 a2 g3 a4 g5 a6 g7 c8 a9 a10 (fun c0_=>some c0_)
theorem zyx:Nt1 (fun {R}=>zdf (R:=R) a0 g1 a2 g3 a4 g5 a6 g7 c8 a9 a10):=by
 intro R R' o h0 k;unfold zdf;repeat (first | apply grd_out h0 | apply br_out | rfl)
def zct:Bool:=(z5j a0 g1 a2 g3 a4 g5 a6 g7 c8 a9 a10).isSome
def z8g:Bool:=((z5j a0 g1 a2 g3 a4 g5 a6 g7 c8 a9 a10).getD default)
def zi7{R:Type}(k_:Nat→Nat→Nat→Nat→Option R):Option R:=(grd (zvk a0 (pF g1 0 (muN a0 1)) a2 (pF g3 0 (muN a2 1)) a4 (pF g5 0 (muN a4 1)) a6 (pF g7 0 (muN a6 3)) c8 a9 a10 c11 a12 a13) (grd (z7r a12) (grd (z7r (fop .add .f32 a12 1048576000)) (grd (y2t a0 (pF g1 0 (muN a0 1)) a2 (pF g3 0 (muN a2 1)) a4 (pF g5 0 (muN a4 1)) a6 (pF g7 0 (muN a6 3)) c8 a9 a10 c11 (z1h a12)) (grd (zqw a0 (pF g1 0 (muN a0 1)) a2 (pF g3 0 (muN a2 1)) a4 (pF g5 0 (muN a4 1)) a6 (pF g7 0 (muN a6 3)) c8 a9 a10 c11) (k_ (fop .quo .f32 (fop .mul .f32 (zgf a0 (pF g1 0 (muN a0 1)) a2 (pF g3 0 (muN a2 1)) a4 (pF g5 0 (muN a4 1)) a6 (pF g7 0 (muN a6 3)) c8 a9 a10 c11) (zjq a0 (pF g1 0 (muN a0 1)) a2 (pF g3 0 (muN a2 1)) a4 (pF g5 0 (muN a4 1)) a6 (pF g7 0 (muN a6 3)) c8 a9 a10 c11 a12 a13)) (fop .mul .f32 (fop .mul .f32 (fop .mul .f32 1082130432 (zq5 a0 (pF g1 0 (muN a0 1)) a2 (pF g3 0 (muN a2 1)) a4 (pF g5 0 (muN a4 1)) a6 (pF g7 0 (muN a6 3)) c8 a9 a10 c11 (z1h a12))) (z1h a12)) (z1h a12))) (fop .quo .f32 (fop .mul .f32 (zgf a0 (pF g1 0 (muN a0 1)) a2 (pF g3 0 (muN a2 1)) a4 (pF g5 0 (muN a4 1)) a6 (pF g7 0 (muN a6 3)) c8 a9 a10 c11) (zjp a0 (pF g1 0 (muN a0 1)) a2 (pF g3 0 (muN a2 1)) a4 (pF g5 0 (muN a4 1)) a6 (pF g7 0 (muN a6 3)) c8 a9 a10 c11 a12 a13)) (fop .mul .f32 (fop .mul .f32 (fop .mul .f32 1082130432 (zq5 a0 (pF g1 0 (muN a0 1)) a2 (pF g3 0 (muN a2 1)) a4 (pF g5 0 (muN a4 1)) a6 (pF g7 0 (muN a6 3)) c8 a9 a10 c11 (z1h a12))) (z1h a12)) (z1h (fop .add .f32 a12 1048576000)))) (zjq a0 (pF g1 0 (muN a0 1)) a2 (pF g3 0 (muN a2 1)) a4 (pF g5 0 (muN a4 1)) a6 (pF g7 0 (muN a6 3)) c8 a9 a10 c11 a12 a13) (zjp a0 (pF g1 0 (muN a0 1)) a2 (pF g3 0 (muN a2 1)) a4 (pF g5 0 (muN a4 1)) a6 (pF g7 0 (muN a6 3)) c8 a9 a10 c11 a12 a13)))))))
def z46:Option (Nat×Nat×Nat×Nat):=zi7 a0 g1 a2 g3 a4 g5 a6 g7 c8 a9 a10 c11 a12 a13 (fun c0_ c1_ c2_ c3_=>some (c0_,c1_,c2_,c3_))
theorem y5n:Nt4 (fun {R}=>zi7 (R:=R) a0 g1 a2 g3 a4 g5 a6 g7 c8 a9 a10 c11 a12 a13):=by
 intro R R' o h0 k;unfold zi7;repeat (first | apply grd_out h0 | apply br_out | rfl)
def zpp:Bool:=(z46 a0 g1 a2 g3 a4 g5 a6 g7 c8 a9 a10 c11 a12 a13).isSome
def zn0:Nat:=((z46 a0 g1 a2 g3 a4 g5 a6 g7 c8 a9 a10 c11 a12 a13).getD default).1
def zof:Nat:=((z46 a0 g1 a2 g3 a4 g5 a6 g7 c8 a9 a10 c11 a12 a13).getD default).2.1
def zwp:Nat:=((z46 a0 g1 a2 g3 a4 g5 a6 g7 c8 a9 a10 c11 a12 a13).getD default).2.2.1
def zwq:Nat:=((z46 a0 g1 a2 g3 a4 g5 a6 g7 c8 a9 a10 c11 a12 a13).getD default).2.2.2
def z9d{R:Type}(k_:Nat→Option R):Option R:=(grd (zgu a0 (pF g1 0 (muN a0 1)) a2 (pF g3 0 (muN a2 1)) a4 (pF g5 0 (muN a4 1)) a6 (pF g7 0 (muN a6 3)) c8 a9 a10 c11 a12 a15) (grd (z4s a12) (grd (z4s (fop .add .f32 a12 1048576000)) (grd (okIx c11 a6) (k_ (fop .sub .f32 (fop .mul .f32 (z1l a12) (fop .add .f32 1065353216 (zex a0 (pF g1 0 (muN a0 1)) a2 (pF g3 0 (muN a2 1)) a4 (pF g5 0 (muN a4 1)) a6 (pF g7 0 (muN a6 3)) c8 a9 a10 c11 a12 a15))) (fop .mul .f32 (fop .mul .f32 (fop .quo .f32 a13 (fop .mul .f32 a14 (gF g7 (ixO 0 c11 3)))) (z1l (fop .add .f32 a12 1048576000))) (fop .sub .f32 1065353216 (zeu a0 (pF g1 0 (muN a0 1)) a2 (pF g3 0 (muN a2 1)) a4 (pF g5 0 (muN a4 1)) a6 (pF g7 0 (muN a6 3)) c8 a9 a10 c11 a12 a15)))))))))
def z2r:Option (Nat):=z9d a0 g1 a2 g3 a4 g5 a6 g7 c8 a9 a10 c11 a12 a13 a14 a15 (fun c0_=>some c0_)
theorem zuw:Nt1 (fun {R}=>z9d (R:=R) a0 g1 a2 g3 a4 g5 a6 g7 c8 a9 a10 c11 a12 a13 a14 a15):=by
 intro R R' o h0 k;unfold z9d;repeat (first | apply grd_out h0 | apply br_out | rfl)
def zoi:Bool:=(z2r a0 g1 a2 g3 a4 g5 a6 g7 c8 a9 a10 c11 a12 a13 a14 a15).isSome
def z8i:Nat:=((z2r a0 g1 a2 g3 a4 g5 a6 g7 c8 a9 a10 c11 a12 a13 a14 a15).getD default)
def zij{R:Type}(k_:Bool→Option R):Option R:=(grd (zct a0 (pF g1 0 (muN a0 1)) a2 (pF g3 0 (muN a2 1)) a4 (pF g5 0 (muN a4 1)) a6 (pF g7 0 (muN a6 3)) c8 a9 a10) (br (z8g a0 (pF g1 0 (muN a0 1)) a2 (pF g3 0 (muN a2 1)) a4 (pF g5 0 (muN a4 1)) a6 (pF g7 0 (muN a6 3)) c8 a9 a10) (grd (zk2 a0 (pF g1 0 (muN a0 1)) a2 (pF g3 0 (muN a2 1)) a4 (pF g5 0 (muN a4 1)) a6 (pF g7 0 (muN a6 3)) c8 a9 a10 c11) (br (zir a0 (pF g1 0 (muN a0 1)) a2 (pF g3 0 (muN a2 1)) a4 (pF g5 0 (muN a4 1)) a6 (pF g7 0 (muN a6 3)) c8 a9 a10 c11) (grd (z8b 2 (pF [a12,a13] 0 (muN 2 1))) (br (z7m 2 (pF [a12,a13] 0 (muN 2 1))) (grd (z2s a14) (br (z2b a14) (grd (okIx c11 a6) (grd (z2s (fop .sub .f32 (fop .sub .f32 981668463 (gF g7 (Nat.succ (Nat.succ (ixO 0 c11 3))))) a14)) (k_ (z2b (fop .sub .f32 (fop .sub .f32 981668463 (gF g7 (Nat.succ (Nat.succ (ixO 0 c11 3))))) a14))))) (k_ Bool.false))) (k_ Bool.false))) (k_ Bool.false))) (k_ Bool.false)))
def z7q:Option (Bool):=zij a0 g1 a2 g3 a4 g5 a6 g7 c8 a9 a10 c11 a12 a13 a14 (fun c0_=>some c0_)
theorem y54:Nt1 (fun {R}=>zij (R:=R) a0 g1 a2 g3 a4 g5 a6 g7 c8 a9 a10 c11 a12 a13 a14):=by
 intro R R' o h0 k;unfold zij;repeat (first | apply grd_out h0 | apply br_out | rfl)
def zps:Bool:=(z7q a0 g1 a2 g3 a4 g5 a6 g7 c8 a9 a10 c11 a12 a13 a14).isSome
def zo5:Bool:=((z7q a0 g1 a2 g3 a4 g5 a6 g7 c8 a9 a10 c11 a12 a13 a14).getD default)
def zd1{R:Type}(k_:Nat→Option R):Option R:=(grd (zpp a0 (pF g1 0 (muN a0 1)) a2 (pF g3 0 (muN a2 1)) a4 (pF g5 0 (muN a4 1)) a6 (pF g7 0 (muN a6 3)) c8 a9 a10 c11 a12 a15) (grd (z7r a12) (grd (z7r (fop .add .f32 a12 1048576000)) (grd (okIx c11 a6) (k_ (fop .sub .f32 (fop .mul .f32 (z1h a12) (fop .add .f32 1065353216 (zn0 a0 (pF g1 0 (muN a0 1)) a2 (pF g3 0 (muN a2 1)) a4 (pF g5 0 (muN a4 1)) a6 (pF g7 0 (muN a6 3)) c8 a9 a10 c11 a12 a15))) (fop .mul .f32 (fop .mul .f32 (fop .quo .f32 a13 (fop .mul .f32 a14 (gF g7 (ixO 0 c11 3)))) (z1h (fop .add .f32 a12 1048576000))) (fop .sub .f32 1065353216 (zof a0 (pF g1 0 (muN a0 1)) a2 (pF g3 0 (muN a2 1)) a4 (pF g5 0 (muN a4 1)) a6 (pF g7 0 (muN a6 3)) c8 a9 a10 c11 a12 a15)))))))))
def z3a:Option (Nat):=zd1 a0 g1 a2 g3 a4 g5 a6 g7 c8 a9 a10 c11 a12 a13 a14 a15 (fun c0_=>some c0_)
theorem zz4:Nt1 (fun {R}=>zd1 (R:=R) a0 g1 a2 g3 a4 g5 a6 g7 c8 a9 a10 c11 a12 a13 a14 a15):=by
 intro R R' o h0 k;unfold zd1;repeat (first | apply grd_out h0 | apply br_out | rfl)
def zsn:Bool:=(z3a a0 g1 a2 g3 a4 g5 a6 g7 c8 a9 a10 c11 a12 a13 a14 a15).isSome
def zba:Nat:=((z3a a0 g1 a2 g3 a4 g5 a6 g7 c8 a9 a10 c11 a12 a13 a14 a15).getD default)
end
section
variable {a0:Nat} {c0:Int} {a1:Nat} {c1:Int} {e1:Bool} {g1:List Nat} {m1:List Bool} {a2:Nat} {c2:Int} {e2:Bool} {g2:List Nat} {a3:Nat} {c3:Int} {e3:Bool} {g3:List Nat} {m3:List Bool} {a4:Nat} {c4:Int} {e4:Bool} {g4:List Nat} {a5:Nat} {c5:Int} {g5:List Nat} {a6:Nat} {c6:Int} {e6:Bool} {a7:Nat} {c7:Int} {g7:List Nat} {a8:Nat} {c8:Int} {a9:Nat} {g9:List Nat} {a10:Nat} {a11:Nat} {c11:Int} {e11:Bool} {g11:List Nat} {a12:Nat} {c12:Int} {e12:Bool} {g12:List Nat} {a13:Nat} {e13:Bool} {a14:Nat} {g14:List Nat} {a15:Nat} {e15:Bool} {a16:Nat} {g16:List Nat} {a17:Nat} {g18:List Nat} {c19:Int} {a20:Nat} {a21:Nat} {e22:Bool}
theorem of1{α1:Type} [Inhabited (α1)] {x:Option (α1)} {r:α1} (h:x=some r):x.isSome=true∧(x.getD default)=r:=by
 subst h;exact⟨rfl,rfl⟩
theorem ol1{β α1:Type} [Inhabited (α1)] {x:Option ((α1)⊕β)} {r:α1} (h:x=some (.inl r)):x.isSome=true∧oL x=true∧((tL x).getD default)=r:=by
 subst h;exact⟨rfl,rfl,rfl⟩
theorem of2{α1 α2:Type} [Inhabited (α1×α2)] {x:Option (α1×α2)} {r:α1×α2} (h:x=some r):x.isSome=true∧(x.getD default).1=r.1∧(x.getD default).2=r.2:=by
 subst h;exact⟨rfl,rfl,rfl⟩
theorem or2{β α1 α2:Type} [Inhabited (α1×α2)] {x:Option (β⊕(α1×α2))} {r:α1×α2} (h:x=some (.inr r)):x.isSome=true∧oL x=false∧((tR x).getD default).1=r.1∧((tR x).getD default).2=r.2:=by
 subst h;exact⟨rfl,rfl,rfl,rfl⟩
theorem of3{α1 α2 α3:Type} [Inhabited (α1×α2×α3)] {x:Option (α1×α2×α3)} {r:α1×α2×α3} (h:x=some r):x.isSome=true∧(x.getD default).1=r.1∧(x.getD default).2.1=r.2.1∧(x.getD default).2.2=r.2.2:=by
 subst h;exact⟨rfl,rfl,rfl,rfl⟩
theorem or3{β α1 α2 α3:Type} [Inhabited (α1×α2×α3)] {x:Option (β⊕(α1×α2×α3))} {r:α1×α2×α3} (h:x=some (.inr r)):x.isSome=true∧oL x=false∧((tR x).getD default).1=r.1∧((tR x).getD default).2.1=r.2.1∧((tR x).getD default).2.2=r.2.2:=by
 subst h;exact⟨rfl,rfl,rfl,rfl,rfl⟩
theorem of4{α1 α2 α3 α4:Type} [Inhabited (α1×α2×α3×α4)] {x:Option (α1×α2×α3×α4)} {r:α1×α2×α3×α4} (h:x=some r):x.isSome=true∧(x.getD default).1=r.1∧(x.getD default).2.1=r.2.1∧(x.getD default).2.2.1=r.2.2.1∧(x.getD default).2.2.2=r.2.2.2:=by
 subst h;exact⟨rfl,rfl,rfl,rfl,rfl⟩
theorem or4{β α1 α2 α3 α4:Type} [Inhabited (α1×α2×α3×α4)] {x:Option (β⊕(α1×α2×α3×α4))} {r:α1×α2×α3×α4} (h:x=some (.inr r)):x.isSome=true∧oL x=false∧((tR x).getD default).1=r.1∧((tR x).getD default).2.1=r.2.1∧((tR x).getD default).2.2.1=r.2.2.1∧((tR x).getD default).2.2.2=r.2.2.2:=by
 subst h;exact⟨rfl,rfl,rfl,rfl,rfl,rfl⟩
theorem of5{α1 α2 α3 α4 α5:Type} [Inhabited (α1×α2×α3×α4×α5)] {x:Option (α1×α2×α3×α4×α5)} {r:α1×α2×α3×α4×α5} (h:x=some r):x.isSome=true∧(x.getD default).1=r.1∧(x.getD default).2.1=r.2.1∧(x.getD default).2.2.1=r.2.2.1∧(x.getD default).2.2.2.1=r.2.2.2.1∧(x.getD default).2.2.2.2=r.2.2.2.2:=by
 subst h;exact⟨rfl,rfl,rfl,rfl,rfl,rfl⟩
theorem of6{α1 α2 α3 α4 α5 α6:Type} [Inhabited (α1×α2×α3×α4×α5×α6)] {x:Option (α1×α2×α3×α4×α5×α6)} {r:α1×α2×α3×α4×α5×α6} (h:x=some r):x.isSome=true∧(x.getD default).1=r.1∧(x.getD default).2.1=r.2.1∧(x.getD default).2.2.1=r.2.2.1∧(x.getD default).2.2.2.1=r.2.2.2.1∧(x.getD default).2.2.2.2.1=r.2.2.2.2.1∧(x.getD default).2.2.2.2.2=r.2.2.2.2.2:=by
 subst h;exact⟨rfl,rfl,rfl,rfl,rfl,rfl,rfl⟩
theorem or6{β α1 α2 α3 α4 α5 α6:Type} [Inhabited (α1×α2×α3×α4×α5×α6)] {x:Option (β⊕(α1×α2×α3×α4×α5×α6))} {r:α1×α2×α3×α4×α5×α6} (h:x=some (.inr r)):x.isSome=true∧oL x=false∧((tR x).getD default).1=r.1∧((tR x).getD default).2.1=r.2.1∧((tR x).getD default).2.2.1=r.2.2.1∧((tR x).getD default).2.2.2.1=r.2.2.2.1∧((tR x).getD default).2.2.2.2.1=r.2.2.2.2.1∧((tR x).getD default).2.2.2.2.2=r.2.2.2.2.2:=by
 subst h;exact⟨rfl,rfl,rfl,rfl,rfl,rfl,rfl,rfl⟩
theorem of8{α1 α2 α3 α4 α5 α6 α7 α8:Type} [Inhabited (α1×α2×α3×α4×α5×α6×α7×α8)] {x:Option (α1×α2×α3×α4×α5×α6×α7×α8)} {r:α1×α2×α3×α4×α5×α6×α7×α8} (h:x=some r):x.isSome=true∧(x.getD default).1=r.1∧(x.getD default).2.1=r.2.1∧(x.getD default).2.2.1=r.2.2.1∧(x.getD default).2.2.2.1=r.2.2.2.1∧(x.getD default).2.2.2.2.1=r.2.2.2.2.1∧(x.getD default).2.2.2.2.2.1=r.2.2.2.2.2.1∧(x.getD default).2.2.2.2.2.2.1=r.2.2.2.2.2.2.1∧(x.getD default).2.2.2.2.2.2.2=r.2.2.2.2.2.2.2:=by
 subst h;exact⟨rfl,rfl,rfl,rfl,rfl,rfl,rfl,rfl,rfl⟩
theorem ol0{α β:Type} {x:Option (α⊕β)} {r:α} (h:x=some (.inl r)):x.isSome=true∧oL x=true:=by
 subst h;exact⟨rfl,rfl⟩
theorem z5i(h:z66 a0 a1=some e2):z4n a0 a1=true∧z47 a0 a1=e2:=of1 h
theorem zq8(h:z8z c0 c1 c2=some e3):z97 c0 c1 c2=true∧z45 c0 c1 c2=e3:=of1 h
theorem z3t(h:z8t a0=some e1):z2s a0=true∧z2b a0=e1:=of1 h
theorem y2j(h:za5 c0 c1 c2=some e3):zv1 c0 c1 c2=true∧zry c0 c1 c2=e3:=of1 h
theorem y6j(h:z5e a0 g1 c2=some c3):zs9 a0 g1 c2=true∧zhw a0 g1 c2=c3:=of1 h
theorem z1k(h:z7t a0=some e1):z12 a0=true∧z0v a0=e1:=of1 h
theorem zhj(h:z5d a0 g1 c2=some c3):zdg a0 g1 c2=true∧z1c a0 g1 c2=c3:=of1 h
theorem zun(h:z6y a0 a1 a2=some e3):zns a0 a1 a2=true∧zlb a0 a1 a2=e3:=of1 h
theorem zy4(h:z3g a0 g1 a2 g3 a4 g5 a6 g7 c8 a9 a10 c11=some a12):zm8 a0 g1 a2 g3 a4 g5 a6 g7 c8 a9 a10 c11=true∧zc9 a0 g1 a2 g3 a4 g5 a6 g7 c8 a9 a10 c11=a12:=of1 h
theorem ycl(h:z90 a0 g1 a2 g3 a4 g5 a6 g7 c8 a9 a10 c11 a12=some a13):y2t a0 g1 a2 g3 a4 g5 a6 g7 c8 a9 a10 c11 a12=true∧zq5 a0 g1 a2 g3 a4 g5 a6 g7 c8 a9 a10 c11 a12=a13:=of1 h
theorem y3n(h:z4x a0 g1 a2 g3 a4 g5 a6 g7 c8 a9 a10 c11=some a12):zqw a0 g1 a2 g3 a4 g5 a6 g7 c8 a9 a10 c11=true∧zgf a0 g1 a2 g3 a4 g5 a6 g7 c8 a9 a10 c11=a12:=of1 h
theorem y8v(h:zet=some a0):y2d=true∧zqo=a0:=of1 h
theorem ye8(h:zdm a0 a1 a2=some a3):zve a0 a1 a2=true∧zra a0 a1 a2=a3:=of1 h
theorem zsd(h:z6f a0=some a1):zkl a0=true∧zcv a0=a1:=of1 h
theorem yf4(h:zfq a0=some a1):yb1 a0=true∧y8u a0=a1:=of1 h
theorem zn9{r:Nat×Bool}(h:z6q a0=some r):zib a0=true∧z8j a0=r.1∧zhb a0=r.2:=of2 h
theorem y8h(h:z67 a0 g1 a2 g3 a4 g5 c6=some c7):zuf a0 g1 a2 g3 a4 g5 c6=true∧z99 a0 g1 a2 g3 a4 g5 c6=c7:=of1 h
theorem zst{r:Nat×Bool}(h:z4v a0=some r):zll a0=true∧zjm a0=r.1∧zjg a0=r.2:=of2 h
theorem zes(h:z6x a0=some e1):zbu a0=true∧zad a0=e1:=of1 h
theorem zx3(h:z7s a0=some e1):zq2 a0=true∧zmq a0=e1:=of1 h
theorem zyi(h:z3z a0=some e1):zms a0=true∧zmj a0=e1:=of1 h
theorem y8g(h:z6e a0 a1 a2 a3 a4 a5=some e6):zu5 a0 a1 a2 a3 a4 a5=true∧zsc a0 a1 a2 a3 a4 a5=e6:=of1 h
theorem ztu(h:z6z a0=some e1):z8u a0=true∧z85 a0=e1:=of1 h
theorem y9b(h:z70 a0 g1 a2 g3 a4 g5 a6 g7 c8 a9 a10 c11 a12=some e13):zwo a0 g1 a2 g3 a4 g5 a6 g7 c8 a9 a10 c11 a12=true∧zu7 a0 g1 a2 g3 a4 g5 a6 g7 c8 a9 a10 c11 a12=e13:=of1 h
theorem yc4{r:Nat×Nat×Bool}(h:z61 a0 a1=some r):zrq a0 a1=true∧zic a0 a1=r.1∧zi8 a0 a1=r.2.1∧zik a0 a1=r.2.2:=of3 h
theorem y4j(h:z4m a0=some e1):zr6 a0=true∧zpb a0=e1:=of1 h
theorem zwi(h:z2z a0 g1 a2 g3 a4 g5 a6 g7 c8 a9 a10 c11=some e12):zk2 a0 g1 a2 g3 a4 g5 a6 g7 c8 a9 a10 c11=true∧zir a0 g1 a2 g3 a4 g5 a6 g7 c8 a9 a10 c11=e12:=of1 h
theorem ydd(h:z94 a0=some e1):y2m a0=true∧zzk a0=e1:=of1 h
theorem ycx(h:z96 a0=some e1):y2k a0=true∧zyj a0=e1:=of1 h
theorem zxo {r:Int×Bool×(List Nat)} (hm:a5=big) (h:z19 a0 a1 g2 a5 c3 g4=some r):zg2 a0 a1 g2 c3 g4=true∧zw2 a0 a1 g2 c3 g4=r.1∧zwc a0 a1 g2 c3 g4=r.2.1∧zb7 a0 a1 g2 c3 g4=r.2.2:=by
 subst hm;exact of3 h
theorem ztq{r:Nat×Int×Bool}(hm:a6=big)(h:z0f a0 g1 g2 a3 a6 a4 c5=some r):zin a0 g1 g2 a3 a4 c5=true∧zg9 a0 g1 g2 a3 a4 c5=r.1∧zs0 a0 g1 g2 a3 a4 c5=r.2.1∧zrn a0 g1 g2 a3 a4 c5=r.2.2:=by
 subst hm;exact of3 h
theorem y5c{r:Nat×Int×Bool}(hm:a6=big)(h:z13 a0 g1 a2 g3 a6 a4 c5=some r):zty a0 g1 a2 g3 a4 c5=true∧zp6 a0 g1 a2 g3 a4 c5=r.1∧y49 a0 g1 a2 g3 a4 c5=r.2.1∧y3a a0 g1 a2 g3 a4 c5=r.2.2:=by
 subst hm;exact of3 h
theorem y4d{r:Int×Int×Bool}(hm:a5=big)(h:z0u a0 c1 g2 a5 c3 c4=some r):zso a0 c1 g2 c3 c4=true∧z9q a0 c1 g2 c3 c4=r.1∧y22 a0 c1 g2 c3 c4=r.2.1∧y0k a0 c1 g2 c3 c4=r.2.2:=by
 subst hm;exact of3 h
theorem zoc(hm:a5=big) (h:z05 a0 e1 c2 m3 a5 c4=some (Sum.inl c6)):z81 a0 e1 c2 m3 c4=true∧z7e a0 e1 c2 m3 c4=true∧zat a0 e1 c2 m3 c4=c6:=by
 subst hm;exact ol1 h
theorem znk{r:Int×Bool}(hm:a5=big) (h:z05 a0 e1 c2 m3 a5 c4=some (Sum.inr r)):z81 a0 e1 c2 m3 c4=true∧z7e a0 e1 c2 m3 c4=false∧zmp a0 e1 c2 m3 c4=r.1∧zmo a0 e1 c2 m3 c4=r.2:=by
 subst hm;exact or2 h
theorem yb9(h:z7x a0 g1 a2 g3 a4 g5 a6 g7 c8 a9 a10 c11=some c12):zqm a0 g1 a2 g3 a4 g5 a6 g7 c8 a9 a10 c11=true∧zod a0 g1 a2 g3 a4 g5 a6 g7 c8 a9 a10 c11=c12:=of1 h
theorem zb9 {r:Nat×(List Nat)} (h:z4a a0 g1=some r):z5b a0 g1=true∧z0o a0 g1=r.1∧z8h a0 g1=r.2:=of2 h
theorem zym(h:z41 a0 g1 a2 g3 a4 g5 a6 g7 c8 a9 a10 a11 g12=some a13):znp a0 g1 a2 g3 a4 g5 a6 g7 c8 a9 a10 a11 g12=true∧z8n a0 g1 a2 g3 a4 g5 a6 g7 c8 a9 a10 a11 g12=a13:=of1 h
theorem yc6(h:z95 a0 g1 a2 g3 a4 g5 a6 g7 c8 a9 a10 a11 g12=some a13):y2y a0 g1 a2 g3 a4 g5 a6 g7 c8 a9 a10 a11 g12=true∧zi5 a0 g1 a2 g3 a4 g5 a6 g7 c8 a9 a10 a11 g12=a13:=of1 h
theorem yaw{r:Int×Nat}(h:z6h a0 g1=some r):zyr a0 g1=true∧zwr a0 g1=r.1∧zwv a0 g1=r.2:=of2 h
theorem zs1(h:z23 a0 m1 e2=some c3):zh4 a0 m1 e2=true∧zg6 a0 m1 e2=c3:=of1 h
theorem y4z(h:z5c a0=some e1):zss a0=true∧zr2 a0=e1:=of1 h
theorem ye6(h:za7 a0=some a1):y6h a0=true∧zg8 a0=a1:=of1 h
theorem zy9{r:Int×Bool}(hm:a5=big) (h:z17 a0 a1 g2 g3 a5 c4=some (Sum.inr r)):zmu a0 a1 g2 g3 c4=true∧zmi a0 a1 g2 g3 c4=false∧zw6 a0 a1 g2 g3 c4=r.1∧zvt a0 a1 g2 g3 c4=r.2:=by
 subst hm;exact or2 h
theorem zxd {r:Int×Bool×(List Nat)} (hm:a5=big) (h:z0p a0 a1 g2 a5 c3 g4=some r):zf6 a0 a1 g2 c3 g4=true∧zw7 a0 a1 g2 c3 g4=r.1∧zwl a0 a1 g2 c3 g4=r.2.1∧zb5 a0 a1 g2 c3 g4=r.2.2:=by
 subst hm;exact of3 h
theorem zu2{r:Nat×Int×Bool}(hm:a3=big)(h:z0l a0 a3 a1 c2=some r):z1d a0 a1 c2=true∧z08 a0 a1 c2=r.1∧ztg a0 a1 c2=r.2.1∧ztf a0 a1 c2=r.2.2:=by
 subst hm;exact of3 h
theorem zbn(h:z5g a0 g1 a2 g3=some e4):z98 a0 g1 a2 g3=true∧z8f a0 g1 a2 g3=e4:=of1 h
theorem zou(h:z1i a0 m1 e2=some e3):z56 a0 m1 e2=true∧z4l a0 m1 e2=e3:=of1 h
theorem y70 {r:Nat×Nat×Nat×(List Nat)×(List Nat)×(List Nat)} (h:z1y a0 g1 a2 g3 a4 g5=some r):zus a0 g1 a2 g3 a4 g5=true∧zt5 a0 g1 a2 g3 a4 g5=r.1∧zsv a0 g1 a2 g3 a4 g5=r.2.1∧zsw a0 g1 a2 g3 a4 g5=r.2.2.1∧zsr a0 g1 a2 g3 a4 g5=r.2.2.2.1∧zs7 a0 g1 a2 g3 a4 g5=r.2.2.2.2.1∧zsz a0 g1 a2 g3 a4 g5=r.2.2.2.2.2:=of6 h
theorem y6k {r:Nat×(List Nat)} (h:z48 a0 g1=some r):zs6 a0 g1=true∧zqq a0 g1=r.1∧zr4 a0 g1=r.2:=of2 h
theorem y3y(h:z29 a0=some a1):zr0 a0=true∧zgs a0=a1:=of1 h
theorem y6a(h:z5a a0=some a1):zt8 a0=true∧z09 a0=a1:=of1 h
theorem zxf{r:Int×Bool}(hm:a5=big) (h:z18 a0 a1 g2 g3 a5 c4=some (Sum.inr r)):zfw a0 a1 g2 g3 c4=true∧ze2 a0 a1 g2 g3 c4=false∧zwk a0 a1 g2 g3 c4=r.1∧zvv a0 a1 g2 g3 c4=r.2:=by
 subst hm;exact or2 h
theorem y6v{r:Unit}(hm:a8=big) (h:z1x c0 g1 g2 g3 a4 a5 a6 a8 c7=some (Sum.inl r)):zb8 c0 g1 g2 g3 a4 a5 a6 c7=true∧zac c0 g1 g2 g3 a4 a5 a6 c7=true:=by
 subst hm;exact ol0 h
theorem y81{r:Int×Bool}(hm:a8=big) (h:z1x c0 g1 g2 g3 a4 a5 a6 a8 c7=some (Sum.inr r)):zb8 c0 g1 g2 g3 a4 a5 a6 c7=true∧zac c0 g1 g2 g3 a4 a5 a6 c7=false∧y5y c0 g1 g2 g3 a4 a5 a6 c7=r.1∧y53 c0 g1 g2 g3 a4 a5 a6 c7=r.2:=by
 subst hm;exact or2 h
theorem zb0(hm:a4=big) (h:z01 a0 c1 g2 a4 c3=some (Sum.inl c5)):z31 a0 c1 g2 c3=true∧z2p a0 c1 g2 c3=true∧z4z a0 c1 g2 c3=c5:=by
 subst hm;exact ol1 h
theorem zb1{r:Int×Bool}(hm:a4=big) (h:z01 a0 c1 g2 a4 c3=some (Sum.inr r)):z31 a0 c1 g2 c3=true∧z2p a0 c1 g2 c3=false∧zap a0 c1 g2 c3=r.1∧zaq a0 c1 g2 c3=r.2:=by
 subst hm;exact or2 h
theorem zcc(hm:a4=big) (h:z02 a0 c1 g2 a4 c3=some (Sum.inl c5)):z3k a0 c1 g2 c3=true∧z33 a0 c1 g2 c3=true∧z5s a0 c1 g2 c3=c5:=by
 subst hm;exact ol1 h
theorem zck{r:Int×Bool}(hm:a4=big) (h:z02 a0 c1 g2 a4 c3=some (Sum.inr r)):z3k a0 c1 g2 c3=true∧z33 a0 c1 g2 c3=false∧zby a0 c1 g2 c3=r.1∧zbl a0 c1 g2 c3=r.2:=by
 subst hm;exact or2 h
theorem ybs {r:Nat×Nat×Nat×Nat×(List Nat)×(List Nat)×(List Nat)×(List Nat)} (h:z1w a0 g1 a2 g3 a4 g5 a6 g7 c8 a9 a10=some r):zpg a0 g1 a2 g3 a4 g5 a6 g7 c8 a9 a10=true∧znx a0 g1 a2 g3 a4 g5 a6 g7 c8 a9 a10=r.1∧zny a0 g1 a2 g3 a4 g5 a6 g7 c8 a9 a10=r.2.1∧zna a0 g1 a2 g3 a4 g5 a6 g7 c8 a9 a10=r.2.2.1∧znu a0 g1 a2 g3 a4 g5 a6 g7 c8 a9 a10=r.2.2.2.1∧zmv a0 g1 a2 g3 a4 g5 a6 g7 c8 a9 a10=r.2.2.2.2.1∧zne a0 g1 a2 g3 a4 g5 a6 g7 c8 a9 a10=r.2.2.2.2.2.1∧zop a0 g1 a2 g3 a4 g5 a6 g7 c8 a9 a10=r.2.2.2.2.2.2.1∧zo0 a0 g1 a2 g3 a4 g5 a6 g7 c8 a9 a10=r.2.2.2.2.2.2.2:=of8 h
theorem y86(h:z64 a0 g1 a2 g3 a4 g5 a6 g7 a8 g9 a10 g11=some e12):zu0 a0 g1 a2 g3 a4 g5 a6 g7 a8 g9 a10 g11=true∧zt6 a0 g1 a2 g3 a4 g5 a6 g7 a8 g9 a10 g11=e12:=of1 h
theorem y6f(h:z5k a0 g1 a2 g3=some e4):zsy a0 g1 a2 g3=true∧zr5 a0 g1 a2 g3=e4:=of1 h
theorem ydv(h:za6 a0 g1 a2 g3 a4 g5=some e6):y67 a0 g1 a2 g3 a4 g5=true∧y2w a0 g1 a2 g3 a4 g5=e6:=of1 h
theorem ze0(h:z0m a0 g1=some c2):z6u a0 g1=true∧z6l a0 g1=c2:=of1 h
theorem zeo(h:z0r a0 g1=some c2):z7a a0 g1=true∧z72 a0 g1=c2:=of1 h
theorem z8v(h:z6n a0=some a1):z7r a0=true∧z1h a0=a1:=of1 h
theorem zco(hm:a4=big) (h:z03 a0 c1 g2 a4 c3=some (Sum.inl c5)):z3n a0 c1 g2 c3=true∧z3i a0 c1 g2 c3=true∧z5w a0 c1 g2 c3=c5:=by
 subst hm;exact ol1 h
theorem zcr{r:Int×Bool}(hm:a4=big) (h:z03 a0 c1 g2 a4 c3=some (Sum.inr r)):z3n a0 c1 g2 c3=true∧z3i a0 c1 g2 c3=false∧zc0 a0 c1 g2 c3=r.1∧zc6 a0 c1 g2 c3=r.2:=by
 subst hm;exact or2 h
theorem ybb(h:z7y a0 g1 a2 g3 a4 g5 a6 g7 c8 a9 a10 a11 g12 a13 g14 a15 g16 a17 g18 c19 a20 a21=some e22):zpi a0 g1 a2 g3 a4 g5 a6 g7 c8 a9 a10 a11 g12 a13 g14 a15 g16 a17 g18 c19 a20 a21=true∧znn a0 g1 a2 g3 a4 g5 a6 g7 c8 a9 a10 a11 g12 a13 g14 a15 g16 a17 g18 c19 a20 a21=e22:=of1 h
theorem zg7(h:z0t a0 g1=some c2):z7k a0 g1=true∧z7b a0 g1=c2:=of1 h
theorem y2o(h:za2 a0=some a1):zv4 a0=true∧z93 a0=a1:=of1 h
theorem y91{r:Nat×Nat×Bool}(hm:a3=big)(h:z1u a0 a3 a1 a2=some r):z9y a0 a1 a2=true∧z74 a0 a1 a2=r.1∧y77 a0 a1 a2=r.2.1∧y7g a0 a1 a2=r.2.2:=by
 subst hm;exact of3 h
theorem zbi(h:z0i a0 g1=some e2):z5u a0 g1=true∧z5p a0 g1=e2:=of1 h
theorem zcp(h:z0k a0 g1=some e2):z6r a0 g1=true∧z62 a0 g1=e2:=of1 h
theorem zdw(h:z0n a0 g1=some e2):z6t a0 g1=true∧z6g a0 g1=e2:=of1 h
theorem yer(h:zc5 a0=some a1):y8x a0=true∧zuc a0=a1:=of1 h
theorem y8m(h:z65 a0=some a1):zuj a0=true∧z11 a0=a1:=of1 h
theorem yb3(h:z7v a0=some a1):zzu a0=true∧z4f a0=a1:=of1 h
theorem y8r{r:Unit}(hm:a6=big) (h:z14 c0 g1 a2 a3 a6 a4 c5=some (Sum.inl r)):zh5 c0 g1 a2 a3 a4 c5=true∧zf5 c0 g1 a2 a3 a4 c5=true:=by
 subst hm;exact ol0 h
theorem y7p{r:Nat×Int×Bool}(hm:a6=big) (h:z14 c0 g1 a2 a3 a6 a4 c5=some (Sum.inr r)):zh5 c0 g1 a2 a3 a4 c5=true∧zf5 c0 g1 a2 a3 a4 c5=false∧y4w c0 g1 a2 a3 a4 c5=r.1∧y5p c0 g1 a2 a3 a4 c5=r.2.1∧y66 c0 g1 a2 a3 a4 c5=r.2.2:=by
 subst hm;exact or3 h
theorem zgj(h:z1s a0 g1=some e2):z8b a0 g1=true∧z7m a0 g1=e2:=of1 h
theorem y2u(h:zab a0 g1 a2 g3 a4 g5 a6 g7 c8 a9 a10=some e11):zvd a0 g1 a2 g3 a4 g5 a6 g7 c8 a9 a10=true∧zrd a0 g1 a2 g3 a4 g5 a6 g7 c8 a9 a10=e11:=of1 h
theorem zsk(h:z4u a0 g1=some e2):zl1 a0 g1=true∧zit a0 g1=e2:=of1 h
theorem y9y(h:z71 a0 g1=some e2):zx2 a0 g1=true∧zut a0 g1=e2:=of1 h
theorem z77(h:z68 a0=some a1):z4s a0=true∧z1l a0=a1:=of1 h
theorem y5u{r:Nat×Nat×Bool}(h:z38 a0 a1=some r):ziw a0 a1=true∧zhn a0 a1=r.1∧zi1 a0 a1=r.2.1∧zhl a0 a1=r.2.2:=of3 h
theorem y5h(h:z5l a0 g1 a2 g3 a4 g5 a6 g7 c8 a9 a10 c11=some e12):zt0 a0 g1 a2 g3 a4 g5 a6 g7 c8 a9 a10 c11=true∧zr1 a0 g1 a2 g3 a4 g5 a6 g7 c8 a9 a10 c11=e12:=of1 h
theorem zxh(h:z3h a0 g1 a2 g3 a4 g5 a6 g7 c8 a9 a10 c11 a12=some a13):zma a0 g1 a2 g3 a4 g5 a6 g7 c8 a9 a10 c11 a12=true∧zcf a0 g1 a2 g3 a4 g5 a6 g7 c8 a9 a10 c11 a12=a13:=of1 h
theorem zas(hm:a5=big) (h:z00 a0 c1 g2 a3 a5 c4=some (Sum.inl c6)):z2u a0 c1 g2 a3 c4=true∧z2o a0 c1 g2 a3 c4=true∧z07 a0 c1 g2 a3 c4=c6:=by
 subst hm;exact ol1 h
theorem zar{r:Int×Bool}(hm:a5=big) (h:z00 a0 c1 g2 a3 a5 c4=some (Sum.inr r)):z2u a0 c1 g2 a3 c4=true∧z2o a0 c1 g2 a3 c4=false∧za9 a0 c1 g2 a3 c4=r.1∧za1 a0 c1 g2 a3 c4=r.2:=by
 subst hm;exact or2 h
theorem zp5{r:Int×Bool}(hm:a4=big)(h:z1j a0 g1 a2 a4 c3=some r):zsp a0 g1 a2 c3=true∧zoo a0 g1 a2 c3=r.1∧y15 a0 g1 a2 c3=r.2:=by
 subst hm;exact of2 h
theorem ycu(h:z91 a0 g1 a2 g3 a4 g5 a6 g7 c8 a9 a10 c11 a12 a13 a14=some e15):y2v a0 g1 a2 g3 a4 g5 a6 g7 c8 a9 a10 c11 a12 a13 a14=true∧zyz a0 g1 a2 g3 a4 g5 a6 g7 c8 a9 a10 c11 a12 a13 a14=e15:=of1 h
theorem zwm{r:Int×Int×Nat×Nat×Nat}(h:z0x a0 g1 a2 g3 a4 g5 a6=some r):zk3 a0 g1 a2 g3 a4 g5 a6=true∧z2m a0 g1 a2 g3 a4 g5 a6=r.1∧z2l a0 g1 a2 g3 a4 g5 a6=r.2.1∧z3s a0 g1 a2 g3 a4 g5 a6=r.2.2.1∧z7f a0 g1 a2 g3 a4 g5 a6=r.2.2.2.1∧zb6 a0 g1 a2 g3 a4 g5 a6=r.2.2.2.2:=of5 h
theorem yb0{r:Int×Int×Nat×Nat}(h:z3b a0 g1 a2 g3 a4 g5 a6=some r):y04 a0 g1 a2 g3 a4 g5 a6=true∧zbe a0 g1 a2 g3 a4 g5 a6=r.1∧zog a0 g1 a2 g3 a4 g5 a6=r.2.1∧zws a0 g1 a2 g3 a4 g5 a6=r.2.2.1∧yb4 a0 g1 a2 g3 a4 g5 a6=r.2.2.2:=of4 h
theorem zvi{r:Unit}(hm:a5=big) (h:z0s a0 c1 g2 a3 a5 c4=some (Sum.inl r)):z8a a0 c1 g2 a3 c4=true∧z7i a0 c1 g2 a3 c4=true:=by
 subst hm;exact ol0 h
theorem zum{r:Int×Bool}(hm:a5=big) (h:z0s a0 c1 g2 a3 a5 c4=some (Sum.inr r)):z8a a0 c1 g2 a3 c4=true∧z7i a0 c1 g2 a3 c4=false∧ztm a0 c1 g2 a3 c4=r.1∧ztn a0 c1 g2 a3 c4=r.2:=by
 subst hm;exact or2 h
theorem y2h(h:z4e a0 g1 a2 g3 a4 g5=some e6):zp1 a0 g1 a2 g3 a4 g5=true∧znj a0 g1 a2 g3 a4 g5=e6:=of1 h
theorem zr3(h:z5f a0 g1 a2 g3 a4 g5 a6 g7 a8=some a9):zjl a0 g1 a2 g3 a4 g5 a6 g7 a8=true∧z8d a0 g1 a2 g3 a4 g5 a6 g7 a8=a9:=of1 h
theorem y2p(h:zae a0 g1 a2 g3 a4 g5 a6 g7 a8=some a9):zud a0 g1 a2 g3 a4 g5 a6 g7 a8=true∧zr9 a0 g1 a2 g3 a4 g5 a6 g7 a8=a9:=of1 h
theorem znm{r:Nat×Nat}(h:z2f a0 g1 a2 g3 a4 g5 a6 g7 c8 a9 a10 c11 a12 a13=some r):zgl a0 g1 a2 g3 a4 g5 a6 g7 c8 a9 a10 c11 a12 a13=true∧zfs a0 g1 a2 g3 a4 g5 a6 g7 c8 a9 a10 c11 a12 a13=r.1∧zez a0 g1 a2 g3 a4 g5 a6 g7 c8 a9 a10 c11 a12 a13=r.2:=of2 h
theorem ybm(h:z80 a0 g1 a2 g3 a4 g5 a6=some a7):y08 a0 g1 a2 g3 a4 g5 a6=true∧znw a0 g1 a2 g3 a4 g5 a6=a7:=of1 h
theorem ybj(h:z83 a0 g1 a2 g3 a4 g5 a6=some a7):zz3 a0 g1 a2 g3 a4 g5 a6=true∧zni a0 g1 a2 g3 a4 g5 a6=a7:=of1 h
theorem zoh{r:Nat×Nat}(h:z36 a0 g1 a2 g3 a4 g5 a6 g7 c8 a9 a10 c11 a12 a13=some r):zgu a0 g1 a2 g3 a4 g5 a6 g7 c8 a9 a10 c11 a12 a13=true∧zex a0 g1 a2 g3 a4 g5 a6 g7 c8 a9 a10 c11 a12 a13=r.1∧zeu a0 g1 a2 g3 a4 g5 a6 g7 c8 a9 a10 c11 a12 a13=r.2:=of2 h
theorem y8l{r:Nat×Nat}(h:z4q a0 g1 a2 g3 a4 g5 a6 g7 c8 a9 a10 c11 a12 a13=some r):zvk a0 g1 a2 g3 a4 g5 a6 g7 c8 a9 a10 c11 a12 a13=true∧zjq a0 g1 a2 g3 a4 g5 a6 g7 c8 a9 a10 c11 a12 a13=r.1∧zjp a0 g1 a2 g3 a4 g5 a6 g7 c8 a9 a10 c11 a12 a13=r.2:=of2 h
theorem zx7{r:Unit}(hm:a6=big) (h:z0h a0 c1 g2 a3 a6 a4 c5=some (Sum.inl r)):z9u a0 c1 g2 a3 a4 c5=true∧z8w a0 c1 g2 a3 a4 c5=true:=by
 subst hm;exact ol0 h
theorem zx8{r:Nat×Int×Bool}(hm:a6=big) (h:z0h a0 c1 g2 a3 a6 a4 c5=some (Sum.inr r)):z9u a0 c1 g2 a3 a4 c5=true∧z8w a0 c1 g2 a3 a4 c5=false∧zwg a0 c1 g2 a3 a4 c5=r.1∧zwf a0 c1 g2 a3 a4 c5=r.2.1∧zw9 a0 c1 g2 a3 a4 c5=r.2.2:=by
 subst hm;exact or3 h
theorem zqu(h:z5j a0 g1 a2 g3 a4 g5 a6 g7 c8 a9 a10=some e11):zct a0 g1 a2 g3 a4 g5 a6 g7 c8 a9 a10=true∧z8g a0 g1 a2 g3 a4 g5 a6 g7 c8 a9 a10=e11:=of1 h
theorem zx1{r:Nat×Nat×Nat×Nat}(h:z46 a0 g1 a2 g3 a4 g5 a6 g7 c8 a9 a10 c11 a12 a13=some r):zpp a0 g1 a2 g3 a4 g5 a6 g7 c8 a9 a10 c11 a12 a13=true∧zn0 a0 g1 a2 g3 a4 g5 a6 g7 c8 a9 a10 c11 a12 a13=r.1∧zof a0 g1 a2 g3 a4 g5 a6 g7 c8 a9 a10 c11 a12 a13=r.2.1∧zwp a0 g1 a2 g3 a4 g5 a6 g7 c8 a9 a10 c11 a12 a13=r.2.2.1∧zwq a0 g1 a2 g3 a4 g5 a6 g7 c8 a9 a10 c11 a12 a13=r.2.2.2:=of4 h
theorem zyh(h:z2r a0 g1 a2 g3 a4 g5 a6 g7 c8 a9 a10 c11 a12 a13 a14 a15=some a16):zoi a0 g1 a2 g3 a4 g5 a6 g7 c8 a9 a10 c11 a12 a13 a14 a15=true∧z8i a0 g1 a2 g3 a4 g5 a6 g7 c8 a9 a10 c11 a12 a13 a14 a15=a16:=of1 h
theorem zww(h:z7q a0 g1 a2 g3 a4 g5 a6 g7 c8 a9 a10 c11 a12 a13 a14=some e15):zps a0 g1 a2 g3 a4 g5 a6 g7 c8 a9 a10 c11 a12 a13 a14=true∧zo5 a0 g1 a2 g3 a4 g5 a6 g7 c8 a9 a10 c11 a12 a13 a14=e15:=of1 h
theorem y5k(h:z3a a0 g1 a2 g3 a4 g5 a6 g7 c8 a9 a10 c11 a12 a13 a14 a15=some a16):zsn a0 g1 a2 g3 a4 g5 a6 g7 c8 a9 a10 c11 a12 a13 a14 a15=true∧zba a0 g1 a2 g3 a4 g5 a6 g7 c8 a9 a10 c11 a12 a13 a14 a15=a16:=of1 h
end
end Go.Rf
