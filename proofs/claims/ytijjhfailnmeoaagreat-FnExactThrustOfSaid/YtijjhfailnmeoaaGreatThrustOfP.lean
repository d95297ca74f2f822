import Derived.Test.YtijjhfailnmeoaaGreatB
set_option linter.unusedVariables false
set_option linter.unusedSimpArgs false
set_option linter.unusedSectionVars false
set_option maxRecDepth 100000
set_option maxHeartbeats 4000000
namespace Go.Rf
open Go
noncomputable section
variable (a0:Nat) (c0:Int) (g0:List Nat) (a1:Nat) (c1:Int) (e1:Bool) (g1:List Nat) (m1:List Bool) (a2:Nat) (c2:Int) (e2:Bool) (g2:List Nat) (a3:Nat) (c3:Int) (g3:List Nat) (m3:List Bool) (a4:Nat) (c4:Int) (g4:List Nat) (a5:Nat) (c5:Int) (g5:List Nat) (a6:Nat) (c6:Int) (g6:List Nat) (a7:Nat) (c7:Int) (g7:List Nat) (a8:Nat) (c8:Int) (a9:Nat) (g9:List Nat) (a10:Nat) (a11:Nat) (c11:Int) (g11:List Nat) (a12:Nat) (c12:Int) (g12:List Nat) (a13:Nat) (a14:Nat) (g14:List Nat) (a15:Nat) (c15:Int) (a16:Nat) (g16:List Nat) (a17:Nat) (c17:Int) (c18:Int) (g18:List Nat) (c19:Int) (g19:List Nat) (a20:Nat) (g20:List Nat) (a21:Nat)
abbrev Nt1{A1:Type} (T:{R:Type}→(A1→Option R)→Option R):Prop:=∀ {R R':Type} (o:Option R→Option R'),o none=none→∀ k:A1→Option R,T (fun c1=>o (k c1))=o (T k)
abbrev Nt2{A1 A2:Type} (T:{R:Type}→(A1→A2→Option R)→Option R):Prop:=∀ {R R':Type} (o:Option R→Option R'),o none=none→∀ k:A1→A2→Option R,T (fun c1 c2=>o (k c1 c2))=o (T k)
abbrev Nt3{A1 A2 A3:Type} (T:{R:Type}→(A1→A2→A3→Option R)→Option R):Prop:=∀ {R R':Type} (o:Option R→Option R'),o none=none→∀ k:A1→A2→A3→Option R,T (fun c1 c2 c3=>o (k c1 c2 c3))=o (T k)
abbrev Nt4{A1 A2 A3 A4:Type} (T:{R:Type}→(A1→A2→A3→A4→Option R)→Option R):Prop:=∀ {R R':Type} (o:Option R→Option R'),o none=none→∀ k:A1→A2→A3→A4→Option R,T (fun c1 c2 c3 c4=>o (k c1 c2 c3 c4))=o (T k)
abbrev Nt5{A1 A2 A3 A4 A5:Type} (T:{R:Type}→(A1→A2→A3→A4→A5→Option R)→Option R):Prop:=∀ {R R':Type} (o:Option R→Option R'),o none=none→∀ k:A1→A2→A3→A4→A5→Option R,T (fun c1 c2 c3 c4 c5=>o (k c1 c2 c3 c4 c5))=o (T k)
abbrev Nt6{A1 A2 A3 A4 A5 A6:Type} (T:{R:Type}→(A1→A2→A3→A4→A5→A6→Option R)→Option R):Prop:=∀ {R R':Type} (o:Option R→Option R'),o none=none→∀ k:A1→A2→A3→A4→A5→A6→Option R,T (fun c1 c2 c3 c4 c5 c6=>o (k c1 c2 c3 c4 c5 c6))=o (T k)
abbrev Nt8{A1 A2 A3 A4 A5 A6 A7 A8:Type} (T:{R:Type}→(A1→A2→A3→A4→A5→A6→A7→A8→Option R)→Option R):Prop:=∀ {R R':Type} (o:Option R→Option R'),o none=none→∀ k:A1→A2→A3→A4→A5→A6→A7→A8→Option R,T (fun c1 c2 c3 c4 c5 c6 c7 c8=>o (k c1 c2 c3 c4 c5 c6 c7 c8))=o (T k)
def ze0{R:Type}(k_:Bool→Option R):Option R:=(br (fcmp .neq .f64 a0 a0) (br (fcmp .neq .f64 a0 a0) (k_ (fcmp .neq .f64 a1 a1)) (k_ Bool.false)) (br (fcmp .neq .f64 a1 a1) (br (fcmp .neq .f64 a0 a0) (k_ (fcmp .neq .f64 a1 a1)) (k_ Bool.false)) (br (fcmp .eql .f64 a0 0) (br (fcmp .eql .f64 a1 0) (k_ (beqB (fcmp .gtr .f64 (fop .quo .f64 4607182418800017408 a0) 0) (fcmp .gtr .f64 (fop .quo .f64 4607182418800017408 a1) 0))) (k_ (fcmp .eql .f64 a0 a1))) (k_ (fcmp .eql .f64 a0 a1)))))
def z5j:Option (Bool):=ze0 a0 a1 (fun c0_=>some c0_)
theorem zxq:Nt1 (fun {R}=>ze0 (R:=R) a0 a1):=by
 intro R R' o h0 k;unfold ze0;repeat (first | apply grd_out h0 | apply br_out | rfl)
def z45:Bool:=(z5j a0 a1).isSome
def z3s:Bool:=((z5j a0 a1).getD default)
def zio{R:Type}(k_:Bool→Option R):Option R:=(br (leI c1 c0) (k_ (leI c0 c2)) (k_ Bool.false))
def z84:Option (Bool):=zio c0 c1 c2 (fun c0_=>some c0_)
theorem y3z:Nt1 (fun {R}=>zio (R:=R) c0 c1 c2):=by
 intro R R' o h0 k;unfold zio;repeat (first | apply grd_out h0 | apply br_out | rfl)
def z88:Bool:=(z84 c0 c1 c2).isSome
def z3q:Bool:=((z84 c0 c1 c2).getD default)
def zl7{R:Type}(k_:Bool→Option R):Option R:=(k_ (fcmp .eql .f32 (fop .sub .f32 a0 a0) 0))
def z7n:Option (Bool):=zl7 a0 (fun c0_=>some c0_)
theorem y08:Nt1 (fun {R}=>zl7 (R:=R) a0):=by
 intro R R' o h0 k;unfold zl7;repeat (first | apply grd_out h0 | apply br_out | rfl)
def z2d:Bool:=(z7n a0).isSome
def z23:Bool:=((z7n a0).getD default)
def zm1{R:Type}(k_:Bool→Option R):Option R:=(br (leI c1 c0) (k_ (leI c0 c2)) (k_ Bool.false))
def z98:Option (Bool):=zm1 c0 c1 c2 (fun c0_=>some c0_)
theorem y4o:Nt1 (fun {R}=>zm1 (R:=R) c0 c1 c2):=by
 intro R R' o h0 k;unfold zm1;repeat (first | apply grd_out h0 | apply br_out | rfl)
def zrc:Bool:=(z98 c0 c1 c2).isSome
def zpj:Bool:=((z98 c0 c1 c2).getD default)
def zc9{R:Type}(a:List Nat)(q2i:Int)(k_:Int→Option R):Option R:=(br (ltI (subI .i64 q2i (Int.ofNat a0)) 0) (k_ (Int.negSucc 0)) (k_ (subI .i64 q2i (Int.ofNat a0))))
def z51:Option (Int):=zc9 a0 g1 c2 (fun c0_=>some c0_)
theorem zvp:Nt1 (fun {R}=>zc9 (R:=R) a0 g1 c2):=by
 intro R R' o h0 k;unfold zc9;repeat (first | apply grd_out h0 | apply br_out | rfl)
def zq9:Bool:=(z51 a0 g1 c2).isSome
def zg9:Int:=((z51 a0 g1 c2).getD default)
def zj6{R:Type}(k_:Bool→Option R):Option R:=(k_ (fcmp .eql .f32 (fop .sub .f32 a0 a0) 0))
def z79:Option (Bool):=zj6 a0 (fun c0_=>some c0_)
theorem zy8:Nt1 (fun {R}=>zj6 (R:=R) a0):=by
 intro R R' o h0 k;unfold zj6;repeat (first | apply grd_out h0 | apply br_out | rfl)
def z0w:Bool:=(z79 a0).isSome
def z0q:Bool:=((z79 a0).getD default)
def zc3{R:Type}(a:List Nat)(q2i:Int)(k_:Int→Option R):Option R:=(br (ltI (subI .i64 q2i (Int.ofNat a0)) 0) (k_ (Int.negSucc 0)) (k_ (subI .i64 q2i (Int.ofNat a0))))
def z4w:Option (Int):=zc3 a0 g1 c2 (fun c0_=>some c0_)
theorem zww:Nt1 (fun {R}=>zc3 (R:=R) a0 g1 c2):=by
 intro R R' o h0 k;unfold zc3;repeat (first | apply grd_out h0 | apply br_out | rfl)
def zbu:Bool:=(z4w a0 g1 c2).isSome
def z12:Int:=((z4w a0 g1 c2).getD default)
def zje{R:Type}(q2n q2q q2p:Nat)(k_:Unit→Option R):Option R:=(k_ ())
def zji:Option (Unit):=zje a0 a1 a2 (fun _=>some ())
theorem zxo:Nt1 (fun {R}=>zje (R:=R) a0 a1 a2):=by
 intro R R' o h0 k;unfold zje;repeat (first | apply grd_out h0 | apply br_out | rfl)
def zrr:Bool:=(zji a0 a1 a2).isSome
def zfl{R:Type}(k_:Bool→Option R):Option R:=(br (fcmp .geq .f32 a0 a1) (k_ (fcmp .leq .f32 a0 a2)) (k_ Bool.false))
def z6c:Option (Bool):=zfl a0 a1 a2 (fun c0_=>some c0_)
theorem y0u:Nt1 (fun {R}=>zfl (R:=R) a0 a1 a2):=by
 intro R R' o h0 k;unfold zfl;repeat (first | apply grd_out h0 | apply br_out | rfl)
def zll:Bool:=(z6c a0 a1 a2).isSome
def zit:Bool:=((z6c a0 a1 a2).getD default)
def z7y{R:Type}(q00:Nat)(q03:List Nat)(q02:Nat)(q05:List Nat)(q01:Nat)(q04:List Nat)(q06:Nat)(q07:List Nat)(q0g:Int)(q0k q0j:Nat)(i:Int)(k_:Nat→Option R):Option R:=(grd (okIx i q06) (grd (okIx i q06) (k_ (fop .quo .f32 (fop .mul .f32 (fOI .f32 q0g) (gF q07 (Nat.succ (ixO 0 i 3)))) (fop .mul .f32 1086918619 (gF q07 (ixO 0 i 3)))))))
def z30:Option (Nat):=z7y a0 g1 a2 g3 a4 g5 a6 g7 c8 a9 a10 c11 (fun c0_=>some c0_)
theorem zqo:Nt1 (fun {R}=>z7y (R:=R) a0 g1 a2 g3 a4 g5 a6 g7 c8 a9 a10 c11):=by
 intro R R' o h0 k;unfold z7y;repeat (first | apply grd_out h0 | apply br_out | rfl)
def zkl:Bool:=(z30 a0 g1 a2 g3 a4 g5 a6 g7 c8 a9 a10 c11).isSome
def zau:Nat:=((z30 a0 g1 a2 g3 a4 g5 a6 g7 c8 a9 a10 c11).getD default)
def zil{R:Type}(q00:Nat)(q03:List Nat)(q02:Nat)(q05:List Nat)(q01:Nat)(q04:List Nat)(q06:Nat)(q07:List Nat)(q0g:Int)(q0k q0j:Nat)(i:Int)(q3l:Nat)(k_:Nat→Option R):Option R:=(grd (okIx i q06) (k_ (fop .quo .f32 (fop .quo .f32 (fop .mul .f32 (fOI .f32 q0g) (fop .sub .f32 q0j (gF q07 (ixO 0 i 3)))) (fop .mul .f32 1073741824 (gF q07 (ixO 0 i 3)))) (fop .add .f32 (fop .quo .f32 (fop .mul .f32 (fOI .f32 q0g) (fop .sub .f32 q0j (gF q07 (ixO 0 i 3)))) (fop .mul .f32 1073741824 (gF q07 (ixO 0 i 3)))) q3l))))
def z89:Option (Nat):=zil a0 g1 a2 g3 a4 g5 a6 g7 c8 a9 a10 c11 a12 (fun c0_=>some c0_)
theorem y3u:Nt1 (fun {R}=>zil (R:=R) a0 g1 a2 g3 a4 g5 a6 g7 c8 a9 a10 c11 a12):=by
 intro R R' o h0 k;unfold zil;repeat (first | apply grd_out h0 | apply br_out | rfl)
def zyz:Bool:=(z89 a0 g1 a2 g3 a4 g5 a6 g7 c8 a9 a10 c11 a12).isSome
def zny:Nat:=((z89 a0 g1 a2 g3 a4 g5 a6 g7 c8 a9 a10 c11 a12).getD default)
def zaj{R:Type}(q00:Nat)(q03:List Nat)(q02:Nat)(q05:List Nat)(q01:Nat)(q04:List Nat)(q06:Nat)(q07:List Nat)(q0g:Int)(q0k q0j:Nat)(i:Int)(k_:Nat→Option R):Option R:=(grd (okIx i q06) (k_ (fop .quo .f32 (fop .mul .f32 (fOI .f32 q0g) (gF q07 (Nat.succ (ixO 0 i 3)))) (fop .mul .f32 1086918619 (gF q07 (ixO 0 i 3))))))
def z46:Option (Nat):=zaj a0 g1 a2 g3 a4 g5 a6 g7 c8 a9 a10 c11 (fun c0_=>some c0_)
theorem zua:Nt1 (fun {R}=>zaj (R:=R) a0 g1 a2 g3 a4 g5 a6 g7 c8 a9 a10 c11):=by
 intro R R' o h0 k;unfold zaj;repeat (first | apply grd_out h0 | apply br_out | rfl)
def zoo:Bool:=(z46 a0 g1 a2 g3 a4 g5 a6 g7 c8 a9 a10 c11).isSome
def zfd:Nat:=((z46 a0 g1 a2 g3 a4 g5 a6 g7 c8 a9 a10 c11).getD default)
def zqp{R:Type}  (k_:Nat→Option R):Option R:=(grd (okU .f64 9221120237041090561) (k_ (cnI .f64 9221120237041090561)))
def zei  : Option (Nat):=zqp (fun c0_=>some c0_)
theorem y8m  : Nt1 (fun {R}=>zqp (R:=R)):=by
 intro R R' o h0 k;unfold zqp;repeat (first | apply grd_out h0 | apply br_out | rfl)
def zy4  : Bool:=(zei).isSome
def zoc  : Nat:=((zei).getD default)
def zrw{R:Type}(k_:Nat→Option R):Option R:=(k_ (fop .add .f32 a0 (fop .mul .f32 a2 (fop .sub .f32 a1 a0))))
def zcy:Option (Nat):=zrw a0 a1 a2 (fun c0_=>some c0_)
theorem y56:Nt1 (fun {R}=>zrw (R:=R) a0 a1 a2):=by
 intro R R' o h0 k;unfold zrw;repeat (first | apply grd_out h0 | apply br_out | rfl)
def zsq:Bool:=(zcy a0 a1 a2).isSome
def zos:Nat:=((zcy a0 a1 a2).getD default)
def zef{R:Type}(k_:Nat→Option R):Option R:=(grd (fcvB .f64 .f32 a0) (k_ (fcvV .f64 .f32 a0)))
def z5k:Option (Nat):=zef a0 (fun c0_=>some c0_)
theorem zxe:Nt1 (fun {R}=>zef (R:=R) a0):=by
 intro R R' o h0 k;unfold zef;repeat (first | apply grd_out h0 | apply br_out | rfl)
def zjo:Bool:=(z5k a0).isSome
def zbn:Nat:=((z5k a0).getD default)
def zqr{R:Type}(k_:Nat→Option R):Option R:=(grd (bnot (nanQ .f64 a0)) (grd (okU .f64 (bitI .andNot .u64 (Int.ofNat a0) 9223372036854775808)) (k_ (cnI .f64 (bitI .andNot .u64 (Int.ofNat a0) 9223372036854775808)))))
def zdy:Option (Nat):=zqr a0 (fun c0_=>some c0_)
theorem y7d:Nt1 (fun {R}=>zqr (R:=R) a0):=by
 intro R R' o h0 k;unfold zqr;repeat (first | apply grd_out h0 | apply br_out | rfl)
def y6z:Bool:=(zdy a0).isSome
def y4i:Nat:=((zdy a0).getD default)
def zgw{R:Type}(k_:Nat→Bool→Option R):Option R:=(grd (z2d a0) (br (bnot (z23 a0)) (k_ 0 Bool.false) (k_ a0 Bool.true)))
def z65:Option (Nat×Bool):=zgw a0 (fun c0_ c1_=>some (c0_,c1_))
theorem y27:Nt2 (fun {R}=>zgw (R:=R) a0):=by
 intro R R' o h0 k;unfold zgw;repeat (first | apply grd_out h0 | apply br_out | rfl)
def znu:Bool:=(z65 a0).isSome
def zm9:Nat:=((z65 a0).getD default).1
def zlh:Bool:=((z65 a0).getD default).2
def zeb{R:Type}(k_:Int→Option R):Option R:=(grd (zbu a0 (pF g1 0 (muN a0 1)) c6) (br (ltI (z12 a0 (pF g1 0 (muN a0 1)) c6) 0) (k_ (Int.negSucc 0)) (grd (zbu a2 (pF g3 0 (muN a2 1)) (z12 a0 (pF g1 0 (muN a0 1)) c6)) (br (ltI (z12 a2 (pF g3 0 (muN a2 1)) (z12 a0 (pF g1 0 (muN a0 1)) c6)) 0) (k_ (Int.negSucc 0)) (grd (zbu a4 (pF g5 0 (muN a4 1)) (z12 a2 (pF g3 0 (muN a2 1)) (z12 a0 (pF g1 0 (muN a0 1)) c6))) (br (ltI (z12 a4 (pF g5 0 (muN a4 1)) (z12 a2 (pF g3 0 (muN a2 1)) (z12 a0 (pF g1 0 (muN a0 1)) c6))) 0) (k_ (Int.negSucc 0)) (k_ (z12 a4 (pF g5 0 (muN a4 1)) (z12 a2 (pF g3 0 (muN a2 1)) (z12 a0 (pF g1 0 (muN a0 1)) c6))))))))))
def z5o:Option (Int):=zeb a0 g1 a2 g3 a4 g5 c6 (fun c0_=>some c0_)
theorem zxs:Nt1 (fun {R}=>zeb (R:=R) a0 g1 a2 g3 a4 g5 c6):=by
 intro R R' o h0 k;unfold zeb;repeat (first | apply grd_out h0 | apply br_out | rfl)
def zsn:Bool:=(z5o a0 g1 a2 g3 a4 g5 c6).isSome
def z8b:Int:=((z5o a0 g1 a2 g3 a4 g5 c6).getD default)
def zdt{R:Type}(k_:Nat→Bool→Option R):Option R:=(grd (z0w a0) (br (bnot (z0q a0)) (k_ 0 Bool.false) (k_ a0 Bool.true)))
def z48:Option (Nat×Bool):=zdt a0 (fun c0_ c1_=>some (c0_,c1_))
theorem zyp:Nt2 (fun {R}=>zdt (R:=R) a0):=by
 intro R R' o h0 k;unfold zdt;repeat (first | apply grd_out h0 | apply br_out | rfl)
def zry:Bool:=(z48 a0).isSome
def zq0:Nat:=((z48 a0).getD default).1
def zpr:Bool:=((z48 a0).getD default).2
def zfh{R:Type}(k_:Bool→Option R):Option R:=(grd (z0w a0) (br (z0q a0) (k_ (fcmp .gtr .f32 a0 0)) (k_ Bool.false)))
def z6h:Option (Bool):=zfh a0 (fun c0_=>some c0_)
theorem y0t:Nt1 (fun {R}=>zfh (R:=R) a0):=by
 intro R R' o h0 k;unfold zfh;repeat (first | apply grd_out h0 | apply br_out | rfl)
def za7:Bool:=(z6h a0).isSome
def z97:Bool:=((z6h a0).getD default)
def zgm{R:Type}(k_:Bool→Option R):Option R:=(grd (z2d a0) (br (z23 a0) (k_ (fcmp .geq .f32 a0 0)) (k_ Bool.false)))
def z75:Option (Bool):=zgm a0 (fun c0_=>some c0_)
theorem y2e:Nt1 (fun {R}=>zgm (R:=R) a0):=by
 intro R R' o h0 k;unfold zgm;repeat (first | apply grd_out h0 | apply br_out | rfl)
def zo1:Bool:=(z75 a0).isSome
def zlr:Bool:=((z75 a0).getD default)
def z8l{R:Type}(k_:Bool→Option R):Option R:=(grd (z2d a0) (br (bnot (z23 a0)) (k_ Bool.true) (k_ (fcmp .leq .f32 a0 0))))
def z3h:Option (Bool):=z8l a0 (fun c0_=>some c0_)
theorem zrx:Nt1 (fun {R}=>z8l (R:=R) a0):=by
 intro R R' o h0 k;unfold z8l;repeat (first | apply grd_out h0 | apply br_out | rfl)
def zl0:Bool:=(z3h a0).isSome
def zkk:Bool:=((z3h a0).getD default)
def zdu{R:Type}(k_:Bool→Option R):Option R:=(grd (z45 (fcvV .f32 .f64 a0) (fcvV .f32 .f64 a3)) (br (bnot (z3s (fcvV .f32 .f64 a0) (fcvV .f32 .f64 a3))) (k_ Bool.false) (grd (z45 (fcvV .f32 .f64 a1) (fcvV .f32 .f64 a4)) (br (bnot (z3s (fcvV .f32 .f64 a1) (fcvV .f32 .f64 a4))) (k_ Bool.false) (grd (z45 (fcvV .f32 .f64 a2) (fcvV .f32 .f64 a5)) (br (bnot (z3s (fcvV .f32 .f64 a2) (fcvV .f32 .f64 a5))) (k_ Bool.false) (k_ Bool.true)))))))
def z5q:Option (Bool):=zdu a0 a1 a2 a3 a4 a5 (fun c0_=>some c0_)
theorem zyx:Nt1 (fun {R}=>zdu (R:=R) a0 a1 a2 a3 a4 a5):=by
 intro R R' o h0 k;unfold zdu;repeat (first | apply grd_out h0 | apply br_out | rfl)
def zsu:Bool:=(z5q a0 a1 a2 a3 a4 a5).isSome
def zq5:Bool:=((z5q a0 a1 a2 a3 a4 a5).getD default)
def zfr{R:Type}(k_:Bool→Option R):Option R:=(grd (z0w a0) (br (z0q a0) (k_ (fcmp .geq .f32 a0 0)) (k_ Bool.false)))
def z6f:Option (Bool):=zfr a0 (fun c0_=>some c0_)
theorem y0j:Nt1 (fun {R}=>zfr (R:=R) a0):=by
 intro R R' o h0 k;unfold zfr;repeat (first | apply grd_out h0 | apply br_out | rfl)
def z7s:Bool:=(z6f a0).isSome
def z76:Bool:=((z6f a0).getD default)
def zfg{R:Type}(q00:Nat)(q03:List Nat)(q02:Nat)(q05:List Nat)(q01:Nat)(q04:List Nat)(q06:Nat)(q07:List Nat)(q0g:Int)(q0k q0j:Nat)(i:Int)(q0l:Nat)(k_:Bool→Option R):Option R:=(grd (okIx i q06) (grd (z0w (fop .sub .f32 (fop .sub .f32 981668463 (gF q07 (Nat.succ (Nat.succ (ixO 0 i 3))))) q0l)) (br (z0q (fop .sub .f32 (fop .sub .f32 981668463 (gF q07 (Nat.succ (Nat.succ (ixO 0 i 3))))) q0l)) (grd (okIx i q06) (grd (z0w (fop .sub .f32 (fop .sub .f32 1048508891 (gF q07 (Nat.succ (Nat.succ (ixO 0 i 3))))) q0l)) (k_ (z0q (fop .sub .f32 (fop .sub .f32 1048508891 (gF q07 (Nat.succ (Nat.succ (ixO 0 i 3))))) q0l))))) (k_ Bool.false))))
def z6d:Option (Bool):=zfg a0 g1 a2 g3 a4 g5 a6 g7 c8 a9 a10 c11 a12 (fun c0_=>some c0_)
theorem y0i:Nt1 (fun {R}=>zfg (R:=R) a0 g1 a2 g3 a4 g5 a6 g7 c8 a9 a10 c11 a12):=by
 intro R R' o h0 k;unfold zfg;repeat (first | apply grd_out h0 | apply br_out | rfl)
def zu0:Bool:=(z6d a0 g1 a2 g3 a4 g5 a6 g7 c8 a9 a10 c11 a12).isSome
def zrs:Bool:=((z6d a0 g1 a2 g3 a4 g5 a6 g7 c8 a9 a10 c11 a12).getD default)
def zij{R:Type}(k_:Nat→Nat→Bool→Option R):Option R:=(grd (z0w a0) (br (bnot (z0q a0)) (k_ 0 0 Bool.false) (grd (z0w a1) (br (bnot (z0q a1)) (k_ 0 0 Bool.false) (k_ a0 a1 Bool.true)))))
def z5f:Option (Nat×Nat×Bool):=zij a0 a1 (fun c0_ c1_ c2_=>some (c0_,c1_,c2_))
theorem y41:Nt3 (fun {R}=>zij (R:=R) a0 a1):=by
 intro R R' o h0 k;unfold zij;repeat (first | apply grd_out h0 | apply br_out | rfl)
def zp9:Bool:=(z5f a0 a1).isSome
def zgl:Nat:=((z5f a0 a1).getD default).1
def zgk:Nat:=((z5f a0 a1).getD default).2.1
def zgv:Bool:=((z5f a0 a1).getD default).2.2
def zag{R:Type}(k_:Bool→Option R):Option R:=(grd (z2d a0) (k_ (bnot (z23 a0))))
def z49:Option (Bool):=zag a0 (fun c0_=>some c0_)
theorem zuq:Nt1 (fun {R}=>zag (R:=R) a0):=by
 intro R R' o h0 k;unfold zag;repeat (first | apply grd_out h0 | apply br_out | rfl)
def zoj:Bool:=(z49 a0).isSome
def zn1:Bool:=((z49 a0).getD default)
def z7i{R:Type}(q00:Nat)(q03:List Nat)(q02:Nat)(q05:List Nat)(q01:Nat)(q04:List Nat)(q06:Nat)(q07:List Nat)(q0g:Int)(q0k q0j:Nat)(i:Int)(k_:Bool→Option R):Option R:=(grd (z88 i 0 (subI .i64 (Int.ofNat q06) 1)) (k_ (z3q i 0 (subI .i64 (Int.ofNat q06) 1))))
def z2n:Option (Bool):=z7i a0 g1 a2 g3 a4 g5 a6 g7 c8 a9 a10 c11 (fun c0_=>some c0_)
theorem zph:Nt1 (fun {R}=>z7i (R:=R) a0 g1 a2 g3 a4 g5 a6 g7 c8 a9 a10 c11):=by
 intro R R' o h0 k;unfold z7i;repeat (first | apply grd_out h0 | apply br_out | rfl)
def zic:Bool:=(z2n a0 g1 a2 g3 a4 g5 a6 g7 c8 a9 a10 c11).isSome
def zh1:Bool:=((z2n a0 g1 a2 g3 a4 g5 a6 g7 c8 a9 a10 c11).getD default)
def zin{R:Type}(k_:Bool→Option R):Option R:=(grd (zll a0 981668463 1048508891) (k_ (zit a0 981668463 1048508891)))
def z83:Option (Bool):=zin a0 (fun c0_=>some c0_)
theorem y2y:Nt1 (fun {R}=>zin (R:=R) a0):=by
 intro R R' o h0 k;unfold zin;repeat (first | apply grd_out h0 | apply br_out | rfl)
def zz4:Bool:=(z83 a0).isSome
def zvy:Bool:=((z83 a0).getD default)
def zir{R:Type}(k_:Bool→Option R):Option R:=(grd (y6z a0) (k_ (fcmp .geq .f64 (y4i a0) 4841369599423283200)))
def z86:Option (Bool):=zir a0 (fun c0_=>some c0_)
theorem y44:Nt1 (fun {R}=>zir (R:=R) a0):=by
 intro R R' o h0 k;unfold zir;repeat (first | apply grd_out h0 | apply br_out | rfl)
def zz0:Bool:=(z86 a0).isSome
def zwg:Bool:=((z86 a0).getD default)
def z1v{R:Type} (kn_:Int→(List Nat)→Option R) (k0_:Int→Bool→(List Nat)→Option R):Option R:=(br (ltI c3 (Int.ofNat a0)) (grd (okIx c3 a0) (grd (okIx c3 a1) (kn_ (addI .i64 c3 1) (sF g4 (ixO 0 c3 1) (gF g2 (ixO 0 c3 1)))))) (k0_ c3 (ltI c3 (Int.ofNat a0)) g4))
theorem zsk{R R':Type}(o:Option R→Option R')(h0:o none=none) (kn_:Int→(List Nat)→Option R) (k0_:Int→Bool→(List Nat)→Option R):z1v a0 a1 g2 c3 g4 (fun i' b1'=>o (kn_ i' b1')) (fun c0_ c1_ c2_=>o (k0_ c0_ c1_ c2_))=o (z1v a0 a1 g2 c3 g4 kn_ k0_):=by
 unfold z1v
 repeat (first | apply grd_out h0 | apply br_out | rfl)
def z10(an q2e:Nat)(b0:List Nat):Nat→Int→(List Nat)→Option ((Int×Bool×(List Nat)))
 | 0,_,_=>none
 | n+1,i,b1=>z1v an q2e b0  i b1  (fun i' b1'=>z10 an q2e b0 n i' b1') (fun c0_ c1_ c2_=>some (c0_,c1_,c2_))
theorem zfo:z10 a0 a1 g2 (a3+1) c4 g5=z1v a0 a1 g2  c4 g5  (fun i' b1'=>z10 a0 a1 g2 a3 i' b1') (fun c0_ c1_ c2_=>some (c0_,c1_,c2_)):=rfl
def zdc:Bool:=(z10 a0 a1 g2 big c3 g4).isSome
def zt5:Int:=((z10 a0 a1 g2 big c3 g4).getD default).1
def zt1:Bool:=((z10 a0 a1 g2 big c3 g4).getD default).2.1
def z9z:List Nat:=((z10 a0 a1 g2 big c3 g4).getD default).2.2
def z15{R:Type}(kn_:Nat→Int→Option R)(k0_:Nat→Int→Bool→Option R):Option R:=(br (ltI c5 (Int.ofNat a0)) (grd (okIx (subI .i64 c5 1) a0) (grd (okIx c5 a0) (grd (okIx c5 a3) (grd (okIx (subI .i64 c5 1) a3) (kn_ (fop .add .f32 a4 (fop .mul .f32 (fop .sub .f32 (gF g1 (ixO 0 c5 3)) (gF g1 (ixO 0 (subI .i64 c5 1) 3))) (fop .quo .f32 (fop .add .f32 (gF g2 (ixO 0 (subI .i64 c5 1) 1)) (gF g2 (ixO 0 c5 1))) 1073741824))) (addI .i64 c5 1)))))) (k0_ a4 c5 (ltI c5 (Int.ofNat a0))))
theorem zom{R R':Type}(o:Option R→Option R')(h0:o none=none)(kn_:Nat→Int→Option R)(k0_:Nat→Int→Bool→Option R):z15 a0 g1 g2 a3 a4 c5 (fun all' i'=>o (kn_ all' i')) (fun c0_ c1_ c2_=>o (k0_ c0_ c1_ c2_))=o (z15 a0 g1 g2 a3 a4 c5 kn_ k0_):=by
 unfold z15
 repeat (first | apply grd_out h0 | apply br_out | rfl)
def z0d(q2a:Nat)(b3 b4:List Nat)(q2r:Nat):Nat→Nat→Int→Option ((Nat×Int×Bool))
 | 0,_,_=>none
 | n+1,all,i=>z15 q2a b3 b4 q2r  all i  (fun all' i'=>z0d q2a b3 b4 q2r n all' i') (fun c0_ c1_ c2_=>some (c0_,c1_,c2_))
theorem zcz:z0d a0 g1 g2 a3 (a4+1) a5 c6=z15 a0 g1 g2 a3  a5 c6  (fun all' i'=>z0d a0 g1 g2 a3 a4 all' i') (fun c0_ c1_ c2_=>some (c0_,c1_,c2_)):=rfl
def zh5:Bool:=(z0d a0 g1 g2 a3 big a4 c5).isSome
def zep:Nat:=((z0d a0 g1 g2 a3 big a4 c5).getD default).1
def zp2:Int:=((z0d a0 g1 g2 a3 big a4 c5).getD default).2.1
def zpc:Bool:=((z0d a0 g1 g2 a3 big a4 c5).getD default).2.2
def z3j{R:Type}(kn_:Nat→Int→Option R)(k0_:Nat→Int→Bool→Option R):Option R:=(br (ltI (addI .i64 c5 1) (Int.ofNat a0)) (grd (okIx (addI .i64 c5 1) a2) (grd (okIx c5 a2) (grd (okIx c5 a0) (grd (okIx (addI .i64 c5 1) a0) (kn_ (fop .add .f32 a4 (fop .mul .f32 (fop .sub .f32 (gF g1 (ixO 0 (addI .i64 c5 1) 3)) (gF g1 (ixO 0 c5 3))) (fop .mul .f32 1056964608 (fop .add .f32 (gF g3 (ixO 0 c5 1)) (gF g3 (ixO 0 (addI .i64 c5 1) 1)))))) (addI .i64 c5 1)))))) (k0_ a4 c5 (ltI (addI .i64 c5 1) (Int.ofNat a0))))
theorem zxk{R R':Type}(o:Option R→Option R')(h0:o none=none)(kn_:Nat→Int→Option R)(k0_:Nat→Int→Bool→Option R):z3j a0 g1 a2 g3 a4 c5 (fun sum' i'=>o (kn_ sum' i')) (fun c0_ c1_ c2_=>o (k0_ c0_ c1_ c2_))=o (z3j a0 g1 a2 g3 a4 c5 kn_ k0_):=by
 unfold z3j
 repeat (first | apply grd_out h0 | apply br_out | rfl)
def z0u(q2a:Nat)(b3:List Nat)(q0w:Nat)(b5:List Nat):Nat→Nat→Int→Option ((Nat×Int×Bool))
 | 0,_,_=>none
 | n+1,sum,i=>z3j q2a b3 q0w b5  sum i  (fun sum' i'=>z0u q2a b3 q0w b5 n sum' i') (fun c0_ c1_ c2_=>some (c0_,c1_,c2_))
theorem zkj:z0u a0 g1 a2 g3 (a4+1) a5 c6=z3j a0 g1 a2 g3  a5 c6  (fun sum' i'=>z0u a0 g1 a2 g3 a4 sum' i') (fun c0_ c1_ c2_=>some (c0_,c1_,c2_)):=rfl
def zr4:Bool:=(z0u a0 g1 a2 g3 big a4 c5).isSome
def zmv:Nat:=((z0u a0 g1 a2 g3 big a4 c5).getD default).1
def zzg:Int:=((z0u a0 g1 a2 g3 big a4 c5).getD default).2.1
def y0a:Bool:=((z0u a0 g1 a2 g3 big a4 c5).getD default).2.2
def z0t{R:Type}(kn_:Int→Option R)(k0_:Int→Option R)(k1_:Int→Bool→Option R):Option R:=(br (ltI c4 c2) (grd (okIx c4 a0) (br (beqB e1 (gB m3 (ixO 0 c4 1))) (k0_ c4) (kn_ (addI .i64 c4 1)))) (k1_ c4 (ltI c4 c2)))
theorem zjc{R R':Type}(o:Option R→Option R')(h0:o none=none)(kn_:Int→Option R)(k0_:Int→Option R)(k1_:Int→Bool→Option R):z0t a0 e1 c2 m3 c4 (fun t8'=>o (kn_ t8')) (fun c0_=>o (k0_ c0_)) (fun c0_ c1_=>o (k1_ c0_ c1_))=o (z0t a0 e1 c2 m3 c4 kn_ k0_ k1_):=by
 unfold z0t
 repeat (first | apply grd_out h0 | apply br_out | rfl)
def z04(sn:Nat)(v:Bool)(t7:Int)(b0:List Bool):Nat→Int→Option ((Int)⊕(Int×Bool))
 | 0,_=>none
 | n+1,t8=>z0t sn v t7 b0  t8  (fun t8'=>z04 sn v t7 b0 n t8') (fun c0_=>some (Sum.inl c0_)) (fun c0_ c1_=>some (Sum.inr (c0_,c1_)))
theorem z8v:z04 a0 e1 c2 m3 (a4+1) c5=z0t a0 e1 c2 m3  c5  (fun t8'=>z04 a0 e1 c2 m3 a4 t8') (fun c0_=>some (Sum.inl c0_)) (fun c0_ c1_=>some (Sum.inr (c0_,c1_))):=rfl
def z7e:Bool:=(z04 a0 e1 c2 m3 big c4).isSome
def z6s:Bool:=oL (z04 a0 e1 c2 m3 big c4)
def z9q:Int:=((tL (z04 a0 e1 c2 m3 big c4)).getD default)
def zkq:Int:=((tR (z04 a0 e1 c2 m3 big c4)).getD default).1
def zkp:Bool:=((tR (z04 a0 e1 c2 m3 big c4)).getD default).2
def zgn{R:Type}(q27:Int)(q2c q2d:Nat)(q2i:Int)(k_:Int→Option R):Option R:=(grd (zsn a0 (pF g1 0 (muN a0 1)) a2 (pF g3 0 (muN a2 1)) a4 (pF g5 0 (muN a4 1)) q2i) (br (ltI (z8b a0 (pF g1 0 (muN a0 1)) a2 (pF g3 0 (muN a2 1)) a4 (pF g5 0 (muN a4 1)) q2i) 0) (k_ (Int.negSucc 0)) (grd (zq9 a6 (pF g7 0 (muN a6 3)) (z8b a0 (pF g1 0 (muN a0 1)) a2 (pF g3 0 (muN a2 1)) a4 (pF g5 0 (muN a4 1)) q2i)) (br (ltI (zg9 a6 (pF g7 0 (muN a6 3)) (z8b a0 (pF g1 0 (muN a0 1)) a2 (pF g3 0 (muN a2 1)) a4 (pF g5 0 (muN a4 1)) q2i)) 0) (k_ (Int.negSucc 0)) (k_ (zg9 a6 (pF g7 0 (muN a6 3)) (z8b a0 (pF g1 0 (muN a0 1)) a2 (pF g3 0 (muN a2 1)) a4 (pF g5 0 (muN a4 1)) q2i)))))))
def z7c:Option (Int):=zgn a0 g1 a2 g3 a4 g5 a6 g7 c8 a9 a10 c11 (fun c0_=>some c0_)
theorem y1e:Nt1 (fun {R}=>zgn (R:=R) a0 g1 a2 g3 a4 g5 a6 g7 c8 a9 a10 c11):=by
 intro R R' o h0 k;unfold zgn;repeat (first | apply grd_out h0 | apply br_out | rfl)
def znd:Bool:=(z7c a0 g1 a2 g3 a4 g5 a6 g7 c8 a9 a10 c11).isSome
def zle:Int:=((z7c a0 g1 a2 g3 a4 g5 a6 g7 c8 a9 a10 c11).getD default)
def zbt{R:Type} (k_:Nat→(List Nat)→Option R):Option R:=(grd (okMk (Int.ofNat a0) (Int.ofNat a0) 4) (grd (zdc a0 (toN (Int.ofNat a0)) g1 0 (rF (muN (toN (Int.ofNat a0)) 1))) (k_ (toN (Int.ofNat a0)) (z9z a0 (toN (Int.ofNat a0)) g1 0 (rF (muN (toN (Int.ofNat a0)) 1))))))
def z3r:Option (Nat×(List Nat)):=zbt a0 g1 (fun c0_ c1_=>some (c0_,c1_))
theorem zwo:Nt2 (fun {R}=>zbt (R:=R) a0 g1):=by
 intro R R' o h0 k;unfold zbt;repeat (first | apply grd_out h0 | apply br_out | rfl)
def zbp:Bool:=(z3r a0 g1).isSome
def zak:Nat:=((z3r a0 g1).getD default).1
def zaf:List Nat:=((z3r a0 g1).getD default).2
def z8q{R:Type}(q00:Nat)(q03:List Nat)(q02:Nat)(q05:List Nat)(q01:Nat)(q04:List Nat)(q06:Nat)(q07:List Nat)(q0g:Int)(q0k q0j q1s:Nat)(q26:List Nat)(k_:Nat→Option R):Option R:=(grd (zh5 q1s q07 q26 q06 0 1) (k_ (zep q1s q07 q26 q06 0 1)))
def z3i:Option (Nat):=z8q a0 g1 a2 g3 a4 g5 a6 g7 c8 a9 a10 a11 g12 (fun c0_=>some c0_)
theorem zrz:Nt1 (fun {R}=>z8q (R:=R) a0 g1 a2 g3 a4 g5 a6 g7 c8 a9 a10 a11 g12):=by
 intro R R' o h0 k;unfold z8q;repeat (first | apply grd_out h0 | apply br_out | rfl)
def zl2:Bool:=(z3i a0 g1 a2 g3 a4 g5 a6 g7 c8 a9 a10 a11 g12).isSome
def z7u:Nat:=((z3i a0 g1 a2 g3 a4 g5 a6 g7 c8 a9 a10 a11 g12).getD default)
def zip{R:Type}(q00:Nat)(q03:List Nat)(q02:Nat)(q05:List Nat)(q01:Nat)(q04:List Nat)(q06:Nat)(q07:List Nat)(q0g:Int)(q0k q0j q1s:Nat)(q26:List Nat)(k_:Nat→Option R):Option R:=(grd (zr4 q1s q07 q06 q26 0 0) (k_ (zmv q1s q07 q06 q26 0 0)))
def z85:Option (Nat):=zip a0 g1 a2 g3 a4 g5 a6 g7 c8 a9 a10 a11 g12 (fun c0_=>some c0_)
theorem y3a:Nt1 (fun {R}=>zip (R:=R) a0 g1 a2 g3 a4 g5 a6 g7 c8 a9 a10 a11 g12):=by
 intro R R' o h0 k;unfold zip;repeat (first | apply grd_out h0 | apply br_out | rfl)
def zz3:Bool:=(z85 a0 g1 a2 g3 a4 g5 a6 g7 c8 a9 a10 a11 g12).isSome
def zgo:Nat:=((z85 a0 g1 a2 g3 a4 g5 a6 g7 c8 a9 a10 a11 g12).getD default)
def z67{R:Type}(k_:Int→Option R):Option R:=(grd (z7e a0 e2 (Int.ofNat a0) m1 0) (br (z6s a0 e2 (Int.ofNat a0) m1 0) (k_ (z9q a0 e2 (Int.ofNat a0) m1 0)) (k_ (Int.negSucc 0))))
def z1z:Option (Int):=z67 a0 m1 e2 (fun c0_=>some c0_)
theorem zmn:Nt1 (fun {R}=>z67 (R:=R) a0 m1 e2):=by
 intro R R' o h0 k;unfold z67;repeat (first | apply grd_out h0 | apply br_out | rfl)
def zfp:Bool:=(z1z a0 m1 e2).isSome
def zet:Int:=((z1z a0 m1 e2).getD default)
def zbr{R:Type}(k_:Bool→Option R):Option R:=(grd (zo1 a0) (k_ (bnot (zlr a0))))
def z52:Option (Bool):=zbr a0 (fun c0_=>some c0_)
theorem zvo:Nt1 (fun {R}=>zbr (R:=R) a0):=by
 intro R R' o h0 k;unfold zbr;repeat (first | apply grd_out h0 | apply br_out | rfl)
def zqc:Bool:=(z52 a0).isSome
def zof:Bool:=((z52 a0).getD default)
def zl1{R:Type}(k_:Nat→Option R):Option R:=(grd (bnot (nanQ .f64 a0)) (k_ (fint Ieee.Toward.zero a0)))
def z9c:Option (Nat):=zl1 a0 (fun c0_=>some c0_)
theorem y51:Nt1 (fun {R}=>zl1 (R:=R) a0):=by
 intro R R' o h0 k;unfold zl1;repeat (first | apply grd_out h0 | apply br_out | rfl)
def y1m:Bool:=(z9c a0).isSome
def zex:Nat:=((z9c a0).getD default)
def z1x{R:Type}(kn_:Int→Option R)(k0_:Unit→Option R)(k1_:Int→Bool→Option R):Option R:=(br (ltI c4 (Int.ofNat a0)) (grd (okIx c4 a0) (grd (okIx c4 a1) (grd (z45 (fcvV .f32 .f64 (gF g2 (ixO 0 c4 1))) (fcvV .f32 .f64 (gF g3 (ixO 0 c4 1)))) (br (bnot (z3s (fcvV .f32 .f64 (gF g2 (ixO 0 c4 1))) (fcvV .f32 .f64 (gF g3 (ixO 0 c4 1))))) (k0_ ()) (kn_ (addI .i64 c4 1)))))) (k1_ c4 (ltI c4 (Int.ofNat a0))))
theorem zss{R R':Type}(o:Option R→Option R')(h0:o none=none)(kn_:Int→Option R)(k0_:Unit→Option R)(k1_:Int→Bool→Option R):z1x a0 a1 g2 g3 c4 (fun i'=>o (kn_ i')) (fun _=>o (k0_ ())) (fun c0_ c1_=>o (k1_ c0_ c1_))=o (z1x a0 a1 g2 g3 c4 kn_ k0_ k1_):=by
 unfold z1x
 repeat (first | apply grd_out h0 | apply br_out | rfl)
def z0z(an bn:Nat)(b0 b1:List Nat):Nat→Int→Option ((Unit)⊕(Int×Bool))
 | 0,_=>none
 | n+1,i=>z1x an bn b0 b1  i  (fun i'=>z0z an bn b0 b1 n i') (fun _=>some (Sum.inl ())) (fun c0_ c1_=>some (Sum.inr (c0_,c1_)))
theorem zfs:z0z a0 a1 g2 g3 (a4+1) c5=z1x a0 a1 g2 g3  c5  (fun i'=>z0z a0 a1 g2 g3 a4 i') (fun _=>some (Sum.inl ())) (fun c0_ c1_=>some (Sum.inr (c0_,c1_))):=rfl
def zkr:Bool:=(z0z a0 a1 g2 g3 big c4).isSome
def zkb:Bool:=oL (z0z a0 a1 g2 g3 big c4)
def ztj:Int:=((tR (z0z a0 a1 g2 g3 big c4)).getD default).1
def ztp:Bool:=((tR (z0z a0 a1 g2 g3 big c4)).getD default).2
def z1w{R:Type} (kn_:Int→(List Nat)→Option R) (k0_:Int→Bool→(List Nat)→Option R):Option R:=(br (ltI c3 (Int.ofNat a0)) (grd (okIx c3 a0) (grd (zrr (gF g2 (ixO 0 c3 3)) (gF g2 (Nat.succ (ixO 0 c3 3))) (gF g2 (Nat.succ (Nat.succ (ixO 0 c3 3))))) (grd (okIx c3 a1) (kn_ (addI .i64 c3 1) (sF (sF (sF g4 (ixO 0 c3 3) (gF g2 (ixO 0 c3 3))) (Nat.succ (ixO 0 c3 3)) (gF g2 (Nat.succ (ixO 0 c3 3)))) (Nat.succ (Nat.succ (ixO 0 c3 3))) (gF g2 (Nat.succ (Nat.succ (ixO 0 c3 3))))))))) (k0_ c3 (ltI c3 (Int.ofNat a0)) g4))
theorem zrk{R R':Type}(o:Option R→Option R')(h0:o none=none) (kn_:Int→(List Nat)→Option R) (k0_:Int→Bool→(List Nat)→Option R):z1w a0 a1 g2 c3 g4 (fun i' b1'=>o (kn_ i' b1')) (fun c0_ c1_ c2_=>o (k0_ c0_ c1_ c2_))=o (z1w a0 a1 g2 c3 g4 kn_ k0_):=by
 unfold z1w
 repeat (first | apply grd_out h0 | apply br_out | rfl)
def z0m(an q2e:Nat)(b0:List Nat):Nat→Int→(List Nat)→Option ((Int×Bool×(List Nat)))
 | 0,_,_=>none
 | n+1,i,b1=>z1w an q2e b0  i b1  (fun i' b1'=>z0m an q2e b0 n i' b1') (fun c0_ c1_ c2_=>some (c0_,c1_,c2_))
theorem zfm:z0m a0 a1 g2 (a3+1) c4 g5=z1w a0 a1 g2  c4 g5  (fun i' b1'=>z0m a0 a1 g2 a3 i' b1') (fun c0_ c1_ c2_=>some (c0_,c1_,c2_)):=rfl
def ze1:Bool:=(z0m a0 a1 g2 big c3 g4).isSome
def zsz:Int:=((z0m a0 a1 g2 big c3 g4).getD default).1
def zt8:Bool:=((z0m a0 a1 g2 big c3 g4).getD default).2.1
def z9w:List Nat:=((z0m a0 a1 g2 big c3 g4).getD default).2.2
def z1g{R:Type}(kn_:Nat→Int→Option R)(k0_:Nat→Int→Bool→Option R):Option R:=(br (leI 1 c2) (kn_ (fop .sub .f64 4607182418800017408 (fop .quo .f64 (fop .mul .f64 a0 a1) (fOI .f64 (mulI .i64 (mulI .i64 2 c2) (addI .i64 (mulI .i64 2 c2) 1))))) (subI .i64 c2 1)) (k0_ a1 c2 (leI 1 c2)))
theorem zpe{R R':Type}(o:Option R→Option R')(h0:o none=none)(kn_:Nat→Int→Option R)(k0_:Nat→Int→Bool→Option R):z1g a0 a1 c2 (fun t7' t8'=>o (kn_ t7' t8')) (fun c0_ c1_ c2_=>o (k0_ c0_ c1_ c2_))=o (z1g a0 a1 c2 kn_ k0_):=by
 unfold z1g
 repeat (first | apply grd_out h0 | apply br_out | rfl)
def z0j(t6:Nat):Nat→Nat→Int→Option ((Nat×Int×Bool))
 | 0,_,_=>none
 | n+1,t7,t8=>z1g t6  t7 t8  (fun t7' t8'=>z0j t6 n t7' t8') (fun c0_ c1_ c2_=>some (c0_,c1_,c2_))
theorem zdb:z0j a0 (a1+1) a2 c3=z1g a0  a2 c3  (fun t7' t8'=>z0j a0 a1 t7' t8') (fun c0_ c1_ c2_=>some (c0_,c1_,c2_)):=rfl
def z13:Bool:=(z0j a0 big a1 c2).isSome
def z07:Nat:=((z0j a0 big a1 c2).getD default).1
def zqz:Int:=((z0j a0 big a1 c2).getD default).2.1
def zqj:Bool:=((z0j a0 big a1 c2).getD default).2.2
def zbo{R:Type}(k_:Bool→Option R):Option R:=(br (neI (Int.ofNat a0) (Int.ofNat a2)) (k_ Bool.false) (grd (zkr a0 a2 g1 g3 0) (br (zkb a0 a2 g1 g3 0) (k_ Bool.false) (k_ Bool.true))))
def z4v:Option (Bool):=zbo a0 g1 a2 g3 (fun c0_=>some c0_)
theorem zvu:Nt1 (fun {R}=>zbo (R:=R) a0 g1 a2 g3):=by
 intro R R' o h0 k;unfold zbo;repeat (first | apply grd_out h0 | apply br_out | rfl)
def zbw:Bool:=(z4v a0 g1 a2 g3).isSome
def za5:Bool:=((z4v a0 g1 a2 g3).getD default)
def z4m{R:Type}(k_:Bool→Option R):Option R:=(grd (zfp a0 (pB m1 0 (muN a0 1)) e2) (k_ (leI 0 (zet a0 (pB m1 0 (muN a0 1)) e2))))
def z18:Option (Bool):=z4m a0 m1 e2 (fun c0_=>some c0_)
theorem zjv:Nt1 (fun {R}=>z4m (R:=R) a0 m1 e2):=by
 intro R R' o h0 k;unfold z4m;repeat (first | apply grd_out h0 | apply br_out | rfl)
def z4o:Bool:=(z18 a0 m1 e2).isSome
def z44:Bool:=((z18 a0 m1 e2).getD default)
def zdr{R:Type} (k_:Nat→Nat→Nat→(List Nat)→(List Nat)→(List Nat)→Option R):Option R:=(grd (zbp a0 (pF g1 0 (muN a0 1))) (grd (zbp a2 (pF g3 0 (muN a2 1))) (grd (zbp a4 (pF g5 0 (muN a4 1))) (k_ (zak a0 (pF g1 0 (muN a0 1))) (zak a2 (pF g3 0 (muN a2 1))) (zak a4 (pF g5 0 (muN a4 1))) (zaf a0 (pF g1 0 (muN a0 1))) (zaf a2 (pF g3 0 (muN a2 1))) (zaf a4 (pF g5 0 (muN a4 1)))))))
def z1q:Option (Nat×Nat×Nat×(List Nat)×(List Nat)×(List Nat)):=zdr a0 g1 a2 g3 a4 g5 (fun c0_ c1_ c2_ c3_ c4_ c5_=>some (c0_,c1_,c2_,c3_,c4_,c5_))
theorem zx5:Nt6 (fun {R}=>zdr (R:=R) a0 g1 a2 g3 a4 g5):=by
 intro R R' o h0 k;unfold zdr;repeat (first | apply grd_out h0 | apply br_out | rfl)
def zsc:Bool:=(z1q a0 g1 a2 g3 a4 g5).isSome
def zq4:Nat:=((z1q a0 g1 a2 g3 a4 g5).getD default).1
def zqg:Nat:=((z1q a0 g1 a2 g3 a4 g5).getD default).2.1
def zq7:Nat:=((z1q a0 g1 a2 g3 a4 g5).getD default).2.2.1
def zpo:List Nat:=((z1q a0 g1 a2 g3 a4 g5).getD default).2.2.2.1
def zps:List Nat:=((z1q a0 g1 a2 g3 a4 g5).getD default).2.2.2.2.1
def zqa:List Nat:=((z1q a0 g1 a2 g3 a4 g5).getD default).2.2.2.2.2
def zc5{R:Type} (k_:Nat→(List Nat)→Option R):Option R:=(grd (okMk (Int.ofNat a0) (Int.ofNat a0) 12) (grd (ze1 a0 (toN (Int.ofNat a0)) g1 0 (rF (muN (toN (Int.ofNat a0)) 3))) (k_ (toN (Int.ofNat a0)) (z9w a0 (toN (Int.ofNat a0)) g1 0 (rF (muN (toN (Int.ofNat a0)) 3))))))
def z3t:Option (Nat×(List Nat)):=zc5 a0 g1 (fun c0_ c1_=>some (c0_,c1_))
theorem zvw:Nt2 (fun {R}=>zc5 (R:=R) a0 g1):=by
 intro R R' o h0 k;unfold zc5;repeat (first | apply grd_out h0 | apply br_out | rfl)
def zq6:Bool:=(z3t a0 g1).isSome
def zok:Nat:=((z3t a0 g1).getD default).1
def zol:List Nat:=((z3t a0 g1).getD default).2
def z5z{R:Type}(k_:Nat→Option R):Option R:=(br (fcmp .neq .f64 (fop .sub .f64 a0 a0) 0) (grd zy4 (k_ zoc)) (br (fcmp .geq .f64 a0 4841369599423283200) (k_ 0) (br (fcmp .leq .f64 a0 14064741636278059008) (k_ 0) (grd (f2iB .f64 a0 .i64) (br (fcmp .lss .f64 (fop .sub .f64 a0 (fOI .f64 (f2iV .f64 a0 .i64))) 0) (br (fcmp .geq .f64 (fop .add .f64 (fop .sub .f64 a0 (fOI .f64 (f2iV .f64 a0 .i64))) 4607182418800017408) 4602678819172646912) (br (fcmp .gtr .f64 (fop .sub .f64 (fop .add .f64 (fop .sub .f64 a0 (fOI .f64 (f2iV .f64 a0 .i64))) 4607182418800017408) 4602678819172646912) 4598175219545276416) (grd (z13 (fop .mul .f64 (fop .mul .f64 (fop .sub .f64 4602678819172646912 (fop .sub .f64 (fop .add .f64 (fop .sub .f64 a0 (fOI .f64 (f2iV .f64 a0 .i64))) 4607182418800017408) 4602678819172646912)) 4618760256179416344) (fop .mul .f64 (fop .sub .f64 4602678819172646912 (fop .sub .f64 (fop .add .f64 (fop .sub .f64 a0 (fOI .f64 (f2iV .f64 a0 .i64))) 4607182418800017408) 4602678819172646912)) 4618760256179416344)) 4607182418800017408 8) (br (fcmp .geq .f64 (fop .add .f64 (fop .sub .f64 a0 (fOI .f64 (f2iV .f64 a0 .i64))) 4607182418800017408) 4602678819172646912) (k_ (fneg .f64 (fop .mul .f64 (fop .mul .f64 (fop .sub .f64 4602678819172646912 (fop .sub .f64 (fop .add .f64 (fop .sub .f64 a0 (fOI .f64 (f2iV .f64 a0 .i64))) 4607182418800017408) 4602678819172646912)) 4618760256179416344) (z07 (fop .mul .f64 (fop .mul .f64 (fop .sub .f64 4602678819172646912 (fop .sub .f64 (fop .add .f64 (fop .sub .f64 a0 (fOI .f64 (f2iV .f64 a0 .i64))) 4607182418800017408) 4602678819172646912)) 4618760256179416344) (fop .mul .f64 (fop .sub .f64 4602678819172646912 (fop .sub .f64 (fop .add .f64 (fop .sub .f64 a0 (fOI .f64 (f2iV .f64 a0 .i64))) 4607182418800017408) 4602678819172646912)) 4618760256179416344)) 4607182418800017408 8)))) (k_ (fop .mul .f64 (fop .mul .f64 (fop .sub .f64 4602678819172646912 (fop .sub .f64 (fop .add .f64 (fop .sub .f64 a0 (fOI .f64 (f2iV .f64 a0 .i64))) 4607182418800017408) 4602678819172646912)) 4618760256179416344) (z07 (fop .mul .f64 (fop .mul .f64 (fop .sub .f64 4602678819172646912 (fop .sub .f64 (fop .add .f64 (fop .sub .f64 a0 (fOI .f64 (f2iV .f64 a0 .i64))) 4607182418800017408) 4602678819172646912)) 4618760256179416344) (fop .mul .f64 (fop .sub .f64 4602678819172646912 (fop .sub .f64 (fop .add .f64 (fop .sub .f64 a0 (fOI .f64 (f2iV .f64 a0 .i64))) 4607182418800017408) 4602678819172646912)) 4618760256179416344)) 4607182418800017408 8))))) (grd (z13 (fop .mul .f64 (fop .mul .f64 (fop .sub .f64 (fop .add .f64 (fop .sub .f64 a0 (fOI .f64 (f2iV .f64 a0 .i64))) 4607182418800017408) 4602678819172646912) 4618760256179416344) (fop .mul .f64 (fop .sub .f64 (fop .add .f64 (fop .sub .f64 a0 (fOI .f64 (f2iV .f64 a0 .i64))) 4607182418800017408) 4602678819172646912) 4618760256179416344)) 4607182418800017408 8) (br (fcmp .geq .f64 (fop .add .f64 (fop .sub .f64 a0 (fOI .f64 (f2iV .f64 a0 .i64))) 4607182418800017408) 4602678819172646912) (k_ (fneg .f64 (fop .mul .f64 (fop .mul .f64 (fop .sub .f64 (fop .add .f64 (fop .sub .f64 a0 (fOI .f64 (f2iV .f64 a0 .i64))) 4607182418800017408) 4602678819172646912) 4618760256179416344) (z07 (fop .mul .f64 (fop .mul .f64 (fop .sub .f64 (fop .add .f64 (fop .sub .f64 a0 (fOI .f64 (f2iV .f64 a0 .i64))) 4607182418800017408) 4602678819172646912) 4618760256179416344) (fop .mul .f64 (fop .sub .f64 (fop .add .f64 (fop .sub .f64 a0 (fOI .f64 (f2iV .f64 a0 .i64))) 4607182418800017408) 4602678819172646912) 4618760256179416344)) 4607182418800017408 8)))) (k_ (fop .mul .f64 (fop .mul .f64 (fop .sub .f64 (fop .add .f64 (fop .sub .f64 a0 (fOI .f64 (f2iV .f64 a0 .i64))) 4607182418800017408) 4602678819172646912) 4618760256179416344) (z07 (fop .mul .f64 (fop .mul .f64 (fop .sub .f64 (fop .add .f64 (fop .sub .f64 a0 (fOI .f64 (f2iV .f64 a0 .i64))) 4607182418800017408) 4602678819172646912) 4618760256179416344) (fop .mul .f64 (fop .sub .f64 (fop .add .f64 (fop .sub .f64 a0 (fOI .f64 (f2iV .f64 a0 .i64))) 4607182418800017408) 4602678819172646912) 4618760256179416344)) 4607182418800017408 8)))))) (br (fcmp .gtr .f64 (fop .add .f64 (fop .sub .f64 a0 (fOI .f64 (f2iV .f64 a0 .i64))) 4607182418800017408) 4598175219545276416) (grd (z13 (fop .mul .f64 (fop .mul .f64 (fop .sub .f64 4602678819172646912 (fop .add .f64 (fop .sub .f64 a0 (fOI .f64 (f2iV .f64 a0 .i64))) 4607182418800017408)) 4618760256179416344) (fop .mul .f64 (fop .sub .f64 4602678819172646912 (fop .add .f64 (fop .sub .f64 a0 (fOI .f64 (f2iV .f64 a0 .i64))) 4607182418800017408)) 4618760256179416344)) 4607182418800017408 8) (br (fcmp .geq .f64 (fop .add .f64 (fop .sub .f64 a0 (fOI .f64 (f2iV .f64 a0 .i64))) 4607182418800017408) 4602678819172646912) (k_ (fneg .f64 (fop .mul .f64 (fop .mul .f64 (fop .sub .f64 4602678819172646912 (fop .add .f64 (fop .sub .f64 a0 (fOI .f64 (f2iV .f64 a0 .i64))) 4607182418800017408)) 4618760256179416344) (z07 (fop .mul .f64 (fop .mul .f64 (fop .sub .f64 4602678819172646912 (fop .add .f64 (fop .sub .f64 a0 (fOI .f64 (f2iV .f64 a0 .i64))) 4607182418800017408)) 4618760256179416344) (fop .mul .f64 (fop .sub .f64 4602678819172646912 (fop .add .f64 (fop .sub .f64 a0 (fOI .f64 (f2iV .f64 a0 .i64))) 4607182418800017408)) 4618760256179416344)) 4607182418800017408 8)))) (k_ (fop .mul .f64 (fop .mul .f64 (fop .sub .f64 4602678819172646912 (fop .add .f64 (fop .sub .f64 a0 (fOI .f64 (f2iV .f64 a0 .i64))) 4607182418800017408)) 4618760256179416344) (z07 (fop .mul .f64 (fop .mul .f64 (fop .sub .f64 4602678819172646912 (fop .add .f64 (fop .sub .f64 a0 (fOI .f64 (f2iV .f64 a0 .i64))) 4607182418800017408)) 4618760256179416344) (fop .mul .f64 (fop .sub .f64 4602678819172646912 (fop .add .f64 (fop .sub .f64 a0 (fOI .f64 (f2iV .f64 a0 .i64))) 4607182418800017408)) 4618760256179416344)) 4607182418800017408 8))))) (grd (z13 (fop .mul .f64 (fop .mul .f64 (fop .add .f64 (fop .sub .f64 a0 (fOI .f64 (f2iV .f64 a0 .i64))) 4607182418800017408) 4618760256179416344) (fop .mul .f64 (fop .add .f64 (fop .sub .f64 a0 (fOI .f64 (f2iV .f64 a0 .i64))) 4607182418800017408) 4618760256179416344)) 4607182418800017408 8) (br (fcmp .geq .f64 (fop .add .f64 (fop .sub .f64 a0 (fOI .f64 (f2iV .f64 a0 .i64))) 4607182418800017408) 4602678819172646912) (k_ (fneg .f64 (fop .mul .f64 (fop .mul .f64 (fop .add .f64 (fop .sub .f64 a0 (fOI .f64 (f2iV .f64 a0 .i64))) 4607182418800017408) 4618760256179416344) (z07 (fop .mul .f64 (fop .mul .f64 (fop .add .f64 (fop .sub .f64 a0 (fOI .f64 (f2iV .f64 a0 .i64))) 4607182418800017408) 4618760256179416344) (fop .mul .f64 (fop .add .f64 (fop .sub .f64 a0 (fOI .f64 (f2iV .f64 a0 .i64))) 4607182418800017408) 4618760256179416344)) 4607182418800017408 8)))) (k_ (fop .mul .f64 (fop .mul .f64 (fop .add .f64 (fop .sub .f64 a0 (fOI .f64 (f2iV .f64 a0 .i64))) 4607182418800017408) 4618760256179416344) (z07 (fop .mul .f64 (fop .mul .f64 (fop .add .f64 (fop .sub .f64 a0 (fOI .f64 (f2iV .f64 a0 .i64))) 4607182418800017408) 4618760256179416344) (fop .mul .f64 (fop .add .f64 (fop .sub .f64 a0 (fOI .f64 (f2iV .f64 a0 .i64))) 4607182418800017408) 4618760256179416344)) 4607182418800017408 8))))))) (br (fcmp .geq .f64 (fop .sub .f64 a0 (fOI .f64 (f2iV .f64 a0 .i64))) 4602678819172646912) (br (fcmp .gtr .f64 (fop .sub .f64 (fop .sub .f64 a0 (fOI .f64 (f2iV .f64 a0 .i64))) 4602678819172646912) 4598175219545276416) (grd (z13 (fop .mul .f64 (fop .mul .f64 (fop .sub .f64 4602678819172646912 (fop .sub .f64 (fop .sub .f64 a0 (fOI .f64 (f2iV .f64 a0 .i64))) 4602678819172646912)) 4618760256179416344) (fop .mul .f64 (fop .sub .f64 4602678819172646912 (fop .sub .f64 (fop .sub .f64 a0 (fOI .f64 (f2iV .f64 a0 .i64))) 4602678819172646912)) 4618760256179416344)) 4607182418800017408 8) (br (fcmp .geq .f64 (fop .sub .f64 a0 (fOI .f64 (f2iV .f64 a0 .i64))) 4602678819172646912) (k_ (fneg .f64 (fop .mul .f64 (fop .mul .f64 (fop .sub .f64 4602678819172646912 (fop .sub .f64 (fop .sub .f64 a0 (fOI .f64 (f2iV .f64 a0 .i64))) 4602678819172646912)) 4618760256179416344) (z07 (fop .mul .f64 (fop .mul .f64 (fop .sub .f64 4602678819172646912 (fop .sub .f64 (fop .sub .f64 a0 (fOI .f64 (f2iV .f64 a0 .i64))) 4602678819172646912)) 4618760256179416344) (fop .mul .f64 (fop .sub .f64 4602678819172646912 (fop .sub .f64 (fop .sub .f64 a0 (fOI .f64 (f2iV .f64 a0 .i64))) 4602678819172646912)) 4618760256179416344)) 4607182418800017408 8)))) (k_ (fop .mul .f64 (fop .mul .f64 (fop .sub .f64 4602678819172646912 (fop .sub .f64 (fop .sub .f64 a0 (fOI .f64 (f2iV .f64 a0 .i64))) 4602678819172646912)) 4618760256179416344) (z07 (fop .mul .f64 (fop .mul .f64 (fop .sub .f64 4602678819172646912 (fop .sub .f64 (fop .sub .f64 a0 (fOI .f64 (f2iV .f64 a0 .i64))) 4602678819172646912)) 4618760256179416344) (fop .mul .f64 (fop .sub .f64 4602678819172646912 (fop .sub .f64 (fop .sub .f64 a0 (fOI .f64 (f2iV .f64 a0 .i64))) 4602678819172646912)) 4618760256179416344)) 4607182418800017408 8))))) (grd (z13 (fop .mul .f64 (fop .mul .f64 (fop .sub .f64 (fop .sub .f64 a0 (fOI .f64 (f2iV .f64 a0 .i64))) 4602678819172646912) 4618760256179416344) (fop .mul .f64 (fop .sub .f64 (fop .sub .f64 a0 (fOI .f64 (f2iV .f64 a0 .i64))) 4602678819172646912) 4618760256179416344)) 4607182418800017408 8) (br (fcmp .geq .f64 (fop .sub .f64 a0 (fOI .f64 (f2iV .f64 a0 .i64))) 4602678819172646912) (k_ (fneg .f64 (fop .mul .f64 (fop .mul .f64 (fop .sub .f64 (fop .sub .f64 a0 (fOI .f64 (f2iV .f64 a0 .i64))) 4602678819172646912) 4618760256179416344) (z07 (fop .mul .f64 (fop .mul .f64 (fop .sub .f64 (fop .sub .f64 a0 (fOI .f64 (f2iV .f64 a0 .i64))) 4602678819172646912) 4618760256179416344) (fop .mul .f64 (fop .sub .f64 (fop .sub .f64 a0 (fOI .f64 (f2iV .f64 a0 .i64))) 4602678819172646912) 4618760256179416344)) 4607182418800017408 8)))) (k_ (fop .mul .f64 (fop .mul .f64 (fop .sub .f64 (fop .sub .f64 a0 (fOI .f64 (f2iV .f64 a0 .i64))) 4602678819172646912) 4618760256179416344) (z07 (fop .mul .f64 (fop .mul .f64 (fop .sub .f64 (fop .sub .f64 a0 (fOI .f64 (f2iV .f64 a0 .i64))) 4602678819172646912) 4618760256179416344) (fop .mul .f64 (fop .sub .f64 (fop .sub .f64 a0 (fOI .f64 (f2iV .f64 a0 .i64))) 4602678819172646912) 4618760256179416344)) 4607182418800017408 8)))))) (br (fcmp .gtr .f64 (fop .sub .f64 a0 (fOI .f64 (f2iV .f64 a0 .i64))) 4598175219545276416) (grd (z13 (fop .mul .f64 (fop .mul .f64 (fop .sub .f64 4602678819172646912 (fop .sub .f64 a0 (fOI .f64 (f2iV .f64 a0 .i64)))) 4618760256179416344) (fop .mul .f64 (fop .sub .f64 4602678819172646912 (fop .sub .f64 a0 (fOI .f64 (f2iV .f64 a0 .i64)))) 4618760256179416344)) 4607182418800017408 8) (br (fcmp .geq .f64 (fop .sub .f64 a0 (fOI .f64 (f2iV .f64 a0 .i64))) 4602678819172646912) (k_ (fneg .f64 (fop .mul .f64 (fop .mul .f64 (fop .sub .f64 4602678819172646912 (fop .sub .f64 a0 (fOI .f64 (f2iV .f64 a0 .i64)))) 4618760256179416344) (z07 (fop .mul .f64 (fop .mul .f64 (fop .sub .f64 4602678819172646912 (fop .sub .f64 a0 (fOI .f64 (f2iV .f64 a0 .i64)))) 4618760256179416344) (fop .mul .f64 (fop .sub .f64 4602678819172646912 (fop .sub .f64 a0 (fOI .f64 (f2iV .f64 a0 .i64)))) 4618760256179416344)) 4607182418800017408 8)))) (k_ (fop .mul .f64 (fop .mul .f64 (fop .sub .f64 4602678819172646912 (fop .sub .f64 a0 (fOI .f64 (f2iV .f64 a0 .i64)))) 4618760256179416344) (z07 (fop .mul .f64 (fop .mul .f64 (fop .sub .f64 4602678819172646912 (fop .sub .f64 a0 (fOI .f64 (f2iV .f64 a0 .i64)))) 4618760256179416344) (fop .mul .f64 (fop .sub .f64 4602678819172646912 (fop .sub .f64 a0 (fOI .f64 (f2iV .f64 a0 .i64)))) 4618760256179416344)) 4607182418800017408 8))))) (grd (z13 (fop .mul .f64 (fop .mul .f64 (fop .sub .f64 a0 (fOI .f64 (f2iV .f64 a0 .i64))) 4618760256179416344) (fop .mul .f64 (fop .sub .f64 a0 (fOI .f64 (f2iV .f64 a0 .i64))) 4618760256179416344)) 4607182418800017408 8) (br (fcmp .geq .f64 (fop .sub .f64 a0 (fOI .f64 (f2iV .f64 a0 .i64))) 4602678819172646912) (k_ (fneg .f64 (fop .mul .f64 (fop .mul .f64 (fop .sub .f64 a0 (fOI .f64 (f2iV .f64 a0 .i64))) 4618760256179416344) (z07 (fop .mul .f64 (fop .mul .f64 (fop .sub .f64 a0 (fOI .f64 (f2iV .f64 a0 .i64))) 4618760256179416344) (fop .mul .f64 (fop .sub .f64 a0 (fOI .f64 (f2iV .f64 a0 .i64))) 4618760256179416344)) 4607182418800017408 8)))) (k_ (fop .mul .f64 (fop .mul .f64 (fop .sub .f64 a0 (fOI .f64 (f2iV .f64 a0 .i64))) 4618760256179416344) (z07 (fop .mul .f64 (fop .mul .f64 (fop .sub .f64 a0 (fOI .f64 (f2iV .f64 a0 .i64))) 4618760256179416344) (fop .mul .f64 (fop .sub .f64 a0 (fOI .f64 (f2iV .f64 a0 .i64))) 4618760256179416344)) 4607182418800017408 8))))))))))))
def z20:Option (Nat):=z5z a0 (fun c0_=>some c0_)
theorem zub:Nt1 (fun {R}=>z5z (R:=R) a0):=by
 intro R R' o h0 k;unfold z5z;repeat (first | apply grd_out h0 | apply br_out | rfl)
def zop:Bool:=(z20 a0).isSome
def zf1:Nat:=((z20 a0).getD default)
def zbv{R:Type}(k_:Nat→Option R):Option R:=(grd (y1m a0) (br (fcmp .eql .f64 (zex a0) 0) (br (fcmp .lss .f64 (fop .sub .f64 a0 0) 0) (k_ (fop .add .f64 (fop .sub .f64 a0 0) 4607182418800017408)) (k_ (fop .sub .f64 a0 0))) (br (fcmp .lss .f64 (fop .sub .f64 a0 (zex a0)) 0) (k_ (fop .add .f64 (fop .sub .f64 a0 (zex a0)) 4607182418800017408)) (k_ (fop .sub .f64 a0 (zex a0))))))
def z53:Option (Nat):=zbv a0 (fun c0_=>some c0_)
theorem zwa:Nt1 (fun {R}=>zbv (R:=R) a0):=by
 intro R R' o h0 k;unfold zbv;repeat (first | apply grd_out h0 | apply br_out | rfl)
def zq8:Bool:=(z53 a0).isSome
def z09:Nat:=((z53 a0).getD default)
def z1y{R:Type}(kn_:Int→Option R)(k0_:Unit→Option R)(k1_:Int→Bool→Option R):Option R:=(br (ltI c4 (Int.ofNat a0)) (grd (okIx c4 a0) (grd (okIx c4 a1) (grd (zsu (gF g2 (ixO 0 c4 3)) (gF g2 (Nat.succ (ixO 0 c4 3))) (gF g2 (Nat.succ (Nat.succ (ixO 0 c4 3)))) (gF g3 (ixO 0 c4 3)) (gF g3 (Nat.succ (ixO 0 c4 3))) (gF g3 (Nat.succ (Nat.succ (ixO 0 c4 3))))) (br (bnot (zq5 (gF g2 (ixO 0 c4 3)) (gF g2 (Nat.succ (ixO 0 c4 3))) (gF g2 (Nat.succ (Nat.succ (ixO 0 c4 3)))) (gF g3 (ixO 0 c4 3)) (gF g3 (Nat.succ (ixO 0 c4 3))) (gF g3 (Nat.succ (Nat.succ (ixO 0 c4 3)))))) (k0_ ()) (kn_ (addI .i64 c4 1)))))) (k1_ c4 (ltI c4 (Int.ofNat a0))))
theorem zrg{R R':Type}(o:Option R→Option R')(h0:o none=none)(kn_:Int→Option R)(k0_:Unit→Option R)(k1_:Int→Bool→Option R):z1y a0 a1 g2 g3 c4 (fun i'=>o (kn_ i')) (fun _=>o (k0_ ())) (fun c0_ c1_=>o (k1_ c0_ c1_))=o (z1y a0 a1 g2 g3 c4 kn_ k0_ k1_):=by
 unfold z1y
 repeat (first | apply grd_out h0 | apply br_out | rfl)
def z11(an bn:Nat)(b0 b1:List Nat):Nat→Int→Option ((Unit)⊕(Int×Bool))
 | 0,_=>none
 | n+1,i=>z1y an bn b0 b1  i  (fun i'=>z11 an bn b0 b1 n i') (fun _=>some (Sum.inl ())) (fun c0_ c1_=>some (Sum.inr (c0_,c1_)))
theorem zfn:z11 a0 a1 g2 g3 (a4+1) c5=z1y a0 a1 g2 g3  c5  (fun i'=>z11 a0 a1 g2 g3 a4 i') (fun _=>some (Sum.inl ())) (fun c0_ c1_=>some (Sum.inr (c0_,c1_))):=rfl
def zdg:Bool:=(z11 a0 a1 g2 g3 big c4).isSome
def zcu:Bool:=oL (z11 a0 a1 g2 g3 big c4)
def zts:Int:=((tR (z11 a0 a1 g2 g3 big c4)).getD default).1
def zt6:Bool:=((tR (z11 a0 a1 g2 g3 big c4)).getD default).2
def z40{R:Type}(kn_:Int→Option R)(k0_:Unit→Option R)(k1_:Int→Bool→Option R):Option R:=(br (ltI c7 c0) (grd (okIx c7 a4) (br (fcmp .geq .f32 (gF g1 (ixO 0 c7 1)) 3204448256) (grd (okIx c7 a4) (br (bnot (fcmp .leq .f32 (gF g1 (ixO 0 c7 1)) 1056964608)) (k0_ ()) (br (ltI 0 c7) (grd (okIx c7 a4) (grd (okIx (subI .i64 c7 1) a4) (br (fcmp .leq .f32 (gF g1 (ixO 0 c7 1)) (gF g1 (ixO 0 (subI .i64 c7 1) 1))) (k0_ ()) (grd (okIx c7 a5) (grd (z0w (gF g2 (ixO 0 c7 1))) (br (bnot (z0q (gF g2 (ixO 0 c7 1)))) (k0_ ()) (grd (okIx c7 a6) (grd (z7s (gF g3 (ixO 0 c7 1))) (br (bnot (z76 (gF g3 (ixO 0 c7 1)))) (k0_ ()) (kn_ (addI .i64 c7 1))))))))))) (grd (okIx c7 a5) (grd (z0w (gF g2 (ixO 0 c7 1))) (br (bnot (z0q (gF g2 (ixO 0 c7 1)))) (k0_ ()) (grd (okIx c7 a6) (grd (z7s (gF g3 (ixO 0 c7 1))) (br (bnot (z76 (gF g3 (ixO 0 c7 1)))) (k0_ ()) (kn_ (addI .i64 c7 1))))))))))) (br (bnot Bool.false) (k0_ ()) (br (ltI 0 c7) (grd (okIx c7 a4) (grd (okIx (subI .i64 c7 1) a4) (br (fcmp .leq .f32 (gF g1 (ixO 0 c7 1)) (gF g1 (ixO 0 (subI .i64 c7 1) 1))) (k0_ ()) (grd (okIx c7 a5) (grd (z0w (gF g2 (ixO 0 c7 1))) (br (bnot (z0q (gF g2 (ixO 0 c7 1)))) (k0_ ()) (grd (okIx c7 a6) (grd (z7s (gF g3 (ixO 0 c7 1))) (br (bnot (z76 (gF g3 (ixO 0 c7 1)))) (k0_ ()) (kn_ (addI .i64 c7 1))))))))))) (grd (okIx c7 a5) (grd (z0w (gF g2 (ixO 0 c7 1))) (br (bnot (z0q (gF g2 (ixO 0 c7 1)))) (k0_ ()) (grd (okIx c7 a6) (grd (z7s (gF g3 (ixO 0 c7 1))) (br (bnot (z76 (gF g3 (ixO 0 c7 1)))) (k0_ ()) (kn_ (addI .i64 c7 1)))))))))))) (k1_ c7 (ltI c7 c0)))
theorem y0g{R R':Type}(o:Option R→Option R')(h0:o none=none)(kn_:Int→Option R)(k0_:Unit→Option R)(k1_:Int→Bool→Option R):z40 c0 g1 g2 g3 a4 a5 a6 c7 (fun t4'=>o (kn_ t4')) (fun _=>o (k0_ ())) (fun c0_ c1_=>o (k1_ c0_ c1_))=o (z40 c0 g1 g2 g3 a4 a5 a6 c7 kn_ k0_ k1_):=by
 unfold z40
 repeat (first | apply grd_out h0 | apply br_out | rfl)
def z1j(t3:Int)(b0 b1 b2:List Nat)(q1q q24 q23:Nat):Nat→Int→Option ((Unit)⊕(Int×Bool))
 | 0,_=>none
 | n+1,t4=>z40 t3 b0 b1 b2 q1q q24 q23  t4  (fun t4'=>z1j t3 b0 b1 b2 q1q q24 q23 n t4') (fun _=>some (Sum.inl ())) (fun c0_ c1_=>some (Sum.inr (c0_,c1_)))
theorem zmd:z1j c0 g1 g2 g3 a4 a5 a6 (a7+1) c8=z40 c0 g1 g2 g3 a4 a5 a6  c8  (fun t4'=>z1j c0 g1 g2 g3 a4 a5 a6 a7 t4') (fun _=>some (Sum.inl ())) (fun c0_ c1_=>some (Sum.inr (c0_,c1_))):=rfl
def za9:Bool:=(z1j c0 g1 g2 g3 a4 a5 a6 big c7).isSome
def z92:Bool:=oL (z1j c0 g1 g2 g3 a4 a5 a6 big c7)
def y2d:Int:=((tR (z1j c0 g1 g2 g3 a4 a5 a6 big c7)).getD default).1
def y1d:Bool:=((tR (z1j c0 g1 g2 g3 a4 a5 a6 big c7)).getD default).2
def z0a{R:Type}(kn_:Int→Option R)(k0_:Int→Option R)(k1_:Int→Bool→Option R):Option R:=(br (ltI c3 c1) (grd (okIx c3 a0) (grd (zl0 (gF g2 (ixO 0 c3 1))) (br (zkk (gF g2 (ixO 0 c3 1))) (k0_ c3) (kn_ (addI .i64 c3 1))))) (k1_ c3 (ltI c3 c1)))
theorem z93{R R':Type}(o:Option R→Option R')(h0:o none=none)(kn_:Int→Option R)(k0_:Int→Option R)(k1_:Int→Bool→Option R):z0a a0 c1 g2 c3 (fun t8'=>o (kn_ t8')) (fun c0_=>o (k0_ c0_)) (fun c0_ c1_=>o (k1_ c0_ c1_))=o (z0a a0 c1 g2 c3 kn_ k0_ k1_):=by
 unfold z0a
 repeat (first | apply grd_out h0 | apply br_out | rfl)
def z01(sn:Nat)(t7:Int)(b0:List Nat):Nat→Int→Option ((Int)⊕(Int×Bool))
 | 0,_=>none
 | n+1,t8=>z0a sn t7 b0  t8  (fun t8'=>z01 sn t7 b0 n t8') (fun c0_=>some (Sum.inl c0_)) (fun c0_ c1_=>some (Sum.inr (c0_,c1_)))
theorem z43:z01 a0 c1 g2 (a3+1) c4=z0a a0 c1 g2  c4  (fun t8'=>z01 a0 c1 g2 a3 t8') (fun c0_=>some (Sum.inl c0_)) (fun c0_ c1_=>some (Sum.inr (c0_,c1_))):=rfl
def z2m:Bool:=(z01 a0 c1 g2 big c3).isSome
def z2f:Bool:=oL (z01 a0 c1 g2 big c3)
def z4h:Int:=((tL (z01 a0 c1 g2 big c3)).getD default)
def z9l:Int:=((tR (z01 a0 c1 g2 big c3)).getD default).1
def z9o:Bool:=((tR (z01 a0 c1 g2 big c3)).getD default).2
def z0b{R:Type}(kn_:Int→Option R)(k0_:Int→Option R)(k1_:Int→Bool→Option R):Option R:=(br (ltI c3 c1) (grd (okIx c3 a0) (grd (zoj (gF g2 (ixO 0 c3 1))) (br (zn1 (gF g2 (ixO 0 c3 1))) (k0_ c3) (kn_ (addI .i64 c3 1))))) (k1_ c3 (ltI c3 c1)))
theorem z9u{R R':Type}(o:Option R→Option R')(h0:o none=none)(kn_:Int→Option R)(k0_:Int→Option R)(k1_:Int→Bool→Option R):z0b a0 c1 g2 c3 (fun t8'=>o (kn_ t8')) (fun c0_=>o (k0_ c0_)) (fun c0_ c1_=>o (k1_ c0_ c1_))=o (z0b a0 c1 g2 c3 kn_ k0_ k1_):=by
 unfold z0b
 repeat (first | apply grd_out h0 | apply br_out | rfl)
def z02(sn:Nat)(t7:Int)(b0:List Nat):Nat→Int→Option ((Int)⊕(Int×Bool))
 | 0,_=>none
 | n+1,t8=>z0b sn t7 b0  t8  (fun t8'=>z02 sn t7 b0 n t8') (fun c0_=>some (Sum.inl c0_)) (fun c0_ c1_=>some (Sum.inr (c0_,c1_)))
theorem z4g:z02 a0 c1 g2 (a3+1) c4=z0b a0 c1 g2  c4  (fun t8'=>z02 a0 c1 g2 a3 t8') (fun c0_=>some (Sum.inl c0_)) (fun c0_ c1_=>some (Sum.inr (c0_,c1_))):=rfl
def z37:Bool:=(z02 a0 c1 g2 big c3).isSome
def z2s:Bool:=oL (z02 a0 c1 g2 big c3)
def z58:Int:=((tL (z02 a0 c1 g2 big c3)).getD default)
def zab:Int:=((tR (z02 a0 c1 g2 big c3)).getD default).1
def zac:Bool:=((tR (z02 a0 c1 g2 big c3)).getD default).2
def zgq{R:Type}(q27:Int)(q2c q2d:Nat) (k_:Nat→Nat→Nat→Nat→(List Nat)→(List Nat)→(List Nat)→(List Nat)→Option R):Option R:=(grd (zsc a0 (pF g1 0 (muN a0 1)) a2 (pF g3 0 (muN a2 1)) a4 (pF g5 0 (muN a4 1))) (grd (zq6 a6 (pF g7 0 (muN a6 3))) (k_ (zq4 a0 (pF g1 0 (muN a0 1)) a2 (pF g3 0 (muN a2 1)) a4 (pF g5 0 (muN a4 1))) (zqg a0 (pF g1 0 (muN a0 1)) a2 (pF g3 0 (muN a2 1)) a4 (pF g5 0 (muN a4 1))) (zq7 a0 (pF g1 0 (muN a0 1)) a2 (pF g3 0 (muN a2 1)) a4 (pF g5 0 (muN a4 1))) (zok a6 (pF g7 0 (muN a6 3))) (zpo a0 (pF g1 0 (muN a0 1)) a2 (pF g3 0 (muN a2 1)) a4 (pF g5 0 (muN a4 1))) (zps a0 (pF g1 0 (muN a0 1)) a2 (pF g3 0 (muN a2 1)) a4 (pF g5 0 (muN a4 1))) (zqa a0 (pF g1 0 (muN a0 1)) a2 (pF g3 0 (muN a2 1)) a4 (pF g5 0 (muN a4 1))) (zol a6 (pF g7 0 (muN a6 3))))))
def z1o:Option (Nat×Nat×Nat×Nat×(List Nat)×(List Nat)×(List Nat)×(List Nat)):=zgq a0 g1 a2 g3 a4 g5 a6 g7 c8 a9 a10 (fun c0_ c1_ c2_ c3_ c4_ c5_ c6_ c7_=>some (c0_,c1_,c2_,c3_,c4_,c5_,c6_,c7_))
theorem y22:Nt8 (fun {R}=>zgq (R:=R) a0 g1 a2 g3 a4 g5 a6 g7 c8 a9 a10):=by
 intro R R' o h0 k;unfold zgq;repeat (first | apply grd_out h0 | apply br_out | rfl)
def znw:Bool:=(z1o a0 g1 a2 g3 a4 g5 a6 g7 c8 a9 a10).isSome
def zlk:Nat:=((z1o a0 g1 a2 g3 a4 g5 a6 g7 c8 a9 a10).getD default).1
def zm5:Nat:=((z1o a0 g1 a2 g3 a4 g5 a6 g7 c8 a9 a10).getD default).2.1
def zkv:Nat:=((z1o a0 g1 a2 g3 a4 g5 a6 g7 c8 a9 a10).getD default).2.2.1
def zmf:Nat:=((z1o a0 g1 a2 g3 a4 g5 a6 g7 c8 a9 a10).getD default).2.2.2.1
def zlx:List Nat:=((z1o a0 g1 a2 g3 a4 g5 a6 g7 c8 a9 a10).getD default).2.2.2.2.1
def zlw:List Nat:=((z1o a0 g1 a2 g3 a4 g5 a6 g7 c8 a9 a10).getD default).2.2.2.2.2.1
def zl5:List Nat:=((z1o a0 g1 a2 g3 a4 g5 a6 g7 c8 a9 a10).getD default).2.2.2.2.2.2.1
def zmk:List Nat:=((z1o a0 g1 a2 g3 a4 g5 a6 g7 c8 a9 a10).getD default).2.2.2.2.2.2.2
def zdo{R:Type}(k_:Bool→Option R):Option R:=(grd (zbw a0 (pF g1 0 (muN a0 1)) a6 (pF g7 0 (muN a6 1))) (br (bnot (za5 a0 (pF g1 0 (muN a0 1)) a6 (pF g7 0 (muN a6 1)))) (k_ Bool.false) (grd (zbw a2 (pF g3 0 (muN a2 1)) a8 (pF g9 0 (muN a8 1))) (br (bnot (za5 a2 (pF g3 0 (muN a2 1)) a8 (pF g9 0 (muN a8 1)))) (k_ Bool.false) (grd (zbw a4 (pF g5 0 (muN a4 1)) a10 (pF g11 0 (muN a10 1))) (br (bnot (za5 a4 (pF g5 0 (muN a4 1)) a10 (pF g11 0 (muN a10 1)))) (k_ Bool.false) (k_ Bool.true)))))))
def z5r:Option (Bool):=zdo a0 g1 a2 g3 a4 g5 a6 g7 a8 g9 a10 g11 (fun c0_=>some c0_)
theorem zx9:Nt1 (fun {R}=>zdo (R:=R) a0 g1 a2 g3 a4 g5 a6 g7 a8 g9 a10 g11):=by
 intro R R' o h0 k;unfold zdo;repeat (first | apply grd_out h0 | apply br_out | rfl)
def zrm:Bool:=(z5r a0 g1 a2 g3 a4 g5 a6 g7 a8 g9 a10 g11).isSome
def zpu:Bool:=((z5r a0 g1 a2 g3 a4 g5 a6 g7 a8 g9 a10 g11).getD default)
def zc2{R:Type}(k_:Bool→Option R):Option R:=(br (neI (Int.ofNat a0) (Int.ofNat a2)) (k_ Bool.false) (grd (zdg a0 a2 g1 g3 0) (br (zcu a0 a2 g1 g3 0) (k_ Bool.false) (k_ Bool.true))))
def z4x:Option (Bool):=zc2 a0 g1 a2 g3 (fun c0_=>some c0_)
theorem zwq:Nt1 (fun {R}=>zc2 (R:=R) a0 g1 a2 g3):=by
 intro R R' o h0 k;unfold zc2;repeat (first | apply grd_out h0 | apply br_out | rfl)
def zpz:Bool:=(z4x a0 g1 a2 g3).isSome
def zoh:Bool:=((z4x a0 g1 a2 g3).getD default)
def zmh{R:Type}(k_:Bool→Option R):Option R:=(br (ltI (Int.ofNat a0) 2) (k_ Bool.false) (br (ltI 24 (Int.ofNat a0)) (k_ Bool.false) (br (neI (Int.ofNat a2) (Int.ofNat a0)) (k_ Bool.false) (br (neI (Int.ofNat a4) (Int.ofNat a0)) (k_ Bool.false) (grd (za9 (Int.ofNat a0) g1 g3 g5 a0 a2 a4 0) (br (z92 (Int.ofNat a0) g1 g3 g5 a0 a2 a4 0) (k_ Bool.false) (k_ Bool.true)))))))
def z99:Option (Bool):=zmh a0 g1 a2 g3 a4 g5 (fun c0_=>some c0_)
theorem y5o:Nt1 (fun {R}=>zmh (R:=R) a0 g1 a2 g3 a4 g5):=by
 intro R R' o h0 k;unfold zmh;repeat (first | apply grd_out h0 | apply br_out | rfl)
def y1a:Bool:=(z99 a0 g1 a2 g3 a4 g5).isSome
def zz2:Bool:=((z99 a0 g1 a2 g3 a4 g5).getD default)
def z1t{R:Type}(k_:Int→Option R):Option R:=(grd (z2m a0 (Int.ofNat a0) g1 0) (br (z2f a0 (Int.ofNat a0) g1 0) (k_ (z4h a0 (Int.ofNat a0) g1 0)) (k_ (Int.negSucc 0))))
def z0l:Option (Int):=z1t a0 g1 (fun c0_=>some c0_)
theorem za6:Nt1 (fun {R}=>z1t (R:=R) a0 g1):=by
 intro R R' o h0 k;unfold z1t;repeat (first | apply grd_out h0 | apply br_out | rfl)
def z68:Bool:=(z0l a0 g1).isSome
def z5w:Int:=((z0l a0 g1).getD default)
def z21{R:Type}(k_:Int→Option R):Option R:=(grd (z37 a0 (Int.ofNat a0) g1 0) (br (z2s a0 (Int.ofNat a0) g1 0) (k_ (z58 a0 (Int.ofNat a0) g1 0)) (k_ (Int.negSucc 0))))
def z0n:Option (Int):=z21 a0 g1 (fun c0_=>some c0_)
theorem zbm:Nt1 (fun {R}=>z21 (R:=R) a0 g1):=by
 intro R R' o h0 k;unfold z21;repeat (first | apply grd_out h0 | apply br_out | rfl)
def z6n:Bool:=(z0n a0 g1).isSome
def z6g:Int:=((z0n a0 g1).getD default)
def zgz{R:Type}(k_:Nat→Option R):Option R:=(grd (zop (fcvV .f32 .f64 a0)) (grd (zjo (zf1 (fcvV .f32 .f64 a0))) (k_ (zbn (zf1 (fcvV .f32 .f64 a0))))))
def z5y:Option (Nat):=zgz a0 (fun c0_=>some c0_)
theorem y14:Nt1 (fun {R}=>zgz (R:=R) a0):=by
 intro R R' o h0 k;unfold zgz;repeat (first | apply grd_out h0 | apply br_out | rfl)
def z73:Bool:=(z5y a0).isSome
def z17:Nat:=((z5y a0).getD default)
def z0c{R:Type}(kn_:Int→Option R)(k0_:Int→Option R)(k1_:Int→Bool→Option R):Option R:=(br (ltI c3 c1) (grd (okIx c3 a0) (grd (zqc (gF g2 (ixO 0 c3 1))) (br (zof (gF g2 (ixO 0 c3 1))) (k0_ c3) (kn_ (addI .i64 c3 1))))) (k1_ c3 (ltI c3 c1)))
theorem za8{R R':Type}(o:Option R→Option R')(h0:o none=none)(kn_:Int→Option R)(k0_:Int→Option R)(k1_:Int→Bool→Option R):z0c a0 c1 g2 c3 (fun t8'=>o (kn_ t8')) (fun c0_=>o (k0_ c0_)) (fun c0_ c1_=>o (k1_ c0_ c1_))=o (z0c a0 c1 g2 c3 kn_ k0_ k1_):=by
 unfold z0c
 repeat (first | apply grd_out h0 | apply br_out | rfl)
def z03(sn:Nat)(t7:Int)(b0:List Nat):Nat→Int→Option ((Int)⊕(Int×Bool))
 | 0,_=>none
 | n+1,t8=>z0c sn t7 b0  t8  (fun t8'=>z03 sn t7 b0 n t8') (fun c0_=>some (Sum.inl c0_)) (fun c0_ c1_=>some (Sum.inr (c0_,c1_)))
theorem z4s:z03 a0 c1 g2 (a3+1) c4=z0c a0 c1 g2  c4  (fun t8'=>z03 a0 c1 g2 a3 t8') (fun c0_=>some (Sum.inl c0_)) (fun c0_ c1_=>some (Sum.inr (c0_,c1_))):=rfl
def z3a:Bool:=(z03 a0 c1 g2 big c3).isSome
def z33:Bool:=oL (z03 a0 c1 g2 big c3)
def z5c:Int:=((tL (z03 a0 c1 g2 big c3)).getD default)
def zbd:Int:=((tR (z03 a0 c1 g2 big c3)).getD default).1
def zbc:Bool:=((tR (z03 a0 c1 g2 big c3)).getD default).2
def zgt{R:Type}(k_:Bool→Option R):Option R:=(grd (zrm a0 (pF g1 0 (muN a0 1)) a2 (pF g3 0 (muN a2 1)) a4 (pF g5 0 (muN a4 1)) a11 (pF g12 0 (muN a11 1)) a13 (pF g14 0 (muN a13 1)) a15 (pF g16 0 (muN a15 1))) (br (bnot (zpu a0 (pF g1 0 (muN a0 1)) a2 (pF g3 0 (muN a2 1)) a4 (pF g5 0 (muN a4 1)) a11 (pF g12 0 (muN a11 1)) a13 (pF g14 0 (muN a13 1)) a15 (pF g16 0 (muN a15 1)))) (k_ Bool.false) (grd (zpz a6 (pF g7 0 (muN a6 3)) a17 (pF g18 0 (muN a17 3))) (br (bnot (zoh a6 (pF g7 0 (muN a6 3)) a17 (pF g18 0 (muN a17 3)))) (k_ Bool.false) (br (neI c8 c19) (k_ Bool.false) (grd (z45 (fcvV .f32 .f64 a9) (fcvV .f32 .f64 a20)) (br (bnot (z3s (fcvV .f32 .f64 a9) (fcvV .f32 .f64 a20))) (k_ Bool.false) (grd (z45 (fcvV .f32 .f64 a10) (fcvV .f32 .f64 a21)) (br (bnot (z3s (fcvV .f32 .f64 a10) (fcvV .f32 .f64 a21))) (k_ Bool.false) (k_ Bool.true))))))))))
def z7b:Option (Bool):=zgt a0 g1 a2 g3 a4 g5 a6 g7 c8 a9 a10 a11 g12 a13 g14 a15 g16 a17 g18 c19 a20 a21 (fun c0_=>some c0_)
theorem y1s:Nt1 (fun {R}=>zgt (R:=R) a0 g1 a2 g3 a4 g5 a6 g7 c8 a9 a10 a11 g12 a13 g14 a15 g16 a17 g18 c19 a20 a21):=by
 intro R R' o h0 k;unfold zgt;repeat (first | apply grd_out h0 | apply br_out | rfl)
def znh:Bool:=(z7b a0 g1 a2 g3 a4 g5 a6 g7 c8 a9 a10 a11 g12 a13 g14 a15 g16 a17 g18 c19 a20 a21).isSome
def zlp:Bool:=((z7b a0 g1 a2 g3 a4 g5 a6 g7 c8 a9 a10 a11 g12 a13 g14 a15 g16 a17 g18 c19 a20 a21).getD default)
def z25{R:Type}(k_:Int→Option R):Option R:=(grd (z3a a0 (Int.ofNat a0) g1 0) (br (z33 a0 (Int.ofNat a0) g1 0) (k_ (z5c a0 (Int.ofNat a0) g1 0)) (k_ (Int.negSucc 0))))
def z0p:Option (Int):=z25 a0 g1 (fun c0_=>some c0_)
theorem zcs:Nt1 (fun {R}=>z25 (R:=R) a0 g1):=by
 intro R R' o h0 k;unfold z25;repeat (first | apply grd_out h0 | apply br_out | rfl)
def z6w:Bool:=(z0p a0 g1).isSome
def z6o:Int:=((z0p a0 g1).getD default)
def zma{R:Type}(k_:Nat→Option R):Option R:=(grd (bnot (nanQ .f64 a0)) (k_ (fint Ieee.Toward.down a0)))
def z90:Option (Nat):=zma a0 (fun c0_=>some c0_)
theorem y5s:Nt1 (fun {R}=>zma (R:=R) a0):=by
 intro R R' o h0 k;unfold zma;repeat (first | apply grd_out h0 | apply br_out | rfl)
def zrd:Bool:=(z90 a0).isSome
def z87:Nat:=((z90 a0).getD default)
def z4n{R:Type}(kn_:Nat→Nat→Option R)(k0_:Nat→Nat→Bool→Option R):Option R:=(br (fcmp .geq .f64 a2 4607182418800017408) (kn_ (fop .sub .f64 4607182418800017408 (fop .quo .f64 (fop .mul .f64 a0 a1) (fop .mul .f64 (fop .mul .f64 4611686018427387904 a2) (fop .add .f64 (fop .mul .f64 4611686018427387904 a2) 4607182418800017408)))) (fop .sub .f64 a2 4607182418800017408)) (k0_ a1 a2 (fcmp .geq .f64 a2 4607182418800017408)))
theorem y16{R R':Type}(o:Option R→Option R')(h0:o none=none)(kn_:Nat→Nat→Option R)(k0_:Nat→Nat→Bool→Option R):z4n a0 a1 a2 (fun p' k'=>o (kn_ p' k')) (fun c0_ c1_ c2_=>o (k0_ c0_ c1_ c2_))=o (z4n a0 a1 a2 kn_ k0_):=by
 unfold z4n
 repeat (first | apply grd_out h0 | apply br_out | rfl)
def z1m(u:Nat):Nat→Nat→Nat→Option ((Nat×Nat×Bool))
 | 0,_,_=>none
 | n+1,p,k=>z4n u  p k  (fun p' k'=>z1m u n p' k') (fun c0_ c1_ c2_=>some (c0_,c1_,c2_))
theorem zmz:z1m a0 (a1+1) a2 a3=z4n a0  a2 a3  (fun p' k'=>z1m a0 a1 p' k') (fun c0_ c1_ c2_=>some (c0_,c1_,c2_)):=rfl
def z8x:Bool:=(z1m a0 big a1 a2).isSome
def z6m:Nat:=((z1m a0 big a1 a2).getD default).1
def y4d:Nat:=((z1m a0 big a1 a2).getD default).2.1
def y35:Bool:=((z1m a0 big a1 a2).getD default).2.2
def z1e{R:Type}(k_:Bool→Option R):Option R:=(grd (z68 a0 (pF g1 0 (muN a0 1))) (k_ (leI 0 (z5w a0 (pF g1 0 (muN a0 1))))))
def z0g:Option (Bool):=z1e a0 g1 (fun c0_=>some c0_)
theorem z9e:Nt1 (fun {R}=>z1e (R:=R) a0 g1):=by
 intro R R' o h0 k;unfold z1e;repeat (first | apply grd_out h0 | apply br_out | rfl)
def z5b:Bool:=(z0g a0 g1).isSome
def z59:Bool:=((z0g a0 g1).getD default)
def z1n{R:Type}(k_:Bool→Option R):Option R:=(grd (z6n a0 (pF g1 0 (muN a0 1))) (k_ (leI 0 (z6g a0 (pF g1 0 (muN a0 1))))))
def z0i:Option (Bool):=z1n a0 g1 (fun c0_=>some c0_)
theorem za1:Nt1 (fun {R}=>z1n (R:=R) a0 g1):=by
 intro R R' o h0 k;unfold z1n;repeat (first | apply grd_out h0 | apply br_out | rfl)
def z61:Bool:=(z0i a0 g1).isSome
def z5h:Bool:=((z0i a0 g1).getD default)
def z1s{R:Type}(k_:Bool→Option R):Option R:=(grd (z6w a0 (pF g1 0 (muN a0 1))) (k_ (leI 0 (z6o a0 (pF g1 0 (muN a0 1))))))
def z0k:Option (Bool):=z1s a0 g1 (fun c0_=>some c0_)
theorem zap:Nt1 (fun {R}=>z1s (R:=R) a0 g1):=by
 intro R R' o h0 k;unfold z1s;repeat (first | apply grd_out h0 | apply br_out | rfl)
def z6a:Bool:=(z0k a0 g1).isSome
def z66:Bool:=((z0k a0 g1).getD default)
def zob{R:Type}(k_:Nat→Option R):Option R:=(grd (zq8 a0) (br (fcmp .geq .f64 (z09 a0) 4602678819172646912) (br (fcmp .gtr .f64 (fop .sub .f64 (z09 a0) 4602678819172646912) 4598175219545276416) (grd (z8x (fop .mul .f64 (fop .mul .f64 (fop .sub .f64 4602678819172646912 (fop .sub .f64 (z09 a0) 4602678819172646912)) 4618760256179416344) (fop .mul .f64 (fop .sub .f64 4602678819172646912 (fop .sub .f64 (z09 a0) 4602678819172646912)) 4618760256179416344)) 4607182418800017408 4620693217682128896) (k_ (fneg .f64 (fop .mul .f64 (fop .mul .f64 (fop .sub .f64 4602678819172646912 (fop .sub .f64 (z09 a0) 4602678819172646912)) 4618760256179416344) (z6m (fop .mul .f64 (fop .mul .f64 (fop .sub .f64 4602678819172646912 (fop .sub .f64 (z09 a0) 4602678819172646912)) 4618760256179416344) (fop .mul .f64 (fop .sub .f64 4602678819172646912 (fop .sub .f64 (z09 a0) 4602678819172646912)) 4618760256179416344)) 4607182418800017408 4620693217682128896))))) (grd (z8x (fop .mul .f64 (fop .mul .f64 (fop .sub .f64 (z09 a0) 4602678819172646912) 4618760256179416344) (fop .mul .f64 (fop .sub .f64 (z09 a0) 4602678819172646912) 4618760256179416344)) 4607182418800017408 4620693217682128896) (k_ (fneg .f64 (fop .mul .f64 (fop .mul .f64 (fop .sub .f64 (z09 a0) 4602678819172646912) 4618760256179416344) (z6m (fop .mul .f64 (fop .mul .f64 (fop .sub .f64 (z09 a0) 4602678819172646912) 4618760256179416344) (fop .mul .f64 (fop .sub .f64 (z09 a0) 4602678819172646912) 4618760256179416344)) 4607182418800017408 4620693217682128896)))))) (br (fcmp .gtr .f64 (z09 a0) 4598175219545276416) (grd (z8x (fop .mul .f64 (fop .mul .f64 (fop .sub .f64 4602678819172646912 (z09 a0)) 4618760256179416344) (fop .mul .f64 (fop .sub .f64 4602678819172646912 (z09 a0)) 4618760256179416344)) 4607182418800017408 4620693217682128896) (k_ (fop .mul .f64 (fop .mul .f64 (fop .sub .f64 4602678819172646912 (z09 a0)) 4618760256179416344) (z6m (fop .mul .f64 (fop .mul .f64 (fop .sub .f64 4602678819172646912 (z09 a0)) 4618760256179416344) (fop .mul .f64 (fop .sub .f64 4602678819172646912 (z09 a0)) 4618760256179416344)) 4607182418800017408 4620693217682128896)))) (grd (z8x (fop .mul .f64 (fop .mul .f64 (z09 a0) 4618760256179416344) (fop .mul .f64 (z09 a0) 4618760256179416344)) 4607182418800017408 4620693217682128896) (k_ (fop .mul .f64 (fop .mul .f64 (z09 a0) 4618760256179416344) (z6m (fop .mul .f64 (fop .mul .f64 (z09 a0) 4618760256179416344) (fop .mul .f64 (z09 a0) 4618760256179416344)) 4607182418800017408 4620693217682128896)))))))
def zb1:Option (Nat):=zob a0 (fun c0_=>some c0_)
theorem y6p:Nt1 (fun {R}=>zob (R:=R) a0):=by
 intro R R' o h0 k;unfold zob;repeat (first | apply grd_out h0 | apply br_out | rfl)
def y4j:Bool:=(zb1 a0).isSome
def zr5:Nat:=((zb1 a0).getD default)
def zeh{R:Type}(k_:Nat→Option R):Option R:=(grd (zrd (fop .add .f64 (fcvV .f32 .f64 a0) 4602678819172646912)) (grd (fcvB .f64 .f32 (fop .sub .f64 (fcvV .f32 .f64 a0) (z87 (fop .add .f64 (fcvV .f32 .f64 a0) 4602678819172646912)))) (br (fcmp .geq .f32 (fcvV .f64 .f32 (fop .sub .f64 (fcvV .f32 .f64 a0) (z87 (fop .add .f64 (fcvV .f32 .f64 a0) 4602678819172646912)))) 1056964608) (k_ 3204448256) (k_ (fcvV .f64 .f32 (fop .sub .f64 (fcvV .f32 .f64 a0) (z87 (fop .add .f64 (fcvV .f32 .f64 a0) 4602678819172646912))))))))
def z5i:Option (Nat):=zeh a0 (fun c0_=>some c0_)
theorem zyi:Nt1 (fun {R}=>zeh (R:=R) a0):=by
 intro R R' o h0 k;unfold zeh;repeat (first | apply grd_out h0 | apply br_out | rfl)
def zs5:Bool:=(z5i a0).isSome
def z0v:Nat:=((z5i a0).getD default)
def zgy{R:Type}(k_:Nat→Option R):Option R:=(grd (zrd (fop .add .f64 (fcvV .f32 .f64 a0) 4602678819172646912)) (grd (zjo (fop .sub .f64 (fcvV .f32 .f64 a0) (z87 (fop .add .f64 (fcvV .f32 .f64 a0) 4602678819172646912)))) (br (fcmp .geq .f32 (zbn (fop .sub .f64 (fcvV .f32 .f64 a0) (z87 (fop .add .f64 (fcvV .f32 .f64 a0) 4602678819172646912)))) 1056964608) (k_ 3204448256) (k_ (zbn (fop .sub .f64 (fcvV .f32 .f64 a0) (z87 (fop .add .f64 (fcvV .f32 .f64 a0) 4602678819172646912))))))))
def z71:Option (Nat):=zgy a0 (fun c0_=>some c0_)
theorem y15:Nt1 (fun {R}=>zgy (R:=R) a0):=by
 intro R R' o h0 k;unfold zgy;repeat (first | apply grd_out h0 | apply br_out | rfl)
def zwz:Bool:=(z71 a0).isSome
def z42:Nat:=((z71 a0).getD default)
def z41{R:Type}(kn_:Nat→Int→Option R)(k0_:Unit→Option R)(k1_:Nat→Int→Bool→Option R):Option R:=(br (ltI c5 c0) (grd (okIx c5 a2) (br (bnot (fcmp .gtr .f32 (gF g1 (ixO 0 c5 3)) a4)) (k0_ ()) (br (bnot (fcmp .lss .f32 (gF g1 (ixO 0 c5 3)) a3)) (k0_ ()) (grd (za7 (gF g1 (Nat.succ (ixO 0 c5 3)))) (br (bnot (z97 (gF g1 (Nat.succ (ixO 0 c5 3))))) (k0_ ()) (grd (z0w (gF g1 (Nat.succ (Nat.succ (ixO 0 c5 3))))) (br (bnot (z0q (gF g1 (Nat.succ (Nat.succ (ixO 0 c5 3)))))) (k0_ ()) (kn_ (gF g1 (ixO 0 c5 3)) (addI .i64 c5 1))))))))) (k1_ a4 c5 (ltI c5 c0)))
theorem zzq{R R':Type}(o:Option R→Option R')(h0:o none=none)(kn_:Nat→Int→Option R)(k0_:Unit→Option R)(k1_:Nat→Int→Bool→Option R):z41 c0 g1 a2 a3 a4 c5 (fun t4' t58'=>o (kn_ t4' t58')) (fun _=>o (k0_ ())) (fun c0_ c1_ c2_=>o (k1_ c0_ c1_ c2_))=o (z41 c0 g1 a2 a3 a4 c5 kn_ k0_ k1_):=by
 unfold z41
 repeat (first | apply grd_out h0 | apply br_out | rfl)
def z0x(t57:Int)(b3:List Nat)(q0w q1a:Nat):Nat→Nat→Int→Option ((Unit)⊕(Nat×Int×Bool))
 | 0,_,_=>none
 | n+1,t4,t58=>z41 t57 b3 q0w q1a  t4 t58  (fun t4' t58'=>z0x t57 b3 q0w q1a n t4' t58') (fun _=>some (Sum.inl ())) (fun c0_ c1_ c2_=>some (Sum.inr (c0_,c1_,c2_)))
theorem zmc:z0x c0 g1 a2 a3 (a4+1) a5 c6=z41 c0 g1 a2 a3  a5 c6  (fun t4' t58'=>z0x c0 g1 a2 a3 a4 t4' t58') (fun _=>some (Sum.inl ())) (fun c0_ c1_ c2_=>some (Sum.inr (c0_,c1_,c2_))):=rfl
def zfj:Bool:=(z0x c0 g1 a2 a3 big a4 c5).isSome
def zej:Bool:=oL (z0x c0 g1 a2 a3 big a4 c5)
def y21:Nat:=((tR (z0x c0 g1 a2 a3 big a4 c5)).getD default).1
def y26:Int:=((tR (z0x c0 g1 a2 a3 big a4 c5)).getD default).2.1
def y2g:Bool:=((tR (z0x c0 g1 a2 a3 big a4 c5)).getD default).2.2
def zao{R:Type}(k_:Bool→Option R):Option R:=(grd (z5b a0 (pF g1 0 (muN a0 1))) (k_ (bnot (z59 a0 (pF g1 0 (muN a0 1))))))
def z1i:Option (Bool):=zao a0 g1 (fun c0_=>some c0_)
theorem zur:Nt1 (fun {R}=>zao (R:=R) a0 g1):=by
 intro R R' o h0 k;unfold zao;repeat (first | apply grd_out h0 | apply br_out | rfl)
def z7m:Bool:=(z1i a0 g1).isSome
def z6x:Bool:=((z1i a0 g1).getD default)
def zlv{R:Type}(k_:Bool→Option R):Option R:=(grd (y1a a0 (pF g1 0 (muN a0 1)) a2 (pF g3 0 (muN a2 1)) a4 (pF g5 0 (muN a4 1))) (br (bnot (zz2 a0 (pF g1 0 (muN a0 1)) a2 (pF g3 0 (muN a2 1)) a4 (pF g5 0 (muN a4 1)))) (k_ Bool.false) (br (ltI (Int.ofNat a6) 2) (k_ Bool.false) (br (ltI 12 (Int.ofNat a6)) (k_ Bool.false) (grd (zrc c8 1 6) (br (bnot (zpj c8 1 6)) (k_ Bool.false) (grd (z7s a9) (br (bnot (z76 a9)) (k_ Bool.false) (grd (z0w a10) (br (bnot (z0q a10)) (k_ Bool.false) (grd (zfj (Int.ofNat a6) g7 a6 a10 a9 0) (br (zej (Int.ofNat a6) g7 a6 a10 a9 0) (k_ Bool.false) (k_ Bool.true)))))))))))))
def z9d:Option (Bool):=zlv a0 g1 a2 g3 a4 g5 a6 g7 c8 a9 a10 (fun c0_=>some c0_)
theorem y5r:Nt1 (fun {R}=>zlv (R:=R) a0 g1 a2 g3 a4 g5 a6 g7 c8 a9 a10):=by
 intro R R' o h0 k;unfold zlv;repeat (first | apply grd_out h0 | apply br_out | rfl)
def zsh:Bool:=(z9d a0 g1 a2 g3 a4 g5 a6 g7 c8 a9 a10).isSome
def zow:Bool:=((z9d a0 g1 a2 g3 a4 g5 a6 g7 c8 a9 a10).getD default)
def zek{R:Type}(k_:Bool→Option R):Option R:=(grd (z61 a0 (pF g1 0 (muN a0 1))) (k_ (bnot (z5h a0 (pF g1 0 (muN a0 1))))))
def z4f:Option (Bool):=zek a0 g1 (fun c0_=>some c0_)
theorem zxh:Nt1 (fun {R}=>zek (R:=R) a0 g1):=by
 intro R R' o h0 k;unfold zek;repeat (first | apply grd_out h0 | apply br_out | rfl)
def zjk:Bool:=(z4f a0 g1).isSome
def zia:Bool:=((z4f a0 g1).getD default)
def zfu{R:Type}(k_:Bool→Option R):Option R:=(grd (z6a a0 (pF g1 0 (muN a0 1))) (k_ (bnot (z66 a0 (pF g1 0 (muN a0 1))))))
def z6e:Option (Bool):=zfu a0 g1 (fun c0_=>some c0_)
theorem y01:Nt1 (fun {R}=>zfu (R:=R) a0 g1):=by
 intro R R' o h0 k;unfold zfu;repeat (first | apply grd_out h0 | apply br_out | rfl)
def ztu:Bool:=(z6e a0 g1).isSome
def zsl:Bool:=((z6e a0 g1).getD default)
def ze3{R:Type}(k_:Nat→Option R):Option R:=(grd (z2d a0) (br (bnot (z23 a0)) (grd zy4 (grd (fcvB .f64 .f32 zoc) (k_ (fcvV .f64 .f32 zoc)))) (grd (zz0 (fcvV .f32 .f64 a0)) (br (zwg (fcvV .f32 .f64 a0)) (k_ 0) (grd (y4j (fcvV .f32 .f64 a0)) (grd (fcvB .f64 .f32 (zr5 (fcvV .f32 .f64 a0))) (k_ (fcvV .f64 .f32 (zr5 (fcvV .f32 .f64 a0))))))))))
def z5p:Option (Nat):=ze3 a0 (fun c0_=>some c0_)
theorem zxn:Nt1 (fun {R}=>ze3 (R:=R) a0):=by
 intro R R' o h0 k;unfold ze3;repeat (first | apply grd_out h0 | apply br_out | rfl)
def z4a:Bool:=(z5p a0).isSome
def z1b:Nat:=((z5p a0).getD default)
def zby{R:Type}(k_:Nat→Nat→Bool→Option R):Option R:=(grd (zjk 2 (pF [a0,a1] 0 (muN 2 1))) (br (bnot (zia 2 (pF [a0,a1] 0 (muN 2 1)))) (k_ 0 0 Bool.false) (k_ a0 a1 Bool.true)))
def z2v:Option (Nat×Nat×Bool):=zby a0 a1 (fun c0_ c1_ c2_=>some (c0_,c1_,c2_))
theorem zvt:Nt3 (fun {R}=>zby (R:=R) a0 a1):=by
 intro R R' o h0 k;unfold zby;repeat (first | apply grd_out h0 | apply br_out | rfl)
def zhw:Bool:=(z2v a0 a1).isSome
def zg1:Nat:=((z2v a0 a1).getD default).1
def zg3:Nat:=((z2v a0 a1).getD default).2.1
def zfx:Bool:=((z2v a0 a1).getD default).2.2
def zc8{R:Type}(k_:Bool→Option R):Option R:=(grd (zsh a0 (pF g1 0 (muN a0 1)) a2 (pF g3 0 (muN a2 1)) a4 (pF g5 0 (muN a4 1)) a6 (pF g7 0 (muN a6 3)) c8 a9 a10) (br (zow a0 (pF g1 0 (muN a0 1)) a2 (pF g3 0 (muN a2 1)) a4 (pF g5 0 (muN a4 1)) a6 (pF g7 0 (muN a6 3)) c8 a9 a10) (grd (zrc c11 0 (subI .i64 (Int.ofNat a6) 1)) (k_ (zpj c11 0 (subI .i64 (Int.ofNat a6) 1)))) (k_ Bool.false)))
def z4z:Option (Bool):=zc8 a0 g1 a2 g3 a4 g5 a6 g7 c8 a9 a10 c11 (fun c0_=>some c0_)
theorem zwn:Nt1 (fun {R}=>zc8 (R:=R) a0 g1 a2 g3 a4 g5 a6 g7 c8 a9 a10 c11):=by
 intro R R' o h0 k;unfold zc8;repeat (first | apply grd_out h0 | apply br_out | rfl)
def zq3:Bool:=(z4z a0 g1 a2 g3 a4 g5 a6 g7 c8 a9 a10 c11).isSome
def zoe:Bool:=((z4z a0 g1 a2 g3 a4 g5 a6 g7 c8 a9 a10 c11).getD default)
def z7q{R:Type}(q00:Nat)(q03:List Nat)(q02:Nat)(q05:List Nat)(q01:Nat)(q04:List Nat)(q06:Nat)(q07:List Nat)(q0g:Int)(q0k q0j:Nat)(i:Int)(q1p:Nat)(k_:Nat→Option R):Option R:=(grd (okIx i q06) (grd (z4a q1p) (k_ (fop .quo .f32 (fop .quo .f32 (fop .mul .f32 (fOI .f32 q0g) (fop .sub .f32 q0j (gF q07 (ixO 0 i 3)))) (fop .mul .f32 1073741824 (gF q07 (ixO 0 i 3)))) (fop .add .f32 (fop .quo .f32 (fop .mul .f32 (fOI .f32 q0g) (fop .sub .f32 q0j (gF q07 (ixO 0 i 3)))) (fop .mul .f32 1073741824 (gF q07 (ixO 0 i 3)))) (z1b q1p))))))
def z2x:Option (Nat):=z7q a0 g1 a2 g3 a4 g5 a6 g7 c8 a9 a10 c11 a12 (fun c0_=>some c0_)
theorem zqi:Nt1 (fun {R}=>z7q (R:=R) a0 g1 a2 g3 a4 g5 a6 g7 c8 a9 a10 c11 a12):=by
 intro R R' o h0 k;unfold z7q;repeat (first | apply grd_out h0 | apply br_out | rfl)
def zkc:Bool:=(z2x a0 g1 a2 g3 a4 g5 a6 g7 c8 a9 a10 c11 a12).isSome
def zas:Nat:=((z2x a0 g1 a2 g3 a4 g5 a6 g7 c8 a9 a10 c11 a12).getD default)
def z08{R:Type}(kn_:Int→Option R)(k0_:Int→Option R)(k1_:Int→Bool→Option R):Option R:=(br (ltI c4 c1) (grd (okIx c4 a0) (br (fcmp .gtr .f32 (gF g2 (ixO 0 c4 1)) a3) (k0_ c4) (kn_ (addI .i64 c4 1)))) (k1_ c4 (ltI c4 c1)))
theorem z8y{R R':Type}(o:Option R→Option R')(h0:o none=none)(kn_:Int→Option R)(k0_:Int→Option R)(k1_:Int→Bool→Option R):z08 a0 c1 g2 a3 c4 (fun t8'=>o (kn_ t8')) (fun c0_=>o (k0_ c0_)) (fun c0_ c1_=>o (k1_ c0_ c1_))=o (z08 a0 c1 g2 a3 c4 kn_ k0_ k1_):=by
 unfold z08
 repeat (first | apply grd_out h0 | apply br_out | rfl)
def z00(sn:Nat)(t7:Int)(b0:List Nat)(b4:Nat):Nat→Int→Option ((Int)⊕(Int×Bool))
 | 0,_=>none
 | n+1,t8=>z08 sn t7 b0 b4  t8  (fun t8'=>z00 sn t7 b0 b4 n t8') (fun c0_=>some (Sum.inl c0_)) (fun c0_ c1_=>some (Sum.inr (c0_,c1_)))
theorem z3z:z00 a0 c1 g2 a3 (a4+1) c5=z08 a0 c1 g2 a3  c5  (fun t8'=>z00 a0 c1 g2 a3 a4 t8') (fun c0_=>some (Sum.inl c0_)) (fun c0_ c1_=>some (Sum.inr (c0_,c1_))):=rfl
def z2e:Bool:=(z00 a0 c1 g2 a3 big c4).isSome
def z2a:Bool:=oL (z00 a0 c1 g2 a3 big c4)
def z06:Int:=((tL (z00 a0 c1 g2 a3 big c4)).getD default)
def z9a:Int:=((tR (z00 a0 c1 g2 a3 big c4)).getD default).1
def z95:Bool:=((tR (z00 a0 c1 g2 a3 big c4)).getD default).2
def z2u{R:Type}(kn_:Int→Option R)(k0_:Int→Bool→Option R):Option R:=(br (leI 0 c3) (grd (okIx c3 a2) (br (fcmp .gtr .f32 (gF g1 (ixO 0 c3 1)) a0) (kn_ (subI .i64 c3 1)) (k0_ c3 (fcmp .gtr .f32 (gF g1 (ixO 0 c3 1)) a0)))) (k0_ c3 Bool.false))
theorem zvk{R R':Type}(o:Option R→Option R')(h0:o none=none)(kn_:Int→Option R)(k0_:Int→Bool→Option R):z2u a0 g1 a2 c3 (fun t10'=>o (kn_ t10')) (fun c0_ c1_=>o (k0_ c0_ c1_))=o (z2u a0 g1 a2 c3 kn_ k0_):=by
 unfold z2u
 repeat (first | apply grd_out h0 | apply br_out | rfl)
def z1c(t8:Nat)(b0:List Nat)(q1q:Nat):Nat→Int→Option ((Int×Bool))
 | 0,_=>none
 | n+1,t10=>z2u t8 b0 q1q  t10  (fun t10'=>z1c t8 b0 q1q n t10') (fun c0_ c1_=>some (c0_,c1_))
theorem zif:z1c a0 g1 a2 (a3+1) c4=z2u a0 g1 a2  c4  (fun t10'=>z1c a0 g1 a2 a3 t10') (fun c0_ c1_=>some (c0_,c1_)):=rfl
def zpy:Bool:=(z1c a0 g1 a2 big c3).isSome
def zln:Int:=((z1c a0 g1 a2 big c3).getD default).1
def zyj:Bool:=((z1c a0 g1 a2 big c3).getD default).2
def ziq{R:Type}(k_:Bool→Option R):Option R:=(grd (zq3 a0 (pF g1 0 (muN a0 1)) a2 (pF g3 0 (muN a2 1)) a4 (pF g5 0 (muN a4 1)) a6 (pF g7 0 (muN a6 3)) c8 a9 a10 c11) (br (zoe a0 (pF g1 0 (muN a0 1)) a2 (pF g3 0 (muN a2 1)) a4 (pF g5 0 (muN a4 1)) a6 (pF g7 0 (muN a6 3)) c8 a9 a10 c11) (grd (za7 a12) (br (z97 a12) (grd (za7 a13) (br (z97 a13) (grd (z0w a14) (br (z0q a14) (grd (zu0 a0 (pF g1 0 (muN a0 1)) a2 (pF g3 0 (muN a2 1)) a4 (pF g5 0 (muN a4 1)) a6 (pF g7 0 (muN a6 3)) c8 a9 a10 c11 a14) (k_ (zrs a0 (pF g1 0 (muN a0 1)) a2 (pF g3 0 (muN a2 1)) a4 (pF g5 0 (muN a4 1)) a6 (pF g7 0 (muN a6 3)) c8 a9 a10 c11 a14))) (k_ Bool.false))) (k_ Bool.false))) (k_ Bool.false))) (k_ Bool.false)))
def z8a:Option (Bool):=ziq a0 g1 a2 g3 a4 g5 a6 g7 c8 a9 a10 c11 a12 a13 a14 (fun c0_=>some c0_)
theorem y2v:Nt1 (fun {R}=>ziq (R:=R) a0 g1 a2 g3 a4 g5 a6 g7 c8 a9 a10 c11 a12 a13 a14):=by
 intro R R' o h0 k;unfold ziq;repeat (first | apply grd_out h0 | apply br_out | rfl)
def zz9:Bool:=(z8a a0 g1 a2 g3 a4 g5 a6 g7 c8 a9 a10 c11 a12 a13 a14).isSome
def zvg:Bool:=((z8a a0 g1 a2 g3 a4 g5 a6 g7 c8 a9 a10 c11 a12 a13 a14).getD default)
def z5e{R:Type}(q15:Nat)(q1i:List Nat)(q16:Nat)(q1j:List Nat)(x1:Nat)(k_:Int→Int→Nat→Nat→Nat→Option R):Option R:=(grd (zs5 x1) (grd (z2e a0 (Int.ofNat a0) g1 (z0v x1) 0) (br (z2a a0 (Int.ofNat a0) g1 (z0v x1) 0) (br (eqI (z06 a0 (Int.ofNat a0) g1 (z0v x1) 0) 0) (grd (okIx (subI .i64 (Int.ofNat a0) 1) a0) (grd (okIx 0 a0) (k_ (subI .i64 (Int.ofNat a0) 1) 0 (fop .sub .f32 (gF g1 (ixO 0 (subI .i64 (Int.ofNat a0) 1) 1)) 1065353216) (gF g1 (ixO 0 0 1)) (z0v x1)))) (br (ltI (z06 a0 (Int.ofNat a0) g1 (z0v x1) 0) 0) (grd (okIx (subI .i64 (Int.ofNat a0) 1) a0) (grd (okIx 0 a0) (k_ (subI .i64 (Int.ofNat a0) 1) 0 (gF g1 (ixO 0 (subI .i64 (Int.ofNat a0) 1) 1)) (fop .add .f32 (gF g1 (ixO 0 0 1)) 1065353216) (z0v x1)))) (grd (okIx (subI .i64 (z06 a0 (Int.ofNat a0) g1 (z0v x1) 0) 1) a0) (grd (okIx (z06 a0 (Int.ofNat a0) g1 (z0v x1) 0) a0) (k_ (subI .i64 (z06 a0 (Int.ofNat a0) g1 (z0v x1) 0) 1) (z06 a0 (Int.ofNat a0) g1 (z0v x1) 0) (gF g1 (ixO 0 (subI .i64 (z06 a0 (Int.ofNat a0) g1 (z0v x1) 0) 1) 1)) (gF g1 (ixO 0 (z06 a0 (Int.ofNat a0) g1 (z0v x1) 0) 1)) (z0v x1)))))) (grd (okIx (subI .i64 (Int.ofNat a0) 1) a0) (grd (okIx 0 a0) (k_ (subI .i64 (Int.ofNat a0) 1) 0 (gF g1 (ixO 0 (subI .i64 (Int.ofNat a0) 1) 1)) (fop .add .f32 (gF g1 (ixO 0 0 1)) 1065353216) (z0v x1)))))))
def z0s:Option (Int×Int×Nat×Nat×Nat):=z5e a0 g1 a2 g3 a4 g5 a6 (fun c0_ c1_ c2_ c3_ c4_=>some (c0_,c1_,c2_,c3_,c4_))
theorem zpf:Nt5 (fun {R}=>z5e (R:=R) a0 g1 a2 g3 a4 g5 a6):=by
 intro R R' o h0 k;unfold z5e;repeat (first | apply grd_out h0 | apply br_out | rfl)
def zig:Bool:=(z0s a0 g1 a2 g3 a4 g5 a6).isSome
def z28:Int:=((z0s a0 g1 a2 g3 a4 g5 a6).getD default).1
def z2c:Int:=((z0s a0 g1 a2 g3 a4 g5 a6).getD default).2.1
def z3e:Nat:=((z0s a0 g1 a2 g3 a4 g5 a6).getD default).2.2.1
def z6t:Nat:=((z0s a0 g1 a2 g3 a4 g5 a6).getD default).2.2.2.1
def z9y:Nat:=((z0s a0 g1 a2 g3 a4 g5 a6).getD default).2.2.2.2
def zam:=(fop .add .f32 (gF g0 (ixO 0 0 1)) 1065353216)
def z05:=(zln (z42 a2) g1 a0 (subI .i64 (Int.ofNat a0) 1))
def z7z:=(gF g1 (ixO 0 (subI .i64 (Int.ofNat a0) 1) 1))
def zae:=(fcmp .lss .f32 (z42 a1) (gF g0 (ixO 0 0 1)))
def zaq:=(okIx (z05 a0 g1 a2) a0)
def zaa:=(fop .sub .f32 (z7z a0 g1) 1065353216)
def z55:=(gF g1 (ixO 0 (z05 a0 g1 a2) 1))
def z7t:=(eqI (addI .i64 (z05 a0 g1 a2) 1) 0)
def z6b:=(gF g1 (ixO 0 (addI .i64 (z05 a0 g1 a2) 1) 1))
def z7w:=(fop .sub .f32 (z55 a0 g1 a2) 1065353216)
def z4b:=(fop .sub .f32 (z42 a2) (z55 a0 g1 a2))
def z5t:=(fop .sub .f32 (gF g1 (ixO 0 0 1)) (zaa a0 g1))
def z5n:=(fop .sub .f32 (zam g1) (z7z a0 g1))
def z91:=(fop .sub .f32 (z42 a2) (z7w a0 g1 a2))
def z5s:=(fop .sub .f32 (zam g1) (z55 a0 g1 a2))
def z5m:=(fop .sub .f32 (gF g1 (ixO 0 0 1)) (z7w a0 g1 a2))
def z24:=(fop .sub .f32 (z6b a0 g1 a2) (z55 a0 g1 a2))
def z5l:=(fop .sub .f32 (z6b a0 g1 a2) (z7w a0 g1 a2))
def z22:=(fop .sub .f32 (fop .add .f32 (z6b a0 g1 a2) 1065353216) (z55 a0 g1 a2))
def zce{R:Type}(q15:Nat)(q1i:List Nat)(q16:Nat)(q1j:List Nat)(x1:Nat)(k_:Int→Int→Nat→Nat→Option R):Option R:=(grd (zwz x1) (grd (zpy (z42 x1) g1 a0 (subI .i64 (Int.ofNat a0) 1)) (br (ltI (z05 a0 g1 x1) 0) (grd (okIx (subI .i64 (Int.ofNat a0) 1) a0) (grd (okIx 0 a0) (br (zae g1 x1) (br (fcmp .eql .f32 (z5t a0 g1) 0) (k_ (subI .i64 (Int.ofNat a0) 1) 0 0 (z5t a0 g1)) (k_ (subI .i64 (Int.ofNat a0) 1) 0 (fop .quo .f32 (fop .sub .f32 (z42 x1) (zaa a0 g1)) (z5t a0 g1)) (z5t a0 g1))) (br (fcmp .eql .f32 (z5n a0 g1) 0) (k_ (subI .i64 (Int.ofNat a0) 1) 0 0 (z5n a0 g1)) (k_ (subI .i64 (Int.ofNat a0) 1) 0 (fop .quo .f32 (fop .sub .f32 (z42 x1) (z7z a0 g1)) (z5n a0 g1)) (z5n a0 g1)))))) (br (eqI (addI .i64 (z05 a0 g1 x1) 1) (Int.ofNat a0)) (grd (zaq a0 g1 x1) (grd (okIx 0 a0) (br (zae g1 x1) (br (fcmp .eql .f32 (z5m a0 g1 x1) 0) (k_ (z05 a0 g1 x1) 0 0 (z5m a0 g1 x1)) (k_ (z05 a0 g1 x1) 0 (fop .quo .f32 (z91 a0 g1 x1) (z5m a0 g1 x1)) (z5m a0 g1 x1))) (br (fcmp .eql .f32 (z5s a0 g1 x1) 0) (k_ (z05 a0 g1 x1) 0 0 (z5s a0 g1 x1)) (k_ (z05 a0 g1 x1) 0 (fop .quo .f32 (z4b a0 g1 x1) (z5s a0 g1 x1)) (z5s a0 g1 x1)))))) (grd (zaq a0 g1 x1) (grd (okIx (addI .i64 (z05 a0 g1 x1) 1) a0) (br (z7t a0 g1 x1) (br (fcmp .lss .f32 (z42 x1) (z6b a0 g1 x1)) (br (fcmp .eql .f32 (z5l a0 g1 x1) 0) (k_ (z05 a0 g1 x1) (addI .i64 (z05 a0 g1 x1) 1) 0 (z5l a0 g1 x1)) (k_ (z05 a0 g1 x1) (addI .i64 (z05 a0 g1 x1) 1) (fop .quo .f32 (z91 a0 g1 x1) (z5l a0 g1 x1)) (z5l a0 g1 x1))) (br (z7t a0 g1 x1) (br (fcmp .eql .f32 (z22 a0 g1 x1) 0) (k_ (z05 a0 g1 x1) (addI .i64 (z05 a0 g1 x1) 1) 0 (z22 a0 g1 x1)) (k_ (z05 a0 g1 x1) (addI .i64 (z05 a0 g1 x1) 1) (fop .quo .f32 (z4b a0 g1 x1) (z22 a0 g1 x1)) (z22 a0 g1 x1))) (br (fcmp .eql .f32 (z24 a0 g1 x1) 0) (k_ (z05 a0 g1 x1) (addI .i64 (z05 a0 g1 x1) 1) 0 (z24 a0 g1 x1)) (k_ (z05 a0 g1 x1) (addI .i64 (z05 a0 g1 x1) 1) (fop .quo .f32 (z4b a0 g1 x1) (z24 a0 g1 x1)) (z24 a0 g1 x1))))) (br (z7t a0 g1 x1) (br (fcmp .eql .f32 (z22 a0 g1 x1) 0) (k_ (z05 a0 g1 x1) (addI .i64 (z05 a0 g1 x1) 1) 0 (z22 a0 g1 x1)) (k_ (z05 a0 g1 x1) (addI .i64 (z05 a0 g1 x1) 1) (fop .quo .f32 (z4b a0 g1 x1) (z22 a0 g1 x1)) (z22 a0 g1 x1))) (br (fcmp .eql .f32 (z24 a0 g1 x1) 0) (k_ (z05 a0 g1 x1) (addI .i64 (z05 a0 g1 x1) 1) 0 (z24 a0 g1 x1)) (k_ (z05 a0 g1 x1) (addI .i64 (z05 a0 g1 x1) 1) (fop .quo .f32 (z4b a0 g1 x1) (z24 a0 g1 x1)) (z24 a0 g1 x1)))))))))))
def z2y:Option (Int×Int×Nat×Nat):=zce a0 g1 a2 g3 a4 g5 a6 (fun c0_ c1_ c2_ c3_=>some (c0_,c1_,c2_,c3_))
theorem y1g:Nt4 (fun {R}=>zce (R:=R) a0 g1 a2 g3 a4 g5 a6):=by
 intro R R' o h0 k;unfold zce;repeat (first | apply grd_out h0 | apply br_out | rfl)
def zw1:Bool:=(z2y a0 g1 a2 g3 a4 g5 a6).isSome
def zal:Int:=((z2y a0 g1 a2 g3 a4 g5 a6).getD default).1
def zls:Int:=((z2y a0 g1 a2 g3 a4 g5 a6).getD default).2.1
def ztt:Nat:=((z2y a0 g1 a2 g3 a4 g5 a6).getD default).2.2.1
def y6r:Nat:=((z2y a0 g1 a2 g3 a4 g5 a6).getD default).2.2.2
def z1f{R:Type}(kn_:Int→Option R)(k0_:Unit→Option R)(k1_:Int→Bool→Option R):Option R:=(br (ltI c4 c1) (grd (okIx c4 a0) (grd (zll (gF g2 (ixO 0 c4 1)) 3204448256 1056964608) (br (bnot (zit (gF g2 (ixO 0 c4 1)) 3204448256 1056964608)) (k0_ ()) (br (ltI 0 c4) (grd (okIx (subI .i64 c4 1) a3) (br (fcmp .geq .f32 (gF g2 (ixO 0 (subI .i64 c4 1) 1)) (gF g2 (ixO 0 c4 1))) (k0_ ()) (kn_ (addI .i64 c4 1)))) (kn_ (addI .i64 c4 1)))))) (k1_ c4 (ltI c4 c1)))
theorem zou{R R':Type}(o:Option R→Option R')(h0:o none=none)(kn_:Int→Option R)(k0_:Unit→Option R)(k1_:Int→Bool→Option R):z1f a0 c1 g2 a3 c4 (fun t44'=>o (kn_ t44')) (fun _=>o (k0_ ())) (fun c0_ c1_=>o (k1_ c0_ c1_))=o (z1f a0 c1 g2 a3 c4 kn_ k0_ k1_):=by
 unfold z1f
 repeat (first | apply grd_out h0 | apply br_out | rfl)
def z0o(q2w:Nat)(t43:Int)(b0:List Nat)(q1q:Nat):Nat→Int→Option ((Unit)⊕(Int×Bool))
 | 0,_=>none
 | n+1,t44=>z1f q2w t43 b0 q1q  t44  (fun t44'=>z0o q2w t43 b0 q1q n t44') (fun _=>some (Sum.inl ())) (fun c0_ c1_=>some (Sum.inr (c0_,c1_)))
theorem zda:z0o a0 c1 g2 a3 (a4+1) c5=z1f a0 c1 g2 a3  c5  (fun t44'=>z0o a0 c1 g2 a3 a4 t44') (fun _=>some (Sum.inl ())) (fun c0_ c1_=>some (Sum.inr (c0_,c1_))):=rfl
def z7f:Bool:=(z0o a0 c1 g2 a3 big c4).isSome
def z6v:Bool:=oL (z0o a0 c1 g2 a3 big c4)
def zql:Int:=((tR (z0o a0 c1 g2 a3 big c4)).getD default).1
def zqm:Bool:=((tR (z0o a0 c1 g2 a3 big c4)).getD default).2
def z9f{R:Type}(k_:Bool→Option R):Option R:=(br (ltI (Int.ofNat a0) 2) (k_ Bool.false) (br (ltI 24 (Int.ofNat a0)) (k_ Bool.false) (br (neI (Int.ofNat a2) (Int.ofNat a0)) (k_ Bool.false) (br (neI (Int.ofNat a4) (Int.ofNat a0)) (k_ Bool.false) (grd (zjk a2 (pF g3 0 (muN a2 1))) (br (bnot (zia a2 (pF g3 0 (muN a2 1)))) (k_ Bool.false) (grd (ztu a4 (pF g5 0 (muN a4 1))) (br (bnot (zsl a4 (pF g5 0 (muN a4 1)))) (k_ Bool.false) (grd (z7f a0 (Int.ofNat a0) g1 a0 0) (br (z6v a0 (Int.ofNat a0) g1 a0 0) (k_ Bool.false) (k_ Bool.true)))))))))))
def z3y:Option (Bool):=z9f a0 g1 a2 g3 a4 g5 (fun c0_=>some c0_)
theorem ztd:Nt1 (fun {R}=>z9f (R:=R) a0 g1 a2 g3 a4 g5):=by
 intro R R' o h0 k;unfold z9f;repeat (first | apply grd_out h0 | apply br_out | rfl)
def zmw:Bool:=(z3y a0 g1 a2 g3 a4 g5).isSome
def zlg:Bool:=((z3y a0 g1 a2 g3 a4 g5).getD default)
def zbq{R:Type}(k_:Nat→Option R):Option R:=(grd (zig a0 (pF g1 0 (muN a0 1)) a2 (pF g3 0 (muN a2 1)) a4 (pF g5 0 (muN a4 1)) a8) (br (fcmp .neq .f32 (z3e a0 (pF g1 0 (muN a0 1)) a2 (pF g3 0 (muN a2 1)) a4 (pF g5 0 (muN a4 1)) a8) (z6t a0 (pF g1 0 (muN a0 1)) a2 (pF g3 0 (muN a2 1)) a4 (pF g5 0 (muN a4 1)) a8)) (grd (okIx (z28 a0 (pF g1 0 (muN a0 1)) a2 (pF g3 0 (muN a2 1)) a4 (pF g5 0 (muN a4 1)) a8) a6) (grd (okIx (z2c a0 (pF g1 0 (muN a0 1)) a2 (pF g3 0 (muN a2 1)) a4 (pF g5 0 (muN a4 1)) a8) a6) (grd (zsq (gF g7 (ixO 0 (z28 a0 (pF g1 0 (muN a0 1)) a2 (pF g3 0 (muN a2 1)) a4 (pF g5 0 (muN a4 1)) a8) 1)) (gF g7 (ixO 0 (z2c a0 (pF g1 0 (muN a0 1)) a2 (pF g3 0 (muN a2 1)) a4 (pF g5 0 (muN a4 1)) a8) 1)) (fop .quo .f32 (fop .sub .f32 (z9y a0 (pF g1 0 (muN a0 1)) a2 (pF g3 0 (muN a2 1)) a4 (pF g5 0 (muN a4 1)) a8) (z3e a0 (pF g1 0 (muN a0 1)) a2 (pF g3 0 (muN a2 1)) a4 (pF g5 0 (muN a4 1)) a8)) (fop .sub .f32 (z6t a0 (pF g1 0 (muN a0 1)) a2 (pF g3 0 (muN a2 1)) a4 (pF g5 0 (muN a4 1)) a8) (z3e a0 (pF g1 0 (muN a0 1)) a2 (pF g3 0 (muN a2 1)) a4 (pF g5 0 (muN a4 1)) a8)))) (k_ (zos (gF g7 (ixO 0 (z28 a0 (pF g1 0 (muN a0 1)) a2 (pF g3 0 (muN a2 1)) a4 (pF g5 0 (muN a4 1)) a8) 1)) (gF g7 (ixO 0 (z2c a0 (pF g1 0 (muN a0 1)) a2 (pF g3 0 (muN a2 1)) a4 (pF g5 0 (muN a4 1)) a8) 1)) (fop .quo .f32 (fop .sub .f32 (z9y a0 (pF g1 0 (muN a0 1)) a2 (pF g3 0 (muN a2 1)) a4 (pF g5 0 (muN a4 1)) a8) (z3e a0 (pF g1 0 (muN a0 1)) a2 (pF g3 0 (muN a2 1)) a4 (pF g5 0 (muN a4 1)) a8)) (fop .sub .f32 (z6t a0 (pF g1 0 (muN a0 1)) a2 (pF g3 0 (muN a2 1)) a4 (pF g5 0 (muN a4 1)) a8) (z3e a0 (pF g1 0 (muN a0 1)) a2 (pF g3 0 (muN a2 1)) a4 (pF g5 0 (muN a4 1)) a8)))))))) (grd (okIx (z28 a0 (pF g1 0 (muN a0 1)) a2 (pF g3 0 (muN a2 1)) a4 (pF g5 0 (muN a4 1)) a8) a6) (grd (okIx (z2c a0 (pF g1 0 (muN a0 1)) a2 (pF g3 0 (muN a2 1)) a4 (pF g5 0 (muN a4 1)) a8) a6) (grd (zsq (gF g7 (ixO 0 (z28 a0 (pF g1 0 (muN a0 1)) a2 (pF g3 0 (muN a2 1)) a4 (pF g5 0 (muN a4 1)) a8) 1)) (gF g7 (ixO 0 (z2c a0 (pF g1 0 (muN a0 1)) a2 (pF g3 0 (muN a2 1)) a4 (pF g5 0 (muN a4 1)) a8) 1)) 0) (k_ (zos (gF g7 (ixO 0 (z28 a0 (pF g1 0 (muN a0 1)) a2 (pF g3 0 (muN a2 1)) a4 (pF g5 0 (muN a4 1)) a8) 1)) (gF g7 (ixO 0 (z2c a0 (pF g1 0 (muN a0 1)) a2 (pF g3 0 (muN a2 1)) a4 (pF g5 0 (muN a4 1)) a8) 1)) 0)))))))
def z4y:Option (Nat):=zbq a0 g1 a2 g3 a4 g5 a6 g7 a8 (fun c0_=>some c0_)
theorem zw9:Nt1 (fun {R}=>zbq (R:=R) a0 g1 a2 g3 a4 g5 a6 g7 a8):=by
 intro R R' o h0 k;unfold zbq;repeat (first | apply grd_out h0 | apply br_out | rfl)
def zi2:Bool:=(z4y a0 g1 a2 g3 a4 g5 a6 g7 a8).isSome
def z7l:Nat:=((z4y a0 g1 a2 g3 a4 g5 a6 g7 a8).getD default)
def zlu{R:Type}(k_:Nat→Option R):Option R:=(grd (zw1 a0 (pF g1 0 (muN a0 1)) a2 (pF g3 0 (muN a2 1)) a4 (pF g5 0 (muN a4 1)) a8) (grd (okIx (zal a0 (pF g1 0 (muN a0 1)) a2 (pF g3 0 (muN a2 1)) a4 (pF g5 0 (muN a4 1)) a8) a6) (grd (okIx (zls a0 (pF g1 0 (muN a0 1)) a2 (pF g3 0 (muN a2 1)) a4 (pF g5 0 (muN a4 1)) a8) a6) (grd (okIx (zal a0 (pF g1 0 (muN a0 1)) a2 (pF g3 0 (muN a2 1)) a4 (pF g5 0 (muN a4 1)) a8) a6) (k_ (fop .add .f32 (gF g7 (ixO 0 (zal a0 (pF g1 0 (muN a0 1)) a2 (pF g3 0 (muN a2 1)) a4 (pF g5 0 (muN a4 1)) a8) 1)) (fop .mul .f32 (ztt a0 (pF g1 0 (muN a0 1)) a2 (pF g3 0 (muN a2 1)) a4 (pF g5 0 (muN a4 1)) a8) (fop .sub .f32 (gF g7 (ixO 0 (zls a0 (pF g1 0 (muN a0 1)) a2 (pF g3 0 (muN a2 1)) a4 (pF g5 0 (muN a4 1)) a8) 1)) (gF g7 (ixO 0 (zal a0 (pF g1 0 (muN a0 1)) a2 (pF g3 0 (muN a2 1)) a4 (pF g5 0 (muN a4 1)) a8) 1))))))))))
def z94:Option (Nat):=zlu a0 g1 a2 g3 a4 g5 a6 g7 a8 (fun c0_=>some c0_)
theorem y5q:Nt1 (fun {R}=>zlu (R:=R) a0 g1 a2 g3 a4 g5 a6 g7 a8):=by
 intro R R' o h0 k;unfold zlu;repeat (first | apply grd_out h0 | apply br_out | rfl)
def zst:Bool:=(z94 a0 g1 a2 g3 a4 g5 a6 g7 a8).isSome
def zp8:Nat:=((z94 a0 g1 a2 g3 a4 g5 a6 g7 a8).getD default)
def z9i{R:Type}(q0g:Int)(q0k q0j:Nat)(i:Int)(q1p q0l:Nat)(k_:Nat→Nat→Option R):Option R:=(grd (okIx i a6) (grd (zi2 a0 (pF g1 0 (muN a0 1)) a2 (pF g3 0 (muN a2 1)) a4 (pF g5 0 (muN a4 1)) a2 (pF g3 0 (muN a2 1)) (fop .sub .f32 (fop .sub .f32 q1p (gF g7 (Nat.succ (Nat.succ (ixO 0 i 3))))) q0l)) (grd (zi2 a0 (pF g1 0 (muN a0 1)) a2 (pF g3 0 (muN a2 1)) a4 (pF g5 0 (muN a4 1)) a4 (pF g5 0 (muN a4 1)) (fop .sub .f32 (fop .sub .f32 q1p (gF g7 (Nat.succ (Nat.succ (ixO 0 i 3))))) q0l)) (grd (z4a q1p) (grd (z4a (fop .add .f32 q1p 1048576000)) (k_ (fop .add .f32 (fop .mul .f32 (z7l a0 (pF g1 0 (muN a0 1)) a2 (pF g3 0 (muN a2 1)) a4 (pF g5 0 (muN a4 1)) a2 (pF g3 0 (muN a2 1)) (fop .sub .f32 (fop .sub .f32 q1p (gF g7 (Nat.succ (Nat.succ (ixO 0 i 3))))) q0l)) (z1b (fop .add .f32 q1p 1048576000))) (fop .mul .f32 (z7l a0 (pF g1 0 (muN a0 1)) a2 (pF g3 0 (muN a2 1)) a4 (pF g5 0 (muN a4 1)) a4 (pF g5 0 (muN a4 1)) (fop .sub .f32 (fop .sub .f32 q1p (gF g7 (Nat.succ (Nat.succ (ixO 0 i 3))))) q0l)) (z1b q1p))) (fop .sub .f32 (fop .mul .f32 (z7l a0 (pF g1 0 (muN a0 1)) a2 (pF g3 0 (muN a2 1)) a4 (pF g5 0 (muN a4 1)) a2 (pF g3 0 (muN a2 1)) (fop .sub .f32 (fop .sub .f32 q1p (gF g7 (Nat.succ (Nat.succ (ixO 0 i 3))))) q0l)) (z1b q1p)) (fop .mul .f32 (z7l a0 (pF g1 0 (muN a0 1)) a2 (pF g3 0 (muN a2 1)) a4 (pF g5 0 (muN a4 1)) a4 (pF g5 0 (muN a4 1)) (fop .sub .f32 (fop .sub .f32 q1p (gF g7 (Nat.succ (Nat.succ (ixO 0 i 3))))) q0l)) (z1b (fop .add .f32 q1p 1048576000))))))))))
def z27:Option (Nat×Nat):=z9i a0 g1 a2 g3 a4 g5 a6 g7 c8 a9 a10 c11 a12 a13 (fun c0_ c1_=>some (c0_,c1_))
theorem zt7:Nt2 (fun {R}=>z9i (R:=R) a0 g1 a2 g3 a4 g5 a6 g7 c8 a9 a10 c11 a12 a13):=by
 intro R R' o h0 k;unfold z9i;repeat (first | apply grd_out h0 | apply br_out | rfl)
def zff:Bool:=(z27 a0 g1 a2 g3 a4 g5 a6 g7 c8 a9 a10 c11 a12 a13).isSome
def ze9:Nat:=((z27 a0 g1 a2 g3 a4 g5 a6 g7 c8 a9 a10 c11 a12 a13).getD default).1
def zdn:Nat:=((z27 a0 g1 a2 g3 a4 g5 a6 g7 c8 a9 a10 c11 a12 a13).getD default).2
def zgs{R:Type}(k_:Nat→Option R):Option R:=(grd (zst a0 (pF g1 0 (muN a0 1)) a2 (pF g3 0 (muN a2 1)) a4 (pF g5 0 (muN a4 1)) a2 (pF g3 0 (muN a2 1)) a6) (k_ (zp8 a0 (pF g1 0 (muN a0 1)) a2 (pF g3 0 (muN a2 1)) a4 (pF g5 0 (muN a4 1)) a2 (pF g3 0 (muN a2 1)) a6)))
def z78:Option (Nat):=zgs a0 g1 a2 g3 a4 g5 a6 (fun c0_=>some c0_)
theorem y1q:Nt1 (fun {R}=>zgs (R:=R) a0 g1 a2 g3 a4 g5 a6):=by
 intro R R' o h0 k;unfold zgs;repeat (first | apply grd_out h0 | apply br_out | rfl)
def zvz:Bool:=(z78 a0 g1 a2 g3 a4 g5 a6).isSome
def zl3:Nat:=((z78 a0 g1 a2 g3 a4 g5 a6).getD default)
def zgx{R:Type}(k_:Nat→Option R):Option R:=(grd (zst a0 (pF g1 0 (muN a0 1)) a2 (pF g3 0 (muN a2 1)) a4 (pF g5 0 (muN a4 1)) a4 (pF g5 0 (muN a4 1)) a6) (k_ (zp8 a0 (pF g1 0 (muN a0 1)) a2 (pF g3 0 (muN a2 1)) a4 (pF g5 0 (muN a4 1)) a4 (pF g5 0 (muN a4 1)) a6)))
def z7a:Option (Nat):=zgx a0 g1 a2 g3 a4 g5 a6 (fun c0_=>some c0_)
theorem y23:Nt1 (fun {R}=>zgx (R:=R) a0 g1 a2 g3 a4 g5 a6):=by
 intro R R' o h0 k;unfold zgx;repeat (first | apply grd_out h0 | apply br_out | rfl)
def zw0:Bool:=(z7a a0 g1 a2 g3 a4 g5 a6).isSome
def zm3:Nat:=((z7a a0 g1 a2 g3 a4 g5 a6).getD default)
def z9g{R:Type}(k_:Nat→Nat→Option R):Option R:=(grd (zff a0 (pF g1 0 (muN a0 1)) a2 (pF g3 0 (muN a2 1)) a4 (pF g5 0 (muN a4 1)) a6 (pF g7 0 (muN a6 3)) c8 a9 a10 c11 a12 a13) (grd (z4a a12) (grd (z4a (fop .add .f32 a12 1048576000)) (grd (zkl a0 (pF g1 0 (muN a0 1)) a2 (pF g3 0 (muN a2 1)) a4 (pF g5 0 (muN a4 1)) a6 (pF g7 0 (muN a6 3)) c8 a9 a10 c11) (grd (zkc a0 (pF g1 0 (muN a0 1)) a2 (pF g3 0 (muN a2 1)) a4 (pF g5 0 (muN a4 1)) a6 (pF g7 0 (muN a6 3)) c8 a9 a10 c11 a12) (k_ (fop .quo .f32 (fop .mul .f32 (zau a0 (pF g1 0 (muN a0 1)) a2 (pF g3 0 (muN a2 1)) a4 (pF g5 0 (muN a4 1)) a6 (pF g7 0 (muN a6 3)) c8 a9 a10 c11) (ze9 a0 (pF g1 0 (muN a0 1)) a2 (pF g3 0 (muN a2 1)) a4 (pF g5 0 (muN a4 1)) a6 (pF g7 0 (muN a6 3)) c8 a9 a10 c11 a12 a13)) (fop .mul .f32 (fop .mul .f32 (fop .mul .f32 1082130432 (zas a0 (pF g1 0 (muN a0 1)) a2 (pF g3 0 (muN a2 1)) a4 (pF g5 0 (muN a4 1)) a6 (pF g7 0 (muN a6 3)) c8 a9 a10 c11 a12)) (z1b a12)) (z1b a12))) (fop .quo .f32 (fop .mul .f32 (zau a0 (pF g1 0 (muN a0 1)) a2 (pF g3 0 (muN a2 1)) a4 (pF g5 0 (muN a4 1)) a6 (pF g7 0 (muN a6 3)) c8 a9 a10 c11) (zdn a0 (pF g1 0 (muN a0 1)) a2 (pF g3 0 (muN a2 1)) a4 (pF g5 0 (muN a4 1)) a6 (pF g7 0 (muN a6 3)) c8 a9 a10 c11 a12 a13)) (fop .mul .f32 (fop .mul .f32 (fop .mul .f32 1082130432 (zas a0 (pF g1 0 (muN a0 1)) a2 (pF g3 0 (muN a2 1)) a4 (pF g5 0 (muN a4 1)) a6 (pF g7 0 (muN a6 3)) c8 a9 a10 c11 a12)) (z1b a12)) (z1b (fop .add .f32 a12 1048576000))))))))))
def z2t:Option (Nat×Nat):=z9g a0 g1 a2 g3 a4 g5 a6 g7 c8 a9 a10 c11 a12 a13 (fun c0_ c1_=>some (c0_,c1_))
theorem ztk:Nt2 (fun {R}=>z9g (R:=R) a0 g1 a2 g3 a4 g5 a6 g7 c8 a9 a10 c11 a12 a13):=by
 intro R R' o h0 k;unfold z9g;repeat (first | apply grd_out h0 | apply br_out | rfl)
def zf7:Bool:=(z2t a0 g1 a2 g3 a4 g5 a6 g7 c8 a9 a10 c11 a12 a13).isSome
def zec:Nat:=((z2t a0 g1 a2 g3 a4 g5 a6 g7 c8 a9 a10 c11 a12 a13).getD default).1
def ze8:Nat:=((z2t a0 g1 a2 g3 a4 g5 a6 g7 c8 a9 a10 c11 a12 a13).getD default).2
def zdh{R:Type}(q0g:Int)(q0k q0j:Nat)(i:Int)(q1p q0l:Nat)(k_:Nat→Nat→Option R):Option R:=(grd (okIx i a6) (grd (zvz a0 (pF g1 0 (muN a0 1)) a2 (pF g3 0 (muN a2 1)) a4 (pF g5 0 (muN a4 1)) (fop .sub .f32 (fop .sub .f32 q1p (gF g7 (Nat.succ (Nat.succ (ixO 0 i 3))))) q0l)) (grd (zw0 a0 (pF g1 0 (muN a0 1)) a2 (pF g3 0 (muN a2 1)) a4 (pF g5 0 (muN a4 1)) (fop .sub .f32 (fop .sub .f32 q1p (gF g7 (Nat.succ (Nat.succ (ixO 0 i 3))))) q0l)) (grd (z73 q1p) (grd (z73 (fop .add .f32 q1p 1048576000)) (k_ (fop .add .f32 (fop .mul .f32 (zl3 a0 (pF g1 0 (muN a0 1)) a2 (pF g3 0 (muN a2 1)) a4 (pF g5 0 (muN a4 1)) (fop .sub .f32 (fop .sub .f32 q1p (gF g7 (Nat.succ (Nat.succ (ixO 0 i 3))))) q0l)) (z17 (fop .add .f32 q1p 1048576000))) (fop .mul .f32 (zm3 a0 (pF g1 0 (muN a0 1)) a2 (pF g3 0 (muN a2 1)) a4 (pF g5 0 (muN a4 1)) (fop .sub .f32 (fop .sub .f32 q1p (gF g7 (Nat.succ (Nat.succ (ixO 0 i 3))))) q0l)) (z17 q1p))) (fop .sub .f32 (fop .mul .f32 (zl3 a0 (pF g1 0 (muN a0 1)) a2 (pF g3 0 (muN a2 1)) a4 (pF g5 0 (muN a4 1)) (fop .sub .f32 (fop .sub .f32 q1p (gF g7 (Nat.succ (Nat.succ (ixO 0 i 3))))) q0l)) (z17 q1p)) (fop .mul .f32 (zm3 a0 (pF g1 0 (muN a0 1)) a2 (pF g3 0 (muN a2 1)) a4 (pF g5 0 (muN a4 1)) (fop .sub .f32 (fop .sub .f32 q1p (gF g7 (Nat.succ (Nat.succ (ixO 0 i 3))))) q0l)) (z17 (fop .add .f32 q1p 1048576000))))))))))
def z47:Option (Nat×Nat):=zdh a0 g1 a2 g3 a4 g5 a6 g7 c8 a9 a10 c11 a12 a13 (fun c0_ c1_=>some (c0_,c1_))
theorem zyq:Nt2 (fun {R}=>zdh (R:=R) a0 g1 a2 g3 a4 g5 a6 g7 c8 a9 a10 c11 a12 a13):=by
 intro R R' o h0 k;unfold zdh;repeat (first | apply grd_out h0 | apply br_out | rfl)
def zs6:Bool:=(z47 a0 g1 a2 g3 a4 g5 a6 g7 c8 a9 a10 c11 a12 a13).isSome
def zhs:Nat:=((z47 a0 g1 a2 g3 a4 g5 a6 g7 c8 a9 a10 c11 a12 a13).getD default).1
def zhv:Nat:=((z47 a0 g1 a2 g3 a4 g5 a6 g7 c8 a9 a10 c11 a12 a13).getD default).2
def z1u{R:Type}(kn_:Nat→Int→Option R)(k0_:Unit→Option R)(k1_:Nat→Int→Bool→Option R):Option R:=(br (ltI c5 c1) (grd (okIx c5 a0) (br (fcmp .gtr .f32 (gF g2 (ixO 0 c5 3)) a4) (br (bnot (fcmp .lss .f32 (gF g2 (ixO 0 c5 3)) a3)) (k0_ ()) (grd (z7m 1 (pF [(gF g2 (Nat.succ (ixO 0 c5 3)))] 0 (muN 1 1))) (br (bnot (z6x 1 (pF [(gF g2 (Nat.succ (ixO 0 c5 3)))] 0 (muN 1 1)))) (k0_ ()) (grd (z2d (gF g2 (Nat.succ (Nat.succ (ixO 0 c5 3))))) (br (bnot (z23 (gF g2 (Nat.succ (Nat.succ (ixO 0 c5 3)))))) (k0_ ()) (kn_ (gF g2 (ixO 0 c5 3)) (addI .i64 c5 1))))))) (br (bnot Bool.false) (k0_ ()) (grd (z7m 1 (pF [(gF g2 (Nat.succ (ixO 0 c5 3)))] 0 (muN 1 1))) (br (bnot (z6x 1 (pF [(gF g2 (Nat.succ (ixO 0 c5 3)))] 0 (muN 1 1)))) (k0_ ()) (grd (z2d (gF g2 (Nat.succ (Nat.succ (ixO 0 c5 3))))) (br (bnot (z23 (gF g2 (Nat.succ (Nat.succ (ixO 0 c5 3)))))) (k0_ ()) (kn_ (gF g2 (ixO 0 c5 3)) (addI .i64 c5 1))))))))) (k1_ a4 c5 (ltI c5 c1)))
theorem zr2{R R':Type}(o:Option R→Option R')(h0:o none=none)(kn_:Nat→Int→Option R)(k0_:Unit→Option R)(k1_:Nat→Int→Bool→Option R):z1u a0 c1 g2 a3 a4 c5 (fun t4' t45'=>o (kn_ t4' t45')) (fun _=>o (k0_ ())) (fun c0_ c1_ c2_=>o (k1_ c0_ c1_ c2_))=o (z1u a0 c1 g2 a3 a4 c5 kn_ k0_ k1_):=by
 unfold z1u
 repeat (first | apply grd_out h0 | apply br_out | rfl)
def z0f(q2u:Nat)(t44:Int)(b3:List Nat)(q1a:Nat):Nat→Nat→Int→Option ((Unit)⊕(Nat×Int×Bool))
 | 0,_,_=>none
 | n+1,t4,t45=>z1u q2u t44 b3 q1a  t4 t45  (fun t4' t45'=>z0f q2u t44 b3 q1a n t4' t45') (fun _=>some (Sum.inl ())) (fun c0_ c1_ c2_=>some (Sum.inr (c0_,c1_,c2_)))
theorem zft:z0f a0 c1 g2 a3 (a4+1) a5 c6=z1u a0 c1 g2 a3  a5 c6  (fun t4' t45'=>z0f a0 c1 g2 a3 a4 t4' t45') (fun _=>some (Sum.inl ())) (fun c0_ c1_ c2_=>some (Sum.inr (c0_,c1_,c2_))):=rfl
def z8k:Bool:=(z0f a0 c1 g2 a3 big a4 c5).isSome
def z7v:Bool:=oL (z0f a0 c1 g2 a3 big a4 c5)
def ztc:Nat:=((tR (z0f a0 c1 g2 a3 big a4 c5)).getD default).1
def ztf:Int:=((tR (z0f a0 c1 g2 a3 big a4 c5)).getD default).2.1
def zto:Bool:=((tR (z0f a0 c1 g2 a3 big a4 c5)).getD default).2.2
def zbx{R:Type}(k_:Bool→Option R):Option R:=(grd (zmw a0 (pF g1 0 (muN a0 1)) a2 (pF g3 0 (muN a2 1)) a4 (pF g5 0 (muN a4 1))) (br (bnot (zlg a0 (pF g1 0 (muN a0 1)) a2 (pF g3 0 (muN a2 1)) a4 (pF g5 0 (muN a4 1)))) (k_ Bool.false) (grd (z88 c8 1 6) (br (bnot (z3q c8 1 6)) (k_ Bool.false) (br (ltI (Int.ofNat a6) 2) (k_ Bool.false) (br (ltI 12 (Int.ofNat a6)) (k_ Bool.false) (grd (zo1 a9) (br (bnot (zlr a9)) (k_ Bool.false) (grd (z2d a10) (br (bnot (z23 a10)) (k_ Bool.false) (grd (z8k a6 (Int.ofNat a6) g7 a10 a9 0) (br (z7v a6 (Int.ofNat a6) g7 a10 a9 0) (k_ Bool.false) (k_ Bool.true)))))))))))))
def z4u:Option (Bool):=zbx a0 g1 a2 g3 a4 g5 a6 g7 c8 a9 a10 (fun c0_=>some c0_)
theorem zvr:Nt1 (fun {R}=>zbx (R:=R) a0 g1 a2 g3 a4 g5 a6 g7 c8 a9 a10):=by
 intro R R' o h0 k;unfold zbx;repeat (first | apply grd_out h0 | apply br_out | rfl)
def zc4:Bool:=(z4u a0 g1 a2 g3 a4 g5 a6 g7 c8 a9 a10).isSome
def z7k:Bool:=((z4u a0 g1 a2 g3 a4 g5 a6 g7 c8 a9 a10).getD default)
def zgu{R:Type}(k_:Nat→Nat→Nat→Nat→Option R):Option R:=(grd (zs6 a0 (pF g1 0 (muN a0 1)) a2 (pF g3 0 (muN a2 1)) a4 (pF g5 0 (muN a4 1)) a6 (pF g7 0 (muN a6 3)) c8 a9 a10 c11 a12 a13) (grd (z73 a12) (grd (z73 (fop .add .f32 a12 1048576000)) (grd (zyz a0 (pF g1 0 (muN a0 1)) a2 (pF g3 0 (muN a2 1)) a4 (pF g5 0 (muN a4 1)) a6 (pF g7 0 (muN a6 3)) c8 a9 a10 c11 (z17 a12)) (grd (zoo a0 (pF g1 0 (muN a0 1)) a2 (pF g3 0 (muN a2 1)) a4 (pF g5 0 (muN a4 1)) a6 (pF g7 0 (muN a6 3)) c8 a9 a10 c11) (k_ (fop .quo .f32 (fop .mul .f32 (zfd a0 (pF g1 0 (muN a0 1)) a2 (pF g3 0 (muN a2 1)) a4 (pF g5 0 (muN a4 1)) a6 (pF g7 0 (muN a6 3)) c8 a9 a10 c11) (zhs a0 (pF g1 0 (muN a0 1)) a2 (pF g3 0 (muN a2 1)) a4 (pF g5 0 (muN a4 1)) a6 (pF g7 0 (muN a6 3)) c8 a9 a10 c11 a12 a13)) (fop .mul .f32 (fop .mul .f32 (fop .mul .f32 1082130432 (zny a0 (pF g1 0 (muN a0 1)) a2 (pF g3 0 (muN a2 1)) a4 (pF g5 0 (muN a4 1)) a6 (pF g7 0 (muN a6 3)) c8 a9 a10 c11 (z17 a12))) (z17 a12)) (z17 a12))) (fop .quo .f32 (fop .mul .f32 (zfd a0 (pF g1 0 (muN a0 1)) a2 (pF g3 0 (muN a2 1)) a4 (pF g5 0 (muN a4 1)) a6 (pF g7 0 (muN a6 3)) c8 a9 a10 c11) (zhv a0 (pF g1 0 (muN a0 1)) a2 (pF g3 0 (muN a2 1)) a4 (pF g5 0 (muN a4 1)) a6 (pF g7 0 (muN a6 3)) c8 a9 a10 c11 a12 a13)) (fop .mul .f32 (fop .mul .f32 (fop .mul .f32 1082130432 (zny a0 (pF g1 0 (muN a0 1)) a2 (pF g3 0 (muN a2 1)) a4 (pF g5 0 (muN a4 1)) a6 (pF g7 0 (muN a6 3)) c8 a9 a10 c11 (z17 a12))) (z17 a12)) (z17 (fop .add .f32 a12 1048576000)))) (zhs a0 (pF g1 0 (muN a0 1)) a2 (pF g3 0 (muN a2 1)) a4 (pF g5 0 (muN a4 1)) a6 (pF g7 0 (muN a6 3)) c8 a9 a10 c11 a12 a13) (zhv a0 (pF g1 0 (muN a0 1)) a2 (pF g3 0 (muN a2 1)) a4 (pF g5 0 (muN a4 1)) a6 (pF g7 0 (muN a6 3)) c8 a9 a10 c11 a12 a13)))))))
def z3p:Option (Nat×Nat×Nat×Nat):=zgu a0 g1 a2 g3 a4 g5 a6 g7 c8 a9 a10 c11 a12 a13 (fun c0_ c1_ c2_ c3_=>some (c0_,c1_,c2_,c3_))
theorem y1p:Nt4 (fun {R}=>zgu (R:=R) a0 g1 a2 g3 a4 g5 a6 g7 c8 a9 a10 c11 a12 a13):=by
 intro R R' o h0 k;unfold zgu;repeat (first | apply grd_out h0 | apply br_out | rfl)
def znl:Bool:=(z3p a0 g1 a2 g3 a4 g5 a6 g7 c8 a9 a10 c11 a12 a13).isSome
def zl4:Nat:=((z3p a0 g1 a2 g3 a4 g5 a6 g7 c8 a9 a10 c11 a12 a13).getD default).1
def zm4:Nat:=((z3p a0 g1 a2 g3 a4 g5 a6 g7 c8 a9 a10 c11 a12 a13).getD default).2.1
def zu7:Nat:=((z3p a0 g1 a2 g3 a4 g5 a6 g7 c8 a9 a10 c11 a12 a13).getD default).2.2.1
def zu2:Nat:=((z3p a0 g1 a2 g3 a4 g5 a6 g7 c8 a9 a10 c11 a12 a13).getD default).2.2.2
def z8n{R:Type}(k_:Nat→Option R):Option R:=(grd (zf7 a0 (pF g1 0 (muN a0 1)) a2 (pF g3 0 (muN a2 1)) a4 (pF g5 0 (muN a4 1)) a6 (pF g7 0 (muN a6 3)) c8 a9 a10 c11 a12 a15) (grd (z4a a12) (grd (z4a (fop .add .f32 a12 1048576000)) (grd (okIx c11 a6) (k_ (fop .sub .f32 (fop .mul .f32 (z1b a12) (fop .add .f32 1065353216 (zec a0 (pF g1 0 (muN a0 1)) a2 (pF g3 0 (muN a2 1)) a4 (pF g5 0 (muN a4 1)) a6 (pF g7 0 (muN a6 3)) c8 a9 a10 c11 a12 a15))) (fop .mul .f32 (fop .mul .f32 (fop .quo .f32 a13 (fop .mul .f32 a14 (gF g7 (ixO 0 c11 3)))) (z1b (fop .add .f32 a12 1048576000))) (fop .sub .f32 1065353216 (ze8 a0 (pF g1 0 (muN a0 1)) a2 (pF g3 0 (muN a2 1)) a4 (pF g5 0 (muN a4 1)) a6 (pF g7 0 (muN a6 3)) c8 a9 a10 c11 a12 a15)))))))))
def z2g:Option (Nat):=z8n a0 g1 a2 g3 a4 g5 a6 g7 c8 a9 a10 c11 a12 a13 a14 a15 (fun c0_=>some c0_)
theorem zsf:Nt1 (fun {R}=>z8n (R:=R) a0 g1 a2 g3 a4 g5 a6 g7 c8 a9 a10 c11 a12 a13 a14 a15):=by
 intro R R' o h0 k;unfold z8n;repeat (first | apply grd_out h0 | apply br_out | rfl)
def zl9:Bool:=(z2g a0 g1 a2 g3 a4 g5 a6 g7 c8 a9 a10 c11 a12 a13 a14 a15).isSome
def z82:Nat:=((z2g a0 g1 a2 g3 a4 g5 a6 g7 c8 a9 a10 c11 a12 a13 a14 a15).getD default)
def zgp{R:Type}(k_:Bool→Option R):Option R:=(grd (zc4 a0 (pF g1 0 (muN a0 1)) a2 (pF g3 0 (muN a2 1)) a4 (pF g5 0 (muN a4 1)) a6 (pF g7 0 (muN a6 3)) c8 a9 a10) (br (z7k a0 (pF g1 0 (muN a0 1)) a2 (pF g3 0 (muN a2 1)) a4 (pF g5 0 (muN a4 1)) a6 (pF g7 0 (muN a6 3)) c8 a9 a10) (grd (zic a0 (pF g1 0 (muN a0 1)) a2 (pF g3 0 (muN a2 1)) a4 (pF g5 0 (muN a4 1)) a6 (pF g7 0 (muN a6 3)) c8 a9 a10 c11) (br (zh1 a0 (pF g1 0 (muN a0 1)) a2 (pF g3 0 (muN a2 1)) a4 (pF g5 0 (muN a4 1)) a6 (pF g7 0 (muN a6 3)) c8 a9 a10 c11) (grd (z7m 2 (pF [a12,a13] 0 (muN 2 1))) (br (z6x 2 (pF [a12,a13] 0 (muN 2 1))) (grd (z2d a14) (br (z23 a14) (grd (okIx c11 a6) (grd (z2d (fop .sub .f32 (fop .sub .f32 981668463 (gF g7 (Nat.succ (Nat.succ (ixO 0 c11 3))))) a14)) (k_ (z23 (fop .sub .f32 (fop .sub .f32 981668463 (gF g7 (Nat.succ (Nat.succ (ixO 0 c11 3))))) a14))))) (k_ Bool.false))) (k_ Bool.false))) (k_ Bool.false))) (k_ Bool.false)))
def z74:Option (Bool):=zgp a0 g1 a2 g3 a4 g5 a6 g7 c8 a9 a10 c11 a12 a13 a14 (fun c0_=>some c0_)
theorem y2c:Nt1 (fun {R}=>zgp (R:=R) a0 g1 a2 g3 a4 g5 a6 g7 c8 a9 a10 c11 a12 a13 a14):=by
 intro R R' o h0 k;unfold zgp;repeat (first | apply grd_out h0 | apply br_out | rfl)
def zo2:Bool:=(z74 a0 g1 a2 g3 a4 g5 a6 g7 c8 a9 a10 c11 a12 a13 a14).isSome
def zks:Bool:=((z74 a0 g1 a2 g3 a4 g5 a6 g7 c8 a9 a10 c11 a12 a13 a14).getD default)
def zc0{R:Type}(k_:Nat→Option R):Option R:=(grd (znl a0 (pF g1 0 (muN a0 1)) a2 (pF g3 0 (muN a2 1)) a4 (pF g5 0 (muN a4 1)) a6 (pF g7 0 (muN a6 3)) c8 a9 a10 c11 a12 a15) (grd (z73 a12) (grd (z73 (fop .add .f32 a12 1048576000)) (grd (okIx c11 a6) (k_ (fop .sub .f32 (fop .mul .f32 (z17 a12) (fop .add .f32 1065353216 (zl4 a0 (pF g1 0 (muN a0 1)) a2 (pF g3 0 (muN a2 1)) a4 (pF g5 0 (muN a4 1)) a6 (pF g7 0 (muN a6 3)) c8 a9 a10 c11 a12 a15))) (fop .mul .f32 (fop .mul .f32 (fop .quo .f32 a13 (fop .mul .f32 a14 (gF g7 (ixO 0 c11 3)))) (z17 (fop .add .f32 a12 1048576000))) (fop .sub .f32 1065353216 (zm4 a0 (pF g1 0 (muN a0 1)) a2 (pF g3 0 (muN a2 1)) a4 (pF g5 0 (muN a4 1)) a6 (pF g7 0 (muN a6 3)) c8 a9 a10 c11 a12 a15)))))))))
def z2w:Option (Nat):=zc0 a0 g1 a2 g3 a4 g5 a6 g7 c8 a9 a10 c11 a12 a13 a14 a15 (fun c0_=>some c0_)
theorem zx1:Nt1 (fun {R}=>zc0 (R:=R) a0 g1 a2 g3 a4 g5 a6 g7 c8 a9 a10 c11 a12 a13 a14 a15):=by
 intro R R' o h0 k;unfold zc0;repeat (first | apply grd_out h0 | apply br_out | rfl)
def zpx:Bool:=(z2w a0 g1 a2 g3 a4 g5 a6 g7 c8 a9 a10 c11 a12 a13 a14 a15).isSome
def zah:Nat:=((z2w a0 g1 a2 g3 a4 g5 a6 g7 c8 a9 a10 c11 a12 a13 a14 a15).getD default)
def zdp{R:Type}(k_:Nat→Bool→Option R):Option R:=(grd (zo2 a0 (pF g1 0 (muN a0 1)) a2 (pF g3 0 (muN a2 1)) a4 (pF g5 0 (muN a4 1)) a6 (pF g7 0 (muN a6 3)) c8 a9 a10 c11 a13 a14 a15) (br (bnot (zks a0 (pF g1 0 (muN a0 1)) a2 (pF g3 0 (muN a2 1)) a4 (pF g5 0 (muN a4 1)) a6 (pF g7 0 (muN a6 3)) c8 a9 a10 c11 a13 a14 a15)) (k_ 0 Bool.false) (grd (zz4 a12) (br (bnot (zvy a12)) (k_ 0 Bool.false) (grd (zl9 a0 (pF g1 0 (muN a0 1)) a2 (pF g3 0 (muN a2 1)) a4 (pF g5 0 (muN a4 1)) a6 (pF g7 0 (muN a6 3)) c8 a9 a10 c11 a12 a13 a14 a15) (grd (znu (z82 a0 (pF g1 0 (muN a0 1)) a2 (pF g3 0 (muN a2 1)) a4 (pF g5 0 (muN a4 1)) a6 (pF g7 0 (muN a6 3)) c8 a9 a10 c11 a12 a13 a14 a15)) (k_ (zm9 (z82 a0 (pF g1 0 (muN a0 1)) a2 (pF g3 0 (muN a2 1)) a4 (pF g5 0 (muN a4 1)) a6 (pF g7 0 (muN a6 3)) c8 a9 a10 c11 a12 a13 a14 a15)) (zlh (z82 a0 (pF g1 0 (muN a0 1)) a2 (pF g3 0 (muN a2 1)) a4 (pF g5 0 (muN a4 1)) a6 (pF g7 0 (muN a6 3)) c8 a9 a10 c11 a12 a13 a14 a15)))))))))
def z4c:Option (Nat×Bool):=zdp a0 g1 a2 g3 a4 g5 a6 g7 c8 a9 a10 c11 a12 a13 a14 a15 (fun c0_ c1_=>some (c0_,c1_))
theorem zxx:Nt2 (fun {R}=>zdp (R:=R) a0 g1 a2 g3 a4 g5 a6 g7 c8 a9 a10 c11 a12 a13 a14 a15):=by
 intro R R' o h0 k;unfold zdp;repeat (first | apply grd_out h0 | apply br_out | rfl)
def zrt:Bool:=(z4c a0 g1 a2 g3 a4 g5 a6 g7 c8 a9 a10 c11 a12 a13 a14 a15).isSome
def zqe:Nat:=((z4c a0 g1 a2 g3 a4 g5 a6 g7 c8 a9 a10 c11 a12 a13 a14 a15).getD default).1
def zqh:Bool:=((z4c a0 g1 a2 g3 a4 g5 a6 g7 c8 a9 a10 c11 a12 a13 a14 a15).getD default).2
def z26{R:Type}(kn_:Nat→Nat→Int→Option R)(k0_:Unit→Option R)(k1_:Nat→Nat→Int→Bool→Option R):Option R:=(br (ltI c17 24) (grd (zpx a8 (pF g4 0 (muN a8 1)) a9 (pF g5 0 (muN a9 1)) a10 (pF g6 0 (muN a10 1)) a11 (pF g7 0 (muN a11 3)) c12 a13 a14 c0 (fop .mul .f32 1056964608 (fop .add .f32 a15 a16)) a1 a2 a3) (grd (z0w (zah a8 (pF g4 0 (muN a8 1)) a9 (pF g5 0 (muN a9 1)) a10 (pF g6 0 (muN a10 1)) a11 (pF g7 0 (muN a11 3)) c12 a13 a14 c0 (fop .mul .f32 1056964608 (fop .add .f32 a15 a16)) a1 a2 a3)) (br (bnot (z0q (zah a8 (pF g4 0 (muN a8 1)) a9 (pF g5 0 (muN a9 1)) a10 (pF g6 0 (muN a10 1)) a11 (pF g7 0 (muN a11 3)) c12 a13 a14 c0 (fop .mul .f32 1056964608 (fop .add .f32 a15 a16)) a1 a2 a3))) (k0_ ()) (br (fcmp .gtr .f32 (zah a8 (pF g4 0 (muN a8 1)) a9 (pF g5 0 (muN a9 1)) a10 (pF g6 0 (muN a10 1)) a11 (pF g7 0 (muN a11 3)) c12 a13 a14 c0 (fop .mul .f32 1056964608 (fop .add .f32 a15 a16)) a1 a2 a3) 0) (kn_ a15 (fop .mul .f32 1056964608 (fop .add .f32 a15 a16)) (addI .i64 c17 1)) (kn_ (fop .mul .f32 1056964608 (fop .add .f32 a15 a16)) a16 (addI .i64 c17 1)))))) (k1_ a15 a16 c17 (ltI c17 24)))
theorem zt3{R R':Type}(o:Option R→Option R')(h0:o none=none)(kn_:Nat→Nat→Int→Option R)(k0_:Unit→Option R)(k1_:Nat→Nat→Int→Bool→Option R):z26 c0 a1 a2 a3 g4 g5 g6 g7 a8 a9 a10 a11 c12 a13 a14 a15 a16 c17 (fun low' q22' k'=>o (kn_ low' q22' k')) (fun _=>o (k0_ ())) (fun c0_ c1_ c2_ c3_=>o (k1_ c0_ c1_ c2_ c3_))=o (z26 c0 a1 a2 a3 g4 g5 g6 g7 a8 a9 a10 a11 c12 a13 a14 a15 a16 c17 kn_ k0_ k1_):=by
 unfold z26
 repeat (first | apply grd_out h0 | apply br_out | rfl)
def z0h(i:Int)(q14 q0v q0l:Nat)(b0 b1 b2 b3:List Nat)(q18 q17 q19 q0w:Nat)(q1m:Int)(q1l q1a:Nat):Nat→Nat→Nat→Int→Option ((Unit)⊕(Nat×Nat×Int×Bool))
 | 0,_,_,_=>none
 | n+1,low,q22,k=>z26 i q14 q0v q0l b0 b1 b2 b3 q18 q17 q19 q0w q1m q1l q1a  low q22 k  (fun low' q22' k'=>z0h i q14 q0v q0l b0 b1 b2 b3 q18 q17 q19 q0w q1m q1l q1a n low' q22' k') (fun _=>some (Sum.inl ())) (fun c0_ c1_ c2_ c3_=>some (Sum.inr (c0_,c1_,c2_,c3_)))
theorem zg2:z0h c0 a1 a2 a3 g4 g5 g6 g7 a8 a9 a10 a11 c12 a13 a14 (a15+1) a16 a17 c18=z26 c0 a1 a2 a3 g4 g5 g6 g7 a8 a9 a10 a11 c12 a13 a14  a16 a17 c18  (fun low' q22' k'=>z0h c0 a1 a2 a3 g4 g5 g6 g7 a8 a9 a10 a11 c12 a13 a14 a15 low' q22' k') (fun _=>some (Sum.inl ())) (fun c0_ c1_ c2_ c3_=>some (Sum.inr (c0_,c1_,c2_,c3_))):=rfl
def zfe:Bool:=(z0h c0 a1 a2 a3 g4 g5 g6 g7 a8 a9 a10 a11 c12 a13 a14 big a15 a16 c17).isSome
def zdq:Bool:=oL (z0h c0 a1 a2 a3 g4 g5 g6 g7 a8 a9 a10 a11 c12 a13 a14 big a15 a16 c17)
def zii:Nat:=((tR (z0h c0 a1 a2 a3 g4 g5 g6 g7 a8 a9 a10 a11 c12 a13 a14 big a15 a16 c17)).getD default).1
def zuw:Nat:=((tR (z0h c0 a1 a2 a3 g4 g5 g6 g7 a8 a9 a10 a11 c12 a13 a14 big a15 a16 c17)).getD default).2.1
def zv8:Int:=((tR (z0h c0 a1 a2 a3 g4 g5 g6 g7 a8 a9 a10 a11 c12 a13 a14 big a15 a16 c17)).getD default).2.2.1
def zv4:Bool:=((tR (z0h c0 a1 a2 a3 g4 g5 g6 g7 a8 a9 a10 a11 c12 a13 a14 big a15 a16 c17)).getD default).2.2.2
def zdi{R:Type}(k_:Nat→Bool→Option R):Option R:=(grd (zfe c11 a12 a13 a14 g1 g3 g5 g7 a0 a2 a4 a6 c8 a9 a10 981668463 1048508891 0) (br (zdq c11 a12 a13 a14 g1 g3 g5 g7 a0 a2 a4 a6 c8 a9 a10 981668463 1048508891 0) (k_ 0 Bool.false) (k_ (zii c11 a12 a13 a14 g1 g3 g5 g7 a0 a2 a4 a6 c8 a9 a10 981668463 1048508891 0) Bool.true)))
def z4e:Option (Nat×Bool):=zdi a0 g1 a2 g3 a4 g5 a6 g7 c8 a9 a10 c11 a12 a13 a14 (fun c0_ c1_=>some (c0_,c1_))
theorem zyd:Nt2 (fun {R}=>zdi (R:=R) a0 g1 a2 g3 a4 g5 a6 g7 c8 a9 a10 c11 a12 a13 a14):=by
 intro R R' o h0 k;unfold zdi;repeat (first | apply grd_out h0 | apply br_out | rfl)
def zs7:Bool:=(z4e a0 g1 a2 g3 a4 g5 a6 g7 c8 a9 a10 c11 a12 a13 a14).isSome
def zpq:Nat:=((z4e a0 g1 a2 g3 a4 g5 a6 g7 c8 a9 a10 c11 a12 a13 a14).getD default).1
def zpt:Bool:=((z4e a0 g1 a2 g3 a4 g5 a6 g7 c8 a9 a10 c11 a12 a13 a14).getD default).2
def z3f{R:Type}(kn_:Nat→Nat→Int→Option R)(k0_:Unit→Option R)(k1_:Nat→Nat→Int→Bool→Option R):Option R:=(br (ltI c17 24) (grd (zrt a8 (pF g4 0 (muN a8 1)) a9 (pF g5 0 (muN a9 1)) a10 (pF g6 0 (muN a10 1)) a11 (pF g7 0 (muN a11 3)) c12 a13 a14 c0 (fop .quo .f32 (fop .add .f32 a15 a16) 1073741824) a1 a2 a3) (br (bnot (zqh a8 (pF g4 0 (muN a8 1)) a9 (pF g5 0 (muN a9 1)) a10 (pF g6 0 (muN a10 1)) a11 (pF g7 0 (muN a11 3)) c12 a13 a14 c0 (fop .quo .f32 (fop .add .f32 a15 a16) 1073741824) a1 a2 a3)) (k0_ ()) (br (fcmp .gtr .f32 (zqe a8 (pF g4 0 (muN a8 1)) a9 (pF g5 0 (muN a9 1)) a10 (pF g6 0 (muN a10 1)) a11 (pF g7 0 (muN a11 3)) c12 a13 a14 c0 (fop .quo .f32 (fop .add .f32 a15 a16) 1073741824) a1 a2 a3) 0) (kn_ a15 (fop .quo .f32 (fop .add .f32 a15 a16) 1073741824) (addI .i64 c17 1)) (kn_ (fop .quo .f32 (fop .add .f32 a15 a16) 1073741824) a16 (addI .i64 c17 1))))) (k1_ a15 a16 c17 (ltI c17 24)))
theorem zxt{R R':Type}(o:Option R→Option R')(h0:o none=none)(kn_:Nat→Nat→Int→Option R)(k0_:Unit→Option R)(k1_:Nat→Nat→Int→Bool→Option R):z3f c0 a1 a2 a3 g4 g5 g6 g7 a8 a9 a10 a11 c12 a13 a14 a15 a16 c17 (fun low' q22' t24'=>o (kn_ low' q22' t24')) (fun _=>o (k0_ ())) (fun c0_ c1_ c2_ c3_=>o (k1_ c0_ c1_ c2_ c3_))=o (z3f c0 a1 a2 a3 g4 g5 g6 g7 a8 a9 a10 a11 c12 a13 a14 a15 a16 c17 kn_ k0_ k1_):=by
 unfold z3f
 repeat (first | apply grd_out h0 | apply br_out | rfl)
def z0r(i:Int)(q14 q0v q0l:Nat)(b0 b1 b2 b3:List Nat)(q18 q17 q19 q0w:Nat)(q1m:Int)(q1l q1a:Nat):Nat→Nat→Nat→Int→Option ((Unit)⊕(Nat×Nat×Int×Bool))
 | 0,_,_,_=>none
 | n+1,low,q22,t24=>z3f i q14 q0v q0l b0 b1 b2 b3 q18 q17 q19 q0w q1m q1l q1a  low q22 t24  (fun low' q22' t24'=>z0r i q14 q0v q0l b0 b1 b2 b3 q18 q17 q19 q0w q1m q1l q1a n low' q22' t24') (fun _=>some (Sum.inl ())) (fun c0_ c1_ c2_ c3_=>some (Sum.inr (c0_,c1_,c2_,c3_)))
theorem zkh:z0r c0 a1 a2 a3 g4 g5 g6 g7 a8 a9 a10 a11 c12 a13 a14 (a15+1) a16 a17 c18=z3f c0 a1 a2 a3 g4 g5 g6 g7 a8 a9 a10 a11 c12 a13 a14  a16 a17 c18  (fun low' q22' t24'=>z0r c0 a1 a2 a3 g4 g5 g6 g7 a8 a9 a10 a11 c12 a13 a14 a15 low' q22' t24') (fun _=>some (Sum.inl ())) (fun c0_ c1_ c2_ c3_=>some (Sum.inr (c0_,c1_,c2_,c3_))):=rfl
def zk6:Bool:=(z0r c0 a1 a2 a3 g4 g5 g6 g7 a8 a9 a10 a11 c12 a13 a14 big a15 a16 c17).isSome
def zhc:Bool:=oL (z0r c0 a1 a2 a3 g4 g5 g6 g7 a8 a9 a10 a11 c12 a13 a14 big a15 a16 c17)
def zmr:Nat:=((tR (z0r c0 a1 a2 a3 g4 g5 g6 g7 a8 a9 a10 a11 c12 a13 a14 big a15 a16 c17)).getD default).1
def y0k:Nat:=((tR (z0r c0 a1 a2 a3 g4 g5 g6 g7 a8 a9 a10 a11 c12 a13 a14 big a15 a16 c17)).getD default).2.1
def zzt:Int:=((tR (z0r c0 a1 a2 a3 g4 g5 g6 g7 a8 a9 a10 a11 c12 a13 a14 big a15 a16 c17)).getD default).2.2.1
def zzj:Bool:=((tR (z0r c0 a1 a2 a3 g4 g5 g6 g7 a8 a9 a10 a11 c12 a13 a14 big a15 a16 c17)).getD default).2.2.2
def z4t:=(zpq a0 (pF g1 0 (muN a0 1)) a2 (pF g3 0 (muN a2 1)) a4 (pF g5 0 (muN a4 1)) a6 (pF g7 0 (muN a6 3)) c8 a9 a10 c11 a12 a13 a14)
def zc1:=(fop .quo .f32 a12 (fop .add .f32 1065353216 (zl4 a0 (pF g1 0 (muN a0 1)) a2 (pF g3 0 (muN a2 1)) a4 (pF g5 0 (muN a4 1)) a6 (pF g7 0 (muN a6 3)) c8 a9 a10 c11 (z4t a0 g1 a2 g3 a4 g5 a6 g7 c8 a9 a10 c11 a12 a13 a14) a14)))
def zbz:=(fop .quo .f32 (fop .mul .f32 a13 (gF g7 (ixO 0 c11 3))) (fop .sub .f32 1065353216 (zm4 a0 (pF g1 0 (muN a0 1)) a2 (pF g3 0 (muN a2 1)) a4 (pF g5 0 (muN a4 1)) a6 (pF g7 0 (muN a6 3)) c8 a9 a10 c11 (z4t a0 g1 a2 g3 a4 g5 a6 g7 c8 a9 a10 c11 a12 a13 a14) a14)))
def zc7:=(fop .mul .f32 (fop .mul .f32 (fop .mul .f32 1056964608 a15) (fop .add .f32 (fop .mul .f32 (zc1 a0 g1 a2 g3 a4 g5 a6 g7 c8 a9 a10 c11 a12 a13 a14) (zc1 a0 g1 a2 g3 a4 g5 a6 g7 c8 a9 a10 c11 a12 a13 a14)) (fop .mul .f32 (zbz a0 g1 a2 g3 a4 g5 a6 g7 c8 a9 a10 c11 a12 a13 a14) (zbz a0 g1 a2 g3 a4 g5 a6 g7 c8 a9 a10 c11 a12 a13 a14)))) (gF g7 (Nat.succ (ixO 0 c11 3))))
def z6j:=(fop .mul .f32 (zc7 a0 g1 a2 g3 a4 g5 a6 g7 c8 a9 a10 c11 a12 a13 a14 a15) (zu2 a0 (pF g1 0 (muN a0 1)) a2 (pF g3 0 (muN a2 1)) a4 (pF g5 0 (muN a4 1)) a6 (pF g7 0 (muN a6 3)) c8 a9 a10 c11 (z4t a0 g1 a2 g3 a4 g5 a6 g7 c8 a9 a10 c11 a12 a13 a14) a14))
def z6l:=(fop .mul .f32 (zc7 a0 g1 a2 g3 a4 g5 a6 g7 c8 a9 a10 c11 a12 a13 a14 a15) (zu7 a0 (pF g1 0 (muN a0 1)) a2 (pF g3 0 (muN a2 1)) a4 (pF g5 0 (muN a4 1)) a6 (pF g7 0 (muN a6 3)) c8 a9 a10 c11 (z4t a0 g1 a2 g3 a4 g5 a6 g7 c8 a9 a10 c11 a12 a13 a14) a14))
def z96{R:Type}(k_:Nat→Nat→Bool→Option R):Option R:=(grd (zs7 a0 (pF g1 0 (muN a0 1)) a2 (pF g3 0 (muN a2 1)) a4 (pF g5 0 (muN a4 1)) a6 (pF g7 0 (muN a6 3)) c8 a9 a10 c11 a12 a13 a14) (br (bnot (zpt a0 (pF g1 0 (muN a0 1)) a2 (pF g3 0 (muN a2 1)) a4 (pF g5 0 (muN a4 1)) a6 (pF g7 0 (muN a6 3)) c8 a9 a10 c11 a12 a13 a14)) (k_ 0 0 Bool.false) (grd (znl a0 (pF g1 0 (muN a0 1)) a2 (pF g3 0 (muN a2 1)) a4 (pF g5 0 (muN a4 1)) a6 (pF g7 0 (muN a6 3)) c8 a9 a10 c11 (z4t a0 g1 a2 g3 a4 g5 a6 g7 c8 a9 a10 c11 a12 a13 a14) a14) (grd (okIx c11 a6) (grd (zp9 (z6l a0 g1 a2 g3 a4 g5 a6 g7 c8 a9 a10 c11 a12 a13 a14 a15) (z6j a0 g1 a2 g3 a4 g5 a6 g7 c8 a9 a10 c11 a12 a13 a14 a15)) (k_ (zgl (z6l a0 g1 a2 g3 a4 g5 a6 g7 c8 a9 a10 c11 a12 a13 a14 a15) (z6j a0 g1 a2 g3 a4 g5 a6 g7 c8 a9 a10 c11 a12 a13 a14 a15)) (zgk (z6l a0 g1 a2 g3 a4 g5 a6 g7 c8 a9 a10 c11 a12 a13 a14 a15) (z6j a0 g1 a2 g3 a4 g5 a6 g7 c8 a9 a10 c11 a12 a13 a14 a15)) (zgv (z6l a0 g1 a2 g3 a4 g5 a6 g7 c8 a9 a10 c11 a12 a13 a14 a15) (z6j a0 g1 a2 g3 a4 g5 a6 g7 c8 a9 a10 c11 a12 a13 a14 a15))))))))
def z1p:Option (Nat×Nat×Bool):=z96 a0 g1 a2 g3 a4 g5 a6 g7 c8 a9 a10 c11 a12 a13 a14 a15 (fun c0_ c1_ c2_=>some (c0_,c1_,c2_))
theorem zy6:Nt3 (fun {R}=>z96 (R:=R) a0 g1 a2 g3 a4 g5 a6 g7 c8 a9 a10 c11 a12 a13 a14 a15):=by
 intro R R' o h0 k;unfold z96;repeat (first | apply grd_out h0 | apply br_out | rfl)
def zj8:Bool:=(z1p a0 g1 a2 g3 a4 g5 a6 g7 c8 a9 a10 c11 a12 a13 a14 a15).isSome
def zc6:Nat:=((z1p a0 g1 a2 g3 a4 g5 a6 g7 c8 a9 a10 c11 a12 a13 a14 a15).getD default).1
def zbs:Nat:=((z1p a0 g1 a2 g3 a4 g5 a6 g7 c8 a9 a10 c11 a12 a13 a14 a15).getD default).2.1
def zha:Bool:=((z1p a0 g1 a2 g3 a4 g5 a6 g7 c8 a9 a10 c11 a12 a13 a14 a15).getD default).2.2
def zik{R:Type}(k_:Nat→Bool→Option R):Option R:=(grd (zo2 a0 (pF g1 0 (muN a0 1)) a2 (pF g3 0 (muN a2 1)) a4 (pF g5 0 (muN a4 1)) a6 (pF g7 0 (muN a6 3)) c8 a9 a10 c11 a12 a13 a14) (br (bnot (zks a0 (pF g1 0 (muN a0 1)) a2 (pF g3 0 (muN a2 1)) a4 (pF g5 0 (muN a4 1)) a6 (pF g7 0 (muN a6 3)) c8 a9 a10 c11 a12 a13 a14)) (k_ 0 Bool.false) (grd (zk6 c11 a12 a13 a14 g1 g3 g5 g7 a0 a2 a4 a6 c8 a9 a10 981668463 1048508891 0) (br (zhc c11 a12 a13 a14 g1 g3 g5 g7 a0 a2 a4 a6 c8 a9 a10 981668463 1048508891 0) (k_ 0 Bool.false) (k_ (zmr c11 a12 a13 a14 g1 g3 g5 g7 a0 a2 a4 a6 c8 a9 a10 981668463 1048508891 0) Bool.true)))))
def z6p:Option (Nat×Bool):=zik a0 g1 a2 g3 a4 g5 a6 g7 c8 a9 a10 c11 a12 a13 a14 (fun c0_ c1_=>some (c0_,c1_))
theorem y4h:Nt2 (fun {R}=>zik (R:=R) a0 g1 a2 g3 a4 g5 a6 g7 c8 a9 a10 c11 a12 a13 a14):=by
 intro R R' o h0 k;unfold zik;repeat (first | apply grd_out h0 | apply br_out | rfl)
def zz6:Bool:=(z6p a0 g1 a2 g3 a4 g5 a6 g7 c8 a9 a10 c11 a12 a13 a14).isSome
def zvn:Nat:=((z6p a0 g1 a2 g3 a4 g5 a6 g7 c8 a9 a10 c11 a12 a13 a14).getD default).1
def zw5:Bool:=((z6p a0 g1 a2 g3 a4 g5 a6 g7 c8 a9 a10 c11 a12 a13 a14).getD default).2
def z35:=(zvn a0 (pF g1 0 (muN a0 1)) a2 (pF g3 0 (muN a2 1)) a4 (pF g5 0 (muN a4 1)) a6 (pF g7 0 (muN a6 3)) c8 a9 a10 c11 a12 a13 a14)
def zcw:=(fop .quo .f32 a12 (fop .add .f32 1065353216 (zec a0 (pF g1 0 (muN a0 1)) a2 (pF g3 0 (muN a2 1)) a4 (pF g5 0 (muN a4 1)) a6 (pF g7 0 (muN a6 3)) c8 a9 a10 c11 (z35 a0 g1 a2 g3 a4 g5 a6 g7 c8 a9 a10 c11 a12 a13 a14) a14)))
def zcj:=(fop .quo .f32 (fop .mul .f32 a13 (gF g7 (ixO 0 c11 3))) (fop .sub .f32 1065353216 (ze8 a0 (pF g1 0 (muN a0 1)) a2 (pF g3 0 (muN a2 1)) a4 (pF g5 0 (muN a4 1)) a6 (pF g7 0 (muN a6 3)) c8 a9 a10 c11 (z35 a0 g1 a2 g3 a4 g5 a6 g7 c8 a9 a10 c11 a12 a13 a14) a14)))
def zcf:=(fop .mul .f32 (fop .mul .f32 (fop .mul .f32 1056964608 a15) (fop .add .f32 (fop .mul .f32 (zcw a0 g1 a2 g3 a4 g5 a6 g7 c8 a9 a10 c11 a12 a13 a14) (zcw a0 g1 a2 g3 a4 g5 a6 g7 c8 a9 a10 c11 a12 a13 a14)) (fop .mul .f32 (zcj a0 g1 a2 g3 a4 g5 a6 g7 c8 a9 a10 c11 a12 a13 a14) (zcj a0 g1 a2 g3 a4 g5 a6 g7 c8 a9 a10 c11 a12 a13 a14)))) (gF g7 (Nat.succ (ixO 0 c11 3))))
def z60:=(fop .mul .f32 (zcf a0 g1 a2 g3 a4 g5 a6 g7 c8 a9 a10 c11 a12 a13 a14 a15) (zdn a0 (pF g1 0 (muN a0 1)) a2 (pF g3 0 (muN a2 1)) a4 (pF g5 0 (muN a4 1)) a6 (pF g7 0 (muN a6 3)) c8 a9 a10 c11 (z35 a0 g1 a2 g3 a4 g5 a6 g7 c8 a9 a10 c11 a12 a13 a14) a14))
def z5v:=(fop .mul .f32 (zcf a0 g1 a2 g3 a4 g5 a6 g7 c8 a9 a10 c11 a12 a13 a14 a15) (ze9 a0 (pF g1 0 (muN a0 1)) a2 (pF g3 0 (muN a2 1)) a4 (pF g5 0 (muN a4 1)) a6 (pF g7 0 (muN a6 3)) c8 a9 a10 c11 (z35 a0 g1 a2 g3 a4 g5 a6 g7 c8 a9 a10 c11 a12 a13 a14) a14))
def z8j{R:Type}(k_:Nat→Nat→Bool→Option R):Option R:=(grd (zz6 a0 (pF g1 0 (muN a0 1)) a2 (pF g3 0 (muN a2 1)) a4 (pF g5 0 (muN a4 1)) a6 (pF g7 0 (muN a6 3)) c8 a9 a10 c11 a12 a13 a14) (br (bnot (zw5 a0 (pF g1 0 (muN a0 1)) a2 (pF g3 0 (muN a2 1)) a4 (pF g5 0 (muN a4 1)) a6 (pF g7 0 (muN a6 3)) c8 a9 a10 c11 a12 a13 a14)) (k_ 0 0 Bool.false) (grd (z7m 1 (pF [a15] 0 (muN 1 1))) (br (bnot (z6x 1 (pF [a15] 0 (muN 1 1)))) (k_ 0 0 Bool.false) (grd (zf7 a0 (pF g1 0 (muN a0 1)) a2 (pF g3 0 (muN a2 1)) a4 (pF g5 0 (muN a4 1)) a6 (pF g7 0 (muN a6 3)) c8 a9 a10 c11 (z35 a0 g1 a2 g3 a4 g5 a6 g7 c8 a9 a10 c11 a12 a13 a14) a14) (grd (zff a0 (pF g1 0 (muN a0 1)) a2 (pF g3 0 (muN a2 1)) a4 (pF g5 0 (muN a4 1)) a6 (pF g7 0 (muN a6 3)) c8 a9 a10 c11 (z35 a0 g1 a2 g3 a4 g5 a6 g7 c8 a9 a10 c11 a12 a13 a14) a14) (grd (okIx c11 a6) (grd (okIx c11 a6) (grd (zhw (z5v a0 g1 a2 g3 a4 g5 a6 g7 c8 a9 a10 c11 a12 a13 a14 a15) (z60 a0 g1 a2 g3 a4 g5 a6 g7 c8 a9 a10 c11 a12 a13 a14 a15)) (k_ (zg1 (z5v a0 g1 a2 g3 a4 g5 a6 g7 c8 a9 a10 c11 a12 a13 a14 a15) (z60 a0 g1 a2 g3 a4 g5 a6 g7 c8 a9 a10 c11 a12 a13 a14 a15)) (zg3 (z5v a0 g1 a2 g3 a4 g5 a6 g7 c8 a9 a10 c11 a12 a13 a14 a15) (z60 a0 g1 a2 g3 a4 g5 a6 g7 c8 a9 a10 c11 a12 a13 a14 a15)) (zfx (z5v a0 g1 a2 g3 a4 g5 a6 g7 c8 a9 a10 c11 a12 a13 a14 a15) (z60 a0 g1 a2 g3 a4 g5 a6 g7 c8 a9 a10 c11 a12 a13 a14 a15))))))))))))
def z1h:Option (Nat×Nat×Bool):=z8j a0 g1 a2 g3 a4 g5 a6 g7 c8 a9 a10 c11 a12 a13 a14 a15 (fun c0_ c1_ c2_=>some (c0_,c1_,c2_))
theorem zre:Nt3 (fun {R}=>z8j (R:=R) a0 g1 a2 g3 a4 g5 a6 g7 c8 a9 a10 c11 a12 a13 a14 a15):=by
 intro R R' o h0 k;unfold z8j;repeat (first | apply grd_out h0 | apply br_out | rfl)
def z8d:Bool:=(z1h a0 g1 a2 g3 a4 g5 a6 g7 c8 a9 a10 c11 a12 a13 a14 a15).isSome
def z7p:Nat:=((z1h a0 g1 a2 g3 a4 g5 a6 g7 c8 a9 a10 c11 a12 a13 a14 a15).getD default).1
def z7r:Nat:=((z1h a0 g1 a2 g3 a4 g5 a6 g7 c8 a9 a10 c11 a12 a13 a14 a15).getD default).2.1
def z81:Bool:=((z1h a0 g1 a2 g3 a4 g5 a6 g7 c8 a9 a10 c11 a12 a13 a14 a15).getD default).2.2
def z3g{R:Type} (kn_:Nat→Nat→Int→(List Nat)→(List Nat)→Option R) (k0_:Unit→Option R) (k1_:Nat→Nat→Int→Bool→(List Nat)→(List Nat)→Option R):Option R:=(br (ltI c17 (Int.ofNat a11)) (grd (zz9 a8 (pF g4 0 (muN a8 1)) a9 (pF g5 0 (muN a9 1)) a10 (pF g6 0 (muN a10 1)) a11 (pF g7 0 (muN a11 3)) c12 a13 a14 c17 a0 a1 a2) (br (bnot (zvg a8 (pF g4 0 (muN a8 1)) a9 (pF g5 0 (muN a9 1)) a10 (pF g6 0 (muN a10 1)) a11 (pF g7 0 (muN a11 3)) c12 a13 a14 c17 a0 a1 a2)) (k0_ ()) (grd (zj8 a8 (pF g4 0 (muN a8 1)) a9 (pF g5 0 (muN a9 1)) a10 (pF g6 0 (muN a10 1)) a11 (pF g7 0 (muN a11 3)) c12 a13 a14 c17 a0 a1 a2 a3) (br (bnot (zha a8 (pF g4 0 (muN a8 1)) a9 (pF g5 0 (muN a9 1)) a10 (pF g6 0 (muN a10 1)) a11 (pF g7 0 (muN a11 3)) c12 a13 a14 c17 a0 a1 a2 a3)) (k0_ ()) (grd (okA2 a15 1 4 (nF (pF [(zc6 a8 (pF g4 0 (muN a8 1)) a9 (pF g5 0 (muN a9 1)) a10 (pF g6 0 (muN a10 1)) a11 (pF g7 0 (muN a11 3)) c12 a13 a14 c17 a0 a1 a2 a3)] 0 (muN 1 1))) (nF g18) 1) (grd (okA2 a16 1 4 (nF (pF [(zbs a8 (pF g4 0 (muN a8 1)) a9 (pF g5 0 (muN a9 1)) a10 (pF g6 0 (muN a10 1)) a11 (pF g7 0 (muN a11 3)) c12 a13 a14 c17 a0 a1 a2 a3)] 0 (muN 1 1))) (nF g19) 1) (kn_ (adN a15 1) (adN a16 1) (addI .i64 c17 1) (aF g18 (pF [(zc6 a8 (pF g4 0 (muN a8 1)) a9 (pF g5 0 (muN a9 1)) a10 (pF g6 0 (muN a10 1)) a11 (pF g7 0 (muN a11 3)) c12 a13 a14 c17 a0 a1 a2 a3)] 0 (muN 1 1))) (aF g19 (pF [(zbs a8 (pF g4 0 (muN a8 1)) a9 (pF g5 0 (muN a9 1)) a10 (pF g6 0 (muN a10 1)) a11 (pF g7 0 (muN a11 3)) c12 a13 a14 c17 a0 a1 a2 a3)] 0 (muN 1 1)))))))))) (k1_ a15 a16 c17 (ltI c17 (Int.ofNat a11)) g18 g19))
theorem zxi{R R':Type}(o:Option R→Option R')(h0:o none=none) (kn_:Nat→Nat→Int→(List Nat)→(List Nat)→Option R) (k0_:Unit→Option R) (k1_:Nat→Nat→Int→Bool→(List Nat)→(List Nat)→Option R):z3g a0 a1 a2 a3 g4 g5 g6 g7 a8 a9 a10 a11 c12 a13 a14 a15 a16 c17 g18 g19 (fun q2s' q2t' t15' b5' b6'=>o (kn_ q2s' q2t' t15' b5' b6')) (fun _=>o (k0_ ())) (fun c0_ c1_ c2_ c3_ c4_ c5_=>o (k1_ c0_ c1_ c2_ c3_ c4_ c5_))=o (z3g a0 a1 a2 a3 g4 g5 g6 g7 a8 a9 a10 a11 c12 a13 a14 a15 a16 c17 g18 g19 kn_ k0_ k1_):=by
 unfold z3g
 repeat (first | apply grd_out h0 | apply br_out | rfl)
def z0e(t1 t2 t3 t4:Nat)(b0 b1 b2 b3:List Nat)(q18 q17 q19 q0w:Nat)(q1m:Int)(q1l q1a:Nat):Nat→Nat→Nat→Int→(List Nat)→(List Nat)→Option ((Unit)⊕(Nat×Nat×Int×Bool×(List Nat)×(List Nat)))
 | 0,_,_,_,_,_=>none
 | n+1,q2s,q2t,t15,b5,b6=>z3g t1 t2 t3 t4 b0 b1 b2 b3 q18 q17 q19 q0w q1m q1l q1a  q2s q2t t15 b5 b6  (fun q2s' q2t' t15' b5' b6'=>z0e t1 t2 t3 t4 b0 b1 b2 b3 q18 q17 q19 q0w q1m q1l q1a n q2s' q2t' t15' b5' b6') (fun _=>some (Sum.inl ())) (fun c0_ c1_ c2_ c3_ c4_ c5_=>some (Sum.inr (c0_,c1_,c2_,c3_,c4_,c5_)))
theorem zkd:z0e a0 a1 a2 a3 g4 g5 g6 g7 a8 a9 a10 a11 c12 a13 a14 (a15+1) a16 a17 c18 g19 g20=z3g a0 a1 a2 a3 g4 g5 g6 g7 a8 a9 a10 a11 c12 a13 a14  a16 a17 c18 g19 g20  (fun q2s' q2t' t15' b5' b6'=>z0e a0 a1 a2 a3 g4 g5 g6 g7 a8 a9 a10 a11 c12 a13 a14 a15 q2s' q2t' t15' b5' b6') (fun _=>some (Sum.inl ())) (fun c0_ c1_ c2_ c3_ c4_ c5_=>some (Sum.inr (c0_,c1_,c2_,c3_,c4_,c5_))):=rfl
def zjd:Bool:=(z0e a0 a1 a2 a3 g4 g5 g6 g7 a8 a9 a10 a11 c12 a13 a14 big a15 a16 c17 g18 g19).isSome
def zi9:Bool:=oL (z0e a0 a1 a2 a3 g4 g5 g6 g7 a8 a9 a10 a11 c12 a13 a14 big a15 a16 c17 g18 g19)
def zn0:Nat:=((tR (z0e a0 a1 a2 a3 g4 g5 g6 g7 a8 a9 a10 a11 c12 a13 a14 big a15 a16 c17 g18 g19)).getD default).1
def zmu:Nat:=((tR (z0e a0 a1 a2 a3 g4 g5 g6 g7 a8 a9 a10 a11 c12 a13 a14 big a15 a16 c17 g18 g19)).getD default).2.1
def y05:Int:=((tR (z0e a0 a1 a2 a3 g4 g5 g6 g7 a8 a9 a10 a11 c12 a13 a14 big a15 a16 c17 g18 g19)).getD default).2.2.1
def y0b:Bool:=((tR (z0e a0 a1 a2 a3 g4 g5 g6 g7 a8 a9 a10 a11 c12 a13 a14 big a15 a16 c17 g18 g19)).getD default).2.2.2.1
def zmy:List Nat:=((tR (z0e a0 a1 a2 a3 g4 g5 g6 g7 a8 a9 a10 a11 c12 a13 a14 big a15 a16 c17 g18 g19)).getD default).2.2.2.2.1
def zmq:List Nat:=((tR (z0e a0 a1 a2 a3 g4 g5 g6 g7 a8 a9 a10 a11 c12 a13 a14 big a15 a16 c17 g18 g19)).getD default).2.2.2.2.2
def zim{R:Type} (k_:Nat→Nat→Bool→(List Nat)→(List Nat)→Option R):Option R:=(grd (zsh a0 (pF g1 0 (muN a0 1)) a2 (pF g3 0 (muN a2 1)) a4 (pF g5 0 (muN a4 1)) a6 (pF g7 0 (muN a6 3)) c8 a9 a10) (br (bnot (zow a0 (pF g1 0 (muN a0 1)) a2 (pF g3 0 (muN a2 1)) a4 (pF g5 0 (muN a4 1)) a6 (pF g7 0 (muN a6 3)) c8 a9 a10)) (k_ 0 0 Bool.false [] []) (grd (za7 a14) (br (bnot (z97 a14)) (k_ 0 0 Bool.false [] []) (grd (zjd a11 a12 a13 a14 g1 g3 g5 g7 a0 a2 a4 a6 c8 a9 a10 0 0 0 [] []) (br (zi9 a11 a12 a13 a14 g1 g3 g5 g7 a0 a2 a4 a6 c8 a9 a10 0 0 0 [] []) (k_ 0 0 Bool.false [] []) (k_ (zn0 a11 a12 a13 a14 g1 g3 g5 g7 a0 a2 a4 a6 c8 a9 a10 0 0 0 [] []) (zmu a11 a12 a13 a14 g1 g3 g5 g7 a0 a2 a4 a6 c8 a9 a10 0 0 0 [] []) Bool.true (zmy a11 a12 a13 a14 g1 g3 g5 g7 a0 a2 a4 a6 c8 a9 a10 0 0 0 [] []) (zmq a11 a12 a13 a14 g1 g3 g5 g7 a0 a2 a4 a6 c8 a9 a10 0 0 0 [] []))))))))
def z3m:Option (Nat×Nat×Bool×(List Nat)×(List Nat)):=zim a0 g1 a2 g3 a4 g5 a6 g7 c8 a9 a10 a11 a12 a13 a14 (fun c0_ c1_ c2_ c3_ c4_=>some (c0_,c1_,c2_,c3_,c4_))
theorem y36:Nt5 (fun {R}=>zim (R:=R) a0 g1 a2 g3 a4 g5 a6 g7 c8 a9 a10 a11 a12 a13 a14):=by
 intro R R' o h0 k;unfold zim;repeat (first | apply grd_out h0 | apply br_out | rfl)
def zz7:Bool:=(z3m a0 g1 a2 g3 a4 g5 a6 g7 c8 a9 a10 a11 a12 a13 a14).isSome
def z4q:Nat:=((z3m a0 g1 a2 g3 a4 g5 a6 g7 c8 a9 a10 a11 a12 a13 a14).getD default).1
def y80:Nat:=((z3m a0 g1 a2 g3 a4 g5 a6 g7 c8 a9 a10 a11 a12 a13 a14).getD default).2.1
def zwl:Bool:=((z3m a0 g1 a2 g3 a4 g5 a6 g7 c8 a9 a10 a11 a12 a13 a14).getD default).2.2.1
def zd1:List Nat:=((z3m a0 g1 a2 g3 a4 g5 a6 g7 c8 a9 a10 a11 a12 a13 a14).getD default).2.2.2.1
def y8p:List Nat:=((z3m a0 g1 a2 g3 a4 g5 a6 g7 c8 a9 a10 a11 a12 a13 a14).getD default).2.2.2.2
def zfi{R:Type}(k_:Nat→Bool→Option R):Option R:=(grd (zz7 a0 (pF g1 0 (muN a0 1)) a2 (pF g3 0 (muN a2 1)) a4 (pF g5 0 (muN a4 1)) a6 (pF g7 0 (muN a6 3)) c8 a9 a10 a11 a12 a13 a14) (br (bnot (zwl a0 (pF g1 0 (muN a0 1)) a2 (pF g3 0 (muN a2 1)) a4 (pF g5 0 (muN a4 1)) a6 (pF g7 0 (muN a6 3)) c8 a9 a10 a11 a12 a13 a14)) (k_ 0 Bool.false) (grd (zz3 a0 (pF g1 0 (muN a0 1)) a2 (pF g3 0 (muN a2 1)) a4 (pF g5 0 (muN a4 1)) a6 (pF g7 0 (muN a6 3)) c8 a9 a10 (z4q a0 (pF g1 0 (muN a0 1)) a2 (pF g3 0 (muN a2 1)) a4 (pF g5 0 (muN a4 1)) a6 (pF g7 0 (muN a6 3)) c8 a9 a10 a11 a12 a13 a14) (pF (zd1 a0 (pF g1 0 (muN a0 1)) a2 (pF g3 0 (muN a2 1)) a4 (pF g5 0 (muN a4 1)) a6 (pF g7 0 (muN a6 3)) c8 a9 a10 a11 a12 a13 a14) 0 (muN (z4q a0 (pF g1 0 (muN a0 1)) a2 (pF g3 0 (muN a2 1)) a4 (pF g5 0 (muN a4 1)) a6 (pF g7 0 (muN a6 3)) c8 a9 a10 a11 a12 a13 a14) 1))) (grd (zry (fop .mul .f32 (fOI .f32 c8) (zgo a0 (pF g1 0 (muN a0 1)) a2 (pF g3 0 (muN a2 1)) a4 (pF g5 0 (muN a4 1)) a6 (pF g7 0 (muN a6 3)) c8 a9 a10 (z4q a0 (pF g1 0 (muN a0 1)) a2 (pF g3 0 (muN a2 1)) a4 (pF g5 0 (muN a4 1)) a6 (pF g7 0 (muN a6 3)) c8 a9 a10 a11 a12 a13 a14) (pF (zd1 a0 (pF g1 0 (muN a0 1)) a2 (pF g3 0 (muN a2 1)) a4 (pF g5 0 (muN a4 1)) a6 (pF g7 0 (muN a6 3)) c8 a9 a10 a11 a12 a13 a14) 0 (muN (z4q a0 (pF g1 0 (muN a0 1)) a2 (pF g3 0 (muN a2 1)) a4 (pF g5 0 (muN a4 1)) a6 (pF g7 0 (muN a6 3)) c8 a9 a10 a11 a12 a13 a14) 1))))) (k_ (zq0 (fop .mul .f32 (fOI .f32 c8) (zgo a0 (pF g1 0 (muN a0 1)) a2 (pF g3 0 (muN a2 1)) a4 (pF g5 0 (muN a4 1)) a6 (pF g7 0 (muN a6 3)) c8 a9 a10 (z4q a0 (pF g1 0 (muN a0 1)) a2 (pF g3 0 (muN a2 1)) a4 (pF g5 0 (muN a4 1)) a6 (pF g7 0 (muN a6 3)) c8 a9 a10 a11 a12 a13 a14) (pF (zd1 a0 (pF g1 0 (muN a0 1)) a2 (pF g3 0 (muN a2 1)) a4 (pF g5 0 (muN a4 1)) a6 (pF g7 0 (muN a6 3)) c8 a9 a10 a11 a12 a13 a14) 0 (muN (z4q a0 (pF g1 0 (muN a0 1)) a2 (pF g3 0 (muN a2 1)) a4 (pF g5 0 (muN a4 1)) a6 (pF g7 0 (muN a6 3)) c8 a9 a10 a11 a12 a13 a14) 1))))) (zpr (fop .mul .f32 (fOI .f32 c8) (zgo a0 (pF g1 0 (muN a0 1)) a2 (pF g3 0 (muN a2 1)) a4 (pF g5 0 (muN a4 1)) a6 (pF g7 0 (muN a6 3)) c8 a9 a10 (z4q a0 (pF g1 0 (muN a0 1)) a2 (pF g3 0 (muN a2 1)) a4 (pF g5 0 (muN a4 1)) a6 (pF g7 0 (muN a6 3)) c8 a9 a10 a11 a12 a13 a14) (pF (zd1 a0 (pF g1 0 (muN a0 1)) a2 (pF g3 0 (muN a2 1)) a4 (pF g5 0 (muN a4 1)) a6 (pF g7 0 (muN a6 3)) c8 a9 a10 a11 a12 a13 a14) 0 (muN (z4q a0 (pF g1 0 (muN a0 1)) a2 (pF g3 0 (muN a2 1)) a4 (pF g5 0 (muN a4 1)) a6 (pF g7 0 (muN a6 3)) c8 a9 a10 a11 a12 a13 a14) 1))))))))))
def z5a:Option (Nat×Bool):=zfi a0 g1 a2 g3 a4 g5 a6 g7 c8 a9 a10 a11 a12 a13 a14 (fun c0_ c1_=>some (c0_,c1_))
theorem zzl:Nt2 (fun {R}=>zfi (R:=R) a0 g1 a2 g3 a4 g5 a6 g7 c8 a9 a10 a11 a12 a13 a14):=by
 intro R R' o h0 k;unfold zfi;repeat (first | apply grd_out h0 | apply br_out | rfl)
def ztx:Bool:=(z5a a0 g1 a2 g3 a4 g5 a6 g7 c8 a9 a10 a11 a12 a13 a14).isSome
def zrv:Nat:=((z5a a0 g1 a2 g3 a4 g5 a6 g7 c8 a9 a10 a11 a12 a13 a14).getD default).1
def zsj:Bool:=((z5a a0 g1 a2 g3 a4 g5 a6 g7 c8 a9 a10 a11 a12 a13 a14).getD default).2
def zdx(ws:Int):Bool:=(List.range a6).all fun i=>z8d a0 (pF g1 0 (muN a0 1)) a2 (pF g3 0 (muN a2 1)) a4 (pF g5 0 (muN a4 1)) a6 (pF g7 0 (muN a6 3)) c8 a9 a10 (Int.ofNat i) a11 a12 a13 a14
def z8p(ws:Int):List Nat:=(List.range a6).map fun i=>z7p a0 (pF g1 0 (muN a0 1)) a2 (pF g3 0 (muN a2 1)) a4 (pF g5 0 (muN a4 1)) a6 (pF g7 0 (muN a6 3)) c8 a9 a10 (Int.ofNat i) a11 a12 a13 a14
def z8g(ws:Int):List Nat:=(List.range a6).map fun i=>z7r a0 (pF g1 0 (muN a0 1)) a2 (pF g3 0 (muN a2 1)) a4 (pF g5 0 (muN a4 1)) a6 (pF g7 0 (muN a6 3)) c8 a9 a10 (Int.ofNat i) a11 a12 a13 a14
def z8h(ws:Int):List Bool:=(List.range a6).map fun i=>z81 a0 (pF g1 0 (muN a0 1)) a2 (pF g3 0 (muN a2 1)) a4 (pF g5 0 (muN a4 1)) a6 (pF g7 0 (muN a6 3)) c8 a9 a10 (Int.ofNat i) a11 a12 a13 a14
def z6z:Bool:=zc4 a0 (pF g1 0 (muN a0 1)) a2 (pF g3 0 (muN a2 1)) a4 (pF g5 0 (muN a4 1)) a6 (pF g7 0 (muN a6 3)) c8 a9 a10&&(bnot (z7k a0 (pF g1 0 (muN a0 1)) a2 (pF g3 0 (muN a2 1)) a4 (pF g5 0 (muN a4 1)) a6 (pF g7 0 (muN a6 3)) c8 a9 a10)||(z88 c15 1 8&&(bnot (z3q c15 1 8)||(okMk (Int.ofNat a6) (Int.ofNat a6) 4&&(okMk (Int.ofNat a6) (Int.ofNat a6) 1&&(decide (0<a6∧a6≤281474976710656)&&(decide (1≤c15∧c15≤8)&&(zdx a0 g1 a2 g3 a4 g5 a6 g7 c8 a9 a10 a11 a12 a13 a14 c15&&z4o a6 (pB (z8h a0 g1 a2 g3 a4 g5 a6 g7 c8 a9 a10 a11 a12 a13 a14 c15) 0 (muN a6 1)) Bool.false))))))))
def z0y:Bool:=z7k a0 (pF g1 0 (muN a0 1)) a2 (pF g3 0 (muN a2 1)) a4 (pF g5 0 (muN a4 1)) a6 (pF g7 0 (muN a6 3)) c8 a9 a10&&(z3q c15 1 8&&bnot (z44 a6 (pB (z8h a0 g1 a2 g3 a4 g5 a6 g7 c8 a9 a10 a11 a12 a13 a14 c15) 0 (muN a6 1)) Bool.false))
def z4k:Nat:=match z0y a0 g1 a2 g3 a4 g5 a6 g7 c8 a9 a10 a11 a12 a13 a14 c15 with | true=>a6 | false=>0
def z4j:Nat:=match z0y a0 g1 a2 g3 a4 g5 a6 g7 c8 a9 a10 a11 a12 a13 a14 c15 with | true=>a6 | false=>0
def z4i:List Nat:=match z0y a0 g1 a2 g3 a4 g5 a6 g7 c8 a9 a10 a11 a12 a13 a14 c15 with | true=>z8p a0 g1 a2 g3 a4 g5 a6 g7 c8 a9 a10 a11 a12 a13 a14 c15 | false=>[]
def z4p:List Nat:=match z0y a0 g1 a2 g3 a4 g5 a6 g7 c8 a9 a10 a11 a12 a13 a14 c15 with | true=>z8g a0 g1 a2 g3 a4 g5 a6 g7 c8 a9 a10 a11 a12 a13 a14 c15 | false=>[]
def z8c{R:Type} (k_:Nat→Nat→Bool→(List Nat)→(List Nat)→Option R):Option R:=(grd (z6z a0 (pF g1 0 (muN a0 1)) a2 (pF g3 0 (muN a2 1)) a4 (pF g5 0 (muN a4 1)) a6 (pF g7 0 (muN a6 3)) c8 a9 a10 a11 a12 a13 a14 1) (k_ (z4k a0 (pF g1 0 (muN a0 1)) a2 (pF g3 0 (muN a2 1)) a4 (pF g5 0 (muN a4 1)) a6 (pF g7 0 (muN a6 3)) c8 a9 a10 a11 a12 a13 a14 1) (z4j a0 (pF g1 0 (muN a0 1)) a2 (pF g3 0 (muN a2 1)) a4 (pF g5 0 (muN a4 1)) a6 (pF g7 0 (muN a6 3)) c8 a9 a10 a11 a12 a13 a14 1) (z0y a0 (pF g1 0 (muN a0 1)) a2 (pF g3 0 (muN a2 1)) a4 (pF g5 0 (muN a4 1)) a6 (pF g7 0 (muN a6 3)) c8 a9 a10 a11 a12 a13 a14 1) (z4i a0 (pF g1 0 (muN a0 1)) a2 (pF g3 0 (muN a2 1)) a4 (pF g5 0 (muN a4 1)) a6 (pF g7 0 (muN a6 3)) c8 a9 a10 a11 a12 a13 a14 1) (z4p a0 (pF g1 0 (muN a0 1)) a2 (pF g3 0 (muN a2 1)) a4 (pF g5 0 (muN a4 1)) a6 (pF g7 0 (muN a6 3)) c8 a9 a10 a11 a12 a13 a14 1)))
def z14:Option (Nat×Nat×Bool×(List Nat)×(List Nat)):=z8c a0 g1 a2 g3 a4 g5 a6 g7 c8 a9 a10 a11 a12 a13 a14 (fun c0_ c1_ c2_ c3_ c4_=>some (c0_,c1_,c2_,c3_,c4_))
theorem zrp:Nt5 (fun {R}=>z8c (R:=R) a0 g1 a2 g3 a4 g5 a6 g7 c8 a9 a10 a11 a12 a13 a14):=by
 intro R R' o h0 k;unfold z8c;repeat (first | apply grd_out h0 | apply br_out | rfl)
def zku:Bool:=(z14 a0 g1 a2 g3 a4 g5 a6 g7 c8 a9 a10 a11 a12 a13 a14).isSome
def z1k:Nat:=((z14 a0 g1 a2 g3 a4 g5 a6 g7 c8 a9 a10 a11 a12 a13 a14).getD default).1
def zw7:Nat:=((z14 a0 g1 a2 g3 a4 g5 a6 g7 c8 a9 a10 a11 a12 a13 a14).getD default).2.1
def zki:Bool:=((z14 a0 g1 a2 g3 a4 g5 a6 g7 c8 a9 a10 a11 a12 a13 a14).getD default).2.2.1
def z5u:List Nat:=((z14 a0 g1 a2 g3 a4 g5 a6 g7 c8 a9 a10 a11 a12 a13 a14).getD default).2.2.2.1
def zw4:List Nat:=((z14 a0 g1 a2 g3 a4 g5 a6 g7 c8 a9 a10 a11 a12 a13 a14).getD default).2.2.2.2
def zfk{R:Type}(k_:Nat→Bool→Option R):Option R:=(grd (zku a0 (pF g1 0 (muN a0 1)) a2 (pF g3 0 (muN a2 1)) a4 (pF g5 0 (muN a4 1)) a6 (pF g7 0 (muN a6 3)) c8 a9 a10 a11 a12 a13 a14) (br (bnot (zki a0 (pF g1 0 (muN a0 1)) a2 (pF g3 0 (muN a2 1)) a4 (pF g5 0 (muN a4 1)) a6 (pF g7 0 (muN a6 3)) c8 a9 a10 a11 a12 a13 a14)) (k_ 0 Bool.false) (grd (zl2 a0 (pF g1 0 (muN a0 1)) a2 (pF g3 0 (muN a2 1)) a4 (pF g5 0 (muN a4 1)) a6 (pF g7 0 (muN a6 3)) c8 a9 a10 (z1k a0 (pF g1 0 (muN a0 1)) a2 (pF g3 0 (muN a2 1)) a4 (pF g5 0 (muN a4 1)) a6 (pF g7 0 (muN a6 3)) c8 a9 a10 a11 a12 a13 a14) (pF (z5u a0 (pF g1 0 (muN a0 1)) a2 (pF g3 0 (muN a2 1)) a4 (pF g5 0 (muN a4 1)) a6 (pF g7 0 (muN a6 3)) c8 a9 a10 a11 a12 a13 a14) 0 (muN (z1k a0 (pF g1 0 (muN a0 1)) a2 (pF g3 0 (muN a2 1)) a4 (pF g5 0 (muN a4 1)) a6 (pF g7 0 (muN a6 3)) c8 a9 a10 a11 a12 a13 a14) 1))) (grd (znu (fop .mul .f32 (fOI .f32 c8) (z7u a0 (pF g1 0 (muN a0 1)) a2 (pF g3 0 (muN a2 1)) a4 (pF g5 0 (muN a4 1)) a6 (pF g7 0 (muN a6 3)) c8 a9 a10 (z1k a0 (pF g1 0 (muN a0 1)) a2 (pF g3 0 (muN a2 1)) a4 (pF g5 0 (muN a4 1)) a6 (pF g7 0 (muN a6 3)) c8 a9 a10 a11 a12 a13 a14) (pF (z5u a0 (pF g1 0 (muN a0 1)) a2 (pF g3 0 (muN a2 1)) a4 (pF g5 0 (muN a4 1)) a6 (pF g7 0 (muN a6 3)) c8 a9 a10 a11 a12 a13 a14) 0 (muN (z1k a0 (pF g1 0 (muN a0 1)) a2 (pF g3 0 (muN a2 1)) a4 (pF g5 0 (muN a4 1)) a6 (pF g7 0 (muN a6 3)) c8 a9 a10 a11 a12 a13 a14) 1))))) (k_ (zm9 (fop .mul .f32 (fOI .f32 c8) (z7u a0 (pF g1 0 (muN a0 1)) a2 (pF g3 0 (muN a2 1)) a4 (pF g5 0 (muN a4 1)) a6 (pF g7 0 (muN a6 3)) c8 a9 a10 (z1k a0 (pF g1 0 (muN a0 1)) a2 (pF g3 0 (muN a2 1)) a4 (pF g5 0 (muN a4 1)) a6 (pF g7 0 (muN a6 3)) c8 a9 a10 a11 a12 a13 a14) (pF (z5u a0 (pF g1 0 (muN a0 1)) a2 (pF g3 0 (muN a2 1)) a4 (pF g5 0 (muN a4 1)) a6 (pF g7 0 (muN a6 3)) c8 a9 a10 a11 a12 a13 a14) 0 (muN (z1k a0 (pF g1 0 (muN a0 1)) a2 (pF g3 0 (muN a2 1)) a4 (pF g5 0 (muN a4 1)) a6 (pF g7 0 (muN a6 3)) c8 a9 a10 a11 a12 a13 a14) 1))))) (zlh (fop .mul .f32 (fOI .f32 c8) (z7u a0 (pF g1 0 (muN a0 1)) a2 (pF g3 0 (muN a2 1)) a4 (pF g5 0 (muN a4 1)) a6 (pF g7 0 (muN a6 3)) c8 a9 a10 (z1k a0 (pF g1 0 (muN a0 1)) a2 (pF g3 0 (muN a2 1)) a4 (pF g5 0 (muN a4 1)) a6 (pF g7 0 (muN a6 3)) c8 a9 a10 a11 a12 a13 a14) (pF (z5u a0 (pF g1 0 (muN a0 1)) a2 (pF g3 0 (muN a2 1)) a4 (pF g5 0 (muN a4 1)) a6 (pF g7 0 (muN a6 3)) c8 a9 a10 a11 a12 a13 a14) 0 (muN (z1k a0 (pF g1 0 (muN a0 1)) a2 (pF g3 0 (muN a2 1)) a4 (pF g5 0 (muN a4 1)) a6 (pF g7 0 (muN a6 3)) c8 a9 a10 a11 a12 a13 a14) 1))))))))))
def z54:Option (Nat×Bool):=zfk a0 g1 a2 g3 a4 g5 a6 g7 c8 a9 a10 a11 a12 a13 a14 (fun c0_ c1_=>some (c0_,c1_))
theorem zzy:Nt2 (fun {R}=>zfk (R:=R) a0 g1 a2 g3 a4 g5 a6 g7 c8 a9 a10 a11 a12 a13 a14):=by
 intro R R' o h0 k;unfold zfk;repeat (first | apply grd_out h0 | apply br_out | rfl)
def ztv:Bool:=(z54 a0 g1 a2 g3 a4 g5 a6 g7 c8 a9 a10 a11 a12 a13 a14).isSome
def zrh:Nat:=((z54 a0 g1 a2 g3 a4 g5 a6 g7 c8 a9 a10 a11 a12 a13 a14).getD default).1
def zs0:Bool:=((z54 a0 g1 a2 g3 a4 g5 a6 g7 c8 a9 a10 a11 a12 a13 a14).getD default).2
def laws_FnExactThrustOf_c0:=(zlk a0 (pF g1 0 (muN a0 1)) a2 (pF g3 0 (muN a2 1)) a4 (pF g5 0 (muN a4 1)) a6 (pF g7 0 (muN a6 3)) c8 a9 a10)
def laws_FnExactThrustOf_c1:=(zkv a0 (pF g1 0 (muN a0 1)) a2 (pF g3 0 (muN a2 1)) a4 (pF g5 0 (muN a4 1)) a6 (pF g7 0 (muN a6 3)) c8 a9 a10)
def laws_FnExactThrustOf_c2:=(zmf a0 (pF g1 0 (muN a0 1)) a2 (pF g3 0 (muN a2 1)) a4 (pF g5 0 (muN a4 1)) a6 (pF g7 0 (muN a6 3)) c8 a9 a10)
def laws_FnExactThrustOf_c3:=(znw a0 (pF g1 0 (muN a0 1)) a2 (pF g3 0 (muN a2 1)) a4 (pF g5 0 (muN a4 1)) a6 (pF g7 0 (muN a6 3)) c8 a9 a10)
def laws_FnExactThrustOf_c4:=(zm5 a0 (pF g1 0 (muN a0 1)) a2 (pF g3 0 (muN a2 1)) a4 (pF g5 0 (muN a4 1)) a6 (pF g7 0 (muN a6 3)) c8 a9 a10)
def laws_FnExactThrustOf_c5:=(pF (zlw a0 (pF g1 0 (muN a0 1)) a2 (pF g3 0 (muN a2 1)) a4 (pF g5 0 (muN a4 1)) a6 (pF g7 0 (muN a6 3)) c8 a9 a10) 0 (muN (laws_FnExactThrustOf_c4 a0 g1 a2 g3 a4 g5 a6 g7 c8 a9 a10) 1))
def laws_FnExactThrustOf_c6:=(pF (zl5 a0 (pF g1 0 (muN a0 1)) a2 (pF g3 0 (muN a2 1)) a4 (pF g5 0 (muN a4 1)) a6 (pF g7 0 (muN a6 3)) c8 a9 a10) 0 (muN (laws_FnExactThrustOf_c1 a0 g1 a2 g3 a4 g5 a6 g7 c8 a9 a10) 1))
def laws_FnExactThrustOf_c7:=(pF (zmk a0 (pF g1 0 (muN a0 1)) a2 (pF g3 0 (muN a2 1)) a4 (pF g5 0 (muN a4 1)) a6 (pF g7 0 (muN a6 3)) c8 a9 a10) 0 (muN (laws_FnExactThrustOf_c2 a0 g1 a2 g3 a4 g5 a6 g7 c8 a9 a10) 3))
def laws_FnExactThrustOf_c8:=(pF (zlx a0 (pF g1 0 (muN a0 1)) a2 (pF g3 0 (muN a2 1)) a4 (pF g5 0 (muN a4 1)) a6 (pF g7 0 (muN a6 3)) c8 a9 a10) 0 (muN (laws_FnExactThrustOf_c0 a0 g1 a2 g3 a4 g5 a6 g7 c8 a9 a10) 1))
def laws_FnExactThrustOf_c9:=(fcvV .f32 .f64 (zrv (laws_FnExactThrustOf_c0 a0 g1 a2 g3 a4 g5 a6 g7 c8 a9 a10) (laws_FnExactThrustOf_c8 a0 g1 a2 g3 a4 g5 a6 g7 c8 a9 a10) (laws_FnExactThrustOf_c4 a0 g1 a2 g3 a4 g5 a6 g7 c8 a9 a10) (laws_FnExactThrustOf_c5 a0 g1 a2 g3 a4 g5 a6 g7 c8 a9 a10) (laws_FnExactThrustOf_c1 a0 g1 a2 g3 a4 g5 a6 g7 c8 a9 a10) (laws_FnExactThrustOf_c6 a0 g1 a2 g3 a4 g5 a6 g7 c8 a9 a10) (laws_FnExactThrustOf_c2 a0 g1 a2 g3 a4 g5 a6 g7 c8 a9 a10) (laws_FnExactThrustOf_c7 a0 g1 a2 g3 a4 g5 a6 g7 c8 a9 a10) c8 a9 a10 a11 a12 a13 a14))
def laws_FnExactThrustOf_c10:=(fcvV .f32 .f64 (zrh (laws_FnExactThrustOf_c0 a0 g1 a2 g3 a4 g5 a6 g7 c8 a9 a10) (laws_FnExactThrustOf_c8 a0 g1 a2 g3 a4 g5 a6 g7 c8 a9 a10) (laws_FnExactThrustOf_c4 a0 g1 a2 g3 a4 g5 a6 g7 c8 a9 a10) (laws_FnExactThrustOf_c5 a0 g1 a2 g3 a4 g5 a6 g7 c8 a9 a10) (laws_FnExactThrustOf_c1 a0 g1 a2 g3 a4 g5 a6 g7 c8 a9 a10) (laws_FnExactThrustOf_c6 a0 g1 a2 g3 a4 g5 a6 g7 c8 a9 a10) (laws_FnExactThrustOf_c2 a0 g1 a2 g3 a4 g5 a6 g7 c8 a9 a10) (laws_FnExactThrustOf_c7 a0 g1 a2 g3 a4 g5 a6 g7 c8 a9 a10) c8 a9 a10 a11 a12 a13 a14))
def z7h{R:Type}(k_:Bool→Option R):Option R:=(grd (znd a0 (pF g1 0 (muN a0 1)) a2 (pF g3 0 (muN a2 1)) a4 (pF g5 0 (muN a4 1)) a6 (pF g7 0 (muN a6 3)) c8 a9 a10 1048576) (br (ltI (zle a0 (pF g1 0 (muN a0 1)) a2 (pF g3 0 (muN a2 1)) a4 (pF g5 0 (muN a4 1)) a6 (pF g7 0 (muN a6 3)) c8 a9 a10 1048576) 0) (k_ Bool.true) (grd (laws_FnExactThrustOf_c3 a0 g1 a2 g3 a4 g5 a6 g7 c8 a9 a10) (grd (ztx (laws_FnExactThrustOf_c0 a0 g1 a2 g3 a4 g5 a6 g7 c8 a9 a10) (laws_FnExactThrustOf_c8 a0 g1 a2 g3 a4 g5 a6 g7 c8 a9 a10) (laws_FnExactThrustOf_c4 a0 g1 a2 g3 a4 g5 a6 g7 c8 a9 a10) (laws_FnExactThrustOf_c5 a0 g1 a2 g3 a4 g5 a6 g7 c8 a9 a10) (laws_FnExactThrustOf_c1 a0 g1 a2 g3 a4 g5 a6 g7 c8 a9 a10) (laws_FnExactThrustOf_c6 a0 g1 a2 g3 a4 g5 a6 g7 c8 a9 a10) (laws_FnExactThrustOf_c2 a0 g1 a2 g3 a4 g5 a6 g7 c8 a9 a10) (laws_FnExactThrustOf_c7 a0 g1 a2 g3 a4 g5 a6 g7 c8 a9 a10) c8 a9 a10 a11 a12 a13 a14) (grd (laws_FnExactThrustOf_c3 a0 g1 a2 g3 a4 g5 a6 g7 c8 a9 a10) (grd (ztv (laws_FnExactThrustOf_c0 a0 g1 a2 g3 a4 g5 a6 g7 c8 a9 a10) (laws_FnExactThrustOf_c8 a0 g1 a2 g3 a4 g5 a6 g7 c8 a9 a10) (laws_FnExactThrustOf_c4 a0 g1 a2 g3 a4 g5 a6 g7 c8 a9 a10) (laws_FnExactThrustOf_c5 a0 g1 a2 g3 a4 g5 a6 g7 c8 a9 a10) (laws_FnExactThrustOf_c1 a0 g1 a2 g3 a4 g5 a6 g7 c8 a9 a10) (laws_FnExactThrustOf_c6 a0 g1 a2 g3 a4 g5 a6 g7 c8 a9 a10) (laws_FnExactThrustOf_c2 a0 g1 a2 g3 a4 g5 a6 g7 c8 a9 a10) (laws_FnExactThrustOf_c7 a0 g1 a2 g3 a4 g5 a6 g7 c8 a9 a10) c8 a9 a10 a11 a12 a13 a14) (grd (z45 (laws_FnExactThrustOf_c10 a0 g1 a2 g3 a4 g5 a6 g7 c8 a9 a10 a11 a12 a13 a14) (laws_FnExactThrustOf_c9 a0 g1 a2 g3 a4 g5 a6 g7 c8 a9 a10 a11 a12 a13 a14)) (br (bnot (z3s (laws_FnExactThrustOf_c10 a0 g1 a2 g3 a4 g5 a6 g7 c8 a9 a10 a11 a12 a13 a14) (laws_FnExactThrustOf_c9 a0 g1 a2 g3 a4 g5 a6 g7 c8 a9 a10 a11 a12 a13 a14))) (k_ Bool.false) (br (bnot (beqB (zs0 (laws_FnExactThrustOf_c0 a0 g1 a2 g3 a4 g5 a6 g7 c8 a9 a10) (laws_FnExactThrustOf_c8 a0 g1 a2 g3 a4 g5 a6 g7 c8 a9 a10) (laws_FnExactThrustOf_c4 a0 g1 a2 g3 a4 g5 a6 g7 c8 a9 a10) (laws_FnExactThrustOf_c5 a0 g1 a2 g3 a4 g5 a6 g7 c8 a9 a10) (laws_FnExactThrustOf_c1 a0 g1 a2 g3 a4 g5 a6 g7 c8 a9 a10) (laws_FnExactThrustOf_c6 a0 g1 a2 g3 a4 g5 a6 g7 c8 a9 a10) (laws_FnExactThrustOf_c2 a0 g1 a2 g3 a4 g5 a6 g7 c8 a9 a10) (laws_FnExactThrustOf_c7 a0 g1 a2 g3 a4 g5 a6 g7 c8 a9 a10) c8 a9 a10 a11 a12 a13 a14) (zsj (laws_FnExactThrustOf_c0 a0 g1 a2 g3 a4 g5 a6 g7 c8 a9 a10) (laws_FnExactThrustOf_c8 a0 g1 a2 g3 a4 g5 a6 g7 c8 a9 a10) (laws_FnExactThrustOf_c4 a0 g1 a2 g3 a4 g5 a6 g7 c8 a9 a10) (laws_FnExactThrustOf_c5 a0 g1 a2 g3 a4 g5 a6 g7 c8 a9 a10) (laws_FnExactThrustOf_c1 a0 g1 a2 g3 a4 g5 a6 g7 c8 a9 a10) (laws_FnExactThrustOf_c6 a0 g1 a2 g3 a4 g5 a6 g7 c8 a9 a10) (laws_FnExactThrustOf_c2 a0 g1 a2 g3 a4 g5 a6 g7 c8 a9 a10) (laws_FnExactThrustOf_c7 a0 g1 a2 g3 a4 g5 a6 g7 c8 a9 a10) c8 a9 a10 a11 a12 a13 a14))) (k_ Bool.false) (grd (laws_FnExactThrustOf_c3 a0 g1 a2 g3 a4 g5 a6 g7 c8 a9 a10) (grd (znh (laws_FnExactThrustOf_c0 a0 g1 a2 g3 a4 g5 a6 g7 c8 a9 a10) (laws_FnExactThrustOf_c8 a0 g1 a2 g3 a4 g5 a6 g7 c8 a9 a10) (laws_FnExactThrustOf_c4 a0 g1 a2 g3 a4 g5 a6 g7 c8 a9 a10) (laws_FnExactThrustOf_c5 a0 g1 a2 g3 a4 g5 a6 g7 c8 a9 a10) (laws_FnExactThrustOf_c1 a0 g1 a2 g3 a4 g5 a6 g7 c8 a9 a10) (laws_FnExactThrustOf_c6 a0 g1 a2 g3 a4 g5 a6 g7 c8 a9 a10) (laws_FnExactThrustOf_c2 a0 g1 a2 g3 a4 g5 a6 g7 c8 a9 a10) (laws_FnExactThrustOf_c7 a0 g1 a2 g3 a4 g5 a6 g7 c8 a9 a10) c8 a9 a10 (laws_FnExactThrustOf_c0 a0 g1 a2 g3 a4 g5 a6 g7 c8 a9 a10) (laws_FnExactThrustOf_c8 a0 g1 a2 g3 a4 g5 a6 g7 c8 a9 a10) (laws_FnExactThrustOf_c4 a0 g1 a2 g3 a4 g5 a6 g7 c8 a9 a10) (laws_FnExactThrustOf_c5 a0 g1 a2 g3 a4 g5 a6 g7 c8 a9 a10) (laws_FnExactThrustOf_c1 a0 g1 a2 g3 a4 g5 a6 g7 c8 a9 a10) (laws_FnExactThrustOf_c6 a0 g1 a2 g3 a4 g5 a6 g7 c8 a9 a10) (laws_FnExactThrustOf_c2 a0 g1 a2 g3 a4 g5 a6 g7 c8 a9 a10) (laws_FnExactThrustOf_c7 a0 g1 a2 g3 a4 g5 a6 g7 c8 a9 a10) c8 a9 a10) (br (bnot (zlp (laws_FnExactThrustOf_c0 a0 g1 a2 g3 a4 g5 a6 g7 c8 a9 a10) (laws_FnExactThrustOf_c8 a0 g1 a2 g3 a4 g5 a6 g7 c8 a9 a10) (laws_FnExactThrustOf_c4 a0 g1 a2 g3 a4 g5 a6 g7 c8 a9 a10) (laws_FnExactThrustOf_c5 a0 g1 a2 g3 a4 g5 a6 g7 c8 a9 a10) (laws_FnExactThrustOf_c1 a0 g1 a2 g3 a4 g5 a6 g7 c8 a9 a10) (laws_FnExactThrustOf_c6 a0 g1 a2 g3 a4 g5 a6 g7 c8 a9 a10) (laws_FnExactThrustOf_c2 a0 g1 a2 g3 a4 g5 a6 g7 c8 a9 a10) (laws_FnExactThrustOf_c7 a0 g1 a2 g3 a4 g5 a6 g7 c8 a9 a10) c8 a9 a10 (laws_FnExactThrustOf_c0 a0 g1 a2 g3 a4 g5 a6 g7 c8 a9 a10) (laws_FnExactThrustOf_c8 a0 g1 a2 g3 a4 g5 a6 g7 c8 a9 a10) (laws_FnExactThrustOf_c4 a0 g1 a2 g3 a4 g5 a6 g7 c8 a9 a10) (laws_FnExactThrustOf_c5 a0 g1 a2 g3 a4 g5 a6 g7 c8 a9 a10) (laws_FnExactThrustOf_c1 a0 g1 a2 g3 a4 g5 a6 g7 c8 a9 a10) (laws_FnExactThrustOf_c6 a0 g1 a2 g3 a4 g5 a6 g7 c8 a9 a10) (laws_FnExactThrustOf_c2 a0 g1 a2 g3 a4 g5 a6 g7 c8 a9 a10) (laws_FnExactThrustOf_c7 a0 g1 a2 g3 a4 g5 a6 g7 c8 a9 a10) c8 a9 a10)) (k_ Bool.false) (k_ Bool.true)))))))))))))
def z2k:Option (Bool):=z7h a0 g1 a2 g3 a4 g5 a6 g7 c8 a9 a10 a11 a12 a13 a14 (fun c0_=>some c0_)
theorem zot:Nt1 (fun {R}=>z7h (R:=R) a0 g1 a2 g3 a4 g5 a6 g7 c8 a9 a10 a11 a12 a13 a14):=by
 intro R R' o h0 k;unfold z7h;repeat (first | apply grd_out h0 | apply br_out | rfl)
end
section
variable {a0:Nat} {c0:Int} {a1:Nat} {c1:Int} {e1:Bool} {g1:List Nat} {m1:List Bool} {a2:Nat} {c2:Int} {e2:Bool} {g2:List Nat} {a3:Nat} {c3:Int} {e3:Bool} {g3:List Nat} {m3:List Bool} {a4:Nat} {c4:Int} {e4:Bool} {g4:List Nat} {a5:Nat} {c5:Int} {g5:List Nat} {a6:Nat} {c6:Int} {e6:Bool} {g6:List Nat} {a7:Nat} {c7:Int} {g7:List Nat} {a8:Nat} {c8:Int} {a9:Nat} {g9:List Nat} {a10:Nat} {a11:Nat} {c11:Int} {e11:Bool} {g11:List Nat} {a12:Nat} {c12:Int} {e12:Bool} {g12:List Nat} {a13:Nat} {e13:Bool} {a14:Nat} {g14:List Nat} {a15:Nat} {e15:Bool} {a16:Nat} {g16:List Nat} {a17:Nat} {c17:Int} {a18:Nat} {g18:List Nat} {c19:Int} {g19:List Nat} {a20:Nat} {a21:Nat} {e22:Bool}
theorem of1{α1:Type} [Inhabited (α1)] {x:Option (α1)} {r:α1} (h:x=some r):x.isSome=true∧(x.getD default)=r:=by
 subst h;exact⟨rfl,rfl⟩
theorem ol1{β α1:Type} [Inhabited (α1)] {x:Option ((α1)⊕β)} {r:α1} (h:x=some (.inl r)):x.isSome=true∧oL x=true∧((tL x).getD default)=r:=by
 subst h;exact⟨rfl,rfl,rfl⟩
theorem of2{α1 α2:Type} [Inhabited (α1×α2)] {x:Option (α1×α2)} {r:α1×α2} (h:x=some r):x.isSome=true∧(x.getD default).1=r.1∧(x.getD default).2=r.2:=by
 subst h;exact⟨rfl,rfl,rfl⟩
theorem or2{β α1 α2:Type} [Inhabited (α1×α2)] {x:Option (β⊕(α1×α2))} {r:α1×α2} (h:x=some (.inr r)):x.isSome=true∧oL x=false∧((tR x).getD default).1=r.1∧((tR x).getD default).2=r.2:=by
 subst h;exact⟨rfl,rfl,rfl,rfl⟩
theorem of3{α1 α2 α3:Type} [Inhabited (α1×α2×α3)] {x:Option (α1×α2×α3)} {r:α1×α2×α3} (h:x=some r):x.isSome=true∧(x.getD default).1=r.1∧(x.getD default).2.1=r.2.1∧(x.getD default).2.2=r.2.2:=by
 subst h;exact⟨rfl,rfl,rfl,rfl⟩
theorem or3{β α1 α2 α3:Type} [Inhabited (α1×α2×α3)] {x:Option (β⊕(α1×α2×α3))} {r:α1×α2×α3} (h:x=some (.inr r)):x.isSome=true∧oL x=false∧((tR x).getD default).1=r.1∧((tR x).getD default).2.1=r.2.1∧((tR x).getD default).2.2=r.2.2:=by
 subst h;exact⟨rfl,rfl,rfl,rfl,rfl⟩
theorem of4{α1 α2 α3 α4:Type} [Inhabited (α1×α2×α3×α4)] {x:Option (α1×α2×α3×α4)} {r:α1×α2×α3×α4} (h:x=some r):x.isSome=true∧(x.getD default).1=r.1∧(x.getD default).2.1=r.2.1∧(x.getD default).2.2.1=r.2.2.1∧(x.getD default).2.2.2=r.2.2.2:=by
 subst h;exact⟨rfl,rfl,rfl,rfl,rfl⟩
theorem or4{β α1 α2 α3 α4:Type} [Inhabited (α1×α2×α3×α4)] {x:Option (β⊕(α1×α2×α3×α4))} {r:α1×α2×α3×α4} (h:x=some (.inr r)):x.isSome=true∧oL x=false∧((tR x).getD default).1=r.1∧((tR x).getD default).2.1=r.2.1∧((tR x).getD default).2.2.1=r.2.2.1∧((tR x).getD default).2.2.2=r.2.2.2:=by
 subst h;exact⟨rfl,rfl,rfl,rfl,rfl,rfl⟩
theorem of5{α1 α2 α3 α4 α5:Type} [Inhabited (α1×α2×α3×α4×α5)] {x:Option (α1×α2×α3×α4×α5)} {r:α1×α2×α3×α4×α5} (h:x=some r):x.isSome=true∧(x.getD default).1=r.1∧(x.getD default).2.1=r.2.1∧(x.getD default).2.2.1=r.2.2.1∧(x.getD default).2.2.2.1=r.2.2.2.1∧(x.getD default).2.2.2.2=r.2.2.2.2:=by
 subst h;exact⟨rfl,rfl,rfl,rfl,rfl,rfl⟩
theorem of6{α1 α2 α3 α4 α5 α6:Type} [Inhabited (α1×α2×α3×α4×α5×α6)] {x:Option (α1×α2×α3×α4×α5×α6)} {r:α1×α2×α3×α4×α5×α6} (h:x=some r):x.isSome=true∧(x.getD default).1=r.1∧(x.getD default).2.1=r.2.1∧(x.getD default).2.2.1=r.2.2.1∧(x.getD default).2.2.2.1=r.2.2.2.1∧(x.getD default).2.2.2.2.1=r.2.2.2.2.1∧(x.getD default).2.2.2.2.2=r.2.2.2.2.2:=by
 subst h;exact⟨rfl,rfl,rfl,rfl,rfl,rfl,rfl⟩
theorem or6{β α1 α2 α3 α4 α5 α6:Type} [Inhabited (α1×α2×α3×α4×α5×α6)] {x:Option (β⊕(α1×α2×α3×α4×α5×α6))} {r:α1×α2×α3×α4×α5×α6} (h:x=some (.inr r)):x.isSome=true∧oL x=false∧((tR x).getD default).1=r.1∧((tR x).getD default).2.1=r.2.1∧((tR x).getD default).2.2.1=r.2.2.1∧((tR x).getD default).2.2.2.1=r.2.2.2.1∧((tR x).getD default).2.2.2.2.1=r.2.2.2.2.1∧((tR x).getD default).2.2.2.2.2=r.2.2.2.2.2:=by
 subst h;exact⟨rfl,rfl,rfl,rfl,rfl,rfl,rfl,rfl⟩
theorem of8{α1 α2 α3 α4 α5 α6 α7 α8:Type} [Inhabited (α1×α2×α3×α4×α5×α6×α7×α8)] {x:Option (α1×α2×α3×α4×α5×α6×α7×α8)} {r:α1×α2×α3×α4×α5×α6×α7×α8} (h:x=some r):x.isSome=true∧(x.getD default).1=r.1∧(x.getD default).2.1=r.2.1∧(x.getD default).2.2.1=r.2.2.1∧(x.getD default).2.2.2.1=r.2.2.2.1∧(x.getD default).2.2.2.2.1=r.2.2.2.2.1∧(x.getD default).2.2.2.2.2.1=r.2.2.2.2.2.1∧(x.getD default).2.2.2.2.2.2.1=r.2.2.2.2.2.2.1∧(x.getD default).2.2.2.2.2.2.2=r.2.2.2.2.2.2.2:=by
 subst h;exact⟨rfl,rfl,rfl,rfl,rfl,rfl,rfl,rfl,rfl⟩
theorem ol0{α β:Type} {x:Option (α⊕β)} {r:α} (h:x=some (.inl r)):x.isSome=true∧oL x=true:=by
 subst h;exact⟨rfl,rfl⟩
theorem z50(h:z5j a0 a1=some e2):z45 a0 a1=true∧z3s a0 a1=e2:=of1 h
theorem zoa(h:z84 c0 c1 c2=some e3):z88 c0 c1 c2=true∧z3q c0 c1 c2=e3:=of1 h
theorem z3l(h:z7n a0=some e1):z2d a0=true∧z23 a0=e1:=of1 h
theorem zzd(h:z98 c0 c1 c2=some e3):zrc c0 c1 c2=true∧zpj c0 c1 c2=e3:=of1 h
theorem y12(h:z51 a0 g1 c2=some c3):zq9 a0 g1 c2=true∧zg9 a0 g1 c2=c3:=of1 h
theorem z1a(h:z79 a0=some e1):z0w a0=true∧z0q a0=e1:=of1 h
theorem zgc(h:z4w a0 g1 c2=some c3):zbu a0 g1 c2=true∧z12 a0 g1 c2=c3:=of1 h
theorem zsb(h:z6c a0 a1 a2=some e3):zll a0 a1 a2=true∧zit a0 a1 a2=e3:=of1 h
theorem zuj(h:z30 a0 g1 a2 g3 a4 g5 a6 g7 c8 a9 a10 c11=some a12):zkl a0 g1 a2 g3 a4 g5 a6 g7 c8 a9 a10 c11=true∧zau a0 g1 a2 g3 a4 g5 a6 g7 c8 a9 a10 c11=a12:=of1 h
theorem y8e(h:z89 a0 g1 a2 g3 a4 g5 a6 g7 c8 a9 a10 c11 a12=some a13):zyz a0 g1 a2 g3 a4 g5 a6 g7 c8 a9 a10 c11 a12=true∧zny a0 g1 a2 g3 a4 g5 a6 g7 c8 a9 a10 c11 a12=a13:=of1 h
theorem y02(h:z46 a0 g1 a2 g3 a4 g5 a6 g7 c8 a9 a10 c11=some a12):zoo a0 g1 a2 g3 a4 g5 a6 g7 c8 a9 a10 c11=true∧zfd a0 g1 a2 g3 a4 g5 a6 g7 c8 a9 a10 c11=a12:=of1 h
theorem y4l(h:zei=some a0):zy4=true∧zoc=a0:=of1 h
theorem y9h(h:zcy a0 a1 a2=some a3):zsq a0 a1 a2=true∧zos a0 a1 a2=a3:=of1 h
theorem zqf(h:z5k a0=some a1):zjo a0=true∧zbn a0=a1:=of1 h
theorem yaa(h:zdy a0=some a1):y6z a0=true∧y4i a0=a1:=of1 h
theorem zty{r:Nat×Bool}(h:z65 a0=some r):znu a0=true∧zm9 a0=r.1∧zlh a0=r.2:=of2 h
theorem y3w(h:z5o a0 g1 a2 g3 a4 g5 c6=some c7):zsn a0 g1 a2 g3 a4 g5 c6=true∧z8b a0 g1 a2 g3 a4 g5 c6=c7:=of1 h
theorem y38{r:Nat×Bool}(h:z48 a0=some r):zry a0=true∧zq0 a0=r.1∧zpr a0=r.2:=of2 h
theorem ze7(h:z6h a0=some e1):za7 a0=true∧z97 a0=e1:=of1 h
theorem zu6(h:z75 a0=some e1):zo1 a0=true∧zlr a0=e1:=of1 h
theorem zwc(h:z3h a0=some e1):zl0 a0=true∧zkk a0=e1:=of1 h
theorem y2u(h:z5q a0 a1 a2 a3 a4 a5=some e6):zsu a0 a1 a2 a3 a4 a5=true∧zq5 a0 a1 a2 a3 a4 a5=e6:=of1 h
theorem zrl(h:z6f a0=some e1):z7s a0=true∧z76 a0=e1:=of1 h
theorem y5y(h:z6d a0 g1 a2 g3 a4 g5 a6 g7 c8 a9 a10 c11 a12=some e13):zu0 a0 g1 a2 g3 a4 g5 a6 g7 c8 a9 a10 c11 a12=true∧zrs a0 g1 a2 g3 a4 g5 a6 g7 c8 a9 a10 c11 a12=e13:=of1 h
theorem y7n{r:Nat×Nat×Bool}(h:z5f a0 a1=some r):zp9 a0 a1=true∧zgl a0 a1=r.1∧zgk a0 a1=r.2.1∧zgv a0 a1=r.2.2:=of3 h
theorem zzk(h:z49 a0=some e1):zoj a0=true∧zn1 a0=e1:=of1 h
theorem ztn(h:z2n a0 g1 a2 g3 a4 g5 a6 g7 c8 a9 a10 c11=some e12):zic a0 g1 a2 g3 a4 g5 a6 g7 c8 a9 a10 c11=true∧zh1 a0 g1 a2 g3 a4 g5 a6 g7 c8 a9 a10 c11=e12:=of1 h
theorem y7f(h:z83 a0=some e1):zz4 a0=true∧zvy a0=e1:=of1 h
theorem y7j(h:z86 a0=some e1):zz0 a0=true∧zwg a0=e1:=of1 h
theorem zv1 {r:Int×Bool×(List Nat)} (hm:a5=big) (h:z10 a0 a1 g2 a5 c3 g4=some r):zdc a0 a1 g2 c3 g4=true∧zt5 a0 a1 g2 c3 g4=r.1∧zt1 a0 a1 g2 c3 g4=r.2.1∧z9z a0 a1 g2 c3 g4=r.2.2:=by
 subst hm;exact of3 h
theorem zqx{r:Nat×Int×Bool}(hm:a6=big)(h:z0d a0 g1 g2 a3 a6 a4 c5=some r):zh5 a0 g1 g2 a3 a4 c5=true∧zep a0 g1 g2 a3 a4 c5=r.1∧zp2 a0 g1 g2 a3 a4 c5=r.2.1∧zpc a0 g1 g2 a3 a4 c5=r.2.2:=by
 subst hm;exact of3 h
theorem y0y{r:Nat×Int×Bool}(hm:a6=big)(h:z0u a0 g1 a2 g3 a6 a4 c5=some r):zr4 a0 g1 a2 g3 a4 c5=true∧zmv a0 g1 a2 g3 a4 c5=r.1∧zzg a0 g1 a2 g3 a4 c5=r.2.1∧y0a a0 g1 a2 g3 a4 c5=r.2.2:=by
 subst hm;exact of3 h
theorem zla(hm:a5=big) (h:z04 a0 e1 c2 m3 a5 c4=some (Sum.inl c6)):z7e a0 e1 c2 m3 c4=true∧z6s a0 e1 c2 m3 c4=true∧z9q a0 e1 c2 m3 c4=c6:=by
 subst hm;exact ol1 h
theorem zlo{r:Int×Bool}(hm:a5=big) (h:z04 a0 e1 c2 m3 a5 c4=some (Sum.inr r)):z7e a0 e1 c2 m3 c4=true∧z6s a0 e1 c2 m3 c4=false∧zkq a0 e1 c2 m3 c4=r.1∧zkp a0 e1 c2 m3 c4=r.2:=by
 subst hm;exact or2 h
theorem y6t(h:z7c a0 g1 a2 g3 a4 g5 a6 g7 c8 a9 a10 c11=some c12):znd a0 g1 a2 g3 a4 g5 a6 g7 c8 a9 a10 c11=true∧zle a0 g1 a2 g3 a4 g5 a6 g7 c8 a9 a10 c11=c12:=of1 h
theorem zgj {r:Nat×(List Nat)} (h:z3r a0 g1=some r):zbp a0 g1=true∧zak a0 g1=r.1∧zaf a0 g1=r.2:=of2 h
theorem zwh(h:z3i a0 g1 a2 g3 a4 g5 a6 g7 c8 a9 a10 a11 g12=some a13):zl2 a0 g1 a2 g3 a4 g5 a6 g7 c8 a9 a10 a11 g12=true∧z7u a0 g1 a2 g3 a4 g5 a6 g7 c8 a9 a10 a11 g12=a13:=of1 h
theorem y8n(h:z85 a0 g1 a2 g3 a4 g5 a6 g7 c8 a9 a10 a11 g12=some a13):zz3 a0 g1 a2 g3 a4 g5 a6 g7 c8 a9 a10 a11 g12=true∧zgo a0 g1 a2 g3 a4 g5 a6 g7 c8 a9 a10 a11 g12=a13:=of1 h
theorem zp0(h:z1z a0 m1 e2=some c3):zfp a0 m1 e2=true∧zet a0 m1 e2=c3:=of1 h
theorem y19(h:z52 a0=some e1):zqc a0=true∧zof a0=e1:=of1 h
theorem y96(h:z9c a0=some a1):y1m a0=true∧zex a0=a1:=of1 h
theorem zuu{r:Int×Bool}(hm:a5=big) (h:z0z a0 a1 g2 g3 a5 c4=some (Sum.inr r)):zkr a0 a1 g2 g3 c4=true∧zkb a0 a1 g2 g3 c4=false∧ztj a0 a1 g2 g3 c4=r.1∧ztp a0 a1 g2 g3 c4=r.2:=by
 subst hm;exact or2 h
theorem zul {r:Int×Bool×(List Nat)} (hm:a5=big) (h:z0m a0 a1 g2 a5 c3 g4=some r):ze1 a0 a1 g2 c3 g4=true∧zsz a0 a1 g2 c3 g4=r.1∧zt8 a0 a1 g2 c3 g4=r.2.1∧z9w a0 a1 g2 c3 g4=r.2.2:=by
 subst hm;exact of3 h
theorem zsx{r:Nat×Int×Bool}(hm:a3=big)(h:z0j a0 a3 a1 c2=some r):z13 a0 a1 c2=true∧z07 a0 a1 c2=r.1∧zqz a0 a1 c2=r.2.1∧zqj a0 a1 c2=r.2.2:=by
 subst hm;exact of3 h
theorem zgd(h:z4v a0 g1 a2 g3=some e4):zbw a0 g1 a2 g3=true∧za5 a0 g1 a2 g3=e4:=of1 h
theorem zmo(h:z18 a0 m1 e2=some e3):z4o a0 m1 e2=true∧z44 a0 m1 e2=e3:=of1 h
theorem y49 {r:Nat×Nat×Nat×(List Nat)×(List Nat)×(List Nat)} (h:z1q a0 g1 a2 g3 a4 g5=some r):zsc a0 g1 a2 g3 a4 g5=true∧zq4 a0 g1 a2 g3 a4 g5=r.1∧zqg a0 g1 a2 g3 a4 g5=r.2.1∧zq7 a0 g1 a2 g3 a4 g5=r.2.2.1∧zpo a0 g1 a2 g3 a4 g5=r.2.2.2.1∧zps a0 g1 a2 g3 a4 g5=r.2.2.2.2.1∧zqa a0 g1 a2 g3 a4 g5=r.2.2.2.2.2:=of6 h
theorem y0x {r:Nat×(List Nat)} (h:z3t a0 g1=some r):zq6 a0 g1=true∧zok a0 g1=r.1∧zol a0 g1=r.2:=of2 h
theorem y00(h:z20 a0=some a1):zop a0=true∧zf1 a0=a1:=of1 h
theorem y2i(h:z53 a0=some a1):zq8 a0=true∧z09 a0=a1:=of1 h
theorem zuv{r:Int×Bool}(hm:a5=big) (h:z11 a0 a1 g2 g3 a5 c4=some (Sum.inr r)):zdg a0 a1 g2 g3 c4=true∧zcu a0 a1 g2 g3 c4=false∧zts a0 a1 g2 g3 c4=r.1∧zt6 a0 a1 g2 g3 c4=r.2:=by
 subst hm;exact or2 h
theorem y3s{r:Unit}(hm:a8=big) (h:z1j c0 g1 g2 g3 a4 a5 a6 a8 c7=some (Sum.inl r)):za9 c0 g1 g2 g3 a4 a5 a6 c7=true∧z92 c0 g1 g2 g3 a4 a5 a6 c7=true:=by
 subst hm;exact ol0 h
theorem y2x{r:Int×Bool}(hm:a8=big) (h:z1j c0 g1 g2 g3 a4 a5 a6 a8 c7=some (Sum.inr r)):za9 c0 g1 g2 g3 a4 a5 a6 c7=true∧z92 c0 g1 g2 g3 a4 a5 a6 c7=false∧y2d c0 g1 g2 g3 a4 a5 a6 c7=r.1∧y1d c0 g1 g2 g3 a4 a5 a6 c7=r.2:=by
 subst hm;exact or2 h
theorem za2(hm:a4=big) (h:z01 a0 c1 g2 a4 c3=some (Sum.inl c5)):z2m a0 c1 g2 c3=true∧z2f a0 c1 g2 c3=true∧z4h a0 c1 g2 c3=c5:=by
 subst hm;exact ol1 h
theorem z9v{r:Int×Bool}(hm:a4=big) (h:z01 a0 c1 g2 a4 c3=some (Sum.inr r)):z2m a0 c1 g2 c3=true∧z2f a0 c1 g2 c3=false∧z9l a0 c1 g2 c3=r.1∧z9o a0 c1 g2 c3=r.2:=by
 subst hm;exact or2 h
theorem zaz(hm:a4=big) (h:z02 a0 c1 g2 a4 c3=some (Sum.inl c5)):z37 a0 c1 g2 c3=true∧z2s a0 c1 g2 c3=true∧z58 a0 c1 g2 c3=c5:=by
 subst hm;exact ol1 h
theorem zay{r:Int×Bool}(hm:a4=big) (h:z02 a0 c1 g2 a4 c3=some (Sum.inr r)):z37 a0 c1 g2 c3=true∧z2s a0 c1 g2 c3=false∧zab a0 c1 g2 c3=r.1∧zac a0 c1 g2 c3=r.2:=by
 subst hm;exact or2 h
theorem y67 {r:Nat×Nat×Nat×Nat×(List Nat)×(List Nat)×(List Nat)×(List Nat)} (h:z1o a0 g1 a2 g3 a4 g5 a6 g7 c8 a9 a10=some r):znw a0 g1 a2 g3 a4 g5 a6 g7 c8 a9 a10=true∧zlk a0 g1 a2 g3 a4 g5 a6 g7 c8 a9 a10=r.1∧zm5 a0 g1 a2 g3 a4 g5 a6 g7 c8 a9 a10=r.2.1∧zkv a0 g1 a2 g3 a4 g5 a6 g7 c8 a9 a10=r.2.2.1∧zmf a0 g1 a2 g3 a4 g5 a6 g7 c8 a9 a10=r.2.2.2.1∧zlx a0 g1 a2 g3 a4 g5 a6 g7 c8 a9 a10=r.2.2.2.2.1∧zlw a0 g1 a2 g3 a4 g5 a6 g7 c8 a9 a10=r.2.2.2.2.2.1∧zl5 a0 g1 a2 g3 a4 g5 a6 g7 c8 a9 a10=r.2.2.2.2.2.2.1∧zmk a0 g1 a2 g3 a4 g5 a6 g7 c8 a9 a10=r.2.2.2.2.2.2.2:=of8 h
theorem y47(h:z5r a0 g1 a2 g3 a4 g5 a6 g7 a8 g9 a10 g11=some e12):zrm a0 g1 a2 g3 a4 g5 a6 g7 a8 g9 a10 g11=true∧zpu a0 g1 a2 g3 a4 g5 a6 g7 a8 g9 a10 g11=e12:=of1 h
theorem y0w(h:z4x a0 g1 a2 g3=some e4):zpz a0 g1 a2 g3=true∧zoh a0 g1 a2 g3=e4:=of1 h
theorem y9a(h:z99 a0 g1 a2 g3 a4 g5=some e6):y1a a0 g1 a2 g3 a4 g5=true∧zz2 a0 g1 a2 g3 a4 g5=e6:=of1 h
theorem zcx(h:z0l a0 g1=some c2):z68 a0 g1=true∧z5w a0 g1=c2:=of1 h
theorem zem(h:z0n a0 g1=some c2):z6n a0 g1=true∧z6g a0 g1=c2:=of1 h
theorem z7o(h:z5y a0=some a1):z73 a0=true∧z17 a0=a1:=of1 h
theorem zbk(hm:a4=big) (h:z03 a0 c1 g2 a4 c3=some (Sum.inl c5)):z3a a0 c1 g2 c3=true∧z33 a0 c1 g2 c3=true∧z5c a0 c1 g2 c3=c5:=by
 subst hm;exact ol1 h
theorem zbl{r:Int×Bool}(hm:a4=big) (h:z03 a0 c1 g2 a4 c3=some (Sum.inr r)):z3a a0 c1 g2 c3=true∧z33 a0 c1 g2 c3=false∧zbd a0 c1 g2 c3=r.1∧zbc a0 c1 g2 c3=r.2:=by
 subst hm;exact or2 h
theorem y6f(h:z7b a0 g1 a2 g3 a4 g5 a6 g7 c8 a9 a10 a11 g12 a13 g14 a15 g16 a17 g18 c19 a20 a21=some e22):znh a0 g1 a2 g3 a4 g5 a6 g7 c8 a9 a10 a11 g12 a13 g14 a15 g16 a17 g18 c19 a20 a21=true∧zlp a0 g1 a2 g3 a4 g5 a6 g7 c8 a9 a10 a11 g12 a13 g14 a15 g16 a17 g18 c19 a20 a21=e22:=of1 h
theorem zes(h:z0p a0 g1=some c2):z6w a0 g1=true∧z6o a0 g1=c2:=of1 h
theorem zzc(h:z90 a0=some a1):zrd a0=true∧z87 a0=a1:=of1 h
theorem y5l{r:Nat×Nat×Bool}(hm:a3=big)(h:z1m a0 a3 a1 a2=some r):z8x a0 a1 a2=true∧z6m a0 a1 a2=r.1∧y4d a0 a1 a2=r.2.1∧y35 a0 a1 a2=r.2.2:=by
 subst hm;exact of3 h
theorem zar(h:z0g a0 g1=some e2):z5b a0 g1=true∧z59 a0 g1=e2:=of1 h
theorem zbj(h:z0i a0 g1=some e2):z61 a0 g1=true∧z5h a0 g1=e2:=of1 h
theorem zch(h:z0k a0 g1=some e2):z6a a0 g1=true∧z66 a0 g1=e2:=of1 h
theorem y9y(h:zb1 a0=some a1):y4j a0=true∧zr5 a0=a1:=of1 h
theorem y3b(h:z5i a0=some a1):zs5 a0=true∧z0v a0=a1:=of1 h
theorem y73(h:z71 a0=some a1):zwz a0=true∧z42 a0=a1:=of1 h
theorem y4a{r:Unit}(hm:a6=big) (h:z0x c0 g1 a2 a3 a6 a4 c5=some (Sum.inl r)):zfj c0 g1 a2 a3 a4 c5=true∧zej c0 g1 a2 a3 a4 c5=true:=by
 subst hm;exact ol0 h
theorem y2s{r:Nat×Int×Bool}(hm:a6=big) (h:z0x c0 g1 a2 a3 a6 a4 c5=some (Sum.inr r)):zfj c0 g1 a2 a3 a4 c5=true∧zej c0 g1 a2 a3 a4 c5=false∧y21 c0 g1 a2 a3 a4 c5=r.1∧y26 c0 g1 a2 a3 a4 c5=r.2.1∧y2g c0 g1 a2 a3 a4 c5=r.2.2:=by
 subst hm;exact or3 h
theorem zfc(h:z1i a0 g1=some e2):z7m a0 g1=true∧z6x a0 g1=e2:=of1 h
theorem zza(h:z9d a0 g1 a2 g3 a4 g5 a6 g7 c8 a9 a10=some e11):zsh a0 g1 a2 g3 a4 g5 a6 g7 c8 a9 a10=true∧zow a0 g1 a2 g3 a4 g5 a6 g7 c8 a9 a10=e11:=of1 h
theorem zq2(h:z4f a0 g1=some e2):zjk a0 g1=true∧zia a0 g1=e2:=of1 h
theorem y5g(h:z6e a0 g1=some e2):ztu a0 g1=true∧zsl a0 g1=e2:=of1 h
theorem z6i(h:z5p a0=some a1):z4a a0=true∧z1b a0=a1:=of1 h
theorem y1y{r:Nat×Nat×Bool}(h:z2v a0 a1=some r):zhw a0 a1=true∧zg1 a0 a1=r.1∧zg3 a0 a1=r.2.1∧zfx a0 a1=r.2.2:=of3 h
theorem y1f(h:z4z a0 g1 a2 g3 a4 g5 a6 g7 c8 a9 a10 c11=some e12):zq3 a0 g1 a2 g3 a4 g5 a6 g7 c8 a9 a10 c11=true∧zoe a0 g1 a2 g3 a4 g5 a6 g7 c8 a9 a10 c11=e12:=of1 h
theorem zuc(h:z2x a0 g1 a2 g3 a4 g5 a6 g7 c8 a9 a10 c11 a12=some a13):zkc a0 g1 a2 g3 a4 g5 a6 g7 c8 a9 a10 c11 a12=true∧zas a0 g1 a2 g3 a4 g5 a6 g7 c8 a9 a10 c11 a12=a13:=of1 h
theorem z9k(hm:a5=big) (h:z00 a0 c1 g2 a3 a5 c4=some (Sum.inl c6)):z2e a0 c1 g2 a3 c4=true∧z2a a0 c1 g2 a3 c4=true∧z06 a0 c1 g2 a3 c4=c6:=by
 subst hm;exact ol1 h
theorem z9p{r:Int×Bool}(hm:a5=big) (h:z00 a0 c1 g2 a3 a5 c4=some (Sum.inr r)):z2e a0 c1 g2 a3 c4=true∧z2a a0 c1 g2 a3 c4=false∧z9a a0 c1 g2 a3 c4=r.1∧z95 a0 c1 g2 a3 c4=r.2:=by
 subst hm;exact or2 h
theorem zmt{r:Int×Bool}(hm:a4=big)(h:z1c a0 g1 a2 a4 c3=some r):zpy a0 g1 a2 c3=true∧zln a0 g1 a2 c3=r.1∧zyj a0 g1 a2 c3=r.2:=by
 subst hm;exact of2 h
theorem y7b(h:z8a a0 g1 a2 g3 a4 g5 a6 g7 c8 a9 a10 c11 a12 a13 a14=some e15):zz9 a0 g1 a2 g3 a4 g5 a6 g7 c8 a9 a10 c11 a12 a13 a14=true∧zvg a0 g1 a2 g3 a4 g5 a6 g7 c8 a9 a10 c11 a12 a13 a14=e15:=of1 h
theorem zta{r:Int×Int×Nat×Nat×Nat}(h:z0s a0 g1 a2 g3 a4 g5 a6=some r):zig a0 g1 a2 g3 a4 g5 a6=true∧z28 a0 g1 a2 g3 a4 g5 a6=r.1∧z2c a0 g1 a2 g3 a4 g5 a6=r.2.1∧z3e a0 g1 a2 g3 a4 g5 a6=r.2.2.1∧z6t a0 g1 a2 g3 a4 g5 a6=r.2.2.2.1∧z9y a0 g1 a2 g3 a4 g5 a6=r.2.2.2.2:=of5 h
theorem y6a{r:Int×Int×Nat×Nat}(h:z2y a0 g1 a2 g3 a4 g5 a6=some r):zw1 a0 g1 a2 g3 a4 g5 a6=true∧zal a0 g1 a2 g3 a4 g5 a6=r.1∧zls a0 g1 a2 g3 a4 g5 a6=r.2.1∧ztt a0 g1 a2 g3 a4 g5 a6=r.2.2.1∧y6r a0 g1 a2 g3 a4 g5 a6=r.2.2.2:=of4 h
theorem zrj{r:Unit}(hm:a5=big) (h:z0o a0 c1 g2 a3 a5 c4=some (Sum.inl r)):z7f a0 c1 g2 a3 c4=true∧z6v a0 c1 g2 a3 c4=true:=by
 subst hm;exact ol0 h
theorem zsw{r:Int×Bool}(hm:a5=big) (h:z0o a0 c1 g2 a3 a5 c4=some (Sum.inr r)):z7f a0 c1 g2 a3 c4=true∧z6v a0 c1 g2 a3 c4=false∧zql a0 c1 g2 a3 c4=r.1∧zqm a0 c1 g2 a3 c4=r.2:=by
 subst hm;exact or2 h
theorem zx6(h:z3y a0 g1 a2 g3 a4 g5=some e6):zmw a0 g1 a2 g3 a4 g5=true∧zlg a0 g1 a2 g3 a4 g5=e6:=of1 h
theorem zoi(h:z4y a0 g1 a2 g3 a4 g5 a6 g7 a8=some a9):zi2 a0 g1 a2 g3 a4 g5 a6 g7 a8=true∧z7l a0 g1 a2 g3 a4 g5 a6 g7 a8=a9:=of1 h
theorem zz5(h:z94 a0 g1 a2 g3 a4 g5 a6 g7 a8=some a9):zst a0 g1 a2 g3 a4 g5 a6 g7 a8=true∧zp8 a0 g1 a2 g3 a4 g5 a6 g7 a8=a9:=of1 h
theorem zlb{r:Nat×Nat}(h:z27 a0 g1 a2 g3 a4 g5 a6 g7 c8 a9 a10 c11 a12 a13=some r):zff a0 g1 a2 g3 a4 g5 a6 g7 c8 a9 a10 c11 a12 a13=true∧ze9 a0 g1 a2 g3 a4 g5 a6 g7 c8 a9 a10 c11 a12 a13=r.1∧zdn a0 g1 a2 g3 a4 g5 a6 g7 c8 a9 a10 c11 a12 a13=r.2:=of2 h
theorem y78(h:z78 a0 g1 a2 g3 a4 g5 a6=some a7):zvz a0 g1 a2 g3 a4 g5 a6=true∧zl3 a0 g1 a2 g3 a4 g5 a6=a7:=of1 h
theorem y6n(h:z7a a0 g1 a2 g3 a4 g5 a6=some a7):zw0 a0 g1 a2 g3 a4 g5 a6=true∧zm3 a0 g1 a2 g3 a4 g5 a6=a7:=of1 h
theorem zlc{r:Nat×Nat}(h:z2t a0 g1 a2 g3 a4 g5 a6 g7 c8 a9 a10 c11 a12 a13=some r):zf7 a0 g1 a2 g3 a4 g5 a6 g7 c8 a9 a10 c11 a12 a13=true∧zec a0 g1 a2 g3 a4 g5 a6 g7 c8 a9 a10 c11 a12 a13=r.1∧ze8 a0 g1 a2 g3 a4 g5 a6 g7 c8 a9 a10 c11 a12 a13=r.2:=of2 h
theorem y3r{r:Nat×Nat}(h:z47 a0 g1 a2 g3 a4 g5 a6 g7 c8 a9 a10 c11 a12 a13=some r):zs6 a0 g1 a2 g3 a4 g5 a6 g7 c8 a9 a10 c11 a12 a13=true∧zhs a0 g1 a2 g3 a4 g5 a6 g7 c8 a9 a10 c11 a12 a13=r.1∧zhv a0 g1 a2 g3 a4 g5 a6 g7 c8 a9 a10 c11 a12 a13=r.2:=of2 h
theorem zvc{r:Unit}(hm:a6=big) (h:z0f a0 c1 g2 a3 a6 a4 c5=some (Sum.inl r)):z8k a0 c1 g2 a3 a4 c5=true∧z7v a0 c1 g2 a3 a4 c5=true:=by
 subst hm;exact ol0 h
theorem zv7{r:Nat×Int×Bool}(hm:a6=big) (h:z0f a0 c1 g2 a3 a6 a4 c5=some (Sum.inr r)):z8k a0 c1 g2 a3 a4 c5=true∧z7v a0 c1 g2 a3 a4 c5=false∧ztc a0 c1 g2 a3 a4 c5=r.1∧ztf a0 c1 g2 a3 a4 c5=r.2.1∧zto a0 c1 g2 a3 a4 c5=r.2.2:=by
 subst hm;exact or3 h
theorem zog(h:z4u a0 g1 a2 g3 a4 g5 a6 g7 c8 a9 a10=some e11):zc4 a0 g1 a2 g3 a4 g5 a6 g7 c8 a9 a10=true∧z7k a0 g1 a2 g3 a4 g5 a6 g7 c8 a9 a10=e11:=of1 h
theorem ztw{r:Nat×Nat×Nat×Nat}(h:z3p a0 g1 a2 g3 a4 g5 a6 g7 c8 a9 a10 c11 a12 a13=some r):znl a0 g1 a2 g3 a4 g5 a6 g7 c8 a9 a10 c11 a12 a13=true∧zl4 a0 g1 a2 g3 a4 g5 a6 g7 c8 a9 a10 c11 a12 a13=r.1∧zm4 a0 g1 a2 g3 a4 g5 a6 g7 c8 a9 a10 c11 a12 a13=r.2.1∧zu7 a0 g1 a2 g3 a4 g5 a6 g7 c8 a9 a10 c11 a12 a13=r.2.2.1∧zu2 a0 g1 a2 g3 a4 g5 a6 g7 c8 a9 a10 c11 a12 a13=r.2.2.2:=of4 h
theorem zw6(h:z2g a0 g1 a2 g3 a4 g5 a6 g7 c8 a9 a10 c11 a12 a13 a14 a15=some a16):zl9 a0 g1 a2 g3 a4 g5 a6 g7 c8 a9 a10 c11 a12 a13 a14 a15=true∧z82 a0 g1 a2 g3 a4 g5 a6 g7 c8 a9 a10 c11 a12 a13 a14 a15=a16:=of1 h
theorem zu8(h:z74 a0 g1 a2 g3 a4 g5 a6 g7 c8 a9 a10 c11 a12 a13 a14=some e15):zo2 a0 g1 a2 g3 a4 g5 a6 g7 c8 a9 a10 c11 a12 a13 a14=true∧zks a0 g1 a2 g3 a4 g5 a6 g7 c8 a9 a10 c11 a12 a13 a14=e15:=of1 h
theorem y1k(h:z2w a0 g1 a2 g3 a4 g5 a6 g7 c8 a9 a10 c11 a12 a13 a14 a15=some a16):zpx a0 g1 a2 g3 a4 g5 a6 g7 c8 a9 a10 c11 a12 a13 a14 a15=true∧zah a0 g1 a2 g3 a4 g5 a6 g7 c8 a9 a10 c11 a12 a13 a14 a15=a16:=of1 h
theorem y3h{r:Nat×Bool}(h:z4c a0 g1 a2 g3 a4 g5 a6 g7 c8 a9 a10 c11 a12 a13 a14 a15=some r):zrt a0 g1 a2 g3 a4 g5 a6 g7 c8 a9 a10 c11 a12 a13 a14 a15=true∧zqe a0 g1 a2 g3 a4 g5 a6 g7 c8 a9 a10 c11 a12 a13 a14 a15=r.1∧zqh a0 g1 a2 g3 a4 g5 a6 g7 c8 a9 a10 c11 a12 a13 a14 a15=r.2:=of2 h
theorem zvv{r:Unit}(hm:a18=big) (h:z0h c0 a1 a2 a3 g4 g5 g6 g7 a8 a9 a10 a11 c12 a13 a14 a18 a15 a16 c17=some (Sum.inl r)):zfe c0 a1 a2 a3 g4 g5 g6 g7 a8 a9 a10 a11 c12 a13 a14 a15 a16 c17=true∧zdq c0 a1 a2 a3 g4 g5 g6 g7 a8 a9 a10 a11 c12 a13 a14 a15 a16 c17=true:=by
 subst hm;exact ol0 h
theorem zvf{r:Nat×Nat×Int×Bool}(hm:a18=big) (h:z0h c0 a1 a2 a3 g4 g5 g6 g7 a8 a9 a10 a11 c12 a13 a14 a18 a15 a16 c17=some (Sum.inr r)):zfe c0 a1 a2 a3 g4 g5 g6 g7 a8 a9 a10 a11 c12 a13 a14 a15 a16 c17=true∧zdq c0 a1 a2 a3 g4 g5 g6 g7 a8 a9 a10 a11 c12 a13 a14 a15 a16 c17=false∧zii c0 a1 a2 a3 g4 g5 g6 g7 a8 a9 a10 a11 c12 a13 a14 a15 a16 c17=r.1∧zuw c0 a1 a2 a3 g4 g5 g6 g7 a8 a9 a10 a11 c12 a13 a14 a15 a16 c17=r.2.1∧zv8 c0 a1 a2 a3 g4 g5 g6 g7 a8 a9 a10 a11 c12 a13 a14 a15 a16 c17=r.2.2.1∧zv4 c0 a1 a2 a3 g4 g5 g6 g7 a8 a9 a10 a11 c12 a13 a14 a15 a16 c17=r.2.2.2:=by
 subst hm;exact or4 h
theorem y3x{r:Nat×Bool}(h:z4e a0 g1 a2 g3 a4 g5 a6 g7 c8 a9 a10 c11 a12 a13 a14=some r):zs7 a0 g1 a2 g3 a4 g5 a6 g7 c8 a9 a10 c11 a12 a13 a14=true∧zpq a0 g1 a2 g3 a4 g5 a6 g7 c8 a9 a10 c11 a12 a13 a14=r.1∧zpt a0 g1 a2 g3 a4 g5 a6 g7 c8 a9 a10 c11 a12 a13 a14=r.2:=of2 h
theorem y1t{r:Unit}(hm:a18=big) (h:z0r c0 a1 a2 a3 g4 g5 g6 g7 a8 a9 a10 a11 c12 a13 a14 a18 a15 a16 c17=some (Sum.inl r)):zk6 c0 a1 a2 a3 g4 g5 g6 g7 a8 a9 a10 a11 c12 a13 a14 a15 a16 c17=true∧zhc c0 a1 a2 a3 g4 g5 g6 g7 a8 a9 a10 a11 c12 a13 a14 a15 a16 c17=true:=by
 subst hm;exact ol0 h
theorem y17{r:Nat×Nat×Int×Bool}(hm:a18=big) (h:z0r c0 a1 a2 a3 g4 g5 g6 g7 a8 a9 a10 a11 c12 a13 a14 a18 a15 a16 c17=some (Sum.inr r)):zk6 c0 a1 a2 a3 g4 g5 g6 g7 a8 a9 a10 a11 c12 a13 a14 a15 a16 c17=true∧zhc c0 a1 a2 a3 g4 g5 g6 g7 a8 a9 a10 a11 c12 a13 a14 a15 a16 c17=false∧zmr c0 a1 a2 a3 g4 g5 g6 g7 a8 a9 a10 a11 c12 a13 a14 a15 a16 c17=r.1∧y0k c0 a1 a2 a3 g4 g5 g6 g7 a8 a9 a10 a11 c12 a13 a14 a15 a16 c17=r.2.1∧zzt c0 a1 a2 a3 g4 g5 g6 g7 a8 a9 a10 a11 c12 a13 a14 a15 a16 c17=r.2.2.1∧zzj c0 a1 a2 a3 g4 g5 g6 g7 a8 a9 a10 a11 c12 a13 a14 a15 a16 c17=r.2.2.2:=by
 subst hm;exact or4 h
theorem y4e{r:Nat×Nat×Bool}(h:z1p a0 g1 a2 g3 a4 g5 a6 g7 c8 a9 a10 c11 a12 a13 a14 a15=some r):zj8 a0 g1 a2 g3 a4 g5 a6 g7 c8 a9 a10 c11 a12 a13 a14 a15=true∧zc6 a0 g1 a2 g3 a4 g5 a6 g7 c8 a9 a10 c11 a12 a13 a14 a15=r.1∧zbs a0 g1 a2 g3 a4 g5 a6 g7 c8 a9 a10 c11 a12 a13 a14 a15=r.2.1∧zha a0 g1 a2 g3 a4 g5 a6 g7 c8 a9 a10 c11 a12 a13 a14 a15=r.2.2:=of3 h
theorem y81{r:Nat×Bool}(h:z6p a0 g1 a2 g3 a4 g5 a6 g7 c8 a9 a10 c11 a12 a13 a14=some r):zz6 a0 g1 a2 g3 a4 g5 a6 g7 c8 a9 a10 c11 a12 a13 a14=true∧zvn a0 g1 a2 g3 a4 g5 a6 g7 c8 a9 a10 c11 a12 a13 a14=r.1∧zw5 a0 g1 a2 g3 a4 g5 a6 g7 c8 a9 a10 c11 a12 a13 a14=r.2:=of2 h
theorem zvm{r:Nat×Nat×Bool}(h:z1h a0 g1 a2 g3 a4 g5 a6 g7 c8 a9 a10 c11 a12 a13 a14 a15=some r):z8d a0 g1 a2 g3 a4 g5 a6 g7 c8 a9 a10 c11 a12 a13 a14 a15=true∧z7p a0 g1 a2 g3 a4 g5 a6 g7 c8 a9 a10 c11 a12 a13 a14 a15=r.1∧z7r a0 g1 a2 g3 a4 g5 a6 g7 c8 a9 a10 c11 a12 a13 a14 a15=r.2.1∧z81 a0 g1 a2 g3 a4 g5 a6 g7 c8 a9 a10 c11 a12 a13 a14 a15=r.2.2:=of3 h
theorem y1z{r:Unit}(hm:a20=big) (h:z0e a0 a1 a2 a3 g4 g5 g6 g7 a8 a9 a10 a11 c12 a13 a14 a20 a15 a16 c17 g18 g19=some (Sum.inl r)):zjd a0 a1 a2 a3 g4 g5 g6 g7 a8 a9 a10 a11 c12 a13 a14 a15 a16 c17 g18 g19=true∧zi9 a0 a1 a2 a3 g4 g5 g6 g7 a8 a9 a10 a11 c12 a13 a14 a15 a16 c17 g18 g19=true:=by
 subst hm;exact ol0 h
theorem y1x {r:Nat×Nat×Int×Bool×(List Nat)×(List Nat)} (hm:a20=big) (h:z0e a0 a1 a2 a3 g4 g5 g6 g7 a8 a9 a10 a11 c12 a13 a14 a20 a15 a16 c17 g18 g19=some (Sum.inr r)):zjd a0 a1 a2 a3 g4 g5 g6 g7 a8 a9 a10 a11 c12 a13 a14 a15 a16 c17 g18 g19=true∧zi9 a0 a1 a2 a3 g4 g5 g6 g7 a8 a9 a10 a11 c12 a13 a14 a15 a16 c17 g18 g19=false∧zn0 a0 a1 a2 a3 g4 g5 g6 g7 a8 a9 a10 a11 c12 a13 a14 a15 a16 c17 g18 g19=r.1∧zmu a0 a1 a2 a3 g4 g5 g6 g7 a8 a9 a10 a11 c12 a13 a14 a15 a16 c17 g18 g19=r.2.1∧y05 a0 a1 a2 a3 g4 g5 g6 g7 a8 a9 a10 a11 c12 a13 a14 a15 a16 c17 g18 g19=r.2.2.1∧y0b a0 a1 a2 a3 g4 g5 g6 g7 a8 a9 a10 a11 c12 a13 a14 a15 a16 c17 g18 g19=r.2.2.2.1∧zmy a0 a1 a2 a3 g4 g5 g6 g7 a8 a9 a10 a11 c12 a13 a14 a15 a16 c17 g18 g19=r.2.2.2.2.1∧zmq a0 a1 a2 a3 g4 g5 g6 g7 a8 a9 a10 a11 c12 a13 a14 a15 a16 c17 g18 g19=r.2.2.2.2.2:=by
 subst hm;exact or6 h
theorem y7l {r:Nat×Nat×Bool×(List Nat)×(List Nat)} (h:z3m a0 g1 a2 g3 a4 g5 a6 g7 c8 a9 a10 a11 a12 a13 a14=some r):zz7 a0 g1 a2 g3 a4 g5 a6 g7 c8 a9 a10 a11 a12 a13 a14=true∧z4q a0 g1 a2 g3 a4 g5 a6 g7 c8 a9 a10 a11 a12 a13 a14=r.1∧y80 a0 g1 a2 g3 a4 g5 a6 g7 c8 a9 a10 a11 a12 a13 a14=r.2.1∧zwl a0 g1 a2 g3 a4 g5 a6 g7 c8 a9 a10 a11 a12 a13 a14=r.2.2.1∧zd1 a0 g1 a2 g3 a4 g5 a6 g7 c8 a9 a10 a11 a12 a13 a14=r.2.2.2.1∧y8p a0 g1 a2 g3 a4 g5 a6 g7 c8 a9 a10 a11 a12 a13 a14=r.2.2.2.2:=of5 h
theorem y61{r:Nat×Bool}(h:z5a a0 g1 a2 g3 a4 g5 a6 g7 c8 a9 a10 a11 a12 a13 a14=some r):ztx a0 g1 a2 g3 a4 g5 a6 g7 c8 a9 a10 a11 a12 a13 a14=true∧zrv a0 g1 a2 g3 a4 g5 a6 g7 c8 a9 a10 a11 a12 a13 a14=r.1∧zsj a0 g1 a2 g3 a4 g5 a6 g7 c8 a9 a10 a11 a12 a13 a14=r.2:=of2 h
theorem zwf {r:Nat×Nat×Bool×(List Nat)×(List Nat)} (h:z14 a0 g1 a2 g3 a4 g5 a6 g7 c8 a9 a10 a11 a12 a13 a14=some r):zku a0 g1 a2 g3 a4 g5 a6 g7 c8 a9 a10 a11 a12 a13 a14=true∧z1k a0 g1 a2 g3 a4 g5 a6 g7 c8 a9 a10 a11 a12 a13 a14=r.1∧zw7 a0 g1 a2 g3 a4 g5 a6 g7 c8 a9 a10 a11 a12 a13 a14=r.2.1∧zki a0 g1 a2 g3 a4 g5 a6 g7 c8 a9 a10 a11 a12 a13 a14=r.2.2.1∧z5u a0 g1 a2 g3 a4 g5 a6 g7 c8 a9 a10 a11 a12 a13 a14=r.2.2.2.1∧zw4 a0 g1 a2 g3 a4 g5 a6 g7 c8 a9 a10 a11 a12 a13 a14=r.2.2.2.2:=of5 h
theorem y63{r:Nat×Bool}(h:z54 a0 g1 a2 g3 a4 g5 a6 g7 c8 a9 a10 a11 a12 a13 a14=some r):ztv a0 g1 a2 g3 a4 g5 a6 g7 c8 a9 a10 a11 a12 a13 a14=true∧zrh a0 g1 a2 g3 a4 g5 a6 g7 c8 a9 a10 a11 a12 a13 a14=r.1∧zs0 a0 g1 a2 g3 a4 g5 a6 g7 c8 a9 a10 a11 a12 a13 a14=r.2:=of2 h
end
end Go.Rf
