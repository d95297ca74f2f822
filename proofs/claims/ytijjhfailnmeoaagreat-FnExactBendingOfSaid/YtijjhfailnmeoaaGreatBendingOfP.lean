import Derived.Test.YtijjhfailnmeoaaGreatB
set_option linter.unusedVariables false
set_option linter.unusedSimpArgs false
set_option linter.unusedSectionVars false
set_option maxRecDepth 100000
set_option maxHeartbeats 4000000
namespace Go.Rf
open Go
noncomputable section
variable (a0:Nat) (c0:Int) (g0:List Nat) (a1:Nat) (c1:Int) (e1:Bool) (g1:List Nat) (m1:List Bool) (a2:Nat) (c2:Int) (e2:Bool) (g2:List Nat) (a3:Nat) (c3:Int) (g3:List Nat) (m3:List Bool) (a4:Nat) (c4:Int) (g4:List Nat) (a5:Nat) (c5:Int) (g5:List Nat) (a6:Nat) (c6:Int) (g6:List Nat) (a7:Nat) (c7:Int) (g7:List Nat) (a8:Nat) (c8:Int) (a9:Nat) (g9:List Nat) (a10:Nat) (a11:Nat) (c11:Int) (g11:List Nat) (a12:Nat) (c12:Int) (g12:List Nat) (a13:Nat) (a14:Nat) (g14:List Nat) (a15:Nat) (c15:Int) (a16:Nat) (g16:List Nat) (a17:Nat) (c17:Int) (c18:Int) (g18:List Nat) (c19:Int) (g19:List Nat) (a20:Nat) (g20:List Nat) (a21:Nat)
abbrev Nt1{A1:Type} (T:{R:Type}→(A1→Option R)→Option R):Prop:=∀ {R R':Type} (o:Option R→Option R'),o none=none→∀ k:A1→Option R,T (fun c1=>o (k c1))=o (T k)
abbrev Nt2{A1 A2:Type} (T:{R:Type}→(A1→A2→Option R)→Option R):Prop:=∀ {R R':Type} (o:Option R→Option R'),o none=none→∀ k:A1→A2→Option R,T (fun c1 c2=>o (k c1 c2))=o (T k)
abbrev Nt3{A1 A2 A3:Type} (T:{R:Type}→(A1→A2→A3→Option R)→Option R):Prop:=∀ {R R':Type} (o:Option R→Option R'),o none=none→∀ k:A1→A2→A3→Option R,T (fun c1 c2 c3=>o (k c1 c2 c3))=o (T k)
abbrev Nt4{A1 A2 A3 A4:Type} (T:{R:Type}→(A1→A2→A3→A4→Option R)→Option R):Prop:=∀ {R R':Type} (o:Option R→Option R'),o none=none→∀ k:A1→A2→A3→A4→Option R,T (fun c1 c2 c3 c4=>o (k c1 c2 c3 c4))=o (T k)
abbrev Nt5{A1 A2 A3 A4 A5:Type} (T:{R:Type}→(A1→A2→A3→A4→A5→Option R)→Option R):Prop:=∀ {R R':Type} (o:Option R→Option R'),o none=none→∀ k:A1→A2→A3→A4→A5→Option R,T (fun c1 c2 c3 c4 c5=>o (k c1 c2 c3 c4 c5))=o (T k)
abbrev Nt6{A1 A2 A3 A4 A5 A6:Type} (T:{R:Type}→(A1→A2→A3→A4→A5→A6→Option R)→Option R):Prop:=∀ {R R':Type} (o:Option R→Option R'),o none=none→∀ k:A1→A2→A3→A4→A5→A6→Option R,T (fun c1 c2 c3 c4 c5 c6=>o (k c1 c2 c3 c4 c5 c6))=o (T k)
abbrev Nt8{A1 A2 A3 A4 A5 A6 A7 A8:Type} (T:{R:Type}→(A1→A2→A3→A4→A5→A6→A7→A8→Option R)→Option R):Prop:=∀ {R R':Type} (o:Option R→Option R'),o none=none→∀ k:A1→A2→A3→A4→A5→A6→A7→A8→Option R,T (fun c1 c2 c3 c4 c5 c6 c7 c8=>o (k c1 c2 c3 c4 c5 c6 c7 c8))=o (T k)
def zdt{R:Type}(k_:Bool→Option R):Option R:=(br (fcmp .neq .f64 a0 a0) (br (fcmp .neq .f64 a0 a0) (k_ (fcmp .neq .f64 a1 a1)) (k_ Bool.false)) (br (fcmp .neq .f64 a1 a1) (br (fcmp .neq .f64 a0 a0) (k_ (fcmp .neq .f64 a1 a1)) (k_ Bool.false)) (br (fcmp .eql .f64 a0 0) (br (fcmp .eql .f64 a1 0) (k_ (beqB (fcmp .gtr .f64 (fop .quo .f64 4607182418800017408 a0) 0) (fcmp .gtr .f64 (fop .quo .f64 4607182418800017408 a1) 0))) (k_ (fcmp .eql .f64 a0 a1))) (k_ (fcmp .eql .f64 a0 a1)))))
def z5v:Option (Bool):=zdt a0 a1 (fun c0_=>some c0_)
theorem zz7:Nt1 (fun {R}=>zdt (R:=R) a0 a1):=by
 intro R R' o h0 k;unfold zdt;repeat (first | apply grd_out h0 | apply br_out | rfl)
def z4h:Bool:=(z5v a0 a1).isSome
def z3z:Bool:=((z5v a0 a1).getD default)
def zj5{R:Type}(k_:Bool→Option R):Option R:=(br (leI c1 c0) (k_ (leI c0 c2)) (k_ Bool.false))
def z8g:Option (Bool):=zj5 c0 c1 c2 (fun c0_=>some c0_)
theorem y5d:Nt1 (fun {R}=>zj5 (R:=R) c0 c1 c2):=by
 intro R R' o h0 k;unfold zj5;repeat (first | apply grd_out h0 | apply br_out | rfl)
def z89:Bool:=(z8g c0 c1 c2).isSome
def z3v:Bool:=((z8g c0 c1 c2).getD default)
def zmm{R:Type}(k_:Bool→Option R):Option R:=(k_ (fcmp .eql .f32 (fop .sub .f32 a0 a0) 0))
def z87:Option (Bool):=zmm a0 (fun c0_=>some c0_)
theorem y1a:Nt1 (fun {R}=>zmm (R:=R) a0):=by
 intro R R' o h0 k;unfold zmm;repeat (first | apply grd_out h0 | apply br_out | rfl)
def z2j:Bool:=(z87 a0).isSome
def z25:Bool:=((z87 a0).getD default)
def zln{R:Type}(k_:Bool→Option R):Option R:=(br (leI c1 c0) (k_ (leI c0 c2)) (k_ Bool.false))
def z98:Option (Bool):=zln c0 c1 c2 (fun c0_=>some c0_)
theorem y74:Nt1 (fun {R}=>zln (R:=R) c0 c1 c2):=by
 intro R R' o h0 k;unfold zln;repeat (first | apply grd_out h0 | apply br_out | rfl)
def zs0:Bool:=(z98 c0 c1 c2).isSome
def zpy:Bool:=((z98 c0 c1 c2).getD default)
def zbw{R:Type}(a:List Nat)(q2j:Int)(k_:Int→Option R):Option R:=(br (ltI (subI .i64 q2j (Int.ofNat a0)) 0) (k_ (Int.negSucc 0)) (k_ (subI .i64 q2j (Int.ofNat a0))))
def z58:Option (Int):=zbw a0 g1 c2 (fun c0_=>some c0_)
theorem zw8:Nt1 (fun {R}=>zbw (R:=R) a0 g1 c2):=by
 intro R R' o h0 k;unfold zbw;repeat (first | apply grd_out h0 | apply br_out | rfl)
def zqa:Bool:=(z58 a0 g1 c2).isSome
def zgq:Int:=((z58 a0 g1 c2).getD default)
def zjn{R:Type}(k_:Bool→Option R):Option R:=(k_ (fcmp .eql .f32 (fop .sub .f32 a0 a0) 0))
def z7j:Option (Bool):=zjn a0 (fun c0_=>some c0_)
theorem zzo:Nt1 (fun {R}=>zjn (R:=R) a0):=by
 intro R R' o h0 k;unfold zjn;repeat (first | apply grd_out h0 | apply br_out | rfl)
def z0x:Bool:=(z7j a0).isSome
def z0r:Bool:=((z7j a0).getD default)
def zc0{R:Type}(a:List Nat)(q2j:Int)(k_:Int→Option R):Option R:=(br (ltI (subI .i64 q2j (Int.ofNat a0)) 0) (k_ (Int.negSucc 0)) (k_ (subI .i64 q2j (Int.ofNat a0))))
def z53:Option (Int):=zc0 a0 g1 c2 (fun c0_=>some c0_)
theorem zwm:Nt1 (fun {R}=>zc0 (R:=R) a0 g1 c2):=by
 intro R R' o h0 k;unfold zc0;repeat (first | apply grd_out h0 | apply br_out | rfl)
def zci:Bool:=(z53 a0 g1 c2).isSome
def z16:Int:=((z53 a0 g1 c2).getD default)
def zkk{R:Type}(q2p q2s q2r:Nat)(k_:Unit→Option R):Option R:=(k_ ())
def zkf:Option (Unit):=zkk a0 a1 a2 (fun _=>some ())
theorem zzl:Nt1 (fun {R}=>zkk (R:=R) a0 a1 a2):=by
 intro R R' o h0 k;unfold zkk;repeat (first | apply grd_out h0 | apply br_out | rfl)
def zrs:Bool:=(zkf a0 a1 a2).isSome
def zg7{R:Type}(k_:Bool→Option R):Option R:=(br (fcmp .geq .f32 a0 a1) (k_ (fcmp .leq .f32 a0 a2)) (k_ Bool.false))
def z6i:Option (Bool):=zg7 a0 a1 a2 (fun c0_=>some c0_)
theorem y10:Nt1 (fun {R}=>zg7 (R:=R) a0 a1 a2):=by
 intro R R' o h0 k;unfold zg7;repeat (first | apply grd_out h0 | apply br_out | rfl)
def zme:Bool:=(z6i a0 a1 a2).isSome
def zjf:Bool:=((z6i a0 a1 a2).getD default)
def z7v{R:Type}(q00:Nat)(q03:List Nat)(q02:Nat)(q04:List Nat)(q01:Nat)(q05:List Nat)(q06:Nat)(q07:List Nat)(q0e:Int)(q0j q0k:Nat)(i:Int)(k_:Nat→Option R):Option R:=(grd (okIx i q06) (grd (okIx i q06) (k_ (fop .quo .f32 (fop .mul .f32 (fOI .f32 q0e) (gF q07 (Nat.succ (ixO 0 i 3)))) (fop .mul .f32 1086918619 (gF q07 (ixO 0 i 3)))))))
def z3a:Option (Nat):=z7v a0 g1 a2 g3 a4 g5 a6 g7 c8 a9 a10 c11 (fun c0_=>some c0_)
theorem zrl:Nt1 (fun {R}=>z7v (R:=R) a0 g1 a2 g3 a4 g5 a6 g7 c8 a9 a10 c11):=by
 intro R R' o h0 k;unfold z7v;repeat (first | apply grd_out h0 | apply br_out | rfl)
def zkx:Bool:=(z3a a0 g1 a2 g3 a4 g5 a6 g7 c8 a9 a10 c11).isSome
def zb3:Nat:=((z3a a0 g1 a2 g3 a4 g5 a6 g7 c8 a9 a10 c11).getD default)
def zix{R:Type}(q00:Nat)(q03:List Nat)(q02:Nat)(q04:List Nat)(q01:Nat)(q05:List Nat)(q06:Nat)(q07:List Nat)(q0e:Int)(q0j q0k:Nat)(i:Int)(q3o:Nat)(k_:Nat→Option R):Option R:=(grd (okIx i q06) (k_ (fop .quo .f32 (fop .quo .f32 (fop .mul .f32 (fOI .f32 q0e) (fop .sub .f32 q0k (gF q07 (ixO 0 i 3)))) (fop .mul .f32 1073741824 (gF q07 (ixO 0 i 3)))) (fop .add .f32 (fop .quo .f32 (fop .mul .f32 (fOI .f32 q0e) (fop .sub .f32 q0k (gF q07 (ixO 0 i 3)))) (fop .mul .f32 1073741824 (gF q07 (ixO 0 i 3)))) q3o))))
def z8b:Option (Nat):=zix a0 g1 a2 g3 a4 g5 a6 g7 c8 a9 a10 c11 a12 (fun c0_=>some c0_)
theorem y4i:Nt1 (fun {R}=>zix (R:=R) a0 g1 a2 g3 a4 g5 a6 g7 c8 a9 a10 c11 a12):=by
 intro R R' o h0 k;unfold zix;repeat (first | apply grd_out h0 | apply br_out | rfl)
def y03:Bool:=(z8b a0 g1 a2 g3 a4 g5 a6 g7 c8 a9 a10 c11 a12).isSome
def zok:Nat:=((z8b a0 g1 a2 g3 a4 g5 a6 g7 c8 a9 a10 c11 a12).getD default)
def zaw{R:Type}(q00:Nat)(q03:List Nat)(q02:Nat)(q04:List Nat)(q01:Nat)(q05:List Nat)(q06:Nat)(q07:List Nat)(q0e:Int)(q0j q0k:Nat)(i:Int)(k_:Nat→Option R):Option R:=(grd (okIx i q06) (k_ (fop .quo .f32 (fop .mul .f32 (fOI .f32 q0e) (gF q07 (Nat.succ (ixO 0 i 3)))) (fop .mul .f32 1086918619 (gF q07 (ixO 0 i 3))))))
def z4b:Option (Nat):=zaw a0 g1 a2 g3 a4 g5 a6 g7 c8 a9 a10 c11 (fun c0_=>some c0_)
theorem zvl:Nt1 (fun {R}=>zaw (R:=R) a0 g1 a2 g3 a4 g5 a6 g7 c8 a9 a10 c11):=by
 intro R R' o h0 k;unfold zaw;repeat (first | apply grd_out h0 | apply br_out | rfl)
def zp3:Bool:=(z4b a0 g1 a2 g3 a4 g5 a6 g7 c8 a9 a10 c11).isSome
def zfd:Nat:=((z4b a0 g1 a2 g3 a4 g5 a6 g7 c8 a9 a10 c11).getD default)
def zrh{R:Type}  (k_:Nat→Option R):Option R:=(grd (okU .f64 9221120237041090561) (k_ (cnI .f64 9221120237041090561)))
def zec  : Option (Nat):=zrh (fun c0_=>some c0_)
theorem y9c  : Nt1 (fun {R}=>zrh (R:=R)):=by
 intro R R' o h0 k;unfold zrh;repeat (first | apply grd_out h0 | apply br_out | rfl)
def zz0  : Bool:=(zec).isSome
def zow  : Nat:=((zec).getD default)
def zso{R:Type}(k_:Nat→Option R):Option R:=(k_ (fop .add .f32 a0 (fop .mul .f32 a2 (fop .sub .f32 a1 a0))))
def zcp:Option (Nat):=zso a0 a1 a2 (fun c0_=>some c0_)
theorem y60:Nt1 (fun {R}=>zso (R:=R) a0 a1 a2):=by
 intro R R' o h0 k;unfold zso;repeat (first | apply grd_out h0 | apply br_out | rfl)
def zsl:Bool:=(zcp a0 a1 a2).isSome
def zpr:Nat:=((zcp a0 a1 a2).getD default)
def zez{R:Type}(k_:Nat→Option R):Option R:=(grd (fcvB .f64 .f32 a0) (k_ (fcvV .f64 .f32 a0)))
def z5z:Option (Nat):=zez a0 (fun c0_=>some c0_)
theorem zyp:Nt1 (fun {R}=>zez (R:=R) a0):=by
 intro R R' o h0 k;unfold zez;repeat (first | apply grd_out h0 | apply br_out | rfl)
def zk5:Bool:=(z5z a0).isSome
def zch:Nat:=((z5z a0).getD default)
def zr9{R:Type}(k_:Nat→Option R):Option R:=(grd (bnot (nanQ .f64 a0)) (grd (okU .f64 (bitI .andNot .u64 (Int.ofNat a0) 9223372036854775808)) (k_ (cnI .f64 (bitI .andNot .u64 (Int.ofNat a0) 9223372036854775808)))))
def ze4:Option (Nat):=zr9 a0 (fun c0_=>some c0_)
theorem y8x:Nt1 (fun {R}=>zr9 (R:=R) a0):=by
 intro R R' o h0 k;unfold zr9;repeat (first | apply grd_out h0 | apply br_out | rfl)
def y7m:Bool:=(ze4 a0).isSome
def y5r:Nat:=((ze4 a0).getD default)
def zgy{R:Type}(k_:Nat→Bool→Option R):Option R:=(grd (z2j a0) (br (bnot (z25 a0)) (k_ 0 Bool.false) (k_ a0 Bool.true)))
def z6a:Option (Nat×Bool):=zgy a0 (fun c0_ c1_=>some (c0_,c1_))
theorem y2x:Nt2 (fun {R}=>zgy (R:=R) a0):=by
 intro R R' o h0 k;unfold zgy;repeat (first | apply grd_out h0 | apply br_out | rfl)
def zoa:Bool:=(z6a a0).isSome
def zmy:Nat:=((z6a a0).getD default).1
def zmj:Bool:=((z6a a0).getD default).2
def zdn{R:Type}(k_:Int→Option R):Option R:=(grd (zci a0 (pF g1 0 (muN a0 1)) c6) (br (ltI (z16 a0 (pF g1 0 (muN a0 1)) c6) 0) (k_ (Int.negSucc 0)) (grd (zci a2 (pF g3 0 (muN a2 1)) (z16 a0 (pF g1 0 (muN a0 1)) c6)) (br (ltI (z16 a2 (pF g3 0 (muN a2 1)) (z16 a0 (pF g1 0 (muN a0 1)) c6)) 0) (k_ (Int.negSucc 0)) (grd (zci a4 (pF g5 0 (muN a4 1)) (z16 a2 (pF g3 0 (muN a2 1)) (z16 a0 (pF g1 0 (muN a0 1)) c6))) (br (ltI (z16 a4 (pF g5 0 (muN a4 1)) (z16 a2 (pF g3 0 (muN a2 1)) (z16 a0 (pF g1 0 (muN a0 1)) c6))) 0) (k_ (Int.negSucc 0)) (k_ (z16 a4 (pF g5 0 (muN a4 1)) (z16 a2 (pF g3 0 (muN a2 1)) (z16 a0 (pF g1 0 (muN a0 1)) c6))))))))))
def z60:Option (Int):=zdn a0 g1 a2 g3 a4 g5 c6 (fun c0_=>some c0_)
theorem zyf:Nt1 (fun {R}=>zdn (R:=R) a0 g1 a2 g3 a4 g5 c6):=by
 intro R R' o h0 k;unfold zdn;repeat (first | apply grd_out h0 | apply br_out | rfl)
def zte:Bool:=(z60 a0 g1 a2 g3 a4 g5 c6).isSome
def z8h:Int:=((z60 a0 g1 a2 g3 a4 g5 c6).getD default)
def zdo{R:Type}(k_:Nat→Bool→Option R):Option R:=(grd (z0x a0) (br (bnot (z0r a0)) (k_ 0 Bool.false) (k_ a0 Bool.true)))
def z4j:Option (Nat×Bool):=zdo a0 (fun c0_ c1_=>some (c0_,c1_))
theorem zzp:Nt2 (fun {R}=>zdo (R:=R) a0):=by
 intro R R' o h0 k;unfold zdo;repeat (first | apply grd_out h0 | apply br_out | rfl)
def zs4:Bool:=(z4j a0).isSome
def zr0:Nat:=((z4j a0).getD default).1
def zr1:Bool:=((z4j a0).getD default).2
def zfu{R:Type}(k_:Bool→Option R):Option R:=(grd (z0x a0) (br (z0r a0) (k_ (fcmp .gtr .f32 a0 0)) (k_ Bool.false)))
def z6k:Option (Bool):=zfu a0 (fun c0_=>some c0_)
theorem y0m:Nt1 (fun {R}=>zfu (R:=R) a0):=by
 intro R R' o h0 k;unfold zfu;repeat (first | apply grd_out h0 | apply br_out | rfl)
def zaf:Bool:=(z6k a0).isSome
def z9d:Bool:=((z6k a0).getD default)
def zgz{R:Type}(k_:Bool→Option R):Option R:=(grd (z2j a0) (br (z25 a0) (k_ (fcmp .geq .f32 a0 0)) (k_ Bool.false)))
def z7b:Option (Bool):=zgz a0 (fun c0_=>some c0_)
theorem y28:Nt1 (fun {R}=>zgz (R:=R) a0):=by
 intro R R' o h0 k;unfold zgz;repeat (first | apply grd_out h0 | apply br_out | rfl)
def zno:Bool:=(z7b a0).isSome
def zlg:Bool:=((z7b a0).getD default)
def z8s{R:Type}(k_:Bool→Option R):Option R:=(grd (z2j a0) (br (bnot (z25 a0)) (k_ Bool.true) (k_ (fcmp .leq .f32 a0 0))))
def z3q:Option (Bool):=z8s a0 (fun c0_=>some c0_)
theorem zt6:Nt1 (fun {R}=>z8s (R:=R) a0):=by
 intro R R' o h0 k;unfold z8s;repeat (first | apply grd_out h0 | apply br_out | rfl)
def zlu:Bool:=(z3q a0).isSome
def zl4:Bool:=((z3q a0).getD default)
def zeq{R:Type}(k_:Bool→Option R):Option R:=(grd (z4h (fcvV .f32 .f64 a0) (fcvV .f32 .f64 a3)) (br (bnot (z3z (fcvV .f32 .f64 a0) (fcvV .f32 .f64 a3))) (k_ Bool.false) (grd (z4h (fcvV .f32 .f64 a1) (fcvV .f32 .f64 a4)) (br (bnot (z3z (fcvV .f32 .f64 a1) (fcvV .f32 .f64 a4))) (k_ Bool.false) (grd (z4h (fcvV .f32 .f64 a2) (fcvV .f32 .f64 a5)) (br (bnot (z3z (fcvV .f32 .f64 a2) (fcvV .f32 .f64 a5))) (k_ Bool.false) (k_ Bool.true)))))))
def z5u:Option (Bool):=zeq a0 a1 a2 a3 a4 a5 (fun c0_=>some c0_)
theorem zym:Nt1 (fun {R}=>zeq (R:=R) a0 a1 a2 a3 a4 a5):=by
 intro R R' o h0 k;unfold zeq;repeat (first | apply grd_out h0 | apply br_out | rfl)
def zst:Bool:=(z5u a0 a1 a2 a3 a4 a5).isSome
def zq9:Bool:=((z5u a0 a1 a2 a3 a4 a5).getD default)
def zfy{R:Type}(k_:Bool→Option R):Option R:=(grd (z0x a0) (br (z0r a0) (k_ (fcmp .geq .f32 a0 0)) (k_ Bool.false)))
def z6h:Option (Bool):=zfy a0 (fun c0_=>some c0_)
theorem y0s:Nt1 (fun {R}=>zfy (R:=R) a0):=by
 intro R R' o h0 k;unfold zfy;repeat (first | apply grd_out h0 | apply br_out | rfl)
def z7t:Bool:=(z6h a0).isSome
def z7d:Bool:=((z6h a0).getD default)
def zg6{R:Type}(q00:Nat)(q03:List Nat)(q02:Nat)(q04:List Nat)(q01:Nat)(q05:List Nat)(q06:Nat)(q07:List Nat)(q0e:Int)(q0j q0k:Nat)(i:Int)(q0l:Nat)(k_:Bool→Option R):Option R:=(grd (okIx i q06) (grd (z0x (fop .sub .f32 (fop .sub .f32 981668463 (gF q07 (Nat.succ (Nat.succ (ixO 0 i 3))))) q0l)) (br (z0r (fop .sub .f32 (fop .sub .f32 981668463 (gF q07 (Nat.succ (Nat.succ (ixO 0 i 3))))) q0l)) (grd (okIx i q06) (grd (z0x (fop .sub .f32 (fop .sub .f32 1048508891 (gF q07 (Nat.succ (Nat.succ (ixO 0 i 3))))) q0l)) (k_ (z0r (fop .sub .f32 (fop .sub .f32 1048508891 (gF q07 (Nat.succ (Nat.succ (ixO 0 i 3))))) q0l))))) (k_ Bool.false))))
def z6j:Option (Bool):=zg6 a0 g1 a2 g3 a4 g5 a6 g7 c8 a9 a10 c11 a12 (fun c0_=>some c0_)
theorem y1l:Nt1 (fun {R}=>zg6 (R:=R) a0 g1 a2 g3 a4 g5 a6 g7 c8 a9 a10 c11 a12):=by
 intro R R' o h0 k;unfold zg6;repeat (first | apply grd_out h0 | apply br_out | rfl)
def zup:Bool:=(z6j a0 g1 a2 g3 a4 g5 a6 g7 c8 a9 a10 c11 a12).isSome
def ztd:Bool:=((z6j a0 g1 a2 g3 a4 g5 a6 g7 c8 a9 a10 c11 a12).getD default)
def zj0{R:Type}(k_:Nat→Nat→Bool→Option R):Option R:=(grd (z0x a0) (br (bnot (z0r a0)) (k_ 0 0 Bool.false) (grd (z0x a1) (br (bnot (z0r a1)) (k_ 0 0 Bool.false) (k_ a0 a1 Bool.true)))))
def z5m:Option (Nat×Nat×Bool):=zj0 a0 a1 (fun c0_ c1_ c2_=>some (c0_,c1_,c2_))
theorem y4n:Nt3 (fun {R}=>zj0 (R:=R) a0 a1):=by
 intro R R' o h0 k;unfold zj0;repeat (first | apply grd_out h0 | apply br_out | rfl)
def zpd:Bool:=(z5m a0 a1).isSome
def zh5:Nat:=((z5m a0 a1).getD default).1
def zh6:Nat:=((z5m a0 a1).getD default).2.1
def zh9:Bool:=((z5m a0 a1).getD default).2.2
def zau{R:Type}(k_:Bool→Option R):Option R:=(grd (z2j a0) (k_ (bnot (z25 a0))))
def z4d:Option (Bool):=zau a0 (fun c0_=>some c0_)
theorem zw4:Nt1 (fun {R}=>zau (R:=R) a0):=by
 intro R R' o h0 k;unfold zau;repeat (first | apply grd_out h0 | apply br_out | rfl)
def zp8:Bool:=(z4d a0).isSome
def zna:Bool:=((z4d a0).getD default)
def z7m{R:Type}(q00:Nat)(q03:List Nat)(q02:Nat)(q04:List Nat)(q01:Nat)(q05:List Nat)(q06:Nat)(q07:List Nat)(q0e:Int)(q0j q0k:Nat)(i:Int)(k_:Bool→Option R):Option R:=(grd (z89 i 0 (subI .i64 (Int.ofNat q06) 1)) (k_ (z3v i 0 (subI .i64 (Int.ofNat q06) 1))))
def z2t:Option (Bool):=z7m a0 g1 a2 g3 a4 g5 a6 g7 c8 a9 a10 c11 (fun c0_=>some c0_)
theorem zpe:Nt1 (fun {R}=>z7m (R:=R) a0 g1 a2 g3 a4 g5 a6 g7 c8 a9 a10 c11):=by
 intro R R' o h0 k;unfold z7m;repeat (first | apply grd_out h0 | apply br_out | rfl)
def ziq:Bool:=(z2t a0 g1 a2 g3 a4 g5 a6 g7 c8 a9 a10 c11).isSome
def zhg:Bool:=((z2t a0 g1 a2 g3 a4 g5 a6 g7 c8 a9 a10 c11).getD default)
def zj2{R:Type}(k_:Bool→Option R):Option R:=(grd (zme a0 981668463 1048508891) (k_ (zjf a0 981668463 1048508891)))
def z8a:Option (Bool):=zj2 a0 (fun c0_=>some c0_)
theorem y55:Nt1 (fun {R}=>zj2 (R:=R) a0):=by
 intro R R' o h0 k;unfold zj2;repeat (first | apply grd_out h0 | apply br_out | rfl)
def zzy:Bool:=(z8a a0).isSome
def zxg:Bool:=((z8a a0).getD default)
def zj4{R:Type}(k_:Bool→Option R):Option R:=(grd (y7m a0) (k_ (fcmp .geq .f64 (y5r a0) 4841369599423283200)))
def z8d:Option (Bool):=zj4 a0 (fun c0_=>some c0_)
theorem y49:Nt1 (fun {R}=>zj4 (R:=R) a0):=by
 intro R R' o h0 k;unfold zj4;repeat (first | apply grd_out h0 | apply br_out | rfl)
def y08:Bool:=(z8d a0).isSome
def zxk:Bool:=((z8d a0).getD default)
def z20{R:Type} (kn_:Int→(List Nat)→Option R) (k0_:Int→Bool→(List Nat)→Option R):Option R:=(br (ltI c3 (Int.ofNat a0)) (grd (okIx c3 a0) (grd (okIx c3 a1) (kn_ (addI .i64 c3 1) (sF g4 (ixO 0 c3 1) (gF g2 (ixO 0 c3 1)))))) (k0_ c3 (ltI c3 (Int.ofNat a0)) g4))
theorem zs1{R R':Type}(o:Option R→Option R')(h0:o none=none) (kn_:Int→(List Nat)→Option R) (k0_:Int→Bool→(List Nat)→Option R):z20 a0 a1 g2 c3 g4 (fun i' b1'=>o (kn_ i' b1')) (fun c0_ c1_ c2_=>o (k0_ c0_ c1_ c2_))=o (z20 a0 a1 g2 c3 g4 kn_ k0_):=by
 unfold z20
 repeat (first | apply grd_out h0 | apply br_out | rfl)
def z15(an q2e:Nat)(b0:List Nat):Nat→Int→(List Nat)→Option ((Int×Bool×(List Nat)))
 | 0,_,_=>none
 | n+1,i,b1=>z20 an q2e b0  i b1  (fun i' b1'=>z15 an q2e b0 n i' b1') (fun c0_ c1_ c2_=>some (c0_,c1_,c2_))
theorem zfx:z15 a0 a1 g2 (a3+1) c4 g5=z20 a0 a1 g2  c4 g5  (fun i' b1'=>z15 a0 a1 g2 a3 i' b1') (fun c0_ c1_ c2_=>some (c0_,c1_,c2_)):=rfl
def zew:Bool:=(z15 a0 a1 g2 big c3 g4).isSome
def zu6:Int:=((z15 a0 a1 g2 big c3 g4).getD default).1
def ztz:Bool:=((z15 a0 a1 g2 big c3 g4).getD default).2.1
def za7:List Nat:=((z15 a0 a1 g2 big c3 g4).getD default).2.2
def z19{R:Type}(kn_:Nat→Int→Option R)(k0_:Nat→Int→Bool→Option R):Option R:=(br (ltI c5 (Int.ofNat a0)) (grd (okIx (subI .i64 c5 1) a0) (grd (okIx c5 a0) (grd (okIx c5 a3) (grd (okIx (subI .i64 c5 1) a3) (kn_ (fop .add .f32 a4 (fop .mul .f32 (fop .sub .f32 (gF g1 (ixO 0 c5 3)) (gF g1 (ixO 0 (subI .i64 c5 1) 3))) (fop .quo .f32 (fop .add .f32 (gF g2 (ixO 0 (subI .i64 c5 1) 1)) (gF g2 (ixO 0 c5 1))) 1073741824))) (addI .i64 c5 1)))))) (k0_ a4 c5 (ltI c5 (Int.ofNat a0))))
theorem zp5{R R':Type}(o:Option R→Option R')(h0:o none=none)(kn_:Nat→Int→Option R)(k0_:Nat→Int→Bool→Option R):z19 a0 g1 g2 a3 a4 c5 (fun all' i'=>o (kn_ all' i')) (fun c0_ c1_ c2_=>o (k0_ c0_ c1_ c2_))=o (z19 a0 g1 g2 a3 a4 c5 kn_ k0_):=by
 unfold z19
 repeat (first | apply grd_out h0 | apply br_out | rfl)
def z0d(q29:Nat)(b3 b4:List Nat)(q2t:Nat):Nat→Nat→Int→Option ((Nat×Int×Bool))
 | 0,_,_=>none
 | n+1,all,i=>z19 q29 b3 b4 q2t  all i  (fun all' i'=>z0d q29 b3 b4 q2t n all' i') (fun c0_ c1_ c2_=>some (c0_,c1_,c2_))
theorem zcy:z0d a0 g1 g2 a3 (a4+1) a5 c6=z19 a0 g1 g2 a3  a5 c6  (fun all' i'=>z0d a0 g1 g2 a3 a4 all' i') (fun c0_ c1_ c2_=>some (c0_,c1_,c2_)):=rfl
def zhf:Bool:=(z0d a0 g1 g2 a3 big a4 c5).isSome
def zf6:Nat:=((z0d a0 g1 g2 a3 big a4 c5).getD default).1
def zpn:Int:=((z0d a0 g1 g2 a3 big a4 c5).getD default).2.1
def zpu:Bool:=((z0d a0 g1 g2 a3 big a4 c5).getD default).2.2
def z3p{R:Type}(kn_:Nat→Int→Option R)(k0_:Nat→Int→Bool→Option R):Option R:=(br (ltI (addI .i64 c5 1) (Int.ofNat a0)) (grd (okIx (addI .i64 c5 1) a2) (grd (okIx c5 a2) (grd (okIx c5 a0) (grd (okIx (addI .i64 c5 1) a0) (kn_ (fop .add .f32 a4 (fop .mul .f32 (fop .sub .f32 (gF g1 (ixO 0 (addI .i64 c5 1) 3)) (gF g1 (ixO 0 c5 3))) (fop .mul .f32 1056964608 (fop .add .f32 (gF g3 (ixO 0 c5 1)) (gF g3 (ixO 0 (addI .i64 c5 1) 1)))))) (addI .i64 c5 1)))))) (k0_ a4 c5 (ltI (addI .i64 c5 1) (Int.ofNat a0))))
theorem zy6{R R':Type}(o:Option R→Option R')(h0:o none=none)(kn_:Nat→Int→Option R)(k0_:Nat→Int→Bool→Option R):z3p a0 g1 a2 g3 a4 c5 (fun sum' i'=>o (kn_ sum' i')) (fun c0_ c1_ c2_=>o (k0_ c0_ c1_ c2_))=o (z3p a0 g1 a2 g3 a4 c5 kn_ k0_):=by
 unfold z3p
 repeat (first | apply grd_out h0 | apply br_out | rfl)
def z0w(q29:Nat)(b3:List Nat)(q0q:Nat)(b5:List Nat):Nat→Nat→Int→Option ((Nat×Int×Bool))
 | 0,_,_=>none
 | n+1,sum,i=>z3p q29 b3 q0q b5  sum i  (fun sum' i'=>z0w q29 b3 q0q b5 n sum' i') (fun c0_ c1_ c2_=>some (c0_,c1_,c2_))
theorem zkt:z0w a0 g1 a2 g3 (a4+1) a5 c6=z3p a0 g1 a2 g3  a5 c6  (fun sum' i'=>z0w a0 g1 a2 g3 a4 sum' i') (fun c0_ c1_ c2_=>some (c0_,c1_,c2_)):=rfl
def zs2:Bool:=(z0w a0 g1 a2 g3 big a4 c5).isSome
def zn8:Nat:=((z0w a0 g1 a2 g3 big a4 c5).getD default).1
def y11:Int:=((z0w a0 g1 a2 g3 big a4 c5).getD default).2.1
def y0q:Bool:=((z0w a0 g1 a2 g3 big a4 c5).getD default).2.2
def z0u{R:Type}(kn_:Int→Option R)(k0_:Int→Option R)(k1_:Int→Bool→Option R):Option R:=(br (ltI c4 c2) (grd (okIx c4 a0) (br (beqB e1 (gB m3 (ixO 0 c4 1))) (k0_ c4) (kn_ (addI .i64 c4 1)))) (k1_ c4 (ltI c4 c2)))
theorem zjv{R R':Type}(o:Option R→Option R')(h0:o none=none)(kn_:Int→Option R)(k0_:Int→Option R)(k1_:Int→Bool→Option R):z0u a0 e1 c2 m3 c4 (fun t8'=>o (kn_ t8')) (fun c0_=>o (k0_ c0_)) (fun c0_ c1_=>o (k1_ c0_ c1_))=o (z0u a0 e1 c2 m3 c4 kn_ k0_ k1_):=by
 unfold z0u
 repeat (first | apply grd_out h0 | apply br_out | rfl)
def z04(sn:Nat)(v:Bool)(t7:Int)(b0:List Bool):Nat→Int→Option ((Int)⊕(Int×Bool))
 | 0,_=>none
 | n+1,t8=>z0u sn v t7 b0  t8  (fun t8'=>z04 sn v t7 b0 n t8') (fun c0_=>some (Sum.inl c0_)) (fun c0_ c1_=>some (Sum.inr (c0_,c1_)))
theorem z92:z04 a0 e1 c2 m3 (a4+1) c5=z0u a0 e1 c2 m3  c5  (fun t8'=>z04 a0 e1 c2 m3 a4 t8') (fun c0_=>some (Sum.inl c0_)) (fun c0_ c1_=>some (Sum.inr (c0_,c1_))):=rfl
def z7a:Bool:=(z04 a0 e1 c2 m3 big c4).isSome
def z6x:Bool:=oL (z04 a0 e1 c2 m3 big c4)
def z9z:Int:=((tL (z04 a0 e1 c2 m3 big c4)).getD default)
def zl7:Int:=((tR (z04 a0 e1 c2 m3 big c4)).getD default).1
def zl6:Bool:=((tR (z04 a0 e1 c2 m3 big c4)).getD default).2
def zh7{R:Type}(q27:Int)(q2d q2c:Nat)(q2j:Int)(k_:Int→Option R):Option R:=(grd (zte a0 (pF g1 0 (muN a0 1)) a2 (pF g3 0 (muN a2 1)) a4 (pF g5 0 (muN a4 1)) q2j) (br (ltI (z8h a0 (pF g1 0 (muN a0 1)) a2 (pF g3 0 (muN a2 1)) a4 (pF g5 0 (muN a4 1)) q2j) 0) (k_ (Int.negSucc 0)) (grd (zqa a6 (pF g7 0 (muN a6 3)) (z8h a0 (pF g1 0 (muN a0 1)) a2 (pF g3 0 (muN a2 1)) a4 (pF g5 0 (muN a4 1)) q2j)) (br (ltI (zgq a6 (pF g7 0 (muN a6 3)) (z8h a0 (pF g1 0 (muN a0 1)) a2 (pF g3 0 (muN a2 1)) a4 (pF g5 0 (muN a4 1)) q2j)) 0) (k_ (Int.negSucc 0)) (k_ (zgq a6 (pF g7 0 (muN a6 3)) (z8h a0 (pF g1 0 (muN a0 1)) a2 (pF g3 0 (muN a2 1)) a4 (pF g5 0 (muN a4 1)) q2j)))))))
def z7i:Option (Int):=zh7 a0 g1 a2 g3 a4 g5 a6 g7 c8 a9 a10 c11 (fun c0_=>some c0_)
theorem y2y:Nt1 (fun {R}=>zh7 (R:=R) a0 g1 a2 g3 a4 g5 a6 g7 c8 a9 a10 c11):=by
 intro R R' o h0 k;unfold zh7;repeat (first | apply grd_out h0 | apply br_out | rfl)
def zog:Bool:=(z7i a0 g1 a2 g3 a4 g5 a6 g7 c8 a9 a10 c11).isSome
def zlr:Int:=((z7i a0 g1 a2 g3 a4 g5 a6 g7 c8 a9 a10 c11).getD default)
def zc9{R:Type} (k_:Nat→(List Nat)→Option R):Option R:=(grd (okMk (Int.ofNat a0) (Int.ofNat a0) 4) (grd (zew a0 (toN (Int.ofNat a0)) g1 0 (rF (muN (toN (Int.ofNat a0)) 1))) (k_ (toN (Int.ofNat a0)) (za7 a0 (toN (Int.ofNat a0)) g1 0 (rF (muN (toN (Int.ofNat a0)) 1))))))
def z3w:Option (Nat×(List Nat)):=zc9 a0 g1 (fun c0_ c1_=>some (c0_,c1_))
theorem zx4:Nt2 (fun {R}=>zc9 (R:=R) a0 g1):=by
 intro R R' o h0 k;unfold zc9;repeat (first | apply grd_out h0 | apply br_out | rfl)
def zby:Bool:=(z3w a0 g1).isSome
def zai:Nat:=((z3w a0 g1).getD default).1
def zao:List Nat:=((z3w a0 g1).getD default).2
def z8j{R:Type}(q00:Nat)(q03:List Nat)(q02:Nat)(q04:List Nat)(q01:Nat)(q05:List Nat)(q06:Nat)(q07:List Nat)(q0e:Int)(q0j q0k q1s:Nat)(q26:List Nat)(k_:Nat→Option R):Option R:=(grd (zhf q1s q07 q26 q06 0 1) (k_ (zf6 q1s q07 q26 q06 0 1)))
def z3m:Option (Nat):=z8j a0 g1 a2 g3 a4 g5 a6 g7 c8 a9 a10 a11 g12 (fun c0_=>some c0_)
theorem zrv:Nt1 (fun {R}=>z8j (R:=R) a0 g1 a2 g3 a4 g5 a6 g7 c8 a9 a10 a11 g12):=by
 intro R R' o h0 k;unfold z8j;repeat (first | apply grd_out h0 | apply br_out | rfl)
def zm5:Bool:=(z3m a0 g1 a2 g3 a4 g5 a6 g7 c8 a9 a10 a11 g12).isSome
def z80:Nat:=((z3m a0 g1 a2 g3 a4 g5 a6 g7 c8 a9 a10 a11 g12).getD default)
def zj3{R:Type}(q00:Nat)(q03:List Nat)(q02:Nat)(q04:List Nat)(q01:Nat)(q05:List Nat)(q06:Nat)(q07:List Nat)(q0e:Int)(q0j q0k q1s:Nat)(q26:List Nat)(k_:Nat→Option R):Option R:=(grd (zs2 q1s q07 q06 q26 0 0) (k_ (zn8 q1s q07 q06 q26 0 0)))
def z8e:Option (Nat):=zj3 a0 g1 a2 g3 a4 g5 a6 g7 c8 a9 a10 a11 g12 (fun c0_=>some c0_)
theorem y5m:Nt1 (fun {R}=>zj3 (R:=R) a0 g1 a2 g3 a4 g5 a6 g7 c8 a9 a10 a11 g12):=by
 intro R R' o h0 k;unfold zj3;repeat (first | apply grd_out h0 | apply br_out | rfl)
def y05:Bool:=(z8e a0 g1 a2 g3 a4 g5 a6 g7 c8 a9 a10 a11 g12).isSome
def zh0:Nat:=((z8e a0 g1 a2 g3 a4 g5 a6 g7 c8 a9 a10 a11 g12).getD default)
def z6d{R:Type}(k_:Int→Option R):Option R:=(grd (z7a a0 e2 (Int.ofNat a0) m1 0) (br (z6x a0 e2 (Int.ofNat a0) m1 0) (k_ (z9z a0 e2 (Int.ofNat a0) m1 0)) (k_ (Int.negSucc 0))))
def z1z:Option (Int):=z6d a0 m1 e2 (fun c0_=>some c0_)
theorem zn4:Nt1 (fun {R}=>z6d (R:=R) a0 m1 e2):=by
 intro R R' o h0 k;unfold z6d;repeat (first | apply grd_out h0 | apply br_out | rfl)
def zg5:Bool:=(z1z a0 m1 e2).isSome
def zf1:Int:=((z1z a0 m1 e2).getD default)
def zc3{R:Type}(k_:Bool→Option R):Option R:=(grd (zno a0) (k_ (bnot (zlg a0))))
def z51:Option (Bool):=zc3 a0 (fun c0_=>some c0_)
theorem zxt:Nt1 (fun {R}=>zc3 (R:=R) a0):=by
 intro R R' o h0 k;unfold zc3;repeat (first | apply grd_out h0 | apply br_out | rfl)
def zqo:Bool:=(z51 a0).isSome
def zp6:Bool:=((z51 a0).getD default)
def zm1{R:Type}(k_:Nat→Option R):Option R:=(grd (bnot (nanQ .f64 a0)) (k_ (fint Ieee.Toward.zero a0)))
def z9i:Option (Nat):=zm1 a0 (fun c0_=>some c0_)
theorem y6f:Nt1 (fun {R}=>zm1 (R:=R) a0):=by
 intro R R' o h0 k;unfold zm1;repeat (first | apply grd_out h0 | apply br_out | rfl)
def y3e:Bool:=(z9i a0).isSome
def zf2:Nat:=((z9i a0).getD default)
def z1y{R:Type}(kn_:Int→Option R)(k0_:Unit→Option R)(k1_:Int→Bool→Option R):Option R:=(br (ltI c4 (Int.ofNat a0)) (grd (okIx c4 a0) (grd (okIx c4 a1) (grd (z4h (fcvV .f32 .f64 (gF g2 (ixO 0 c4 1))) (fcvV .f32 .f64 (gF g3 (ixO 0 c4 1)))) (br (bnot (z3z (fcvV .f32 .f64 (gF g2 (ixO 0 c4 1))) (fcvV .f32 .f64 (gF g3 (ixO 0 c4 1))))) (k0_ ()) (kn_ (addI .i64 c4 1)))))) (k1_ c4 (ltI c4 (Int.ofNat a0))))
theorem zry{R R':Type}(o:Option R→Option R')(h0:o none=none)(kn_:Int→Option R)(k0_:Unit→Option R)(k1_:Int→Bool→Option R):z1y a0 a1 g2 g3 c4 (fun i'=>o (kn_ i')) (fun _=>o (k0_ ())) (fun c0_ c1_=>o (k1_ c0_ c1_))=o (z1y a0 a1 g2 g3 c4 kn_ k0_ k1_):=by
 unfold z1y
 repeat (first | apply grd_out h0 | apply br_out | rfl)
def z12(an bn:Nat)(b0 b1:List Nat):Nat→Int→Option ((Unit)⊕(Int×Bool))
 | 0,_=>none
 | n+1,i=>z1y an bn b0 b1  i  (fun i'=>z12 an bn b0 b1 n i') (fun _=>some (Sum.inl ())) (fun c0_ c1_=>some (Sum.inr (c0_,c1_)))
theorem zg0:z12 a0 a1 g2 g3 (a4+1) c5=z1y a0 a1 g2 g3  c5  (fun i'=>z12 a0 a1 g2 g3 a4 i') (fun _=>some (Sum.inl ())) (fun c0_ c1_=>some (Sum.inr (c0_,c1_))):=rfl
def zn3:Bool:=(z12 a0 a1 g2 g3 big c4).isSome
def zkr:Bool:=oL (z12 a0 a1 g2 g3 big c4)
def zuh:Int:=((tR (z12 a0 a1 g2 g3 big c4)).getD default).1
def ztw:Bool:=((tR (z12 a0 a1 g2 g3 big c4)).getD default).2
def z1x{R:Type} (kn_:Int→(List Nat)→Option R) (k0_:Int→Bool→(List Nat)→Option R):Option R:=(br (ltI c3 (Int.ofNat a0)) (grd (okIx c3 a0) (grd (zrs (gF g2 (ixO 0 c3 3)) (gF g2 (Nat.succ (ixO 0 c3 3))) (gF g2 (Nat.succ (Nat.succ (ixO 0 c3 3))))) (grd (okIx c3 a1) (kn_ (addI .i64 c3 1) (sF (sF (sF g4 (ixO 0 c3 3) (gF g2 (ixO 0 c3 3))) (Nat.succ (ixO 0 c3 3)) (gF g2 (Nat.succ (ixO 0 c3 3)))) (Nat.succ (Nat.succ (ixO 0 c3 3))) (gF g2 (Nat.succ (Nat.succ (ixO 0 c3 3))))))))) (k0_ c3 (ltI c3 (Int.ofNat a0)) g4))
theorem zs9{R R':Type}(o:Option R→Option R')(h0:o none=none) (kn_:Int→(List Nat)→Option R) (k0_:Int→Bool→(List Nat)→Option R):z1x a0 a1 g2 c3 g4 (fun i' b1'=>o (kn_ i' b1')) (fun c0_ c1_ c2_=>o (k0_ c0_ c1_ c2_))=o (z1x a0 a1 g2 c3 g4 kn_ k0_):=by
 unfold z1x
 repeat (first | apply grd_out h0 | apply br_out | rfl)
def z0m(an q2e:Nat)(b0:List Nat):Nat→Int→(List Nat)→Option ((Int×Bool×(List Nat)))
 | 0,_,_=>none
 | n+1,i,b1=>z1x an q2e b0  i b1  (fun i' b1'=>z0m an q2e b0 n i' b1') (fun c0_ c1_ c2_=>some (c0_,c1_,c2_))
theorem zg3:z0m a0 a1 g2 (a3+1) c4 g5=z1x a0 a1 g2  c4 g5  (fun i' b1'=>z0m a0 a1 g2 a3 i' b1') (fun c0_ c1_ c2_=>some (c0_,c1_,c2_)):=rfl
def zeo:Bool:=(z0m a0 a1 g2 big c3 g4).isSome
def ztm:Int:=((z0m a0 a1 g2 big c3 g4).getD default).1
def zu1:Bool:=((z0m a0 a1 g2 big c3 g4).getD default).2.1
def za5:List Nat:=((z0m a0 a1 g2 big c3 g4).getD default).2.2
def z1k{R:Type}(kn_:Nat→Int→Option R)(k0_:Nat→Int→Bool→Option R):Option R:=(br (leI 1 c2) (kn_ (fop .sub .f64 4607182418800017408 (fop .quo .f64 (fop .mul .f64 a0 a1) (fOI .f64 (mulI .i64 (mulI .i64 2 c2) (addI .i64 (mulI .i64 2 c2) 1))))) (subI .i64 c2 1)) (k0_ a1 c2 (leI 1 c2)))
theorem zpg{R R':Type}(o:Option R→Option R')(h0:o none=none)(kn_:Nat→Int→Option R)(k0_:Nat→Int→Bool→Option R):z1k a0 a1 c2 (fun t7' t8'=>o (kn_ t7' t8')) (fun c0_ c1_ c2_=>o (k0_ c0_ c1_ c2_))=o (z1k a0 a1 c2 kn_ k0_):=by
 unfold z1k
 repeat (first | apply grd_out h0 | apply br_out | rfl)
def z0j(t6:Nat):Nat→Nat→Int→Option ((Nat×Int×Bool))
 | 0,_,_=>none
 | n+1,t7,t8=>z1k t6  t7 t8  (fun t7' t8'=>z0j t6 n t7' t8') (fun c0_ c1_ c2_=>some (c0_,c1_,c2_))
theorem zdj:z0j a0 (a1+1) a2 c3=z1k a0  a2 c3  (fun t7' t8'=>z0j a0 a1 t7' t8') (fun c0_ c1_ c2_=>some (c0_,c1_,c2_)):=rfl
def z17:Bool:=(z0j a0 big a1 c2).isSome
def z07:Nat:=((z0j a0 big a1 c2).getD default).1
def zra:Int:=((z0j a0 big a1 c2).getD default).2.1
def zrd:Bool:=((z0j a0 big a1 c2).getD default).2.2
def zcg{R:Type}(k_:Bool→Option R):Option R:=(br (neI (Int.ofNat a0) (Int.ofNat a2)) (k_ Bool.false) (grd (zn3 a0 a2 g1 g3 0) (br (zkr a0 a2 g1 g3 0) (k_ Bool.false) (k_ Bool.true))))
def z54:Option (Bool):=zcg a0 g1 a2 g3 (fun c0_=>some c0_)
theorem zxn:Nt1 (fun {R}=>zcg (R:=R) a0 g1 a2 g3):=by
 intro R R' o h0 k;unfold zcg;repeat (first | apply grd_out h0 | apply br_out | rfl)
def zc8:Bool:=(z54 a0 g1 a2 g3).isSome
def zan:Bool:=((z54 a0 g1 a2 g3).getD default)
def z4s{R:Type}(k_:Bool→Option R):Option R:=(grd (zg5 a0 (pB m1 0 (muN a0 1)) e2) (k_ (leI 0 (zf1 a0 (pB m1 0 (muN a0 1)) e2))))
def z1c:Option (Bool):=z4s a0 m1 e2 (fun c0_=>some c0_)
theorem zkq:Nt1 (fun {R}=>z4s (R:=R) a0 m1 e2):=by
 intro R R' o h0 k;unfold z4s;repeat (first | apply grd_out h0 | apply br_out | rfl)
def z4t:Bool:=(z1c a0 m1 e2).isSome
def z4a:Bool:=((z1c a0 m1 e2).getD default)
def zdk{R:Type} (k_:Nat→Nat→Nat→(List Nat)→(List Nat)→(List Nat)→Option R):Option R:=(grd (zby a0 (pF g1 0 (muN a0 1))) (grd (zby a2 (pF g3 0 (muN a2 1))) (grd (zby a4 (pF g5 0 (muN a4 1))) (k_ (zai a0 (pF g1 0 (muN a0 1))) (zai a2 (pF g3 0 (muN a2 1))) (zai a4 (pF g5 0 (muN a4 1))) (zao a0 (pF g1 0 (muN a0 1))) (zao a2 (pF g3 0 (muN a2 1))) (zao a4 (pF g5 0 (muN a4 1)))))))
def z1s:Option (Nat×Nat×Nat×(List Nat)×(List Nat)×(List Nat)):=zdk a0 g1 a2 g3 a4 g5 (fun c0_ c1_ c2_ c3_ c4_ c5_=>some (c0_,c1_,c2_,c3_,c4_,c5_))
theorem zyo:Nt6 (fun {R}=>zdk (R:=R) a0 g1 a2 g3 a4 g5):=by
 intro R R' o h0 k;unfold zdk;repeat (first | apply grd_out h0 | apply br_out | rfl)
def zrw:Bool:=(z1s a0 g1 a2 g3 a4 g5).isSome
def zqn:Nat:=((z1s a0 g1 a2 g3 a4 g5).getD default).1
def zqz:Nat:=((z1s a0 g1 a2 g3 a4 g5).getD default).2.1
def zql:Nat:=((z1s a0 g1 a2 g3 a4 g5).getD default).2.2.1
def zqk:List Nat:=((z1s a0 g1 a2 g3 a4 g5).getD default).2.2.2.1
def zqv:List Nat:=((z1s a0 g1 a2 g3 a4 g5).getD default).2.2.2.2.1
def zqd:List Nat:=((z1s a0 g1 a2 g3 a4 g5).getD default).2.2.2.2.2
def zbx{R:Type} (k_:Nat→(List Nat)→Option R):Option R:=(grd (okMk (Int.ofNat a0) (Int.ofNat a0) 12) (grd (zeo a0 (toN (Int.ofNat a0)) g1 0 (rF (muN (toN (Int.ofNat a0)) 3))) (k_ (toN (Int.ofNat a0)) (za5 a0 (toN (Int.ofNat a0)) g1 0 (rF (muN (toN (Int.ofNat a0)) 3))))))
def z3x:Option (Nat×(List Nat)):=zbx a0 g1 (fun c0_ c1_=>some (c0_,c1_))
theorem zwy:Nt2 (fun {R}=>zbx (R:=R) a0 g1):=by
 intro R R' o h0 k;unfold zbx;repeat (first | apply grd_out h0 | apply br_out | rfl)
def zqq:Bool:=(z3x a0 g1).isSome
def zp2:Nat:=((z3x a0 g1).getD default).1
def zp4:List Nat:=((z3x a0 g1).getD default).2
def z69{R:Type}(k_:Nat→Option R):Option R:=(br (fcmp .neq .f64 (fop .sub .f64 a0 a0) 0) (grd zz0 (k_ zow)) (br (fcmp .geq .f64 a0 4841369599423283200) (k_ 0) (br (fcmp .leq .f64 a0 14064741636278059008) (k_ 0) (grd (f2iB .f64 a0 .i64) (br (fcmp .lss .f64 (fop .sub .f64 a0 (fOI .f64 (f2iV .f64 a0 .i64))) 0) (br (fcmp .geq .f64 (fop .add .f64 (fop .sub .f64 a0 (fOI .f64 (f2iV .f64 a0 .i64))) 4607182418800017408) 4602678819172646912) (br (fcmp .gtr .f64 (fop .sub .f64 (fop .add .f64 (fop .sub .f64 a0 (fOI .f64 (f2iV .f64 a0 .i64))) 4607182418800017408) 4602678819172646912) 4598175219545276416) (grd (z17 (fop .mul .f64 (fop .mul .f64 (fop .sub .f64 4602678819172646912 (fop .sub .f64 (fop .add .f64 (fop .sub .f64 a0 (fOI .f64 (f2iV .f64 a0 .i64))) 4607182418800017408) 4602678819172646912)) 4618760256179416344) (fop .mul .f64 (fop .sub .f64 4602678819172646912 (fop .sub .f64 (fop .add .f64 (fop .sub .f64 a0 (fOI .f64 (f2iV .f64 a0 .i64))) 4607182418800017408) 4602678819172646912)) 4618760256179416344)) 4607182418800017408 8) (br (fcmp .geq .f64 (fop .add .f64 (fop .sub .f64 a0 (fOI .f64 (f2iV .f64 a0 .i64))) 4607182418800017408) 4602678819172646912) (k_ (fneg .f64 (fop .mul .f64 (fop .mul .f64 (fop .sub .f64 4602678819172646912 (fop .sub .f64 (fop .add .f64 (fop .sub .f64 a0 (fOI .f64 (f2iV .f64 a0 .i64))) 4607182418800017408) 4602678819172646912)) 4618760256179416344) (z07 (fop .mul .f64 (fop .mul .f64 (fop .sub .f64 4602678819172646912 (fop .sub .f64 (fop .add .f64 (fop .sub .f64 a0 (fOI .f64 (f2iV .f64 a0 .i64))) 4607182418800017408) 4602678819172646912)) 4618760256179416344) (fop .mul .f64 (fop .sub .f64 4602678819172646912 (fop .sub .f64 (fop .add .f64 (fop .sub .f64 a0 (fOI .f64 (f2iV .f64 a0 .i64))) 4607182418800017408) 4602678819172646912)) 4618760256179416344)) 4607182418800017408 8)))) (k_ (fop .mul .f64 (fop .mul .f64 (fop .sub .f64 4602678819172646912 (fop .sub .f64 (fop .add .f64 (fop .sub .f64 a0 (fOI .f64 (f2iV .f64 a0 .i64))) 4607182418800017408) 4602678819172646912)) 4618760256179416344) (z07 (fop .mul .f64 (fop .mul .f64 (fop .sub .f64 4602678819172646912 (fop .sub .f64 (fop .add .f64 (fop .sub .f64 a0 (fOI .f64 (f2iV .f64 a0 .i64))) 4607182418800017408) 4602678819172646912)) 4618760256179416344) (fop .mul .f64 (fop .sub .f64 4602678819172646912 (fop .sub .f64 (fop .add .f64 (fop .sub .f64 a0 (fOI .f64 (f2iV .f64 a0 .i64))) 4607182418800017408) 4602678819172646912)) 4618760256179416344)) 4607182418800017408 8))))) (grd (z17 (fop .mul .f64 (fop .mul .f64 (fop .sub .f64 (fop .add .f64 (fop .sub .f64 a0 (fOI .f64 (f2iV .f64 a0 .i64))) 4607182418800017408) 4602678819172646912) 4618760256179416344) (fop .mul .f64 (fop .sub .f64 (fop .add .f64 (fop .sub .f64 a0 (fOI .f64 (f2iV .f64 a0 .i64))) 4607182418800017408) 4602678819172646912) 4618760256179416344)) 4607182418800017408 8) (br (fcmp .geq .f64 (fop .add .f64 (fop .sub .f64 a0 (fOI .f64 (f2iV .f64 a0 .i64))) 4607182418800017408) 4602678819172646912) (k_ (fneg .f64 (fop .mul .f64 (fop .mul .f64 (fop .sub .f64 (fop .add .f64 (fop .sub .f64 a0 (fOI .f64 (f2iV .f64 a0 .i64))) 4607182418800017408) 4602678819172646912) 4618760256179416344) (z07 (fop .mul .f64 (fop .mul .f64 (fop .sub .f64 (fop .add .f64 (fop .sub .f64 a0 (fOI .f64 (f2iV .f64 a0 .i64))) 4607182418800017408) 4602678819172646912) 4618760256179416344) (fop .mul .f64 (fop .sub .f64 (fop .add .f64 (fop .sub .f64 a0 (fOI .f64 (f2iV .f64 a0 .i64))) 4607182418800017408) 4602678819172646912) 4618760256179416344)) 4607182418800017408 8)))) (k_ (fop .mul .f64 (fop .mul .f64 (fop .sub .f64 (fop .add .f64 (fop .sub .f64 a0 (fOI .f64 (f2iV .f64 a0 .i64))) 4607182418800017408) 4602678819172646912) 4618760256179416344) (z07 (fop .mul .f64 (fop .mul .f64 (fop .sub .f64 (fop .add .f64 (fop .sub .f64 a0 (fOI .f64 (f2iV .f64 a0 .i64))) 4607182418800017408) 4602678819172646912) 4618760256179416344) (fop .mul .f64 (fop .sub .f64 (fop .add .f64 (fop .sub .f64 a0 (fOI .f64 (f2iV .f64 a0 .i64))) 4607182418800017408) 4602678819172646912) 4618760256179416344)) 4607182418800017408 8)))))) (br (fcmp .gtr .f64 (fop .add .f64 (fop .sub .f64 a0 (fOI .f64 (f2iV .f64 a0 .i64))) 4607182418800017408) 4598175219545276416) (grd (z17 (fop .mul .f64 (fop .mul .f64 (fop .sub .f64 4602678819172646912 (fop .add .f64 (fop .sub .f64 a0 (fOI .f64 (f2iV .f64 a0 .i64))) 4607182418800017408)) 4618760256179416344) (fop .mul .f64 (fop .sub .f64 4602678819172646912 (fop .add .f64 (fop .sub .f64 a0 (fOI .f64 (f2iV .f64 a0 .i64))) 4607182418800017408)) 4618760256179416344)) 4607182418800017408 8) (br (fcmp .geq .f64 (fop .add .f64 (fop .sub .f64 a0 (fOI .f64 (f2iV .f64 a0 .i64))) 4607182418800017408) 4602678819172646912) (k_ (fneg .f64 (fop .mul .f64 (fop .mul .f64 (fop .sub .f64 4602678819172646912 (fop .add .f64 (fop .sub .f64 a0 (fOI .f64 (f2iV .f64 a0 .i64))) 4607182418800017408)) 4618760256179416344) (z07 (fop .mul .f64 (fop .mul .f64 (fop .sub .f64 4602678819172646912 (fop .add .f64 (fop .sub .f64 a0 (fOI .f64 (f2iV .f64 a0 .i64))) 4607182418800017408)) 4618760256179416344) (fop .mul .f64 (fop .sub .f64 4602678819172646912 (fop .add .f64 (fop .sub .f64 a0 (fOI .f64 (f2iV .f64 a0 .i64))) 4607182418800017408)) 4618760256179416344)) 4607182418800017408 8)))) (k_ (fop .mul .f64 (fop .mul .f64 (fop .sub .f64 4602678819172646912 (fop .add .f64 (fop .sub .f64 a0 (fOI .f64 (f2iV .f64 a0 .i64))) 4607182418800017408)) 4618760256179416344) (z07 (fop .mul .f64 (fop .mul .f64 (fop .sub .f64 4602678819172646912 (fop .add .f64 (fop .sub .f64 a0 (fOI .f64 (f2iV .f64 a0 .i64))) 4607182418800017408)) 4618760256179416344) (fop .mul .f64 (fop .sub .f64 4602678819172646912 (fop .add .f64 (fop .sub .f64 a0 (fOI .f64 (f2iV .f64 a0 .i64))) 4607182418800017408)) 4618760256179416344)) 4607182418800017408 8))))) (grd (z17 (fop .mul .f64 (fop .mul .f64 (fop .add .f64 (fop .sub .f64 a0 (fOI .f64 (f2iV .f64 a0 .i64))) 4607182418800017408) 4618760256179416344) (fop .mul .f64 (fop .add .f64 (fop .sub .f64 a0 (fOI .f64 (f2iV .f64 a0 .i64))) 4607182418800017408) 4618760256179416344)) 4607182418800017408 8) (br (fcmp .geq .f64 (fop .add .f64 (fop .sub .f64 a0 (fOI .f64 (f2iV .f64 a0 .i64))) 4607182418800017408) 4602678819172646912) (k_ (fneg .f64 (fop .mul .f64 (fop .mul .f64 (fop .add .f64 (fop .sub .f64 a0 (fOI .f64 (f2iV .f64 a0 .i64))) 4607182418800017408) 4618760256179416344) (z07 (fop .mul .f64 (fop .mul .f64 (fop .add .f64 (fop .sub .f64 a0 (fOI .f64 (f2iV .f64 a0 .i64))) 4607182418800017408) 4618760256179416344) (fop .mul .f64 (fop .add .f64 (fop .sub .f64 a0 (fOI .f64 (f2iV .f64 a0 .i64))) 4607182418800017408) 4618760256179416344)) 4607182418800017408 8)))) (k_ (fop .mul .f64 (fop .mul .f64 (fop .add .f64 (fop .sub .f64 a0 (fOI .f64 (f2iV .f64 a0 .i64))) 4607182418800017408) 4618760256179416344) (z07 (fop .mul .f64 (fop .mul .f64 (fop .add .f64 (fop .sub .f64 a0 (fOI .f64 (f2iV .f64 a0 .i64))) 4607182418800017408) 4618760256179416344) (fop .mul .f64 (fop .add .f64 (fop .sub .f64 a0 (fOI .f64 (f2iV .f64 a0 .i64))) 4607182418800017408) 4618760256179416344)) 4607182418800017408 8))))))) (br (fcmp .geq .f64 (fop .sub .f64 a0 (fOI .f64 (f2iV .f64 a0 .i64))) 4602678819172646912) (br (fcmp .gtr .f64 (fop .sub .f64 (fop .sub .f64 a0 (fOI .f64 (f2iV .f64 a0 .i64))) 4602678819172646912) 4598175219545276416) (grd (z17 (fop .mul .f64 (fop .mul .f64 (fop .sub .f64 4602678819172646912 (fop .sub .f64 (fop .sub .f64 a0 (fOI .f64 (f2iV .f64 a0 .i64))) 4602678819172646912)) 4618760256179416344) (fop .mul .f64 (fop .sub .f64 4602678819172646912 (fop .sub .f64 (fop .sub .f64 a0 (fOI .f64 (f2iV .f64 a0 .i64))) 4602678819172646912)) 4618760256179416344)) 4607182418800017408 8) (br (fcmp .geq .f64 (fop .sub .f64 a0 (fOI .f64 (f2iV .f64 a0 .i64))) 4602678819172646912) (k_ (fneg .f64 (fop .mul .f64 (fop .mul .f64 (fop .sub .f64 4602678819172646912 (fop .sub .f64 (fop .sub .f64 a0 (fOI .f64 (f2iV .f64 a0 .i64))) 4602678819172646912)) 4618760256179416344) (z07 (fop .mul .f64 (fop .mul .f64 (fop .sub .f64 4602678819172646912 (fop .sub .f64 (fop .sub .f64 a0 (fOI .f64 (f2iV .f64 a0 .i64))) 4602678819172646912)) 4618760256179416344) (fop .mul .f64 (fop .sub .f64 4602678819172646912 (fop .sub .f64 (fop .sub .f64 a0 (fOI .f64 (f2iV .f64 a0 .i64))) 4602678819172646912)) 4618760256179416344)) 4607182418800017408 8)))) (k_ (fop .mul .f64 (fop .mul .f64 (fop .sub .f64 4602678819172646912 (fop .sub .f64 (fop .sub .f64 a0 (fOI .f64 (f2iV .f64 a0 .i64))) 4602678819172646912)) 4618760256179416344) (z07 (fop .mul .f64 (fop .mul .f64 (fop .sub .f64 4602678819172646912 (fop .sub .f64 (fop .sub .f64 a0 (fOI .f64 (f2iV .f64 a0 .i64))) 4602678819172646912)) 4618760256179416344) (fop .mul .f64 (fop .sub .f64 4602678819172646912 (fop .sub .f64 (fop .sub .f64 a0 (fOI .f64 (f2iV .f64 a0 .i64))) 4602678819172646912)) 4618760256179416344)) 4607182418800017408 8))))) (grd (z17 (fop .mul .f64 (fop .mul .f64 (fop .sub .f64 (fop .sub .f64 a0 (fOI .f64 (f2iV .f64 a0 .i64))) 4602678819172646912) 4618760256179416344) (fop .mul .f64 (fop .sub .f64 (fop .sub .f64 a0 (fOI .f64 (f2iV .f64 a0 .i64))) 4602678819172646912) 4618760256179416344)) 4607182418800017408 8) (br (fcmp .geq .f64 (fop .sub .f64 a0 (fOI .f64 (f2iV .f64 a0 .i64))) 4602678819172646912) (k_ (fneg .f64 (fop .mul .f64 (fop .mul .f64 (fop .sub .f64 (fop .sub .f64 a0 (fOI .f64 (f2iV .f64 a0 .i64))) 4602678819172646912) 4618760256179416344) (z07 (fop .mul .f64 (fop .mul .f64 (fop .sub .f64 (fop .sub .f64 a0 (fOI .f64 (f2iV .f64 a0 .i64))) 4602678819172646912) 4618760256179416344) (fop .mul .f64 (fop .sub .f64 (fop .sub .f64 a0 (fOI .f64 (f2iV .f64 a0 .i64))) 4602678819172646912) 4618760256179416344)) 4607182418800017408 8)))) (k_ (fop .mul .f64 (fop .mul .f64 (fop .sub .f64 (fop .sub .f64 a0 (fOI .f64 (f2iV .f64 a0 .i64))) 4602678819172646912) 4618760256179416344) (z07 (fop .mul .f64 (fop .mul .f64 (fop .sub .f64 (fop .sub .f64 a0 (fOI .f64 (f2iV .f64 a0 .i64))) 4602678819172646912) 4618760256179416344) (fop .mul .f64 (fop .sub .f64 (fop .sub .f64 a0 (fOI .f64 (f2iV .f64 a0 .i64))) 4602678819172646912) 4618760256179416344)) 4607182418800017408 8)))))) (br (fcmp .gtr .f64 (fop .sub .f64 a0 (fOI .f64 (f2iV .f64 a0 .i64))) 4598175219545276416) (grd (z17 (fop .mul .f64 (fop .mul .f64 (fop .sub .f64 4602678819172646912 (fop .sub .f64 a0 (fOI .f64 (f2iV .f64 a0 .i64)))) 4618760256179416344) (fop .mul .f64 (fop .sub .f64 4602678819172646912 (fop .sub .f64 a0 (fOI .f64 (f2iV .f64 a0 .i64)))) 4618760256179416344)) 4607182418800017408 8) (br (fcmp .geq .f64 (fop .sub .f64 a0 (fOI .f64 (f2iV .f64 a0 .i64))) 4602678819172646912) (k_ (fneg .f64 (fop .mul .f64 (fop .mul .f64 (fop .sub .f64 4602678819172646912 (fop .sub .f64 a0 (fOI .f64 (f2iV .f64 a0 .i64)))) 4618760256179416344) (z07 (fop .mul .f64 (fop .mul .f64 (fop .sub .f64 4602678819172646912 (fop .sub .f64 a0 (fOI .f64 (f2iV .f64 a0 .i64)))) 4618760256179416344) (fop .mul .f64 (fop .sub .f64 4602678819172646912 (fop .sub .f64 a0 (fOI .f64 (f2iV .f64 a0 .i64)))) 4618760256179416344)) 4607182418800017408 8)))) (k_ (fop .mul .f64 (fop .mul .f64 (fop .sub .f64 4602678819172646912 (fop .sub .f64 a0 (fOI .f64 (f2iV .f64 a0 .i64)))) 4618760256179416344) (z07 (fop .mul .f64 (fop .mul .f64 (fop .sub .f64 4602678819172646912 (fop .sub .f64 a0 (fOI .f64 (f2iV .f64 a0 .i64)))) 4618760256179416344) (fop .mul .f64 (fop .sub .f64 4602678819172646912 (fop .sub .f64 a0 (fOI .f64 (f2iV .f64 a0 .i64)))) 4618760256179416344)) 4607182418800017408 8))))) (grd (z17 (fop .mul .f64 (fop .mul .f64 (fop .sub .f64 a0 (fOI .f64 (f2iV .f64 a0 .i64))) 4618760256179416344) (fop .mul .f64 (fop .sub .f64 a0 (fOI .f64 (f2iV .f64 a0 .i64))) 4618760256179416344)) 4607182418800017408 8) (br (fcmp .geq .f64 (fop .sub .f64 a0 (fOI .f64 (f2iV .f64 a0 .i64))) 4602678819172646912) (k_ (fneg .f64 (fop .mul .f64 (fop .mul .f64 (fop .sub .f64 a0 (fOI .f64 (f2iV .f64 a0 .i64))) 4618760256179416344) (z07 (fop .mul .f64 (fop .mul .f64 (fop .sub .f64 a0 (fOI .f64 (f2iV .f64 a0 .i64))) 4618760256179416344) (fop .mul .f64 (fop .sub .f64 a0 (fOI .f64 (f2iV .f64 a0 .i64))) 4618760256179416344)) 4607182418800017408 8)))) (k_ (fop .mul .f64 (fop .mul .f64 (fop .sub .f64 a0 (fOI .f64 (f2iV .f64 a0 .i64))) 4618760256179416344) (z07 (fop .mul .f64 (fop .mul .f64 (fop .sub .f64 a0 (fOI .f64 (f2iV .f64 a0 .i64))) 4618760256179416344) (fop .mul .f64 (fop .sub .f64 a0 (fOI .f64 (f2iV .f64 a0 .i64))) 4618760256179416344)) 4607182418800017408 8))))))))))))
def z23:Option (Nat):=z69 a0 (fun c0_=>some c0_)
theorem zv8:Nt1 (fun {R}=>z69 (R:=R) a0):=by
 intro R R' o h0 k;unfold z69;repeat (first | apply grd_out h0 | apply br_out | rfl)
def zoy:Bool:=(z23 a0).isSome
def zfi:Nat:=((z23 a0).getD default)
def zc2{R:Type}(k_:Nat→Option R):Option R:=(grd (y3e a0) (br (fcmp .eql .f64 (zf2 a0) 0) (br (fcmp .lss .f64 (fop .sub .f64 a0 0) 0) (k_ (fop .add .f64 (fop .sub .f64 a0 0) 4607182418800017408)) (k_ (fop .sub .f64 a0 0))) (br (fcmp .lss .f64 (fop .sub .f64 a0 (zf2 a0)) 0) (k_ (fop .add .f64 (fop .sub .f64 a0 (zf2 a0)) 4607182418800017408)) (k_ (fop .sub .f64 a0 (zf2 a0))))))
def z5a:Option (Nat):=zc2 a0 (fun c0_=>some c0_)
theorem zws:Nt1 (fun {R}=>zc2 (R:=R) a0):=by
 intro R R' o h0 k;unfold zc2;repeat (first | apply grd_out h0 | apply br_out | rfl)
def zqs:Bool:=(z5a a0).isSome
def z08:Nat:=((z5a a0).getD default)
def z22{R:Type}(kn_:Int→Option R)(k0_:Unit→Option R)(k1_:Int→Bool→Option R):Option R:=(br (ltI c4 (Int.ofNat a0)) (grd (okIx c4 a0) (grd (okIx c4 a1) (grd (zst (gF g2 (ixO 0 c4 3)) (gF g2 (Nat.succ (ixO 0 c4 3))) (gF g2 (Nat.succ (Nat.succ (ixO 0 c4 3)))) (gF g3 (ixO 0 c4 3)) (gF g3 (Nat.succ (ixO 0 c4 3))) (gF g3 (Nat.succ (Nat.succ (ixO 0 c4 3))))) (br (bnot (zq9 (gF g2 (ixO 0 c4 3)) (gF g2 (Nat.succ (ixO 0 c4 3))) (gF g2 (Nat.succ (Nat.succ (ixO 0 c4 3)))) (gF g3 (ixO 0 c4 3)) (gF g3 (Nat.succ (ixO 0 c4 3))) (gF g3 (Nat.succ (Nat.succ (ixO 0 c4 3)))))) (k0_ ()) (kn_ (addI .i64 c4 1)))))) (k1_ c4 (ltI c4 (Int.ofNat a0))))
theorem zss{R R':Type}(o:Option R→Option R')(h0:o none=none)(kn_:Int→Option R)(k0_:Unit→Option R)(k1_:Int→Bool→Option R):z22 a0 a1 g2 g3 c4 (fun i'=>o (kn_ i')) (fun _=>o (k0_ ())) (fun c0_ c1_=>o (k1_ c0_ c1_))=o (z22 a0 a1 g2 g3 c4 kn_ k0_ k1_):=by
 unfold z22
 repeat (first | apply grd_out h0 | apply br_out | rfl)
def z14(an bn:Nat)(b0 b1:List Nat):Nat→Int→Option ((Unit)⊕(Int×Bool))
 | 0,_=>none
 | n+1,i=>z22 an bn b0 b1  i  (fun i'=>z14 an bn b0 b1 n i') (fun _=>some (Sum.inl ())) (fun c0_ c1_=>some (Sum.inr (c0_,c1_)))
theorem zfw:z14 a0 a1 g2 g3 (a4+1) c5=z22 a0 a1 g2 g3  c5  (fun i'=>z14 a0 a1 g2 g3 a4 i') (fun _=>some (Sum.inl ())) (fun c0_ c1_=>some (Sum.inr (c0_,c1_))):=rfl
def zej:Bool:=(z14 a0 a1 g2 g3 big c4).isSome
def zd5:Bool:=oL (z14 a0 a1 g2 g3 big c4)
def ztu:Int:=((tR (z14 a0 a1 g2 g3 big c4)).getD default).1
def ztl:Bool:=((tR (z14 a0 a1 g2 g3 big c4)).getD default).2
def z44{R:Type}(kn_:Int→Option R)(k0_:Unit→Option R)(k1_:Int→Bool→Option R):Option R:=(br (ltI c7 c0) (grd (okIx c7 a4) (br (fcmp .geq .f32 (gF g1 (ixO 0 c7 1)) 3204448256) (grd (okIx c7 a4) (br (bnot (fcmp .leq .f32 (gF g1 (ixO 0 c7 1)) 1056964608)) (k0_ ()) (br (ltI 0 c7) (grd (okIx c7 a4) (grd (okIx (subI .i64 c7 1) a4) (br (fcmp .leq .f32 (gF g1 (ixO 0 c7 1)) (gF g1 (ixO 0 (subI .i64 c7 1) 1))) (k0_ ()) (grd (okIx c7 a5) (grd (z0x (gF g2 (ixO 0 c7 1))) (br (bnot (z0r (gF g2 (ixO 0 c7 1)))) (k0_ ()) (grd (okIx c7 a6) (grd (z7t (gF g3 (ixO 0 c7 1))) (br (bnot (z7d (gF g3 (ixO 0 c7 1)))) (k0_ ()) (kn_ (addI .i64 c7 1))))))))))) (grd (okIx c7 a5) (grd (z0x (gF g2 (ixO 0 c7 1))) (br (bnot (z0r (gF g2 (ixO 0 c7 1)))) (k0_ ()) (grd (okIx c7 a6) (grd (z7t (gF g3 (ixO 0 c7 1))) (br (bnot (z7d (gF g3 (ixO 0 c7 1)))) (k0_ ()) (kn_ (addI .i64 c7 1))))))))))) (br (bnot Bool.false) (k0_ ()) (br (ltI 0 c7) (grd (okIx c7 a4) (grd (okIx (subI .i64 c7 1) a4) (br (fcmp .leq .f32 (gF g1 (ixO 0 c7 1)) (gF g1 (ixO 0 (subI .i64 c7 1) 1))) (k0_ ()) (grd (okIx c7 a5) (grd (z0x (gF g2 (ixO 0 c7 1))) (br (bnot (z0r (gF g2 (ixO 0 c7 1)))) (k0_ ()) (grd (okIx c7 a6) (grd (z7t (gF g3 (ixO 0 c7 1))) (br (bnot (z7d (gF g3 (ixO 0 c7 1)))) (k0_ ()) (kn_ (addI .i64 c7 1))))))))))) (grd (okIx c7 a5) (grd (z0x (gF g2 (ixO 0 c7 1))) (br (bnot (z0r (gF g2 (ixO 0 c7 1)))) (k0_ ()) (grd (okIx c7 a6) (grd (z7t (gF g3 (ixO 0 c7 1))) (br (bnot (z7d (gF g3 (ixO 0 c7 1)))) (k0_ ()) (kn_ (addI .i64 c7 1)))))))))))) (k1_ c7 (ltI c7 c0)))
theorem y1d{R R':Type}(o:Option R→Option R')(h0:o none=none)(kn_:Int→Option R)(k0_:Unit→Option R)(k1_:Int→Bool→Option R):z44 c0 g1 g2 g3 a4 a5 a6 c7 (fun t4'=>o (kn_ t4')) (fun _=>o (k0_ ())) (fun c0_ c1_=>o (k1_ c0_ c1_))=o (z44 c0 g1 g2 g3 a4 a5 a6 c7 kn_ k0_ k1_):=by
 unfold z44
 repeat (first | apply grd_out h0 | apply br_out | rfl)
def z1r(t3:Int)(b0 b1 b2:List Nat)(q1q q23 q24:Nat):Nat→Int→Option ((Unit)⊕(Int×Bool))
 | 0,_=>none
 | n+1,t4=>z44 t3 b0 b1 b2 q1q q23 q24  t4  (fun t4'=>z1r t3 b0 b1 b2 q1q q23 q24 n t4') (fun _=>some (Sum.inl ())) (fun c0_ c1_=>some (Sum.inr (c0_,c1_)))
theorem zmu:z1r c0 g1 g2 g3 a4 a5 a6 (a7+1) c8=z44 c0 g1 g2 g3 a4 a5 a6  c8  (fun t4'=>z1r c0 g1 g2 g3 a4 a5 a6 a7 t4') (fun _=>some (Sum.inl ())) (fun c0_ c1_=>some (Sum.inr (c0_,c1_))):=rfl
def zak:Bool:=(z1r c0 g1 g2 g3 a4 a5 a6 big c7).isSome
def z97:Bool:=oL (z1r c0 g1 g2 g3 a4 a5 a6 big c7)
def y2k:Int:=((tR (z1r c0 g1 g2 g3 a4 a5 a6 big c7)).getD default).1
def y2u:Bool:=((tR (z1r c0 g1 g2 g3 a4 a5 a6 big c7)).getD default).2
def z0a{R:Type}(kn_:Int→Option R)(k0_:Int→Option R)(k1_:Int→Bool→Option R):Option R:=(br (ltI c3 c1) (grd (okIx c3 a0) (grd (zlu (gF g2 (ixO 0 c3 1))) (br (zl4 (gF g2 (ixO 0 c3 1))) (k0_ c3) (kn_ (addI .i64 c3 1))))) (k1_ c3 (ltI c3 c1)))
theorem z9k{R R':Type}(o:Option R→Option R')(h0:o none=none)(kn_:Int→Option R)(k0_:Int→Option R)(k1_:Int→Bool→Option R):z0a a0 c1 g2 c3 (fun t8'=>o (kn_ t8')) (fun c0_=>o (k0_ c0_)) (fun c0_ c1_=>o (k1_ c0_ c1_))=o (z0a a0 c1 g2 c3 kn_ k0_ k1_):=by
 unfold z0a
 repeat (first | apply grd_out h0 | apply br_out | rfl)
def z01(sn:Nat)(t7:Int)(b0:List Nat):Nat→Int→Option ((Int)⊕(Int×Bool))
 | 0,_=>none
 | n+1,t8=>z0a sn t7 b0  t8  (fun t8'=>z01 sn t7 b0 n t8') (fun c0_=>some (Sum.inl c0_)) (fun c0_ c1_=>some (Sum.inr (c0_,c1_)))
theorem z48:z01 a0 c1 g2 (a3+1) c4=z0a a0 c1 g2  c4  (fun t8'=>z01 a0 c1 g2 a3 t8') (fun c0_=>some (Sum.inl c0_)) (fun c0_ c1_=>some (Sum.inr (c0_,c1_))):=rfl
def z2u:Bool:=(z01 a0 c1 g2 big c3).isSome
def z2n:Bool:=oL (z01 a0 c1 g2 big c3)
def z4o:Int:=((tL (z01 a0 c1 g2 big c3)).getD default)
def z9y:Int:=((tR (z01 a0 c1 g2 big c3)).getD default).1
def z9w:Bool:=((tR (z01 a0 c1 g2 big c3)).getD default).2
def z0b{R:Type}(kn_:Int→Option R)(k0_:Int→Option R)(k1_:Int→Bool→Option R):Option R:=(br (ltI c3 c1) (grd (okIx c3 a0) (grd (zp8 (gF g2 (ixO 0 c3 1))) (br (zna (gF g2 (ixO 0 c3 1))) (k0_ c3) (kn_ (addI .i64 c3 1))))) (k1_ c3 (ltI c3 c1)))
theorem zad{R R':Type}(o:Option R→Option R')(h0:o none=none)(kn_:Int→Option R)(k0_:Int→Option R)(k1_:Int→Bool→Option R):z0b a0 c1 g2 c3 (fun t8'=>o (kn_ t8')) (fun c0_=>o (k0_ c0_)) (fun c0_ c1_=>o (k1_ c0_ c1_))=o (z0b a0 c1 g2 c3 kn_ k0_ k1_):=by
 unfold z0b
 repeat (first | apply grd_out h0 | apply br_out | rfl)
def z02(sn:Nat)(t7:Int)(b0:List Nat):Nat→Int→Option ((Int)⊕(Int×Bool))
 | 0,_=>none
 | n+1,t8=>z0b sn t7 b0  t8  (fun t8'=>z02 sn t7 b0 n t8') (fun c0_=>some (Sum.inl c0_)) (fun c0_ c1_=>some (Sum.inr (c0_,c1_)))
theorem z4p:z02 a0 c1 g2 (a3+1) c4=z0b a0 c1 g2  c4  (fun t8'=>z02 a0 c1 g2 a3 t8') (fun c0_=>some (Sum.inl c0_)) (fun c0_ c1_=>some (Sum.inr (c0_,c1_))):=rfl
def z3b:Bool:=(z02 a0 c1 g2 big c3).isSome
def z2x:Bool:=oL (z02 a0 c1 g2 big c3)
def z5b:Int:=((tL (z02 a0 c1 g2 big c3)).getD default)
def zb2:Int:=((tR (z02 a0 c1 g2 big c3)).getD default).1
def zat:Bool:=((tR (z02 a0 c1 g2 big c3)).getD default).2
def zhc{R:Type}(q27:Int)(q2d q2c:Nat) (k_:Nat→Nat→Nat→Nat→(List Nat)→(List Nat)→(List Nat)→(List Nat)→Option R):Option R:=(grd (zrw a0 (pF g1 0 (muN a0 1)) a2 (pF g3 0 (muN a2 1)) a4 (pF g5 0 (muN a4 1))) (grd (zqq a6 (pF g7 0 (muN a6 3))) (k_ (zqn a0 (pF g1 0 (muN a0 1)) a2 (pF g3 0 (muN a2 1)) a4 (pF g5 0 (muN a4 1))) (zqz a0 (pF g1 0 (muN a0 1)) a2 (pF g3 0 (muN a2 1)) a4 (pF g5 0 (muN a4 1))) (zql a0 (pF g1 0 (muN a0 1)) a2 (pF g3 0 (muN a2 1)) a4 (pF g5 0 (muN a4 1))) (zp2 a6 (pF g7 0 (muN a6 3))) (zqk a0 (pF g1 0 (muN a0 1)) a2 (pF g3 0 (muN a2 1)) a4 (pF g5 0 (muN a4 1))) (zqv a0 (pF g1 0 (muN a0 1)) a2 (pF g3 0 (muN a2 1)) a4 (pF g5 0 (muN a4 1))) (zqd a0 (pF g1 0 (muN a0 1)) a2 (pF g3 0 (muN a2 1)) a4 (pF g5 0 (muN a4 1))) (zp4 a6 (pF g7 0 (muN a6 3))))))
def z1n:Option (Nat×Nat×Nat×Nat×(List Nat)×(List Nat)×(List Nat)×(List Nat)):=zhc a0 g1 a2 g3 a4 g5 a6 g7 c8 a9 a10 (fun c0_ c1_ c2_ c3_ c4_ c5_ c6_ c7_=>some (c0_,c1_,c2_,c3_,c4_,c5_,c6_,c7_))
theorem y2s:Nt8 (fun {R}=>zhc (R:=R) a0 g1 a2 g3 a4 g5 a6 g7 c8 a9 a10):=by
 intro R R' o h0 k;unfold zhc;repeat (first | apply grd_out h0 | apply br_out | rfl)
def znv:Bool:=(z1n a0 g1 a2 g3 a4 g5 a6 g7 c8 a9 a10).isSome
def zld:Nat:=((z1n a0 g1 a2 g3 a4 g5 a6 g7 c8 a9 a10).getD default).1
def zn1:Nat:=((z1n a0 g1 a2 g3 a4 g5 a6 g7 c8 a9 a10).getD default).2.1
def zlj:Nat:=((z1n a0 g1 a2 g3 a4 g5 a6 g7 c8 a9 a10).getD default).2.2.1
def zle:Nat:=((z1n a0 g1 a2 g3 a4 g5 a6 g7 c8 a9 a10).getD default).2.2.2.1
def zlt:List Nat:=((z1n a0 g1 a2 g3 a4 g5 a6 g7 c8 a9 a10).getD default).2.2.2.2.1
def zmf:List Nat:=((z1n a0 g1 a2 g3 a4 g5 a6 g7 c8 a9 a10).getD default).2.2.2.2.2.1
def zmn:List Nat:=((z1n a0 g1 a2 g3 a4 g5 a6 g7 c8 a9 a10).getD default).2.2.2.2.2.2.1
def zlk:List Nat:=((z1n a0 g1 a2 g3 a4 g5 a6 g7 c8 a9 a10).getD default).2.2.2.2.2.2.2
def zdu{R:Type}(k_:Bool→Option R):Option R:=(grd (zc8 a0 (pF g1 0 (muN a0 1)) a6 (pF g7 0 (muN a6 1))) (br (bnot (zan a0 (pF g1 0 (muN a0 1)) a6 (pF g7 0 (muN a6 1)))) (k_ Bool.false) (grd (zc8 a2 (pF g3 0 (muN a2 1)) a8 (pF g9 0 (muN a8 1))) (br (bnot (zan a2 (pF g3 0 (muN a2 1)) a8 (pF g9 0 (muN a8 1)))) (k_ Bool.false) (grd (zc8 a4 (pF g5 0 (muN a4 1)) a10 (pF g11 0 (muN a10 1))) (br (bnot (zan a4 (pF g5 0 (muN a4 1)) a10 (pF g11 0 (muN a10 1)))) (k_ Bool.false) (k_ Bool.true)))))))
def z5q:Option (Bool):=zdu a0 g1 a2 g3 a4 g5 a6 g7 a8 g9 a10 g11 (fun c0_=>some c0_)
theorem zyg:Nt1 (fun {R}=>zdu (R:=R) a0 g1 a2 g3 a4 g5 a6 g7 a8 g9 a10 g11):=by
 intro R R' o h0 k;unfold zdu;repeat (first | apply grd_out h0 | apply br_out | rfl)
def zsx:Bool:=(z5q a0 g1 a2 g3 a4 g5 a6 g7 a8 g9 a10 g11).isSome
def zqf:Bool:=((z5q a0 g1 a2 g3 a4 g5 a6 g7 a8 g9 a10 g11).getD default)
def zc4{R:Type}(k_:Bool→Option R):Option R:=(br (neI (Int.ofNat a0) (Int.ofNat a2)) (k_ Bool.false) (grd (zej a0 a2 g1 g3 0) (br (zd5 a0 a2 g1 g3 0) (k_ Bool.false) (k_ Bool.true))))
def z56:Option (Bool):=zc4 a0 g1 a2 g3 (fun c0_=>some c0_)
theorem zwc:Nt1 (fun {R}=>zc4 (R:=R) a0 g1 a2 g3):=by
 intro R R' o h0 k;unfold zc4;repeat (first | apply grd_out h0 | apply br_out | rfl)
def zqw:Bool:=(z56 a0 g1 a2 g3).isSome
def zp0:Bool:=((z56 a0 g1 a2 g3).getD default)
def zm2{R:Type}(k_:Bool→Option R):Option R:=(br (ltI (Int.ofNat a0) 2) (k_ Bool.false) (br (ltI 24 (Int.ofNat a0)) (k_ Bool.false) (br (neI (Int.ofNat a2) (Int.ofNat a0)) (k_ Bool.false) (br (neI (Int.ofNat a4) (Int.ofNat a0)) (k_ Bool.false) (grd (zak (Int.ofNat a0) g1 g3 g5 a0 a2 a4 0) (br (z97 (Int.ofNat a0) g1 g3 g5 a0 a2 a4 0) (k_ Bool.false) (k_ Bool.true)))))))
def z9a:Option (Bool):=zm2 a0 g1 a2 g3 a4 g5 (fun c0_=>some c0_)
theorem y5x:Nt1 (fun {R}=>zm2 (R:=R) a0 g1 a2 g3 a4 g5):=by
 intro R R' o h0 k;unfold zm2;repeat (first | apply grd_out h0 | apply br_out | rfl)
def y37:Bool:=(z9a a0 g1 a2 g3 a4 g5).isSome
def y02:Bool:=((z9a a0 g1 a2 g3 a4 g5).getD default)
def z1w{R:Type}(k_:Int→Option R):Option R:=(grd (z2u a0 (Int.ofNat a0) g1 0) (br (z2n a0 (Int.ofNat a0) g1 0) (k_ (z4o a0 (Int.ofNat a0) g1 0)) (k_ (Int.negSucc 0))))
def z0k:Option (Int):=z1w a0 g1 (fun c0_=>some c0_)
theorem zag:Nt1 (fun {R}=>z1w (R:=R) a0 g1):=by
 intro R R' o h0 k;unfold z1w;repeat (first | apply grd_out h0 | apply br_out | rfl)
def z6e:Bool:=(z0k a0 g1).isSome
def z63:Int:=((z0k a0 g1).getD default)
def z24{R:Type}(k_:Int→Option R):Option R:=(grd (z3b a0 (Int.ofNat a0) g1 0) (br (z2x a0 (Int.ofNat a0) g1 0) (k_ (z5b a0 (Int.ofNat a0) g1 0)) (k_ (Int.negSucc 0))))
def z0o:Option (Int):=z24 a0 g1 (fun c0_=>some c0_)
theorem zbv:Nt1 (fun {R}=>z24 (R:=R) a0 g1):=by
 intro R R' o h0 k;unfold z24;repeat (first | apply grd_out h0 | apply br_out | rfl)
def z6v:Bool:=(z0o a0 g1).isSome
def z6l:Int:=((z0o a0 g1).getD default)
def zhe{R:Type}(k_:Nat→Option R):Option R:=(grd (zoy (fcvV .f32 .f64 a0)) (grd (zk5 (zfi (fcvV .f32 .f64 a0))) (k_ (zch (zfi (fcvV .f32 .f64 a0))))))
def z65:Option (Nat):=zhe a0 (fun c0_=>some c0_)
theorem y27:Nt1 (fun {R}=>zhe (R:=R) a0):=by
 intro R R' o h0 k;unfold zhe;repeat (first | apply grd_out h0 | apply br_out | rfl)
def z7k:Bool:=(z65 a0).isSome
def z1b:Nat:=((z65 a0).getD default)
def z0c{R:Type}(kn_:Int→Option R)(k0_:Int→Option R)(k1_:Int→Bool→Option R):Option R:=(br (ltI c3 c1) (grd (okIx c3 a0) (grd (zqo (gF g2 (ixO 0 c3 1))) (br (zp6 (gF g2 (ixO 0 c3 1))) (k0_ c3) (kn_ (addI .i64 c3 1))))) (k1_ c3 (ltI c3 c1)))
theorem zaz{R R':Type}(o:Option R→Option R')(h0:o none=none)(kn_:Int→Option R)(k0_:Int→Option R)(k1_:Int→Bool→Option R):z0c a0 c1 g2 c3 (fun t8'=>o (kn_ t8')) (fun c0_=>o (k0_ c0_)) (fun c0_ c1_=>o (k1_ c0_ c1_))=o (z0c a0 c1 g2 c3 kn_ k0_ k1_):=by
 unfold z0c
 repeat (first | apply grd_out h0 | apply br_out | rfl)
def z03(sn:Nat)(t7:Int)(b0:List Nat):Nat→Int→Option ((Int)⊕(Int×Bool))
 | 0,_=>none
 | n+1,t8=>z0c sn t7 b0  t8  (fun t8'=>z03 sn t7 b0 n t8') (fun c0_=>some (Sum.inl c0_)) (fun c0_ c1_=>some (Sum.inr (c0_,c1_)))
theorem z4z:z03 a0 c1 g2 (a3+1) c4=z0c a0 c1 g2  c4  (fun t8'=>z03 a0 c1 g2 a3 t8') (fun c0_=>some (Sum.inl c0_)) (fun c0_ c1_=>some (Sum.inr (c0_,c1_))):=rfl
def z3e:Bool:=(z03 a0 c1 g2 big c3).isSome
def z33:Bool:=oL (z03 a0 c1 g2 big c3)
def z5i:Int:=((tL (z03 a0 c1 g2 big c3)).getD default)
def zb9:Int:=((tR (z03 a0 c1 g2 big c3)).getD default).1
def zbj:Bool:=((tR (z03 a0 c1 g2 big c3)).getD default).2
def zh1{R:Type}(k_:Bool→Option R):Option R:=(grd (zsx a0 (pF g1 0 (muN a0 1)) a2 (pF g3 0 (muN a2 1)) a4 (pF g5 0 (muN a4 1)) a11 (pF g12 0 (muN a11 1)) a13 (pF g14 0 (muN a13 1)) a15 (pF g16 0 (muN a15 1))) (br (bnot (zqf a0 (pF g1 0 (muN a0 1)) a2 (pF g3 0 (muN a2 1)) a4 (pF g5 0 (muN a4 1)) a11 (pF g12 0 (muN a11 1)) a13 (pF g14 0 (muN a13 1)) a15 (pF g16 0 (muN a15 1)))) (k_ Bool.false) (grd (zqw a6 (pF g7 0 (muN a6 3)) a17 (pF g18 0 (muN a17 3))) (br (bnot (zp0 a6 (pF g7 0 (muN a6 3)) a17 (pF g18 0 (muN a17 3)))) (k_ Bool.false) (br (neI c8 c19) (k_ Bool.false) (grd (z4h (fcvV .f32 .f64 a9) (fcvV .f32 .f64 a20)) (br (bnot (z3z (fcvV .f32 .f64 a9) (fcvV .f32 .f64 a20))) (k_ Bool.false) (grd (z4h (fcvV .f32 .f64 a10) (fcvV .f32 .f64 a21)) (br (bnot (z3z (fcvV .f32 .f64 a10) (fcvV .f32 .f64 a21))) (k_ Bool.false) (k_ Bool.true))))))))))
def z7f:Option (Bool):=zh1 a0 g1 a2 g3 a4 g5 a6 g7 c8 a9 a10 a11 g12 a13 g14 a15 g16 a17 g18 c19 a20 a21 (fun c0_=>some c0_)
theorem y2d:Nt1 (fun {R}=>zh1 (R:=R) a0 g1 a2 g3 a4 g5 a6 g7 c8 a9 a10 a11 g12 a13 g14 a15 g16 a17 g18 c19 a20 a21):=by
 intro R R' o h0 k;unfold zh1;repeat (first | apply grd_out h0 | apply br_out | rfl)
def zou:Bool:=(z7f a0 g1 a2 g3 a4 g5 a6 g7 c8 a9 a10 a11 g12 a13 g14 a15 g16 a17 g18 c19 a20 a21).isSome
def zm4:Bool:=((z7f a0 g1 a2 g3 a4 g5 a6 g7 c8 a9 a10 a11 g12 a13 g14 a15 g16 a17 g18 c19 a20 a21).getD default)
def z28{R:Type}(k_:Int→Option R):Option R:=(grd (z3e a0 (Int.ofNat a0) g1 0) (br (z33 a0 (Int.ofNat a0) g1 0) (k_ (z5i a0 (Int.ofNat a0) g1 0)) (k_ (Int.negSucc 0))))
def z0q:Option (Int):=z28 a0 g1 (fun c0_=>some c0_)
theorem zdb:Nt1 (fun {R}=>z28 (R:=R) a0 g1):=by
 intro R R' o h0 k;unfold z28;repeat (first | apply grd_out h0 | apply br_out | rfl)
def z77:Bool:=(z0q a0 g1).isSome
def z6t:Int:=((z0q a0 g1).getD default)
def zlc{R:Type}(k_:Nat→Option R):Option R:=(grd (bnot (nanQ .f64 a0)) (k_ (fint Ieee.Toward.down a0)))
def z9c:Option (Nat):=zlc a0 (fun c0_=>some c0_)
theorem y6m:Nt1 (fun {R}=>zlc (R:=R) a0):=by
 intro R R' o h0 k;unfold zlc;repeat (first | apply grd_out h0 | apply br_out | rfl)
def zrz:Bool:=(z9c a0).isSome
def z8f:Nat:=((z9c a0).getD default)
def z4v{R:Type}(kn_:Nat→Nat→Option R)(k0_:Nat→Nat→Bool→Option R):Option R:=(br (fcmp .geq .f64 a2 4607182418800017408) (kn_ (fop .sub .f64 4607182418800017408 (fop .quo .f64 (fop .mul .f64 a0 a1) (fop .mul .f64 (fop .mul .f64 4611686018427387904 a2) (fop .add .f64 (fop .mul .f64 4611686018427387904 a2) 4607182418800017408)))) (fop .sub .f64 a2 4607182418800017408)) (k0_ a1 a2 (fcmp .geq .f64 a2 4607182418800017408)))
theorem y33{R R':Type}(o:Option R→Option R')(h0:o none=none)(kn_:Nat→Nat→Option R)(k0_:Nat→Nat→Bool→Option R):z4v a0 a1 a2 (fun p' k'=>o (kn_ p' k')) (fun c0_ c1_ c2_=>o (k0_ c0_ c1_ c2_))=o (z4v a0 a1 a2 kn_ k0_):=by
 unfold z4v
 repeat (first | apply grd_out h0 | apply br_out | rfl)
def z1q(u:Nat):Nat→Nat→Nat→Option ((Nat×Nat×Bool))
 | 0,_,_=>none
 | n+1,p,k=>z4v u  p k  (fun p' k'=>z1q u n p' k') (fun c0_ c1_ c2_=>some (c0_,c1_,c2_))
theorem zn9:z1q a0 (a1+1) a2 a3=z4v a0  a2 a3  (fun p' k'=>z1q a0 a1 p' k') (fun c0_ c1_ c2_=>some (c0_,c1_,c2_)):=rfl
def z95:Bool:=(z1q a0 big a1 a2).isSome
def z6s:Nat:=((z1q a0 big a1 a2).getD default).1
def y3y:Nat:=((z1q a0 big a1 a2).getD default).2.1
def y5n:Bool:=((z1q a0 big a1 a2).getD default).2.2
def z1i{R:Type}(k_:Bool→Option R):Option R:=(grd (z6e a0 (pF g1 0 (muN a0 1))) (k_ (leI 0 (z63 a0 (pF g1 0 (muN a0 1))))))
def z0g:Option (Bool):=z1i a0 g1 (fun c0_=>some c0_)
theorem z9f:Nt1 (fun {R}=>z1i (R:=R) a0 g1):=by
 intro R R' o h0 k;unfold z1i;repeat (first | apply grd_out h0 | apply br_out | rfl)
def z5h:Bool:=(z0g a0 g1).isSome
def z5f:Bool:=((z0g a0 g1).getD default)
def z1o{R:Type}(k_:Bool→Option R):Option R:=(grd (z6v a0 (pF g1 0 (muN a0 1))) (k_ (leI 0 (z6l a0 (pF g1 0 (muN a0 1))))))
def z0i:Option (Bool):=z1o a0 g1 (fun c0_=>some c0_)
theorem zab:Nt1 (fun {R}=>z1o (R:=R) a0 g1):=by
 intro R R' o h0 k;unfold z1o;repeat (first | apply grd_out h0 | apply br_out | rfl)
def z68:Bool:=(z0i a0 g1).isSome
def z5n:Bool:=((z0i a0 g1).getD default)
def z1v{R:Type}(k_:Bool→Option R):Option R:=(grd (z77 a0 (pF g1 0 (muN a0 1))) (k_ (leI 0 (z6t a0 (pF g1 0 (muN a0 1))))))
def z0l:Option (Bool):=z1v a0 g1 (fun c0_=>some c0_)
theorem zal:Nt1 (fun {R}=>z1v (R:=R) a0 g1):=by
 intro R R' o h0 k;unfold z1v;repeat (first | apply grd_out h0 | apply br_out | rfl)
def z6f:Bool:=(z0l a0 g1).isSome
def z6b:Bool:=((z0l a0 g1).getD default)
def zox{R:Type}(k_:Nat→Option R):Option R:=(grd (zqs a0) (br (fcmp .geq .f64 (z08 a0) 4602678819172646912) (br (fcmp .gtr .f64 (fop .sub .f64 (z08 a0) 4602678819172646912) 4598175219545276416) (grd (z95 (fop .mul .f64 (fop .mul .f64 (fop .sub .f64 4602678819172646912 (fop .sub .f64 (z08 a0) 4602678819172646912)) 4618760256179416344) (fop .mul .f64 (fop .sub .f64 4602678819172646912 (fop .sub .f64 (z08 a0) 4602678819172646912)) 4618760256179416344)) 4607182418800017408 4620693217682128896) (k_ (fneg .f64 (fop .mul .f64 (fop .mul .f64 (fop .sub .f64 4602678819172646912 (fop .sub .f64 (z08 a0) 4602678819172646912)) 4618760256179416344) (z6s (fop .mul .f64 (fop .mul .f64 (fop .sub .f64 4602678819172646912 (fop .sub .f64 (z08 a0) 4602678819172646912)) 4618760256179416344) (fop .mul .f64 (fop .sub .f64 4602678819172646912 (fop .sub .f64 (z08 a0) 4602678819172646912)) 4618760256179416344)) 4607182418800017408 4620693217682128896))))) (grd (z95 (fop .mul .f64 (fop .mul .f64 (fop .sub .f64 (z08 a0) 4602678819172646912) 4618760256179416344) (fop .mul .f64 (fop .sub .f64 (z08 a0) 4602678819172646912) 4618760256179416344)) 4607182418800017408 4620693217682128896) (k_ (fneg .f64 (fop .mul .f64 (fop .mul .f64 (fop .sub .f64 (z08 a0) 4602678819172646912) 4618760256179416344) (z6s (fop .mul .f64 (fop .mul .f64 (fop .sub .f64 (z08 a0) 4602678819172646912) 4618760256179416344) (fop .mul .f64 (fop .sub .f64 (z08 a0) 4602678819172646912) 4618760256179416344)) 4607182418800017408 4620693217682128896)))))) (br (fcmp .gtr .f64 (z08 a0) 4598175219545276416) (grd (z95 (fop .mul .f64 (fop .mul .f64 (fop .sub .f64 4602678819172646912 (z08 a0)) 4618760256179416344) (fop .mul .f64 (fop .sub .f64 4602678819172646912 (z08 a0)) 4618760256179416344)) 4607182418800017408 4620693217682128896) (k_ (fop .mul .f64 (fop .mul .f64 (fop .sub .f64 4602678819172646912 (z08 a0)) 4618760256179416344) (z6s (fop .mul .f64 (fop .mul .f64 (fop .sub .f64 4602678819172646912 (z08 a0)) 4618760256179416344) (fop .mul .f64 (fop .sub .f64 4602678819172646912 (z08 a0)) 4618760256179416344)) 4607182418800017408 4620693217682128896)))) (grd (z95 (fop .mul .f64 (fop .mul .f64 (z08 a0) 4618760256179416344) (fop .mul .f64 (z08 a0) 4618760256179416344)) 4607182418800017408 4620693217682128896) (k_ (fop .mul .f64 (fop .mul .f64 (z08 a0) 4618760256179416344) (z6s (fop .mul .f64 (fop .mul .f64 (z08 a0) 4618760256179416344) (fop .mul .f64 (z08 a0) 4618760256179416344)) 4607182418800017408 4620693217682128896)))))))
def zb4:Option (Nat):=zox a0 (fun c0_=>some c0_)
theorem y7x:Nt1 (fun {R}=>zox (R:=R) a0):=by
 intro R R' o h0 k;unfold zox;repeat (first | apply grd_out h0 | apply br_out | rfl)
def y5v:Bool:=(zb4 a0).isSome
def zsh:Nat:=((zb4 a0).getD default)
def ze2{R:Type}(k_:Nat→Option R):Option R:=(grd (zrz (fop .add .f64 (fcvV .f32 .f64 a0) 4602678819172646912)) (grd (fcvB .f64 .f32 (fop .sub .f64 (fcvV .f32 .f64 a0) (z8f (fop .add .f64 (fcvV .f32 .f64 a0) 4602678819172646912)))) (br (fcmp .geq .f32 (fcvV .f64 .f32 (fop .sub .f64 (fcvV .f32 .f64 a0) (z8f (fop .add .f64 (fcvV .f32 .f64 a0) 4602678819172646912)))) 1056964608) (k_ 3204448256) (k_ (fcvV .f64 .f32 (fop .sub .f64 (fcvV .f32 .f64 a0) (z8f (fop .add .f64 (fcvV .f32 .f64 a0) 4602678819172646912))))))))
def z5p:Option (Nat):=ze2 a0 (fun c0_=>some c0_)
theorem zzr:Nt1 (fun {R}=>ze2 (R:=R) a0):=by
 intro R R' o h0 k;unfold ze2;repeat (first | apply grd_out h0 | apply br_out | rfl)
def zt1:Bool:=(z5p a0).isSome
def z0y:Nat:=((z5p a0).getD default)
def zh2{R:Type}(k_:Nat→Option R):Option R:=(grd (zrz (fop .add .f64 (fcvV .f32 .f64 a0) 4602678819172646912)) (grd (zk5 (fop .sub .f64 (fcvV .f32 .f64 a0) (z8f (fop .add .f64 (fcvV .f32 .f64 a0) 4602678819172646912)))) (br (fcmp .geq .f32 (zch (fop .sub .f64 (fcvV .f32 .f64 a0) (z8f (fop .add .f64 (fcvV .f32 .f64 a0) 4602678819172646912)))) 1056964608) (k_ 3204448256) (k_ (zch (fop .sub .f64 (fcvV .f32 .f64 a0) (z8f (fop .add .f64 (fcvV .f32 .f64 a0) 4602678819172646912))))))))
def z7e:Option (Nat):=zh2 a0 (fun c0_=>some c0_)
theorem y3a:Nt1 (fun {R}=>zh2 (R:=R) a0):=by
 intro R R' o h0 k;unfold zh2;repeat (first | apply grd_out h0 | apply br_out | rfl)
def zxl:Bool:=(z7e a0).isSome
def z45:Nat:=((z7e a0).getD default)
def z47{R:Type}(kn_:Nat→Int→Option R)(k0_:Unit→Option R)(k1_:Nat→Int→Bool→Option R):Option R:=(br (ltI c5 c0) (grd (okIx c5 a2) (br (bnot (fcmp .gtr .f32 (gF g1 (ixO 0 c5 3)) a4)) (k0_ ()) (br (bnot (fcmp .lss .f32 (gF g1 (ixO 0 c5 3)) a3)) (k0_ ()) (grd (zaf (gF g1 (Nat.succ (ixO 0 c5 3)))) (br (bnot (z9d (gF g1 (Nat.succ (ixO 0 c5 3))))) (k0_ ()) (grd (z0x (gF g1 (Nat.succ (Nat.succ (ixO 0 c5 3))))) (br (bnot (z0r (gF g1 (Nat.succ (Nat.succ (ixO 0 c5 3)))))) (k0_ ()) (kn_ (gF g1 (ixO 0 c5 3)) (addI .i64 c5 1))))))))) (k1_ a4 c5 (ltI c5 c0)))
theorem y1r{R R':Type}(o:Option R→Option R')(h0:o none=none)(kn_:Nat→Int→Option R)(k0_:Unit→Option R)(k1_:Nat→Int→Bool→Option R):z47 c0 g1 a2 a3 a4 c5 (fun t4' t58'=>o (kn_ t4' t58')) (fun _=>o (k0_ ())) (fun c0_ c1_ c2_=>o (k1_ c0_ c1_ c2_))=o (z47 c0 g1 a2 a3 a4 c5 kn_ k0_ k1_):=by
 unfold z47
 repeat (first | apply grd_out h0 | apply br_out | rfl)
def z0z(t57:Int)(b3:List Nat)(q0q q18:Nat):Nat→Nat→Int→Option ((Unit)⊕(Nat×Int×Bool))
 | 0,_,_=>none
 | n+1,t4,t58=>z47 t57 b3 q0q q18  t4 t58  (fun t4' t58'=>z0z t57 b3 q0q q18 n t4' t58') (fun _=>some (Sum.inl ())) (fun c0_ c1_ c2_=>some (Sum.inr (c0_,c1_,c2_)))
theorem zm9:z0z c0 g1 a2 a3 (a4+1) a5 c6=z47 c0 g1 a2 a3  a5 c6  (fun t4' t58'=>z0z c0 g1 a2 a3 a4 t4' t58') (fun _=>some (Sum.inl ())) (fun c0_ c1_ c2_=>some (Sum.inr (c0_,c1_,c2_))):=rfl
def zg1:Bool:=(z0z c0 g1 a2 a3 big a4 c5).isSome
def zex:Bool:=oL (z0z c0 g1 a2 a3 big a4 c5)
def y3b:Nat:=((tR (z0z c0 g1 a2 a3 big a4 c5)).getD default).1
def y30:Int:=((tR (z0z c0 g1 a2 a3 big a4 c5)).getD default).2.1
def y2z:Bool:=((tR (z0z c0 g1 a2 a3 big a4 c5)).getD default).2.2
def zb1{R:Type}(k_:Bool→Option R):Option R:=(grd (z5h a0 (pF g1 0 (muN a0 1))) (k_ (bnot (z5f a0 (pF g1 0 (muN a0 1))))))
def z1m:Option (Bool):=zb1 a0 g1 (fun c0_=>some c0_)
theorem zve:Nt1 (fun {R}=>zb1 (R:=R) a0 g1):=by
 intro R R' o h0 k;unfold zb1;repeat (first | apply grd_out h0 | apply br_out | rfl)
def z7s:Bool:=(z1m a0 g1).isSome
def z73:Bool:=((z1m a0 g1).getD default)
def zmg{R:Type}(k_:Bool→Option R):Option R:=(grd (y37 a0 (pF g1 0 (muN a0 1)) a2 (pF g3 0 (muN a2 1)) a4 (pF g5 0 (muN a4 1))) (br (bnot (y02 a0 (pF g1 0 (muN a0 1)) a2 (pF g3 0 (muN a2 1)) a4 (pF g5 0 (muN a4 1)))) (k_ Bool.false) (br (ltI (Int.ofNat a6) 2) (k_ Bool.false) (br (ltI 12 (Int.ofNat a6)) (k_ Bool.false) (grd (zs0 c8 1 6) (br (bnot (zpy c8 1 6)) (k_ Bool.false) (grd (z7t a9) (br (bnot (z7d a9)) (k_ Bool.false) (grd (z0x a10) (br (bnot (z0r a10)) (k_ Bool.false) (grd (zg1 (Int.ofNat a6) g7 a6 a10 a9 0) (br (zex (Int.ofNat a6) g7 a6 a10 a9 0) (k_ Bool.false) (k_ Bool.true)))))))))))))
def z99:Option (Bool):=zmg a0 g1 a2 g3 a4 g5 a6 g7 c8 a9 a10 (fun c0_=>some c0_)
theorem y6q:Nt1 (fun {R}=>zmg (R:=R) a0 g1 a2 g3 a4 g5 a6 g7 c8 a9 a10):=by
 intro R R' o h0 k;unfold zmg;repeat (first | apply grd_out h0 | apply br_out | rfl)
def ztj:Bool:=(z99 a0 g1 a2 g3 a4 g5 a6 g7 c8 a9 a10).isSome
def zph:Bool:=((z99 a0 g1 a2 g3 a4 g5 a6 g7 c8 a9 a10).getD default)
def zed{R:Type}(k_:Bool→Option R):Option R:=(grd (z68 a0 (pF g1 0 (muN a0 1))) (k_ (bnot (z5n a0 (pF g1 0 (muN a0 1))))))
def z4c:Option (Bool):=zed a0 g1 (fun c0_=>some c0_)
theorem zyk:Nt1 (fun {R}=>zed (R:=R) a0 g1):=by
 intro R R' o h0 k;unfold zed;repeat (first | apply grd_out h0 | apply br_out | rfl)
def zk2:Bool:=(z4c a0 g1).isSome
def zhs:Bool:=((z4c a0 g1).getD default)
def zg4{R:Type}(k_:Bool→Option R):Option R:=(grd (z6f a0 (pF g1 0 (muN a0 1))) (k_ (bnot (z6b a0 (pF g1 0 (muN a0 1))))))
def z6m:Option (Bool):=zg4 a0 g1 (fun c0_=>some c0_)
theorem y1y:Nt1 (fun {R}=>zg4 (R:=R) a0 g1):=by
 intro R R' o h0 k;unfold zg4;repeat (first | apply grd_out h0 | apply br_out | rfl)
def zut:Bool:=(z6m a0 g1).isSome
def zsr:Bool:=((z6m a0 g1).getD default)
def zeu{R:Type}(k_:Nat→Option R):Option R:=(grd (z2j a0) (br (bnot (z25 a0)) (grd zz0 (grd (fcvB .f64 .f32 zow) (k_ (fcvV .f64 .f32 zow)))) (grd (y08 (fcvV .f32 .f64 a0)) (br (zxk (fcvV .f32 .f64 a0)) (k_ 0) (grd (y5v (fcvV .f32 .f64 a0)) (grd (fcvB .f64 .f32 (zsh (fcvV .f32 .f64 a0))) (k_ (fcvV .f64 .f32 (zsh (fcvV .f32 .f64 a0))))))))))
def z5r:Option (Nat):=zeu a0 (fun c0_=>some c0_)
theorem zxz:Nt1 (fun {R}=>zeu (R:=R) a0):=by
 intro R R' o h0 k;unfold zeu;repeat (first | apply grd_out h0 | apply br_out | rfl)
def z4f:Bool:=(z5r a0).isSome
def z1g:Nat:=((z5r a0).getD default)
def zcf{R:Type}(k_:Nat→Nat→Bool→Option R):Option R:=(grd (zk2 2 (pF [a0,a1] 0 (muN 2 1))) (br (bnot (zhs 2 (pF [a0,a1] 0 (muN 2 1)))) (k_ 0 0 Bool.false) (k_ a0 a1 Bool.true)))
def z2z:Option (Nat×Nat×Bool):=zcf a0 a1 (fun c0_ c1_ c2_=>some (c0_,c1_,c2_))
theorem zxi:Nt3 (fun {R}=>zcf (R:=R) a0 a1):=by
 intro R R' o h0 k;unfold zcf;repeat (first | apply grd_out h0 | apply br_out | rfl)
def zic:Bool:=(z2z a0 a1).isSome
def zgx:Nat:=((z2z a0 a1).getD default).1
def zge:Nat:=((z2z a0 a1).getD default).2.1
def zgi:Bool:=((z2z a0 a1).getD default).2.2
def zc6{R:Type}(k_:Bool→Option R):Option R:=(grd (ztj a0 (pF g1 0 (muN a0 1)) a2 (pF g3 0 (muN a2 1)) a4 (pF g5 0 (muN a4 1)) a6 (pF g7 0 (muN a6 3)) c8 a9 a10) (br (zph a0 (pF g1 0 (muN a0 1)) a2 (pF g3 0 (muN a2 1)) a4 (pF g5 0 (muN a4 1)) a6 (pF g7 0 (muN a6 3)) c8 a9 a10) (grd (zs0 c11 0 (subI .i64 (Int.ofNat a6) 1)) (k_ (zpy c11 0 (subI .i64 (Int.ofNat a6) 1)))) (k_ Bool.false)))
def z50:Option (Bool):=zc6 a0 g1 a2 g3 a4 g5 a6 g7 c8 a9 a10 c11 (fun c0_=>some c0_)
theorem zx3:Nt1 (fun {R}=>zc6 (R:=R) a0 g1 a2 g3 a4 g5 a6 g7 c8 a9 a10 c11):=by
 intro R R' o h0 k;unfold zc6;repeat (first | apply grd_out h0 | apply br_out | rfl)
def zqt:Bool:=(z50 a0 g1 a2 g3 a4 g5 a6 g7 c8 a9 a10 c11).isSome
def zp1:Bool:=((z50 a0 g1 a2 g3 a4 g5 a6 g7 c8 a9 a10 c11).getD default)
def z7w{R:Type}(q00:Nat)(q03:List Nat)(q02:Nat)(q04:List Nat)(q01:Nat)(q05:List Nat)(q06:Nat)(q07:List Nat)(q0e:Int)(q0j q0k:Nat)(i:Int)(q1p:Nat)(k_:Nat→Option R):Option R:=(grd (okIx i q06) (grd (z4f q1p) (k_ (fop .quo .f32 (fop .quo .f32 (fop .mul .f32 (fOI .f32 q0e) (fop .sub .f32 q0k (gF q07 (ixO 0 i 3)))) (fop .mul .f32 1073741824 (gF q07 (ixO 0 i 3)))) (fop .add .f32 (fop .quo .f32 (fop .mul .f32 (fOI .f32 q0e) (fop .sub .f32 q0k (gF q07 (ixO 0 i 3)))) (fop .mul .f32 1073741824 (gF q07 (ixO 0 i 3)))) (z1g q1p))))))
def z35:Option (Nat):=z7w a0 g1 a2 g3 a4 g5 a6 g7 c8 a9 a10 c11 a12 (fun c0_=>some c0_)
theorem zr8:Nt1 (fun {R}=>z7w (R:=R) a0 g1 a2 g3 a4 g5 a6 g7 c8 a9 a10 c11 a12):=by
 intro R R' o h0 k;unfold z7w;repeat (first | apply grd_out h0 | apply br_out | rfl)
def zl3:Bool:=(z35 a0 g1 a2 g3 a4 g5 a6 g7 c8 a9 a10 c11 a12).isSome
def zbg:Nat:=((z35 a0 g1 a2 g3 a4 g5 a6 g7 c8 a9 a10 c11 a12).getD default)
def z09{R:Type}(kn_:Int→Option R)(k0_:Int→Option R)(k1_:Int→Bool→Option R):Option R:=(br (ltI c4 c1) (grd (okIx c4 a0) (br (fcmp .gtr .f32 (gF g2 (ixO 0 c4 1)) a3) (k0_ c4) (kn_ (addI .i64 c4 1)))) (k1_ c4 (ltI c4 c1)))
theorem z94{R R':Type}(o:Option R→Option R')(h0:o none=none)(kn_:Int→Option R)(k0_:Int→Option R)(k1_:Int→Bool→Option R):z09 a0 c1 g2 a3 c4 (fun t8'=>o (kn_ t8')) (fun c0_=>o (k0_ c0_)) (fun c0_ c1_=>o (k1_ c0_ c1_))=o (z09 a0 c1 g2 a3 c4 kn_ k0_ k1_):=by
 unfold z09
 repeat (first | apply grd_out h0 | apply br_out | rfl)
def z00(sn:Nat)(t7:Int)(b0:List Nat)(b4:Nat):Nat→Int→Option ((Int)⊕(Int×Bool))
 | 0,_=>none
 | n+1,t8=>z09 sn t7 b0 b4  t8  (fun t8'=>z00 sn t7 b0 b4 n t8') (fun c0_=>some (Sum.inl c0_)) (fun c0_ c1_=>some (Sum.inr (c0_,c1_)))
theorem z46:z00 a0 c1 g2 a3 (a4+1) c5=z09 a0 c1 g2 a3  c5  (fun t8'=>z00 a0 c1 g2 a3 a4 t8') (fun c0_=>some (Sum.inl c0_)) (fun c0_ c1_=>some (Sum.inr (c0_,c1_))):=rfl
def z2m:Bool:=(z00 a0 c1 g2 a3 big c4).isSome
def z2i:Bool:=oL (z00 a0 c1 g2 a3 big c4)
def z06:Int:=((tL (z00 a0 c1 g2 a3 big c4)).getD default)
def z9h:Int:=((tR (z00 a0 c1 g2 a3 big c4)).getD default).1
def z9j:Bool:=((tR (z00 a0 c1 g2 a3 big c4)).getD default).2
def z31{R:Type}(kn_:Int→Option R)(k0_:Int→Bool→Option R):Option R:=(br (leI 0 c3) (grd (okIx c3 a2) (br (fcmp .gtr .f32 (gF g1 (ixO 0 c3 1)) a0) (kn_ (subI .i64 c3 1)) (k0_ c3 (fcmp .gtr .f32 (gF g1 (ixO 0 c3 1)) a0)))) (k0_ c3 Bool.false))
theorem zwz{R R':Type}(o:Option R→Option R')(h0:o none=none)(kn_:Int→Option R)(k0_:Int→Bool→Option R):z31 a0 g1 a2 c3 (fun t10'=>o (kn_ t10')) (fun c0_ c1_=>o (k0_ c0_ c1_))=o (z31 a0 g1 a2 c3 kn_ k0_):=by
 unfold z31
 repeat (first | apply grd_out h0 | apply br_out | rfl)
def z1d(t8:Nat)(b0:List Nat)(q1q:Nat):Nat→Int→Option ((Int×Bool))
 | 0,_=>none
 | n+1,t10=>z31 t8 b0 q1q  t10  (fun t10'=>z1d t8 b0 q1q n t10') (fun c0_ c1_=>some (c0_,c1_))
theorem ziw:z1d a0 g1 a2 (a3+1) c4=z31 a0 g1 a2  c4  (fun t10'=>z1d a0 g1 a2 a3 t10') (fun c0_ c1_=>some (c0_,c1_)):=rfl
def zqj:Bool:=(z1d a0 g1 a2 big c3).isSome
def zml:Int:=((z1d a0 g1 a2 big c3).getD default).1
def zz3:Bool:=((z1d a0 g1 a2 big c3).getD default).2
def zj6{R:Type}(k_:Bool→Option R):Option R:=(grd (zqt a0 (pF g1 0 (muN a0 1)) a2 (pF g3 0 (muN a2 1)) a4 (pF g5 0 (muN a4 1)) a6 (pF g7 0 (muN a6 3)) c8 a9 a10 c11) (br (zp1 a0 (pF g1 0 (muN a0 1)) a2 (pF g3 0 (muN a2 1)) a4 (pF g5 0 (muN a4 1)) a6 (pF g7 0 (muN a6 3)) c8 a9 a10 c11) (grd (zaf a12) (br (z9d a12) (grd (zaf a13) (br (z9d a13) (grd (z0x a14) (br (z0r a14) (grd (zup a0 (pF g1 0 (muN a0 1)) a2 (pF g3 0 (muN a2 1)) a4 (pF g5 0 (muN a4 1)) a6 (pF g7 0 (muN a6 3)) c8 a9 a10 c11 a14) (k_ (ztd a0 (pF g1 0 (muN a0 1)) a2 (pF g3 0 (muN a2 1)) a4 (pF g5 0 (muN a4 1)) a6 (pF g7 0 (muN a6 3)) c8 a9 a10 c11 a14))) (k_ Bool.false))) (k_ Bool.false))) (k_ Bool.false))) (k_ Bool.false)))
def z8c:Option (Bool):=zj6 a0 g1 a2 g3 a4 g5 a6 g7 c8 a9 a10 c11 a12 a13 a14 (fun c0_=>some c0_)
theorem y4q:Nt1 (fun {R}=>zj6 (R:=R) a0 g1 a2 g3 a4 g5 a6 g7 c8 a9 a10 c11 a12 a13 a14):=by
 intro R R' o h0 k;unfold zj6;repeat (first | apply grd_out h0 | apply br_out | rfl)
def zzz:Bool:=(z8c a0 g1 a2 g3 a4 g5 a6 g7 c8 a9 a10 c11 a12 a13 a14).isSome
def zx5:Bool:=((z8c a0 g1 a2 g3 a4 g5 a6 g7 c8 a9 a10 c11 a12 a13 a14).getD default)
def z5l{R:Type}(q1b:Nat)(q1k:List Nat)(q1a:Nat)(q1l:List Nat)(x1:Nat)(k_:Int→Int→Nat→Nat→Nat→Option R):Option R:=(grd (zt1 x1) (grd (z2m a0 (Int.ofNat a0) g1 (z0y x1) 0) (br (z2i a0 (Int.ofNat a0) g1 (z0y x1) 0) (br (eqI (z06 a0 (Int.ofNat a0) g1 (z0y x1) 0) 0) (grd (okIx (subI .i64 (Int.ofNat a0) 1) a0) (grd (okIx 0 a0) (k_ (subI .i64 (Int.ofNat a0) 1) 0 (fop .sub .f32 (gF g1 (ixO 0 (subI .i64 (Int.ofNat a0) 1) 1)) 1065353216) (gF g1 (ixO 0 0 1)) (z0y x1)))) (br (ltI (z06 a0 (Int.ofNat a0) g1 (z0y x1) 0) 0) (grd (okIx (subI .i64 (Int.ofNat a0) 1) a0) (grd (okIx 0 a0) (k_ (subI .i64 (Int.ofNat a0) 1) 0 (gF g1 (ixO 0 (subI .i64 (Int.ofNat a0) 1) 1)) (fop .add .f32 (gF g1 (ixO 0 0 1)) 1065353216) (z0y x1)))) (grd (okIx (subI .i64 (z06 a0 (Int.ofNat a0) g1 (z0y x1) 0) 1) a0) (grd (okIx (z06 a0 (Int.ofNat a0) g1 (z0y x1) 0) a0) (k_ (subI .i64 (z06 a0 (Int.ofNat a0) g1 (z0y x1) 0) 1) (z06 a0 (Int.ofNat a0) g1 (z0y x1) 0) (gF g1 (ixO 0 (subI .i64 (z06 a0 (Int.ofNat a0) g1 (z0y x1) 0) 1) 1)) (gF g1 (ixO 0 (z06 a0 (Int.ofNat a0) g1 (z0y x1) 0) 1)) (z0y x1)))))) (grd (okIx (subI .i64 (Int.ofNat a0) 1) a0) (grd (okIx 0 a0) (k_ (subI .i64 (Int.ofNat a0) 1) 0 (gF g1 (ixO 0 (subI .i64 (Int.ofNat a0) 1) 1)) (fop .add .f32 (gF g1 (ixO 0 0 1)) 1065353216) (z0y x1)))))))
def z0t:Option (Int×Int×Nat×Nat×Nat):=z5l a0 g1 a2 g3 a4 g5 a6 (fun c0_ c1_ c2_ c3_ c4_=>some (c0_,c1_,c2_,c3_,c4_))
theorem zpm:Nt5 (fun {R}=>z5l (R:=R) a0 g1 a2 g3 a4 g5 a6):=by
 intro R R' o h0 k;unfold z5l;repeat (first | apply grd_out h0 | apply br_out | rfl)
def zit:Bool:=(z0t a0 g1 a2 g3 a4 g5 a6).isSome
def z2h:Int:=((z0t a0 g1 a2 g3 a4 g5 a6).getD default).1
def z2f:Int:=((z0t a0 g1 a2 g3 a4 g5 a6).getD default).2.1
def z3j:Nat:=((z0t a0 g1 a2 g3 a4 g5 a6).getD default).2.2.1
def z70:Nat:=((z0t a0 g1 a2 g3 a4 g5 a6).getD default).2.2.2.1
def zac:Nat:=((z0t a0 g1 a2 g3 a4 g5 a6).getD default).2.2.2.2
def zah:=(fop .add .f32 (gF g0 (ixO 0 0 1)) 1065353216)
def z05:=(zml (z45 a2) g1 a0 (subI .i64 (Int.ofNat a0) 1))
def z88:=(gF g1 (ixO 0 (subI .i64 (Int.ofNat a0) 1) 1))
def zam:=(fcmp .lss .f32 (z45 a1) (gF g0 (ixO 0 0 1)))
def zae:=(okIx (z05 a0 g1 a2) a0)
def zas:=(fop .sub .f32 (z88 a0 g1) 1065353216)
def z5d:=(gF g1 (ixO 0 (z05 a0 g1 a2) 1))
def z86:=(eqI (addI .i64 (z05 a0 g1 a2) 1) 0)
def z6n:=(gF g1 (ixO 0 (addI .i64 (z05 a0 g1 a2) 1) 1))
def z83:=(fop .sub .f32 (z5d a0 g1 a2) 1065353216)
def z4e:=(fop .sub .f32 (z45 a2) (z5d a0 g1 a2))
def z5w:=(fop .sub .f32 (gF g1 (ixO 0 0 1)) (zas a0 g1))
def z5x:=(fop .sub .f32 (zah g1) (z88 a0 g1))
def z9g:=(fop .sub .f32 (z45 a2) (z83 a0 g1 a2))
def z5s:=(fop .sub .f32 (zah g1) (z5d a0 g1 a2))
def z5y:=(fop .sub .f32 (gF g1 (ixO 0 0 1)) (z83 a0 g1 a2))
def z27:=(fop .sub .f32 (z6n a0 g1 a2) (z5d a0 g1 a2))
def z5t:=(fop .sub .f32 (z6n a0 g1 a2) (z83 a0 g1 a2))
def z26:=(fop .sub .f32 (fop .add .f32 (z6n a0 g1 a2) 1065353216) (z5d a0 g1 a2))
def zd4{R:Type}(q1b:Nat)(q1k:List Nat)(q1a:Nat)(q1l:List Nat)(x1:Nat)(k_:Int→Int→Nat→Nat→Option R):Option R:=(grd (zxl x1) (grd (zqj (z45 x1) g1 a0 (subI .i64 (Int.ofNat a0) 1)) (br (ltI (z05 a0 g1 x1) 0) (grd (okIx (subI .i64 (Int.ofNat a0) 1) a0) (grd (okIx 0 a0) (br (zam g1 x1) (br (fcmp .eql .f32 (z5w a0 g1) 0) (k_ (subI .i64 (Int.ofNat a0) 1) 0 0 (z5w a0 g1)) (k_ (subI .i64 (Int.ofNat a0) 1) 0 (fop .quo .f32 (fop .sub .f32 (z45 x1) (zas a0 g1)) (z5w a0 g1)) (z5w a0 g1))) (br (fcmp .eql .f32 (z5x a0 g1) 0) (k_ (subI .i64 (Int.ofNat a0) 1) 0 0 (z5x a0 g1)) (k_ (subI .i64 (Int.ofNat a0) 1) 0 (fop .quo .f32 (fop .sub .f32 (z45 x1) (z88 a0 g1)) (z5x a0 g1)) (z5x a0 g1)))))) (br (eqI (addI .i64 (z05 a0 g1 x1) 1) (Int.ofNat a0)) (grd (zae a0 g1 x1) (grd (okIx 0 a0) (br (zam g1 x1) (br (fcmp .eql .f32 (z5y a0 g1 x1) 0) (k_ (z05 a0 g1 x1) 0 0 (z5y a0 g1 x1)) (k_ (z05 a0 g1 x1) 0 (fop .quo .f32 (z9g a0 g1 x1) (z5y a0 g1 x1)) (z5y a0 g1 x1))) (br (fcmp .eql .f32 (z5s a0 g1 x1) 0) (k_ (z05 a0 g1 x1) 0 0 (z5s a0 g1 x1)) (k_ (z05 a0 g1 x1) 0 (fop .quo .f32 (z4e a0 g1 x1) (z5s a0 g1 x1)) (z5s a0 g1 x1)))))) (grd (zae a0 g1 x1) (grd (okIx (addI .i64 (z05 a0 g1 x1) 1) a0) (br (z86 a0 g1 x1) (br (fcmp .lss .f32 (z45 x1) (z6n a0 g1 x1)) (br (fcmp .eql .f32 (z5t a0 g1 x1) 0) (k_ (z05 a0 g1 x1) (addI .i64 (z05 a0 g1 x1) 1) 0 (z5t a0 g1 x1)) (k_ (z05 a0 g1 x1) (addI .i64 (z05 a0 g1 x1) 1) (fop .quo .f32 (z9g a0 g1 x1) (z5t a0 g1 x1)) (z5t a0 g1 x1))) (br (z86 a0 g1 x1) (br (fcmp .eql .f32 (z26 a0 g1 x1) 0) (k_ (z05 a0 g1 x1) (addI .i64 (z05 a0 g1 x1) 1) 0 (z26 a0 g1 x1)) (k_ (z05 a0 g1 x1) (addI .i64 (z05 a0 g1 x1) 1) (fop .quo .f32 (z4e a0 g1 x1) (z26 a0 g1 x1)) (z26 a0 g1 x1))) (br (fcmp .eql .f32 (z27 a0 g1 x1) 0) (k_ (z05 a0 g1 x1) (addI .i64 (z05 a0 g1 x1) 1) 0 (z27 a0 g1 x1)) (k_ (z05 a0 g1 x1) (addI .i64 (z05 a0 g1 x1) 1) (fop .quo .f32 (z4e a0 g1 x1) (z27 a0 g1 x1)) (z27 a0 g1 x1))))) (br (z86 a0 g1 x1) (br (fcmp .eql .f32 (z26 a0 g1 x1) 0) (k_ (z05 a0 g1 x1) (addI .i64 (z05 a0 g1 x1) 1) 0 (z26 a0 g1 x1)) (k_ (z05 a0 g1 x1) (addI .i64 (z05 a0 g1 x1) 1) (fop .quo .f32 (z4e a0 g1 x1) (z26 a0 g1 x1)) (z26 a0 g1 x1))) (br (fcmp .eql .f32 (z27 a0 g1 x1) 0) (k_ (z05 a0 g1 x1) (addI .i64 (z05 a0 g1 x1) 1) 0 (z27 a0 g1 x1)) (k_ (z05 a0 g1 x1) (addI .i64 (z05 a0 g1 x1) 1) (fop .quo .f32 (z4e a0 g1 x1) (z27 a0 g1 x1)) (z27 a0 g1 x1)))))))))))
def z36:Option (Int×Int×Nat×Nat):=zd4 a0 g1 a2 g3 a4 g5 a6 (fun c0_ c1_ c2_ c3_=>some (c0_,c1_,c2_,c3_))
theorem y3g:Nt4 (fun {R}=>zd4 (R:=R) a0 g1 a2 g3 a4 g5 a6):=by
 intro R R' o h0 k;unfold zd4;repeat (first | apply grd_out h0 | apply br_out | rfl)
def zxs:Bool:=(z36 a0 g1 a2 g3 a4 g5 a6).isSome
def zap:Int:=((z36 a0 g1 a2 g3 a4 g5 a6).getD default).1
def zlx:Int:=((z36 a0 g1 a2 g3 a4 g5 a6).getD default).2.1
def zui:Nat:=((z36 a0 g1 a2 g3 a4 g5 a6).getD default).2.2.1
def y7q:Nat:=((z36 a0 g1 a2 g3 a4 g5 a6).getD default).2.2.2
def z1h{R:Type}(kn_:Int→Option R)(k0_:Unit→Option R)(k1_:Int→Bool→Option R):Option R:=(br (ltI c4 c1) (grd (okIx c4 a0) (grd (zme (gF g2 (ixO 0 c4 1)) 3204448256 1056964608) (br (bnot (zjf (gF g2 (ixO 0 c4 1)) 3204448256 1056964608)) (k0_ ()) (br (ltI 0 c4) (grd (okIx (subI .i64 c4 1) a3) (br (fcmp .geq .f32 (gF g2 (ixO 0 (subI .i64 c4 1) 1)) (gF g2 (ixO 0 c4 1))) (k0_ ()) (kn_ (addI .i64 c4 1)))) (kn_ (addI .i64 c4 1)))))) (k1_ c4 (ltI c4 c1)))
theorem zq1{R R':Type}(o:Option R→Option R')(h0:o none=none)(kn_:Int→Option R)(k0_:Unit→Option R)(k1_:Int→Bool→Option R):z1h a0 c1 g2 a3 c4 (fun t44'=>o (kn_ t44')) (fun _=>o (k0_ ())) (fun c0_ c1_=>o (k1_ c0_ c1_))=o (z1h a0 c1 g2 a3 c4 kn_ k0_ k1_):=by
 unfold z1h
 repeat (first | apply grd_out h0 | apply br_out | rfl)
def z0p(q2y:Nat)(t43:Int)(b0:List Nat)(q1q:Nat):Nat→Int→Option ((Unit)⊕(Int×Bool))
 | 0,_=>none
 | n+1,t44=>z1h q2y t43 b0 q1q  t44  (fun t44'=>z0p q2y t43 b0 q1q n t44') (fun _=>some (Sum.inl ())) (fun c0_ c1_=>some (Sum.inr (c0_,c1_)))
theorem zdi:z0p a0 c1 g2 a3 (a4+1) c5=z1h a0 c1 g2 a3  c5  (fun t44'=>z0p a0 c1 g2 a3 a4 t44') (fun _=>some (Sum.inl ())) (fun c0_ c1_=>some (Sum.inr (c0_,c1_))):=rfl
def z7p:Bool:=(z0p a0 c1 g2 a3 big c4).isSome
def z72:Bool:=oL (z0p a0 c1 g2 a3 big c4)
def zre:Int:=((tR (z0p a0 c1 g2 a3 big c4)).getD default).1
def zrb:Bool:=((tR (z0p a0 c1 g2 a3 big c4)).getD default).2
def z9o{R:Type}(k_:Bool→Option R):Option R:=(br (ltI (Int.ofNat a0) 2) (k_ Bool.false) (br (ltI 24 (Int.ofNat a0)) (k_ Bool.false) (br (neI (Int.ofNat a2) (Int.ofNat a0)) (k_ Bool.false) (br (neI (Int.ofNat a4) (Int.ofNat a0)) (k_ Bool.false) (grd (zk2 a2 (pF g3 0 (muN a2 1))) (br (bnot (zhs a2 (pF g3 0 (muN a2 1)))) (k_ Bool.false) (grd (zut a4 (pF g5 0 (muN a4 1))) (br (bnot (zsr a4 (pF g5 0 (muN a4 1)))) (k_ Bool.false) (grd (z7p a0 (Int.ofNat a0) g1 a0 0) (br (z72 a0 (Int.ofNat a0) g1 a0 0) (k_ Bool.false) (k_ Bool.true)))))))))))
def z42:Option (Bool):=z9o a0 g1 a2 g3 a4 g5 (fun c0_=>some c0_)
theorem zud:Nt1 (fun {R}=>z9o (R:=R) a0 g1 a2 g3 a4 g5):=by
 intro R R' o h0 k;unfold z9o;repeat (first | apply grd_out h0 | apply br_out | rfl)
def znk:Bool:=(z42 a0 g1 a2 g3 a4 g5).isSome
def zmc:Bool:=((z42 a0 g1 a2 g3 a4 g5).getD default)
def zbz{R:Type}(k_:Nat→Option R):Option R:=(grd (zit a0 (pF g1 0 (muN a0 1)) a2 (pF g3 0 (muN a2 1)) a4 (pF g5 0 (muN a4 1)) a8) (br (fcmp .neq .f32 (z3j a0 (pF g1 0 (muN a0 1)) a2 (pF g3 0 (muN a2 1)) a4 (pF g5 0 (muN a4 1)) a8) (z70 a0 (pF g1 0 (muN a0 1)) a2 (pF g3 0 (muN a2 1)) a4 (pF g5 0 (muN a4 1)) a8)) (grd (okIx (z2h a0 (pF g1 0 (muN a0 1)) a2 (pF g3 0 (muN a2 1)) a4 (pF g5 0 (muN a4 1)) a8) a6) (grd (okIx (z2f a0 (pF g1 0 (muN a0 1)) a2 (pF g3 0 (muN a2 1)) a4 (pF g5 0 (muN a4 1)) a8) a6) (grd (zsl (gF g7 (ixO 0 (z2h a0 (pF g1 0 (muN a0 1)) a2 (pF g3 0 (muN a2 1)) a4 (pF g5 0 (muN a4 1)) a8) 1)) (gF g7 (ixO 0 (z2f a0 (pF g1 0 (muN a0 1)) a2 (pF g3 0 (muN a2 1)) a4 (pF g5 0 (muN a4 1)) a8) 1)) (fop .quo .f32 (fop .sub .f32 (zac a0 (pF g1 0 (muN a0 1)) a2 (pF g3 0 (muN a2 1)) a4 (pF g5 0 (muN a4 1)) a8) (z3j a0 (pF g1 0 (muN a0 1)) a2 (pF g3 0 (muN a2 1)) a4 (pF g5 0 (muN a4 1)) a8)) (fop .sub .f32 (z70 a0 (pF g1 0 (muN a0 1)) a2 (pF g3 0 (muN a2 1)) a4 (pF g5 0 (muN a4 1)) a8) (z3j a0 (pF g1 0 (muN a0 1)) a2 (pF g3 0 (muN a2 1)) a4 (pF g5 0 (muN a4 1)) a8)))) (k_ (zpr (gF g7 (ixO 0 (z2h a0 (pF g1 0 (muN a0 1)) a2 (pF g3 0 (muN a2 1)) a4 (pF g5 0 (muN a4 1)) a8) 1)) (gF g7 (ixO 0 (z2f a0 (pF g1 0 (muN a0 1)) a2 (pF g3 0 (muN a2 1)) a4 (pF g5 0 (muN a4 1)) a8) 1)) (fop .quo .f32 (fop .sub .f32 (zac a0 (pF g1 0 (muN a0 1)) a2 (pF g3 0 (muN a2 1)) a4 (pF g5 0 (muN a4 1)) a8) (z3j a0 (pF g1 0 (muN a0 1)) a2 (pF g3 0 (muN a2 1)) a4 (pF g5 0 (muN a4 1)) a8)) (fop .sub .f32 (z70 a0 (pF g1 0 (muN a0 1)) a2 (pF g3 0 (muN a2 1)) a4 (pF g5 0 (muN a4 1)) a8) (z3j a0 (pF g1 0 (muN a0 1)) a2 (pF g3 0 (muN a2 1)) a4 (pF g5 0 (muN a4 1)) a8)))))))) (grd (okIx (z2h a0 (pF g1 0 (muN a0 1)) a2 (pF g3 0 (muN a2 1)) a4 (pF g5 0 (muN a4 1)) a8) a6) (grd (okIx (z2f a0 (pF g1 0 (muN a0 1)) a2 (pF g3 0 (muN a2 1)) a4 (pF g5 0 (muN a4 1)) a8) a6) (grd (zsl (gF g7 (ixO 0 (z2h a0 (pF g1 0 (muN a0 1)) a2 (pF g3 0 (muN a2 1)) a4 (pF g5 0 (muN a4 1)) a8) 1)) (gF g7 (ixO 0 (z2f a0 (pF g1 0 (muN a0 1)) a2 (pF g3 0 (muN a2 1)) a4 (pF g5 0 (muN a4 1)) a8) 1)) 0) (k_ (zpr (gF g7 (ixO 0 (z2h a0 (pF g1 0 (muN a0 1)) a2 (pF g3 0 (muN a2 1)) a4 (pF g5 0 (muN a4 1)) a8) 1)) (gF g7 (ixO 0 (z2f a0 (pF g1 0 (muN a0 1)) a2 (pF g3 0 (muN a2 1)) a4 (pF g5 0 (muN a4 1)) a8) 1)) 0)))))))
def z57:Option (Nat):=zbz a0 g1 a2 g3 a4 g5 a6 g7 a8 (fun c0_=>some c0_)
theorem zx0:Nt1 (fun {R}=>zbz (R:=R) a0 g1 a2 g3 a4 g5 a6 g7 a8):=by
 intro R R' o h0 k;unfold zbz;repeat (first | apply grd_out h0 | apply br_out | rfl)
def zhw:Bool:=(z57 a0 g1 a2 g3 a4 g5 a6 g7 a8).isSome
def z7r:Nat:=((z57 a0 g1 a2 g3 a4 g5 a6 g7 a8).getD default)
def zmb{R:Type}(k_:Nat→Option R):Option R:=(grd (zxs a0 (pF g1 0 (muN a0 1)) a2 (pF g3 0 (muN a2 1)) a4 (pF g5 0 (muN a4 1)) a8) (grd (okIx (zap a0 (pF g1 0 (muN a0 1)) a2 (pF g3 0 (muN a2 1)) a4 (pF g5 0 (muN a4 1)) a8) a6) (grd (okIx (zlx a0 (pF g1 0 (muN a0 1)) a2 (pF g3 0 (muN a2 1)) a4 (pF g5 0 (muN a4 1)) a8) a6) (grd (okIx (zap a0 (pF g1 0 (muN a0 1)) a2 (pF g3 0 (muN a2 1)) a4 (pF g5 0 (muN a4 1)) a8) a6) (k_ (fop .add .f32 (gF g7 (ixO 0 (zap a0 (pF g1 0 (muN a0 1)) a2 (pF g3 0 (muN a2 1)) a4 (pF g5 0 (muN a4 1)) a8) 1)) (fop .mul .f32 (zui a0 (pF g1 0 (muN a0 1)) a2 (pF g3 0 (muN a2 1)) a4 (pF g5 0 (muN a4 1)) a8) (fop .sub .f32 (gF g7 (ixO 0 (zlx a0 (pF g1 0 (muN a0 1)) a2 (pF g3 0 (muN a2 1)) a4 (pF g5 0 (muN a4 1)) a8) 1)) (gF g7 (ixO 0 (zap a0 (pF g1 0 (muN a0 1)) a2 (pF g3 0 (muN a2 1)) a4 (pF g5 0 (muN a4 1)) a8) 1))))))))))
def z9b:Option (Nat):=zmb a0 g1 a2 g3 a4 g5 a6 g7 a8 (fun c0_=>some c0_)
theorem y6d:Nt1 (fun {R}=>zmb (R:=R) a0 g1 a2 g3 a4 g5 a6 g7 a8):=by
 intro R R' o h0 k;unfold zmb;repeat (first | apply grd_out h0 | apply br_out | rfl)
def zsj:Bool:=(z9b a0 g1 a2 g3 a4 g5 a6 g7 a8).isSome
def zpw:Nat:=((z9b a0 g1 a2 g3 a4 g5 a6 g7 a8).getD default)
def z9n{R:Type}(q0e:Int)(q0j q0k:Nat)(i:Int)(q1p q0l:Nat)(k_:Nat→Nat→Option R):Option R:=(grd (okIx i a6) (grd (zhw a0 (pF g1 0 (muN a0 1)) a2 (pF g3 0 (muN a2 1)) a4 (pF g5 0 (muN a4 1)) a2 (pF g3 0 (muN a2 1)) (fop .sub .f32 (fop .sub .f32 q1p (gF g7 (Nat.succ (Nat.succ (ixO 0 i 3))))) q0l)) (grd (zhw a0 (pF g1 0 (muN a0 1)) a2 (pF g3 0 (muN a2 1)) a4 (pF g5 0 (muN a4 1)) a4 (pF g5 0 (muN a4 1)) (fop .sub .f32 (fop .sub .f32 q1p (gF g7 (Nat.succ (Nat.succ (ixO 0 i 3))))) q0l)) (grd (z4f q1p) (grd (z4f (fop .add .f32 q1p 1048576000)) (k_ (fop .add .f32 (fop .mul .f32 (z7r a0 (pF g1 0 (muN a0 1)) a2 (pF g3 0 (muN a2 1)) a4 (pF g5 0 (muN a4 1)) a2 (pF g3 0 (muN a2 1)) (fop .sub .f32 (fop .sub .f32 q1p (gF g7 (Nat.succ (Nat.succ (ixO 0 i 3))))) q0l)) (z1g (fop .add .f32 q1p 1048576000))) (fop .mul .f32 (z7r a0 (pF g1 0 (muN a0 1)) a2 (pF g3 0 (muN a2 1)) a4 (pF g5 0 (muN a4 1)) a4 (pF g5 0 (muN a4 1)) (fop .sub .f32 (fop .sub .f32 q1p (gF g7 (Nat.succ (Nat.succ (ixO 0 i 3))))) q0l)) (z1g q1p))) (fop .sub .f32 (fop .mul .f32 (z7r a0 (pF g1 0 (muN a0 1)) a2 (pF g3 0 (muN a2 1)) a4 (pF g5 0 (muN a4 1)) a2 (pF g3 0 (muN a2 1)) (fop .sub .f32 (fop .sub .f32 q1p (gF g7 (Nat.succ (Nat.succ (ixO 0 i 3))))) q0l)) (z1g q1p)) (fop .mul .f32 (z7r a0 (pF g1 0 (muN a0 1)) a2 (pF g3 0 (muN a2 1)) a4 (pF g5 0 (muN a4 1)) a4 (pF g5 0 (muN a4 1)) (fop .sub .f32 (fop .sub .f32 q1p (gF g7 (Nat.succ (Nat.succ (ixO 0 i 3))))) q0l)) (z1g (fop .add .f32 q1p 1048576000))))))))))
def z2c:Option (Nat×Nat):=z9n a0 g1 a2 g3 a4 g5 a6 g7 c8 a9 a10 c11 a12 a13 (fun c0_ c1_=>some (c0_,c1_))
theorem ztt:Nt2 (fun {R}=>z9n (R:=R) a0 g1 a2 g3 a4 g5 a6 g7 c8 a9 a10 c11 a12 a13):=by
 intro R R' o h0 k;unfold z9n;repeat (first | apply grd_out h0 | apply br_out | rfl)
def zfo:Bool:=(z2c a0 g1 a2 g3 a4 g5 a6 g7 c8 a9 a10 c11 a12 a13).isSome
def zek:Nat:=((z2c a0 g1 a2 g3 a4 g5 a6 g7 c8 a9 a10 c11 a12 a13).getD default).1
def zdv:Nat:=((z2c a0 g1 a2 g3 a4 g5 a6 g7 c8 a9 a10 c11 a12 a13).getD default).2
def zh8{R:Type}(k_:Nat→Option R):Option R:=(grd (zsj a0 (pF g1 0 (muN a0 1)) a2 (pF g3 0 (muN a2 1)) a4 (pF g5 0 (muN a4 1)) a2 (pF g3 0 (muN a2 1)) a6) (k_ (zpw a0 (pF g1 0 (muN a0 1)) a2 (pF g3 0 (muN a2 1)) a4 (pF g5 0 (muN a4 1)) a2 (pF g3 0 (muN a2 1)) a6)))
def z7g:Option (Nat):=zh8 a0 g1 a2 g3 a4 g5 a6 (fun c0_=>some c0_)
theorem y29:Nt1 (fun {R}=>zh8 (R:=R) a0 g1 a2 g3 a4 g5 a6):=by
 intro R R' o h0 k;unfold zh8;repeat (first | apply grd_out h0 | apply br_out | rfl)
def zxw:Bool:=(z7g a0 g1 a2 g3 a4 g5 a6).isSome
def zm3:Nat:=((z7g a0 g1 a2 g3 a4 g5 a6).getD default)
def zhb{R:Type}(k_:Nat→Option R):Option R:=(grd (zsj a0 (pF g1 0 (muN a0 1)) a2 (pF g3 0 (muN a2 1)) a4 (pF g5 0 (muN a4 1)) a4 (pF g5 0 (muN a4 1)) a6) (k_ (zpw a0 (pF g1 0 (muN a0 1)) a2 (pF g3 0 (muN a2 1)) a4 (pF g5 0 (muN a4 1)) a4 (pF g5 0 (muN a4 1)) a6)))
def z7h:Option (Nat):=zhb a0 g1 a2 g3 a4 g5 a6 (fun c0_=>some c0_)
theorem y2g:Nt1 (fun {R}=>zhb (R:=R) a0 g1 a2 g3 a4 g5 a6):=by
 intro R R' o h0 k;unfold zhb;repeat (first | apply grd_out h0 | apply br_out | rfl)
def zwt:Bool:=(z7h a0 g1 a2 g3 a4 g5 a6).isSome
def zmv:Nat:=((z7h a0 g1 a2 g3 a4 g5 a6).getD default)
def z9m{R:Type}(k_:Nat→Nat→Option R):Option R:=(grd (zfo a0 (pF g1 0 (muN a0 1)) a2 (pF g3 0 (muN a2 1)) a4 (pF g5 0 (muN a4 1)) a6 (pF g7 0 (muN a6 3)) c8 a9 a10 c11 a12 a13) (grd (z4f a12) (grd (z4f (fop .add .f32 a12 1048576000)) (grd (zkx a0 (pF g1 0 (muN a0 1)) a2 (pF g3 0 (muN a2 1)) a4 (pF g5 0 (muN a4 1)) a6 (pF g7 0 (muN a6 3)) c8 a9 a10 c11) (grd (zl3 a0 (pF g1 0 (muN a0 1)) a2 (pF g3 0 (muN a2 1)) a4 (pF g5 0 (muN a4 1)) a6 (pF g7 0 (muN a6 3)) c8 a9 a10 c11 a12) (k_ (fop .quo .f32 (fop .mul .f32 (zb3 a0 (pF g1 0 (muN a0 1)) a2 (pF g3 0 (muN a2 1)) a4 (pF g5 0 (muN a4 1)) a6 (pF g7 0 (muN a6 3)) c8 a9 a10 c11) (zek a0 (pF g1 0 (muN a0 1)) a2 (pF g3 0 (muN a2 1)) a4 (pF g5 0 (muN a4 1)) a6 (pF g7 0 (muN a6 3)) c8 a9 a10 c11 a12 a13)) (fop .mul .f32 (fop .mul .f32 (fop .mul .f32 1082130432 (zbg a0 (pF g1 0 (muN a0 1)) a2 (pF g3 0 (muN a2 1)) a4 (pF g5 0 (muN a4 1)) a6 (pF g7 0 (muN a6 3)) c8 a9 a10 c11 a12)) (z1g a12)) (z1g a12))) (fop .quo .f32 (fop .mul .f32 (zb3 a0 (pF g1 0 (muN a0 1)) a2 (pF g3 0 (muN a2 1)) a4 (pF g5 0 (muN a4 1)) a6 (pF g7 0 (muN a6 3)) c8 a9 a10 c11) (zdv a0 (pF g1 0 (muN a0 1)) a2 (pF g3 0 (muN a2 1)) a4 (pF g5 0 (muN a4 1)) a6 (pF g7 0 (muN a6 3)) c8 a9 a10 c11 a12 a13)) (fop .mul .f32 (fop .mul .f32 (fop .mul .f32 1082130432 (zbg a0 (pF g1 0 (muN a0 1)) a2 (pF g3 0 (muN a2 1)) a4 (pF g5 0 (muN a4 1)) a6 (pF g7 0 (muN a6 3)) c8 a9 a10 c11 a12)) (z1g a12)) (z1g (fop .add .f32 a12 1048576000))))))))))
def z2y:Option (Nat×Nat):=z9m a0 g1 a2 g3 a4 g5 a6 g7 c8 a9 a10 c11 a12 a13 (fun c0_ c1_=>some (c0_,c1_))
theorem zu3:Nt2 (fun {R}=>z9m (R:=R) a0 g1 a2 g3 a4 g5 a6 g7 c8 a9 a10 c11 a12 a13):=by
 intro R R' o h0 k;unfold z9m;repeat (first | apply grd_out h0 | apply br_out | rfl)
def zfc:Bool:=(z2y a0 g1 a2 g3 a4 g5 a6 g7 c8 a9 a10 c11 a12 a13).isSome
def zes:Nat:=((z2y a0 g1 a2 g3 a4 g5 a6 g7 c8 a9 a10 c11 a12 a13).getD default).1
def zdz:Nat:=((z2y a0 g1 a2 g3 a4 g5 a6 g7 c8 a9 a10 c11 a12 a13).getD default).2
def ze6{R:Type}(q0e:Int)(q0j q0k:Nat)(i:Int)(q1p q0l:Nat)(k_:Nat→Nat→Option R):Option R:=(grd (okIx i a6) (grd (zxw a0 (pF g1 0 (muN a0 1)) a2 (pF g3 0 (muN a2 1)) a4 (pF g5 0 (muN a4 1)) (fop .sub .f32 (fop .sub .f32 q1p (gF g7 (Nat.succ (Nat.succ (ixO 0 i 3))))) q0l)) (grd (zwt a0 (pF g1 0 (muN a0 1)) a2 (pF g3 0 (muN a2 1)) a4 (pF g5 0 (muN a4 1)) (fop .sub .f32 (fop .sub .f32 q1p (gF g7 (Nat.succ (Nat.succ (ixO 0 i 3))))) q0l)) (grd (z7k q1p) (grd (z7k (fop .add .f32 q1p 1048576000)) (k_ (fop .add .f32 (fop .mul .f32 (zm3 a0 (pF g1 0 (muN a0 1)) a2 (pF g3 0 (muN a2 1)) a4 (pF g5 0 (muN a4 1)) (fop .sub .f32 (fop .sub .f32 q1p (gF g7 (Nat.succ (Nat.succ (ixO 0 i 3))))) q0l)) (z1b (fop .add .f32 q1p 1048576000))) (fop .mul .f32 (zmv a0 (pF g1 0 (muN a0 1)) a2 (pF g3 0 (muN a2 1)) a4 (pF g5 0 (muN a4 1)) (fop .sub .f32 (fop .sub .f32 q1p (gF g7 (Nat.succ (Nat.succ (ixO 0 i 3))))) q0l)) (z1b q1p))) (fop .sub .f32 (fop .mul .f32 (zm3 a0 (pF g1 0 (muN a0 1)) a2 (pF g3 0 (muN a2 1)) a4 (pF g5 0 (muN a4 1)) (fop .sub .f32 (fop .sub .f32 q1p (gF g7 (Nat.succ (Nat.succ (ixO 0 i 3))))) q0l)) (z1b q1p)) (fop .mul .f32 (zmv a0 (pF g1 0 (muN a0 1)) a2 (pF g3 0 (muN a2 1)) a4 (pF g5 0 (muN a4 1)) (fop .sub .f32 (fop .sub .f32 q1p (gF g7 (Nat.succ (Nat.succ (ixO 0 i 3))))) q0l)) (z1b (fop .add .f32 q1p 1048576000))))))))))
def z4m:Option (Nat×Nat):=ze6 a0 g1 a2 g3 a4 g5 a6 g7 c8 a9 a10 c11 a12 a13 (fun c0_ c1_=>some (c0_,c1_))
theorem zzj:Nt2 (fun {R}=>ze6 (R:=R) a0 g1 a2 g3 a4 g5 a6 g7 c8 a9 a10 c11 a12 a13):=by
 intro R R' o h0 k;unfold ze6;repeat (first | apply grd_out h0 | apply br_out | rfl)
def zru:Bool:=(z4m a0 g1 a2 g3 a4 g5 a6 g7 c8 a9 a10 c11 a12 a13).isSome
def zi8:Nat:=((z4m a0 g1 a2 g3 a4 g5 a6 g7 c8 a9 a10 c11 a12 a13).getD default).1
def zig:Nat:=((z4m a0 g1 a2 g3 a4 g5 a6 g7 c8 a9 a10 c11 a12 a13).getD default).2
def z21{R:Type}(kn_:Nat→Int→Option R)(k0_:Unit→Option R)(k1_:Nat→Int→Bool→Option R):Option R:=(br (ltI c5 c1) (grd (okIx c5 a0) (br (fcmp .gtr .f32 (gF g2 (ixO 0 c5 3)) a4) (br (bnot (fcmp .lss .f32 (gF g2 (ixO 0 c5 3)) a3)) (k0_ ()) (grd (z7s 1 (pF [(gF g2 (Nat.succ (ixO 0 c5 3)))] 0 (muN 1 1))) (br (bnot (z73 1 (pF [(gF g2 (Nat.succ (ixO 0 c5 3)))] 0 (muN 1 1)))) (k0_ ()) (grd (z2j (gF g2 (Nat.succ (Nat.succ (ixO 0 c5 3))))) (br (bnot (z25 (gF g2 (Nat.succ (Nat.succ (ixO 0 c5 3)))))) (k0_ ()) (kn_ (gF g2 (ixO 0 c5 3)) (addI .i64 c5 1))))))) (br (bnot Bool.false) (k0_ ()) (grd (z7s 1 (pF [(gF g2 (Nat.succ (ixO 0 c5 3)))] 0 (muN 1 1))) (br (bnot (z73 1 (pF [(gF g2 (Nat.succ (ixO 0 c5 3)))] 0 (muN 1 1)))) (k0_ ()) (grd (z2j (gF g2 (Nat.succ (Nat.succ (ixO 0 c5 3))))) (br (bnot (z25 (gF g2 (Nat.succ (Nat.succ (ixO 0 c5 3)))))) (k0_ ()) (kn_ (gF g2 (ixO 0 c5 3)) (addI .i64 c5 1))))))))) (k1_ a4 c5 (ltI c5 c1)))
theorem zs6{R R':Type}(o:Option R→Option R')(h0:o none=none)(kn_:Nat→Int→Option R)(k0_:Unit→Option R)(k1_:Nat→Int→Bool→Option R):z21 a0 c1 g2 a3 a4 c5 (fun t4' t45'=>o (kn_ t4' t45')) (fun _=>o (k0_ ())) (fun c0_ c1_ c2_=>o (k1_ c0_ c1_ c2_))=o (z21 a0 c1 g2 a3 a4 c5 kn_ k0_ k1_):=by
 unfold z21
 repeat (first | apply grd_out h0 | apply br_out | rfl)
def z0f(q2w:Nat)(t44:Int)(b3:List Nat)(q18:Nat):Nat→Nat→Int→Option ((Unit)⊕(Nat×Int×Bool))
 | 0,_,_=>none
 | n+1,t4,t45=>z21 q2w t44 b3 q18  t4 t45  (fun t4' t45'=>z0f q2w t44 b3 q18 n t4' t45') (fun _=>some (Sum.inl ())) (fun c0_ c1_ c2_=>some (Sum.inr (c0_,c1_,c2_)))
theorem zg2:z0f a0 c1 g2 a3 (a4+1) a5 c6=z21 a0 c1 g2 a3  a5 c6  (fun t4' t45'=>z0f a0 c1 g2 a3 a4 t4' t45') (fun _=>some (Sum.inl ())) (fun c0_ c1_ c2_=>some (Sum.inr (c0_,c1_,c2_))):=rfl
def z8x:Bool:=(z0f a0 c1 g2 a3 big a4 c5).isSome
def z7z:Bool:=oL (z0f a0 c1 g2 a3 big a4 c5)
def zto:Nat:=((tR (z0f a0 c1 g2 a3 big a4 c5)).getD default).1
def zu0:Int:=((tR (z0f a0 c1 g2 a3 big a4 c5)).getD default).2.1
def zua:Bool:=((tR (z0f a0 c1 g2 a3 big a4 c5)).getD default).2.2
def zc1{R:Type}(k_:Bool→Option R):Option R:=(grd (znk a0 (pF g1 0 (muN a0 1)) a2 (pF g3 0 (muN a2 1)) a4 (pF g5 0 (muN a4 1))) (br (bnot (zmc a0 (pF g1 0 (muN a0 1)) a2 (pF g3 0 (muN a2 1)) a4 (pF g5 0 (muN a4 1)))) (k_ Bool.false) (grd (z89 c8 1 6) (br (bnot (z3v c8 1 6)) (k_ Bool.false) (br (ltI (Int.ofNat a6) 2) (k_ Bool.false) (br (ltI 12 (Int.ofNat a6)) (k_ Bool.false) (grd (zno a9) (br (bnot (zlg a9)) (k_ Bool.false) (grd (z2j a10) (br (bnot (z25 a10)) (k_ Bool.false) (grd (z8x a6 (Int.ofNat a6) g7 a10 a9 0) (br (z7z a6 (Int.ofNat a6) g7 a10 a9 0) (k_ Bool.false) (k_ Bool.true)))))))))))))
def z59:Option (Bool):=zc1 a0 g1 a2 g3 a4 g5 a6 g7 c8 a9 a10 (fun c0_=>some c0_)
theorem zww:Nt1 (fun {R}=>zc1 (R:=R) a0 g1 a2 g3 a4 g5 a6 g7 c8 a9 a10):=by
 intro R R' o h0 k;unfold zc1;repeat (first | apply grd_out h0 | apply br_out | rfl)
def zc7:Bool:=(z59 a0 g1 a2 g3 a4 g5 a6 g7 c8 a9 a10).isSome
def z7q:Bool:=((z59 a0 g1 a2 g3 a4 g5 a6 g7 c8 a9 a10).getD default)
def zha{R:Type}(k_:Nat→Nat→Nat→Nat→Option R):Option R:=(grd (zru a0 (pF g1 0 (muN a0 1)) a2 (pF g3 0 (muN a2 1)) a4 (pF g5 0 (muN a4 1)) a6 (pF g7 0 (muN a6 3)) c8 a9 a10 c11 a12 a13) (grd (z7k a12) (grd (z7k (fop .add .f32 a12 1048576000)) (grd (y03 a0 (pF g1 0 (muN a0 1)) a2 (pF g3 0 (muN a2 1)) a4 (pF g5 0 (muN a4 1)) a6 (pF g7 0 (muN a6 3)) c8 a9 a10 c11 (z1b a12)) (grd (zp3 a0 (pF g1 0 (muN a0 1)) a2 (pF g3 0 (muN a2 1)) a4 (pF g5 0 (muN a4 1)) a6 (pF g7 0 (muN a6 3)) c8 a9 a10 c11) (k_ (fop .quo .f32 (fop .mul .f32 (zfd a0 (pF g1 0 (muN a0 1)) a2 (pF g3 0 (muN a2 1)) a4 (pF g5 0 (muN a4 1)) a6 (pF g7 0 (muN a6 3)) c8 a9 a10 c11) (zi8 a0 (pF g1 0 (muN a0 1)) a2 (pF g3 0 (muN a2 1)) a4 (pF g5 0 (muN a4 1)) a6 (pF g7 0 (muN a6 3)) c8 a9 a10 c11 a12 a13)) (fop .mul .f32 (fop .mul .f32 (fop .mul .f32 1082130432 (zok a0 (pF g1 0 (muN a0 1)) a2 (pF g3 0 (muN a2 1)) a4 (pF g5 0 (muN a4 1)) a6 (pF g7 0 (muN a6 3)) c8 a9 a10 c11 (z1b a12))) (z1b a12)) (z1b a12))) (fop .quo .f32 (fop .mul .f32 (zfd a0 (pF g1 0 (muN a0 1)) a2 (pF g3 0 (muN a2 1)) a4 (pF g5 0 (muN a4 1)) a6 (pF g7 0 (muN a6 3)) c8 a9 a10 c11) (zig a0 (pF g1 0 (muN a0 1)) a2 (pF g3 0 (muN a2 1)) a4 (pF g5 0 (muN a4 1)) a6 (pF g7 0 (muN a6 3)) c8 a9 a10 c11 a12 a13)) (fop .mul .f32 (fop .mul .f32 (fop .mul .f32 1082130432 (zok a0 (pF g1 0 (muN a0 1)) a2 (pF g3 0 (muN a2 1)) a4 (pF g5 0 (muN a4 1)) a6 (pF g7 0 (muN a6 3)) c8 a9 a10 c11 (z1b a12))) (z1b a12)) (z1b (fop .add .f32 a12 1048576000)))) (zi8 a0 (pF g1 0 (muN a0 1)) a2 (pF g3 0 (muN a2 1)) a4 (pF g5 0 (muN a4 1)) a6 (pF g7 0 (muN a6 3)) c8 a9 a10 c11 a12 a13) (zig a0 (pF g1 0 (muN a0 1)) a2 (pF g3 0 (muN a2 1)) a4 (pF g5 0 (muN a4 1)) a6 (pF g7 0 (muN a6 3)) c8 a9 a10 c11 a12 a13)))))))
def z3u:Option (Nat×Nat×Nat×Nat):=zha a0 g1 a2 g3 a4 g5 a6 g7 c8 a9 a10 c11 a12 a13 (fun c0_ c1_ c2_ c3_=>some (c0_,c1_,c2_,c3_))
theorem y2v:Nt4 (fun {R}=>zha (R:=R) a0 g1 a2 g3 a4 g5 a6 g7 c8 a9 a10 c11 a12 a13):=by
 intro R R' o h0 k;unfold zha;repeat (first | apply grd_out h0 | apply br_out | rfl)
def zo5:Bool:=(z3u a0 g1 a2 g3 a4 g5 a6 g7 c8 a9 a10 c11 a12 a13).isSome
def zlz:Nat:=((z3u a0 g1 a2 g3 a4 g5 a6 g7 c8 a9 a10 c11 a12 a13).getD default).1
def zmt:Nat:=((z3u a0 g1 a2 g3 a4 g5 a6 g7 c8 a9 a10 c11 a12 a13).getD default).2.1
def zul:Nat:=((z3u a0 g1 a2 g3 a4 g5 a6 g7 c8 a9 a10 c11 a12 a13).getD default).2.2.1
def zur:Nat:=((z3u a0 g1 a2 g3 a4 g5 a6 g7 c8 a9 a10 c11 a12 a13).getD default).2.2.2
def z8m{R:Type}(k_:Nat→Option R):Option R:=(grd (zfc a0 (pF g1 0 (muN a0 1)) a2 (pF g3 0 (muN a2 1)) a4 (pF g5 0 (muN a4 1)) a6 (pF g7 0 (muN a6 3)) c8 a9 a10 c11 a12 a15) (grd (z4f a12) (grd (z4f (fop .add .f32 a12 1048576000)) (grd (okIx c11 a6) (k_ (fop .sub .f32 (fop .mul .f32 (z1g a12) (fop .add .f32 1065353216 (zes a0 (pF g1 0 (muN a0 1)) a2 (pF g3 0 (muN a2 1)) a4 (pF g5 0 (muN a4 1)) a6 (pF g7 0 (muN a6 3)) c8 a9 a10 c11 a12 a15))) (fop .mul .f32 (fop .mul .f32 (fop .quo .f32 a13 (fop .mul .f32 a14 (gF g7 (ixO 0 c11 3)))) (z1g (fop .add .f32 a12 1048576000))) (fop .sub .f32 1065353216 (zdz a0 (pF g1 0 (muN a0 1)) a2 (pF g3 0 (muN a2 1)) a4 (pF g5 0 (muN a4 1)) a6 (pF g7 0 (muN a6 3)) c8 a9 a10 c11 a12 a15)))))))))
def z2p:Option (Nat):=z8m a0 g1 a2 g3 a4 g5 a6 g7 c8 a9 a10 c11 a12 a13 a14 a15 (fun c0_=>some c0_)
theorem zth:Nt1 (fun {R}=>z8m (R:=R) a0 g1 a2 g3 a4 g5 a6 g7 c8 a9 a10 c11 a12 a13 a14 a15):=by
 intro R R' o h0 k;unfold z8m;repeat (first | apply grd_out h0 | apply br_out | rfl)
def zls:Bool:=(z2p a0 g1 a2 g3 a4 g5 a6 g7 c8 a9 a10 c11 a12 a13 a14 a15).isSome
def z7u:Nat:=((z2p a0 g1 a2 g3 a4 g5 a6 g7 c8 a9 a10 c11 a12 a13 a14 a15).getD default)
def zh3{R:Type}(k_:Bool→Option R):Option R:=(grd (zc7 a0 (pF g1 0 (muN a0 1)) a2 (pF g3 0 (muN a2 1)) a4 (pF g5 0 (muN a4 1)) a6 (pF g7 0 (muN a6 3)) c8 a9 a10) (br (z7q a0 (pF g1 0 (muN a0 1)) a2 (pF g3 0 (muN a2 1)) a4 (pF g5 0 (muN a4 1)) a6 (pF g7 0 (muN a6 3)) c8 a9 a10) (grd (ziq a0 (pF g1 0 (muN a0 1)) a2 (pF g3 0 (muN a2 1)) a4 (pF g5 0 (muN a4 1)) a6 (pF g7 0 (muN a6 3)) c8 a9 a10 c11) (br (zhg a0 (pF g1 0 (muN a0 1)) a2 (pF g3 0 (muN a2 1)) a4 (pF g5 0 (muN a4 1)) a6 (pF g7 0 (muN a6 3)) c8 a9 a10 c11) (grd (z7s 2 (pF [a12,a13] 0 (muN 2 1))) (br (z73 2 (pF [a12,a13] 0 (muN 2 1))) (grd (z2j a14) (br (z25 a14) (grd (okIx c11 a6) (grd (z2j (fop .sub .f32 (fop .sub .f32 981668463 (gF g7 (Nat.succ (Nat.succ (ixO 0 c11 3))))) a14)) (k_ (z25 (fop .sub .f32 (fop .sub .f32 981668463 (gF g7 (Nat.succ (Nat.succ (ixO 0 c11 3))))) a14))))) (k_ Bool.false))) (k_ Bool.false))) (k_ Bool.false))) (k_ Bool.false)))
def z7l:Option (Bool):=zh3 a0 g1 a2 g3 a4 g5 a6 g7 c8 a9 a10 c11 a12 a13 a14 (fun c0_=>some c0_)
theorem y3f:Nt1 (fun {R}=>zh3 (R:=R) a0 g1 a2 g3 a4 g5 a6 g7 c8 a9 a10 c11 a12 a13 a14):=by
 intro R R' o h0 k;unfold zh3;repeat (first | apply grd_out h0 | apply br_out | rfl)
def znn:Bool:=(z7l a0 g1 a2 g3 a4 g5 a6 g7 c8 a9 a10 c11 a12 a13 a14).isSome
def zmx:Bool:=((z7l a0 g1 a2 g3 a4 g5 a6 g7 c8 a9 a10 c11 a12 a13 a14).getD default)
def zcc{R:Type}(k_:Nat→Option R):Option R:=(grd (zo5 a0 (pF g1 0 (muN a0 1)) a2 (pF g3 0 (muN a2 1)) a4 (pF g5 0 (muN a4 1)) a6 (pF g7 0 (muN a6 3)) c8 a9 a10 c11 a12 a15) (grd (z7k a12) (grd (z7k (fop .add .f32 a12 1048576000)) (grd (okIx c11 a6) (k_ (fop .sub .f32 (fop .mul .f32 (z1b a12) (fop .add .f32 1065353216 (zlz a0 (pF g1 0 (muN a0 1)) a2 (pF g3 0 (muN a2 1)) a4 (pF g5 0 (muN a4 1)) a6 (pF g7 0 (muN a6 3)) c8 a9 a10 c11 a12 a15))) (fop .mul .f32 (fop .mul .f32 (fop .quo .f32 a13 (fop .mul .f32 a14 (gF g7 (ixO 0 c11 3)))) (z1b (fop .add .f32 a12 1048576000))) (fop .sub .f32 1065353216 (zmt a0 (pF g1 0 (muN a0 1)) a2 (pF g3 0 (muN a2 1)) a4 (pF g5 0 (muN a4 1)) a6 (pF g7 0 (muN a6 3)) c8 a9 a10 c11 a12 a15)))))))))
def z30:Option (Nat):=zcc a0 g1 a2 g3 a4 g5 a6 g7 c8 a9 a10 c11 a12 a13 a14 a15 (fun c0_=>some c0_)
theorem zwb:Nt1 (fun {R}=>zcc (R:=R) a0 g1 a2 g3 a4 g5 a6 g7 c8 a9 a10 c11 a12 a13 a14 a15):=by
 intro R R' o h0 k;unfold zcc;repeat (first | apply grd_out h0 | apply br_out | rfl)
def zqr:Bool:=(z30 a0 g1 a2 g3 a4 g5 a6 g7 c8 a9 a10 c11 a12 a13 a14 a15).isSome
def zar:Nat:=((z30 a0 g1 a2 g3 a4 g5 a6 g7 c8 a9 a10 c11 a12 a13 a14 a15).getD default)
def ze0{R:Type}(k_:Nat→Bool→Option R):Option R:=(grd (znn a0 (pF g1 0 (muN a0 1)) a2 (pF g3 0 (muN a2 1)) a4 (pF g5 0 (muN a4 1)) a6 (pF g7 0 (muN a6 3)) c8 a9 a10 c11 a13 a14 a15) (br (bnot (zmx a0 (pF g1 0 (muN a0 1)) a2 (pF g3 0 (muN a2 1)) a4 (pF g5 0 (muN a4 1)) a6 (pF g7 0 (muN a6 3)) c8 a9 a10 c11 a13 a14 a15)) (k_ 0 Bool.false) (grd (zzy a12) (br (bnot (zxg a12)) (k_ 0 Bool.false) (grd (zls a0 (pF g1 0 (muN a0 1)) a2 (pF g3 0 (muN a2 1)) a4 (pF g5 0 (muN a4 1)) a6 (pF g7 0 (muN a6 3)) c8 a9 a10 c11 a12 a13 a14 a15) (grd (zoa (z7u a0 (pF g1 0 (muN a0 1)) a2 (pF g3 0 (muN a2 1)) a4 (pF g5 0 (muN a4 1)) a6 (pF g7 0 (muN a6 3)) c8 a9 a10 c11 a12 a13 a14 a15)) (k_ (zmy (z7u a0 (pF g1 0 (muN a0 1)) a2 (pF g3 0 (muN a2 1)) a4 (pF g5 0 (muN a4 1)) a6 (pF g7 0 (muN a6 3)) c8 a9 a10 c11 a12 a13 a14 a15)) (zmj (z7u a0 (pF g1 0 (muN a0 1)) a2 (pF g3 0 (muN a2 1)) a4 (pF g5 0 (muN a4 1)) a6 (pF g7 0 (muN a6 3)) c8 a9 a10 c11 a12 a13 a14 a15)))))))))
def z4k:Option (Nat×Bool):=ze0 a0 g1 a2 g3 a4 g5 a6 g7 c8 a9 a10 c11 a12 a13 a14 a15 (fun c0_ c1_=>some (c0_,c1_))
theorem zys:Nt2 (fun {R}=>ze0 (R:=R) a0 g1 a2 g3 a4 g5 a6 g7 c8 a9 a10 c11 a12 a13 a14 a15):=by
 intro R R' o h0 k;unfold ze0;repeat (first | apply grd_out h0 | apply br_out | rfl)
def zsi:Bool:=(z4k a0 g1 a2 g3 a4 g5 a6 g7 c8 a9 a10 c11 a12 a13 a14 a15).isSome
def zqb:Nat:=((z4k a0 g1 a2 g3 a4 g5 a6 g7 c8 a9 a10 c11 a12 a13 a14 a15).getD default).1
def zr5:Bool:=((z4k a0 g1 a2 g3 a4 g5 a6 g7 c8 a9 a10 c11 a12 a13 a14 a15).getD default).2
def z2a{R:Type}(kn_:Nat→Nat→Int→Option R)(k0_:Unit→Option R)(k1_:Nat→Nat→Int→Bool→Option R):Option R:=(br (ltI c17 24) (grd (zqr a8 (pF g4 0 (muN a8 1)) a9 (pF g5 0 (muN a9 1)) a10 (pF g6 0 (muN a10 1)) a11 (pF g7 0 (muN a11 3)) c12 a13 a14 c0 (fop .mul .f32 1056964608 (fop .add .f32 a15 a16)) a1 a2 a3) (grd (z0x (zar a8 (pF g4 0 (muN a8 1)) a9 (pF g5 0 (muN a9 1)) a10 (pF g6 0 (muN a10 1)) a11 (pF g7 0 (muN a11 3)) c12 a13 a14 c0 (fop .mul .f32 1056964608 (fop .add .f32 a15 a16)) a1 a2 a3)) (br (bnot (z0r (zar a8 (pF g4 0 (muN a8 1)) a9 (pF g5 0 (muN a9 1)) a10 (pF g6 0 (muN a10 1)) a11 (pF g7 0 (muN a11 3)) c12 a13 a14 c0 (fop .mul .f32 1056964608 (fop .add .f32 a15 a16)) a1 a2 a3))) (k0_ ()) (br (fcmp .gtr .f32 (zar a8 (pF g4 0 (muN a8 1)) a9 (pF g5 0 (muN a9 1)) a10 (pF g6 0 (muN a10 1)) a11 (pF g7 0 (muN a11 3)) c12 a13 a14 c0 (fop .mul .f32 1056964608 (fop .add .f32 a15 a16)) a1 a2 a3) 0) (kn_ a15 (fop .mul .f32 1056964608 (fop .add .f32 a15 a16)) (addI .i64 c17 1)) (kn_ (fop .mul .f32 1056964608 (fop .add .f32 a15 a16)) a16 (addI .i64 c17 1)))))) (k1_ a15 a16 c17 (ltI c17 24)))
theorem zu9{R R':Type}(o:Option R→Option R')(h0:o none=none)(kn_:Nat→Nat→Int→Option R)(k0_:Unit→Option R)(k1_:Nat→Nat→Int→Bool→Option R):z2a c0 a1 a2 a3 g4 g5 g6 g7 a8 a9 a10 a11 c12 a13 a14 a15 a16 c17 (fun low' q22' k'=>o (kn_ low' q22' k')) (fun _=>o (k0_ ())) (fun c0_ c1_ c2_ c3_=>o (k1_ c0_ c1_ c2_ c3_))=o (z2a c0 a1 a2 a3 g4 g5 g6 g7 a8 a9 a10 a11 c12 a13 a14 a15 a16 c17 kn_ k0_ k1_):=by
 unfold z2a
 repeat (first | apply grd_out h0 | apply br_out | rfl)
def z0h(i:Int)(q17 q0u q0l:Nat)(b0 b1 b2 b3:List Nat)(q14 q15 q16 q0q:Nat)(q1j:Int)(q19 q18:Nat):Nat→Nat→Nat→Int→Option ((Unit)⊕(Nat×Nat×Int×Bool))
 | 0,_,_,_=>none
 | n+1,low,q22,k=>z2a i q17 q0u q0l b0 b1 b2 b3 q14 q15 q16 q0q q1j q19 q18  low q22 k  (fun low' q22' k'=>z0h i q17 q0u q0l b0 b1 b2 b3 q14 q15 q16 q0q q1j q19 q18 n low' q22' k') (fun _=>some (Sum.inl ())) (fun c0_ c1_ c2_ c3_=>some (Sum.inr (c0_,c1_,c2_,c3_)))
theorem zgf:z0h c0 a1 a2 a3 g4 g5 g6 g7 a8 a9 a10 a11 c12 a13 a14 (a15+1) a16 a17 c18=z2a c0 a1 a2 a3 g4 g5 g6 g7 a8 a9 a10 a11 c12 a13 a14  a16 a17 c18  (fun low' q22' k'=>z0h c0 a1 a2 a3 g4 g5 g6 g7 a8 a9 a10 a11 c12 a13 a14 a15 low' q22' k') (fun _=>some (Sum.inl ())) (fun c0_ c1_ c2_ c3_=>some (Sum.inr (c0_,c1_,c2_,c3_))):=rfl
def zfl:Bool:=(z0h c0 a1 a2 a3 g4 g5 g6 g7 a8 a9 a10 a11 c12 a13 a14 big a15 a16 c17).isSome
def zef:Bool:=oL (z0h c0 a1 a2 a3 g4 g5 g6 g7 a8 a9 a10 a11 c12 a13 a14 big a15 a16 c17)
def ziv:Nat:=((tR (z0h c0 a1 a2 a3 g4 g5 g6 g7 a8 a9 a10 a11 c12 a13 a14 big a15 a16 c17)).getD default).1
def zuy:Nat:=((tR (z0h c0 a1 a2 a3 g4 g5 g6 g7 a8 a9 a10 a11 c12 a13 a14 big a15 a16 c17)).getD default).2.1
def zvq:Int:=((tR (z0h c0 a1 a2 a3 g4 g5 g6 g7 a8 a9 a10 a11 c12 a13 a14 big a15 a16 c17)).getD default).2.2.1
def zvd:Bool:=((tR (z0h c0 a1 a2 a3 g4 g5 g6 g7 a8 a9 a10 a11 c12 a13 a14 big a15 a16 c17)).getD default).2.2.2
def zev{R:Type}(k_:Nat→Bool→Option R):Option R:=(grd (zfl c11 a12 a13 a14 g1 g3 g5 g7 a0 a2 a4 a6 c8 a9 a10 981668463 1048508891 0) (br (zef c11 a12 a13 a14 g1 g3 g5 g7 a0 a2 a4 a6 c8 a9 a10 981668463 1048508891 0) (k_ 0 Bool.false) (k_ (ziv c11 a12 a13 a14 g1 g3 g5 g7 a0 a2 a4 a6 c8 a9 a10 981668463 1048508891 0) Bool.true)))
def z4g:Option (Nat×Bool):=zev a0 g1 a2 g3 a4 g5 a6 g7 c8 a9 a10 c11 a12 a13 a14 (fun c0_ c1_=>some (c0_,c1_))
theorem zyz:Nt2 (fun {R}=>zev (R:=R) a0 g1 a2 g3 a4 g5 a6 g7 c8 a9 a10 c11 a12 a13 a14):=by
 intro R R' o h0 k;unfold zev;repeat (first | apply grd_out h0 | apply br_out | rfl)
def zt8:Bool:=(z4g a0 g1 a2 g3 a4 g5 a6 g7 c8 a9 a10 c11 a12 a13 a14).isSome
def zr4:Nat:=((z4g a0 g1 a2 g3 a4 g5 a6 g7 c8 a9 a10 c11 a12 a13 a14).getD default).1
def zqh:Bool:=((z4g a0 g1 a2 g3 a4 g5 a6 g7 c8 a9 a10 c11 a12 a13 a14).getD default).2
def z3n{R:Type}(kn_:Nat→Nat→Int→Option R)(k0_:Unit→Option R)(k1_:Nat→Nat→Int→Bool→Option R):Option R:=(br (ltI c17 24) (grd (zsi a8 (pF g4 0 (muN a8 1)) a9 (pF g5 0 (muN a9 1)) a10 (pF g6 0 (muN a10 1)) a11 (pF g7 0 (muN a11 3)) c12 a13 a14 c0 (fop .quo .f32 (fop .add .f32 a15 a16) 1073741824) a1 a2 a3) (br (bnot (zr5 a8 (pF g4 0 (muN a8 1)) a9 (pF g5 0 (muN a9 1)) a10 (pF g6 0 (muN a10 1)) a11 (pF g7 0 (muN a11 3)) c12 a13 a14 c0 (fop .quo .f32 (fop .add .f32 a15 a16) 1073741824) a1 a2 a3)) (k0_ ()) (br (fcmp .gtr .f32 (zqb a8 (pF g4 0 (muN a8 1)) a9 (pF g5 0 (muN a9 1)) a10 (pF g6 0 (muN a10 1)) a11 (pF g7 0 (muN a11 3)) c12 a13 a14 c0 (fop .quo .f32 (fop .add .f32 a15 a16) 1073741824) a1 a2 a3) 0) (kn_ a15 (fop .quo .f32 (fop .add .f32 a15 a16) 1073741824) (addI .i64 c17 1)) (kn_ (fop .quo .f32 (fop .add .f32 a15 a16) 1073741824) a16 (addI .i64 c17 1))))) (k1_ a15 a16 c17 (ltI c17 24)))
theorem zyx{R R':Type}(o:Option R→Option R')(h0:o none=none)(kn_:Nat→Nat→Int→Option R)(k0_:Unit→Option R)(k1_:Nat→Nat→Int→Bool→Option R):z3n c0 a1 a2 a3 g4 g5 g6 g7 a8 a9 a10 a11 c12 a13 a14 a15 a16 c17 (fun low' q22' t24'=>o (kn_ low' q22' t24')) (fun _=>o (k0_ ())) (fun c0_ c1_ c2_ c3_=>o (k1_ c0_ c1_ c2_ c3_))=o (z3n c0 a1 a2 a3 g4 g5 g6 g7 a8 a9 a10 a11 c12 a13 a14 a15 a16 c17 kn_ k0_ k1_):=by
 unfold z3n
 repeat (first | apply grd_out h0 | apply br_out | rfl)
def z0s(i:Int)(q17 q0u q0l:Nat)(b0 b1 b2 b3:List Nat)(q14 q15 q16 q0q:Nat)(q1j:Int)(q19 q18:Nat):Nat→Nat→Nat→Int→Option ((Unit)⊕(Nat×Nat×Int×Bool))
 | 0,_,_,_=>none
 | n+1,low,q22,t24=>z3n i q17 q0u q0l b0 b1 b2 b3 q14 q15 q16 q0q q1j q19 q18  low q22 t24  (fun low' q22' t24'=>z0s i q17 q0u q0l b0 b1 b2 b3 q14 q15 q16 q0q q1j q19 q18 n low' q22' t24') (fun _=>some (Sum.inl ())) (fun c0_ c1_ c2_ c3_=>some (Sum.inr (c0_,c1_,c2_,c3_)))
theorem zkv:z0s c0 a1 a2 a3 g4 g5 g6 g7 a8 a9 a10 a11 c12 a13 a14 (a15+1) a16 a17 c18=z3n c0 a1 a2 a3 g4 g5 g6 g7 a8 a9 a10 a11 c12 a13 a14  a16 a17 c18  (fun low' q22' t24'=>z0s c0 a1 a2 a3 g4 g5 g6 g7 a8 a9 a10 a11 c12 a13 a14 a15 low' q22' t24') (fun _=>some (Sum.inl ())) (fun c0_ c1_ c2_ c3_=>some (Sum.inr (c0_,c1_,c2_,c3_))):=rfl
def zjl:Bool:=(z0s c0 a1 a2 a3 g4 g5 g6 g7 a8 a9 a10 a11 c12 a13 a14 big a15 a16 c17).isSome
def zid:Bool:=oL (z0s c0 a1 a2 a3 g4 g5 g6 g7 a8 a9 a10 a11 c12 a13 a14 big a15 a16 c17)
def znf:Nat:=((tR (z0s c0 a1 a2 a3 g4 g5 g6 g7 a8 a9 a10 a11 c12 a13 a14 big a15 a16 c17)).getD default).1
def y0y:Nat:=((tR (z0s c0 a1 a2 a3 g4 g5 g6 g7 a8 a9 a10 a11 c12 a13 a14 big a15 a16 c17)).getD default).2.1
def y1x:Int:=((tR (z0s c0 a1 a2 a3 g4 g5 g6 g7 a8 a9 a10 a11 c12 a13 a14 big a15 a16 c17)).getD default).2.2.1
def y0f:Bool:=((tR (z0s c0 a1 a2 a3 g4 g5 g6 g7 a8 a9 a10 a11 c12 a13 a14 big a15 a16 c17)).getD default).2.2.2
def z55:=(zr4 a0 (pF g1 0 (muN a0 1)) a2 (pF g3 0 (muN a2 1)) a4 (pF g5 0 (muN a4 1)) a6 (pF g7 0 (muN a6 3)) c8 a9 a10 c11 a12 a13 a14)
def zca:=(fop .quo .f32 a12 (fop .add .f32 1065353216 (zlz a0 (pF g1 0 (muN a0 1)) a2 (pF g3 0 (muN a2 1)) a4 (pF g5 0 (muN a4 1)) a6 (pF g7 0 (muN a6 3)) c8 a9 a10 c11 (z55 a0 g1 a2 g3 a4 g5 a6 g7 c8 a9 a10 c11 a12 a13 a14) a14)))
def zc5:=(fop .quo .f32 (fop .mul .f32 a13 (gF g7 (ixO 0 c11 3))) (fop .sub .f32 1065353216 (zmt a0 (pF g1 0 (muN a0 1)) a2 (pF g3 0 (muN a2 1)) a4 (pF g5 0 (muN a4 1)) a6 (pF g7 0 (muN a6 3)) c8 a9 a10 c11 (z55 a0 g1 a2 g3 a4 g5 a6 g7 c8 a9 a10 c11 a12 a13 a14) a14)))
def zcb:=(fop .mul .f32 (fop .mul .f32 (fop .mul .f32 1056964608 a15) (fop .add .f32 (fop .mul .f32 (zca a0 g1 a2 g3 a4 g5 a6 g7 c8 a9 a10 c11 a12 a13 a14) (zca a0 g1 a2 g3 a4 g5 a6 g7 c8 a9 a10 c11 a12 a13 a14)) (fop .mul .f32 (zc5 a0 g1 a2 g3 a4 g5 a6 g7 c8 a9 a10 c11 a12 a13 a14) (zc5 a0 g1 a2 g3 a4 g5 a6 g7 c8 a9 a10 c11 a12 a13 a14)))) (gF g7 (Nat.succ (ixO 0 c11 3))))
def z6q:=(fop .mul .f32 (zcb a0 g1 a2 g3 a4 g5 a6 g7 c8 a9 a10 c11 a12 a13 a14 a15) (zur a0 (pF g1 0 (muN a0 1)) a2 (pF g3 0 (muN a2 1)) a4 (pF g5 0 (muN a4 1)) a6 (pF g7 0 (muN a6 3)) c8 a9 a10 c11 (z55 a0 g1 a2 g3 a4 g5 a6 g7 c8 a9 a10 c11 a12 a13 a14) a14))
def z6p:=(fop .mul .f32 (zcb a0 g1 a2 g3 a4 g5 a6 g7 c8 a9 a10 c11 a12 a13 a14 a15) (zul a0 (pF g1 0 (muN a0 1)) a2 (pF g3 0 (muN a2 1)) a4 (pF g5 0 (muN a4 1)) a6 (pF g7 0 (muN a6 3)) c8 a9 a10 c11 (z55 a0 g1 a2 g3 a4 g5 a6 g7 c8 a9 a10 c11 a12 a13 a14) a14))
def z96{R:Type}(k_:Nat→Nat→Bool→Option R):Option R:=(grd (zt8 a0 (pF g1 0 (muN a0 1)) a2 (pF g3 0 (muN a2 1)) a4 (pF g5 0 (muN a4 1)) a6 (pF g7 0 (muN a6 3)) c8 a9 a10 c11 a12 a13 a14) (br (bnot (zqh a0 (pF g1 0 (muN a0 1)) a2 (pF g3 0 (muN a2 1)) a4 (pF g5 0 (muN a4 1)) a6 (pF g7 0 (muN a6 3)) c8 a9 a10 c11 a12 a13 a14)) (k_ 0 0 Bool.false) (grd (zo5 a0 (pF g1 0 (muN a0 1)) a2 (pF g3 0 (muN a2 1)) a4 (pF g5 0 (muN a4 1)) a6 (pF g7 0 (muN a6 3)) c8 a9 a10 c11 (z55 a0 g1 a2 g3 a4 g5 a6 g7 c8 a9 a10 c11 a12 a13 a14) a14) (grd (okIx c11 a6) (grd (zpd (z6p a0 g1 a2 g3 a4 g5 a6 g7 c8 a9 a10 c11 a12 a13 a14 a15) (z6q a0 g1 a2 g3 a4 g5 a6 g7 c8 a9 a10 c11 a12 a13 a14 a15)) (k_ (zh5 (z6p a0 g1 a2 g3 a4 g5 a6 g7 c8 a9 a10 c11 a12 a13 a14 a15) (z6q a0 g1 a2 g3 a4 g5 a6 g7 c8 a9 a10 c11 a12 a13 a14 a15)) (zh6 (z6p a0 g1 a2 g3 a4 g5 a6 g7 c8 a9 a10 c11 a12 a13 a14 a15) (z6q a0 g1 a2 g3 a4 g5 a6 g7 c8 a9 a10 c11 a12 a13 a14 a15)) (zh9 (z6p a0 g1 a2 g3 a4 g5 a6 g7 c8 a9 a10 c11 a12 a13 a14 a15) (z6q a0 g1 a2 g3 a4 g5 a6 g7 c8 a9 a10 c11 a12 a13 a14 a15))))))))
def z1t:Option (Nat×Nat×Bool):=z96 a0 g1 a2 g3 a4 g5 a6 g7 c8 a9 a10 c11 a12 a13 a14 a15 (fun c0_ c1_ c2_=>some (c0_,c1_,c2_))
theorem zy1:Nt3 (fun {R}=>z96 (R:=R) a0 g1 a2 g3 a4 g5 a6 g7 c8 a9 a10 c11 a12 a13 a14 a15):=by
 intro R R' o h0 k;unfold z96;repeat (first | apply grd_out h0 | apply br_out | rfl)
def zkd:Bool:=(z1t a0 g1 a2 g3 a4 g5 a6 g7 c8 a9 a10 c11 a12 a13 a14 a15).isSome
def zcd:Nat:=((z1t a0 g1 a2 g3 a4 g5 a6 g7 c8 a9 a10 c11 a12 a13 a14 a15).getD default).1
def zcj:Nat:=((z1t a0 g1 a2 g3 a4 g5 a6 g7 c8 a9 a10 c11 a12 a13 a14 a15).getD default).2.1
def zi2:Bool:=((z1t a0 g1 a2 g3 a4 g5 a6 g7 c8 a9 a10 c11 a12 a13 a14 a15).getD default).2.2
def zj1{R:Type}(k_:Nat→Bool→Option R):Option R:=(grd (znn a0 (pF g1 0 (muN a0 1)) a2 (pF g3 0 (muN a2 1)) a4 (pF g5 0 (muN a4 1)) a6 (pF g7 0 (muN a6 3)) c8 a9 a10 c11 a12 a13 a14) (br (bnot (zmx a0 (pF g1 0 (muN a0 1)) a2 (pF g3 0 (muN a2 1)) a4 (pF g5 0 (muN a4 1)) a6 (pF g7 0 (muN a6 3)) c8 a9 a10 c11 a12 a13 a14)) (k_ 0 Bool.false) (grd (zjl c11 a12 a13 a14 g1 g3 g5 g7 a0 a2 a4 a6 c8 a9 a10 981668463 1048508891 0) (br (zid c11 a12 a13 a14 g1 g3 g5 g7 a0 a2 a4 a6 c8 a9 a10 981668463 1048508891 0) (k_ 0 Bool.false) (k_ (znf c11 a12 a13 a14 g1 g3 g5 g7 a0 a2 a4 a6 c8 a9 a10 981668463 1048508891 0) Bool.true)))))
def z6u:Option (Nat×Bool):=zj1 a0 g1 a2 g3 a4 g5 a6 g7 c8 a9 a10 c11 a12 a13 a14 (fun c0_ c1_=>some (c0_,c1_))
theorem y4v:Nt2 (fun {R}=>zj1 (R:=R) a0 g1 a2 g3 a4 g5 a6 g7 c8 a9 a10 c11 a12 a13 a14):=by
 intro R R' o h0 k;unfold zj1;repeat (first | apply grd_out h0 | apply br_out | rfl)
def y04:Bool:=(z6u a0 g1 a2 g3 a4 g5 a6 g7 c8 a9 a10 c11 a12 a13 a14).isSome
def zxc:Nat:=((z6u a0 g1 a2 g3 a4 g5 a6 g7 c8 a9 a10 c11 a12 a13 a14).getD default).1
def zxh:Bool:=((z6u a0 g1 a2 g3 a4 g5 a6 g7 c8 a9 a10 c11 a12 a13 a14).getD default).2
def z39:=(zxc a0 (pF g1 0 (muN a0 1)) a2 (pF g3 0 (muN a2 1)) a4 (pF g5 0 (muN a4 1)) a6 (pF g7 0 (muN a6 3)) c8 a9 a10 c11 a12 a13 a14)
def zd9:=(fop .quo .f32 a12 (fop .add .f32 1065353216 (zes a0 (pF g1 0 (muN a0 1)) a2 (pF g3 0 (muN a2 1)) a4 (pF g5 0 (muN a4 1)) a6 (pF g7 0 (muN a6 3)) c8 a9 a10 c11 (z39 a0 g1 a2 g3 a4 g5 a6 g7 c8 a9 a10 c11 a12 a13 a14) a14)))
def zd6:=(fop .quo .f32 (fop .mul .f32 a13 (gF g7 (ixO 0 c11 3))) (fop .sub .f32 1065353216 (zdz a0 (pF g1 0 (muN a0 1)) a2 (pF g3 0 (muN a2 1)) a4 (pF g5 0 (muN a4 1)) a6 (pF g7 0 (muN a6 3)) c8 a9 a10 c11 (z39 a0 g1 a2 g3 a4 g5 a6 g7 c8 a9 a10 c11 a12 a13 a14) a14)))
def zd8:=(fop .mul .f32 (fop .mul .f32 (fop .mul .f32 1056964608 a15) (fop .add .f32 (fop .mul .f32 (zd9 a0 g1 a2 g3 a4 g5 a6 g7 c8 a9 a10 c11 a12 a13 a14) (zd9 a0 g1 a2 g3 a4 g5 a6 g7 c8 a9 a10 c11 a12 a13 a14)) (fop .mul .f32 (zd6 a0 g1 a2 g3 a4 g5 a6 g7 c8 a9 a10 c11 a12 a13 a14) (zd6 a0 g1 a2 g3 a4 g5 a6 g7 c8 a9 a10 c11 a12 a13 a14)))) (gF g7 (Nat.succ (ixO 0 c11 3))))
def z6c:=(fop .mul .f32 (zd8 a0 g1 a2 g3 a4 g5 a6 g7 c8 a9 a10 c11 a12 a13 a14 a15) (zdv a0 (pF g1 0 (muN a0 1)) a2 (pF g3 0 (muN a2 1)) a4 (pF g5 0 (muN a4 1)) a6 (pF g7 0 (muN a6 3)) c8 a9 a10 c11 (z39 a0 g1 a2 g3 a4 g5 a6 g7 c8 a9 a10 c11 a12 a13 a14) a14))
def z64:=(fop .mul .f32 (zd8 a0 g1 a2 g3 a4 g5 a6 g7 c8 a9 a10 c11 a12 a13 a14 a15) (zek a0 (pF g1 0 (muN a0 1)) a2 (pF g3 0 (muN a2 1)) a4 (pF g5 0 (muN a4 1)) a6 (pF g7 0 (muN a6 3)) c8 a9 a10 c11 (z39 a0 g1 a2 g3 a4 g5 a6 g7 c8 a9 a10 c11 a12 a13 a14) a14))
def z8n{R:Type}(k_:Nat→Nat→Bool→Option R):Option R:=(grd (y04 a0 (pF g1 0 (muN a0 1)) a2 (pF g3 0 (muN a2 1)) a4 (pF g5 0 (muN a4 1)) a6 (pF g7 0 (muN a6 3)) c8 a9 a10 c11 a12 a13 a14) (br (bnot (zxh a0 (pF g1 0 (muN a0 1)) a2 (pF g3 0 (muN a2 1)) a4 (pF g5 0 (muN a4 1)) a6 (pF g7 0 (muN a6 3)) c8 a9 a10 c11 a12 a13 a14)) (k_ 0 0 Bool.false) (grd (z7s 1 (pF [a15] 0 (muN 1 1))) (br (bnot (z73 1 (pF [a15] 0 (muN 1 1)))) (k_ 0 0 Bool.false) (grd (zfc a0 (pF g1 0 (muN a0 1)) a2 (pF g3 0 (muN a2 1)) a4 (pF g5 0 (muN a4 1)) a6 (pF g7 0 (muN a6 3)) c8 a9 a10 c11 (z39 a0 g1 a2 g3 a4 g5 a6 g7 c8 a9 a10 c11 a12 a13 a14) a14) (grd (zfo a0 (pF g1 0 (muN a0 1)) a2 (pF g3 0 (muN a2 1)) a4 (pF g5 0 (muN a4 1)) a6 (pF g7 0 (muN a6 3)) c8 a9 a10 c11 (z39 a0 g1 a2 g3 a4 g5 a6 g7 c8 a9 a10 c11 a12 a13 a14) a14) (grd (okIx c11 a6) (grd (okIx c11 a6) (grd (zic (z64 a0 g1 a2 g3 a4 g5 a6 g7 c8 a9 a10 c11 a12 a13 a14 a15) (z6c a0 g1 a2 g3 a4 g5 a6 g7 c8 a9 a10 c11 a12 a13 a14 a15)) (k_ (zgx (z64 a0 g1 a2 g3 a4 g5 a6 g7 c8 a9 a10 c11 a12 a13 a14 a15) (z6c a0 g1 a2 g3 a4 g5 a6 g7 c8 a9 a10 c11 a12 a13 a14 a15)) (zge (z64 a0 g1 a2 g3 a4 g5 a6 g7 c8 a9 a10 c11 a12 a13 a14 a15) (z6c a0 g1 a2 g3 a4 g5 a6 g7 c8 a9 a10 c11 a12 a13 a14 a15)) (zgi (z64 a0 g1 a2 g3 a4 g5 a6 g7 c8 a9 a10 c11 a12 a13 a14 a15) (z6c a0 g1 a2 g3 a4 g5 a6 g7 c8 a9 a10 c11 a12 a13 a14 a15))))))))))))
def z1j:Option (Nat×Nat×Bool):=z8n a0 g1 a2 g3 a4 g5 a6 g7 c8 a9 a10 c11 a12 a13 a14 a15 (fun c0_ c1_ c2_=>some (c0_,c1_,c2_))
theorem zsm:Nt3 (fun {R}=>z8n (R:=R) a0 g1 a2 g3 a4 g5 a6 g7 c8 a9 a10 c11 a12 a13 a14 a15):=by
 intro R R' o h0 k;unfold z8n;repeat (first | apply grd_out h0 | apply br_out | rfl)
def z8t:Bool:=(z1j a0 g1 a2 g3 a4 g5 a6 g7 c8 a9 a10 c11 a12 a13 a14 a15).isSome
def z7y:Nat:=((z1j a0 g1 a2 g3 a4 g5 a6 g7 c8 a9 a10 c11 a12 a13 a14 a15).getD default).1
def z85:Nat:=((z1j a0 g1 a2 g3 a4 g5 a6 g7 c8 a9 a10 c11 a12 a13 a14 a15).getD default).2.1
def z7x:Bool:=((z1j a0 g1 a2 g3 a4 g5 a6 g7 c8 a9 a10 c11 a12 a13 a14 a15).getD default).2.2
def z3o{R:Type} (kn_:Nat→Nat→Int→(List Nat)→(List Nat)→Option R) (k0_:Unit→Option R) (k1_:Nat→Nat→Int→Bool→(List Nat)→(List Nat)→Option R):Option R:=(br (ltI c17 (Int.ofNat a11)) (grd (zzz a8 (pF g4 0 (muN a8 1)) a9 (pF g5 0 (muN a9 1)) a10 (pF g6 0 (muN a10 1)) a11 (pF g7 0 (muN a11 3)) c12 a13 a14 c17 a0 a1 a2) (br (bnot (zx5 a8 (pF g4 0 (muN a8 1)) a9 (pF g5 0 (muN a9 1)) a10 (pF g6 0 (muN a10 1)) a11 (pF g7 0 (muN a11 3)) c12 a13 a14 c17 a0 a1 a2)) (k0_ ()) (grd (zkd a8 (pF g4 0 (muN a8 1)) a9 (pF g5 0 (muN a9 1)) a10 (pF g6 0 (muN a10 1)) a11 (pF g7 0 (muN a11 3)) c12 a13 a14 c17 a0 a1 a2 a3) (br (bnot (zi2 a8 (pF g4 0 (muN a8 1)) a9 (pF g5 0 (muN a9 1)) a10 (pF g6 0 (muN a10 1)) a11 (pF g7 0 (muN a11 3)) c12 a13 a14 c17 a0 a1 a2 a3)) (k0_ ()) (grd (okA2 a15 1 4 (nF (pF [(zcd a8 (pF g4 0 (muN a8 1)) a9 (pF g5 0 (muN a9 1)) a10 (pF g6 0 (muN a10 1)) a11 (pF g7 0 (muN a11 3)) c12 a13 a14 c17 a0 a1 a2 a3)] 0 (muN 1 1))) (nF g18) 1) (grd (okA2 a16 1 4 (nF (pF [(zcj a8 (pF g4 0 (muN a8 1)) a9 (pF g5 0 (muN a9 1)) a10 (pF g6 0 (muN a10 1)) a11 (pF g7 0 (muN a11 3)) c12 a13 a14 c17 a0 a1 a2 a3)] 0 (muN 1 1))) (nF g19) 1) (kn_ (adN a15 1) (adN a16 1) (addI .i64 c17 1) (aF g18 (pF [(zcd a8 (pF g4 0 (muN a8 1)) a9 (pF g5 0 (muN a9 1)) a10 (pF g6 0 (muN a10 1)) a11 (pF g7 0 (muN a11 3)) c12 a13 a14 c17 a0 a1 a2 a3)] 0 (muN 1 1))) (aF g19 (pF [(zcj a8 (pF g4 0 (muN a8 1)) a9 (pF g5 0 (muN a9 1)) a10 (pF g6 0 (muN a10 1)) a11 (pF g7 0 (muN a11 3)) c12 a13 a14 c17 a0 a1 a2 a3)] 0 (muN 1 1)))))))))) (k1_ a15 a16 c17 (ltI c17 (Int.ofNat a11)) g18 g19))
theorem zzt{R R':Type}(o:Option R→Option R')(h0:o none=none) (kn_:Nat→Nat→Int→(List Nat)→(List Nat)→Option R) (k0_:Unit→Option R) (k1_:Nat→Nat→Int→Bool→(List Nat)→(List Nat)→Option R):z3o a0 a1 a2 a3 g4 g5 g6 g7 a8 a9 a10 a11 c12 a13 a14 a15 a16 c17 g18 g19 (fun q2u' q2v' t15' b5' b6'=>o (kn_ q2u' q2v' t15' b5' b6')) (fun _=>o (k0_ ())) (fun c0_ c1_ c2_ c3_ c4_ c5_=>o (k1_ c0_ c1_ c2_ c3_ c4_ c5_))=o (z3o a0 a1 a2 a3 g4 g5 g6 g7 a8 a9 a10 a11 c12 a13 a14 a15 a16 c17 g18 g19 kn_ k0_ k1_):=by
 unfold z3o
 repeat (first | apply grd_out h0 | apply br_out | rfl)
def z0e(t1 t2 t3 t4:Nat)(b0 b1 b2 b3:List Nat)(q14 q15 q16 q0q:Nat)(q1j:Int)(q19 q18:Nat):Nat→Nat→Nat→Int→(List Nat)→(List Nat)→Option ((Unit)⊕(Nat×Nat×Int×Bool×(List Nat)×(List Nat)))
 | 0,_,_,_,_,_=>none
 | n+1,q2u,q2v,t15,b5,b6=>z3o t1 t2 t3 t4 b0 b1 b2 b3 q14 q15 q16 q0q q1j q19 q18  q2u q2v t15 b5 b6  (fun q2u' q2v' t15' b5' b6'=>z0e t1 t2 t3 t4 b0 b1 b2 b3 q14 q15 q16 q0q q1j q19 q18 n q2u' q2v' t15' b5' b6') (fun _=>some (Sum.inl ())) (fun c0_ c1_ c2_ c3_ c4_ c5_=>some (Sum.inr (c0_,c1_,c2_,c3_,c4_,c5_)))
theorem zl1:z0e a0 a1 a2 a3 g4 g5 g6 g7 a8 a9 a10 a11 c12 a13 a14 (a15+1) a16 a17 c18 g19 g20=z3o a0 a1 a2 a3 g4 g5 g6 g7 a8 a9 a10 a11 c12 a13 a14  a16 a17 c18 g19 g20  (fun q2u' q2v' t15' b5' b6'=>z0e a0 a1 a2 a3 g4 g5 g6 g7 a8 a9 a10 a11 c12 a13 a14 a15 q2u' q2v' t15' b5' b6') (fun _=>some (Sum.inl ())) (fun c0_ c1_ c2_ c3_ c4_ c5_=>some (Sum.inr (c0_,c1_,c2_,c3_,c4_,c5_))):=rfl
def zjm:Bool:=(z0e a0 a1 a2 a3 g4 g5 g6 g7 a8 a9 a10 a11 c12 a13 a14 big a15 a16 c17 g18 g19).isSome
def zhu:Bool:=oL (z0e a0 a1 a2 a3 g4 g5 g6 g7 a8 a9 a10 a11 c12 a13 a14 big a15 a16 c17 g18 g19)
def znm:Nat:=((tR (z0e a0 a1 a2 a3 g4 g5 g6 g7 a8 a9 a10 a11 c12 a13 a14 big a15 a16 c17 g18 g19)).getD default).1
def znd:Nat:=((tR (z0e a0 a1 a2 a3 g4 g5 g6 g7 a8 a9 a10 a11 c12 a13 a14 big a15 a16 c17 g18 g19)).getD default).2.1
def y1z:Int:=((tR (z0e a0 a1 a2 a3 g4 g5 g6 g7 a8 a9 a10 a11 c12 a13 a14 big a15 a16 c17 g18 g19)).getD default).2.2.1
def y1w:Bool:=((tR (z0e a0 a1 a2 a3 g4 g5 g6 g7 a8 a9 a10 a11 c12 a13 a14 big a15 a16 c17 g18 g19)).getD default).2.2.2.1
def znj:List Nat:=((tR (z0e a0 a1 a2 a3 g4 g5 g6 g7 a8 a9 a10 a11 c12 a13 a14 big a15 a16 c17 g18 g19)).getD default).2.2.2.2.1
def zni:List Nat:=((tR (z0e a0 a1 a2 a3 g4 g5 g6 g7 a8 a9 a10 a11 c12 a13 a14 big a15 a16 c17 g18 g19)).getD default).2.2.2.2.2
def ziz{R:Type} (k_:Nat→Nat→Bool→(List Nat)→(List Nat)→Option R):Option R:=(grd (ztj a0 (pF g1 0 (muN a0 1)) a2 (pF g3 0 (muN a2 1)) a4 (pF g5 0 (muN a4 1)) a6 (pF g7 0 (muN a6 3)) c8 a9 a10) (br (bnot (zph a0 (pF g1 0 (muN a0 1)) a2 (pF g3 0 (muN a2 1)) a4 (pF g5 0 (muN a4 1)) a6 (pF g7 0 (muN a6 3)) c8 a9 a10)) (k_ 0 0 Bool.false [] []) (grd (zaf a14) (br (bnot (z9d a14)) (k_ 0 0 Bool.false [] []) (grd (zjm a11 a12 a13 a14 g1 g3 g5 g7 a0 a2 a4 a6 c8 a9 a10 0 0 0 [] []) (br (zhu a11 a12 a13 a14 g1 g3 g5 g7 a0 a2 a4 a6 c8 a9 a10 0 0 0 [] []) (k_ 0 0 Bool.false [] []) (k_ (znm a11 a12 a13 a14 g1 g3 g5 g7 a0 a2 a4 a6 c8 a9 a10 0 0 0 [] []) (znd a11 a12 a13 a14 g1 g3 g5 g7 a0 a2 a4 a6 c8 a9 a10 0 0 0 [] []) Bool.true (znj a11 a12 a13 a14 g1 g3 g5 g7 a0 a2 a4 a6 c8 a9 a10 0 0 0 [] []) (zni a11 a12 a13 a14 g1 g3 g5 g7 a0 a2 a4 a6 c8 a9 a10 0 0 0 [] []))))))))
def z3t:Option (Nat×Nat×Bool×(List Nat)×(List Nat)):=ziz a0 g1 a2 g3 a4 g5 a6 g7 c8 a9 a10 a11 a12 a13 a14 (fun c0_ c1_ c2_ c3_ c4_=>some (c0_,c1_,c2_,c3_,c4_))
theorem y4b:Nt5 (fun {R}=>ziz (R:=R) a0 g1 a2 g3 a4 g5 a6 g7 c8 a9 a10 a11 a12 a13 a14):=by
 intro R R' o h0 k;unfold ziz;repeat (first | apply grd_out h0 | apply br_out | rfl)
def y0a:Bool:=(z3t a0 g1 a2 g3 a4 g5 a6 g7 c8 a9 a10 a11 a12 a13 a14).isSome
def z0v:Nat:=((z3t a0 g1 a2 g3 a4 g5 a6 g7 c8 a9 a10 a11 a12 a13 a14).getD default).1
def y9r:Nat:=((z3t a0 g1 a2 g3 a4 g5 a6 g7 c8 a9 a10 a11 a12 a13 a14).getD default).2.1
def zx9:Bool:=((z3t a0 g1 a2 g3 a4 g5 a6 g7 c8 a9 a10 a11 a12 a13 a14).getD default).2.2.1
def z93:List Nat:=((z3t a0 g1 a2 g3 a4 g5 a6 g7 c8 a9 a10 a11 a12 a13 a14).getD default).2.2.2.1
def y9z:List Nat:=((z3t a0 g1 a2 g3 a4 g5 a6 g7 c8 a9 a10 a11 a12 a13 a14).getD default).2.2.2.2
def z29{R:Type} (kn_:Int→(List Nat)→Option R) (k0_:Int→Bool→(List Nat)→Option R):Option R:=(br (ltI c5 c1) (grd (okIx c5 a0) (grd (okIx c5 a3) (grd (okIx c5 a0) (kn_ (addI .i64 c5 1) (sF g6 (ixO 0 c5 1) (fop .mul .f32 (gF g6 (ixO 0 c5 1)) (fop .sub .f32 (gF g2 (ixO 0 c5 3)) a4))))))) (k0_ c5 (ltI c5 c1) g6))
theorem ztp{R R':Type}(o:Option R→Option R')(h0:o none=none) (kn_:Int→(List Nat)→Option R) (k0_:Int→Bool→(List Nat)→Option R):z29 a0 c1 g2 a3 a4 c5 g6 (fun t29' b5'=>o (kn_ t29' b5')) (fun c0_ c1_ c2_=>o (k0_ c0_ c1_ c2_))=o (z29 a0 c1 g2 a3 a4 c5 g6 kn_ k0_):=by
 unfold z29
 repeat (first | apply grd_out h0 | apply br_out | rfl)
def z11(q2i:Nat)(t28:Int)(b3:List Nat)(q0q q19:Nat):Nat→Int→(List Nat)→Option ((Int×Bool×(List Nat)))
 | 0,_,_=>none
 | n+1,t29,b5=>z29 q2i t28 b3 q0q q19  t29 b5  (fun t29' b5'=>z11 q2i t28 b3 q0q q19 n t29' b5') (fun c0_ c1_ c2_=>some (c0_,c1_,c2_))
theorem zgn:z11 a0 c1 g2 a3 a4 (a5+1) c6 g7=z29 a0 c1 g2 a3 a4  c6 g7  (fun t29' b5'=>z11 a0 c1 g2 a3 a4 a5 t29' b5') (fun c0_ c1_ c2_=>some (c0_,c1_,c2_)):=rfl
def zn7:Bool:=(z11 a0 c1 g2 a3 a4 big c5 g6).isSome
def zvp:Int:=((z11 a0 c1 g2 a3 a4 big c5 g6).getD default).1
def zvs:Bool:=((z11 a0 c1 g2 a3 a4 big c5 g6).getD default).2.1
def z5g:List Nat:=((z11 a0 c1 g2 a3 a4 big c5 g6).getD default).2.2
def zen{R:Type}(k_:Nat→Bool→Option R):Option R:=(grd (y0a a0 (pF g1 0 (muN a0 1)) a2 (pF g3 0 (muN a2 1)) a4 (pF g5 0 (muN a4 1)) a6 (pF g7 0 (muN a6 3)) c8 a9 a10 a11 a12 a13 a14) (br (bnot (zx9 a0 (pF g1 0 (muN a0 1)) a2 (pF g3 0 (muN a2 1)) a4 (pF g5 0 (muN a4 1)) a6 (pF g7 0 (muN a6 3)) c8 a9 a10 a11 a12 a13 a14)) (k_ 0 Bool.false) (grd (zn7 (z0v a0 (pF g1 0 (muN a0 1)) a2 (pF g3 0 (muN a2 1)) a4 (pF g5 0 (muN a4 1)) a6 (pF g7 0 (muN a6 3)) c8 a9 a10 a11 a12 a13 a14) (Int.ofNat (z0v a0 (pF g1 0 (muN a0 1)) a2 (pF g3 0 (muN a2 1)) a4 (pF g5 0 (muN a4 1)) a6 (pF g7 0 (muN a6 3)) c8 a9 a10 a11 a12 a13 a14)) g7 a6 a9 0 (z93 a0 (pF g1 0 (muN a0 1)) a2 (pF g3 0 (muN a2 1)) a4 (pF g5 0 (muN a4 1)) a6 (pF g7 0 (muN a6 3)) c8 a9 a10 a11 a12 a13 a14)) (grd (y05 a0 (pF g1 0 (muN a0 1)) a2 (pF g3 0 (muN a2 1)) a4 (pF g5 0 (muN a4 1)) a6 (pF g7 0 (muN a6 3)) c8 a9 a10 (z0v a0 (pF g1 0 (muN a0 1)) a2 (pF g3 0 (muN a2 1)) a4 (pF g5 0 (muN a4 1)) a6 (pF g7 0 (muN a6 3)) c8 a9 a10 a11 a12 a13 a14) (pF (z5g (z0v a0 (pF g1 0 (muN a0 1)) a2 (pF g3 0 (muN a2 1)) a4 (pF g5 0 (muN a4 1)) a6 (pF g7 0 (muN a6 3)) c8 a9 a10 a11 a12 a13 a14) (Int.ofNat (z0v a0 (pF g1 0 (muN a0 1)) a2 (pF g3 0 (muN a2 1)) a4 (pF g5 0 (muN a4 1)) a6 (pF g7 0 (muN a6 3)) c8 a9 a10 a11 a12 a13 a14)) g7 a6 a9 0 (z93 a0 (pF g1 0 (muN a0 1)) a2 (pF g3 0 (muN a2 1)) a4 (pF g5 0 (muN a4 1)) a6 (pF g7 0 (muN a6 3)) c8 a9 a10 a11 a12 a13 a14)) 0 (muN (z0v a0 (pF g1 0 (muN a0 1)) a2 (pF g3 0 (muN a2 1)) a4 (pF g5 0 (muN a4 1)) a6 (pF g7 0 (muN a6 3)) c8 a9 a10 a11 a12 a13 a14) 1))) (grd (zs4 (zh0 a0 (pF g1 0 (muN a0 1)) a2 (pF g3 0 (muN a2 1)) a4 (pF g5 0 (muN a4 1)) a6 (pF g7 0 (muN a6 3)) c8 a9 a10 (z0v a0 (pF g1 0 (muN a0 1)) a2 (pF g3 0 (muN a2 1)) a4 (pF g5 0 (muN a4 1)) a6 (pF g7 0 (muN a6 3)) c8 a9 a10 a11 a12 a13 a14) (pF (z5g (z0v a0 (pF g1 0 (muN a0 1)) a2 (pF g3 0 (muN a2 1)) a4 (pF g5 0 (muN a4 1)) a6 (pF g7 0 (muN a6 3)) c8 a9 a10 a11 a12 a13 a14) (Int.ofNat (z0v a0 (pF g1 0 (muN a0 1)) a2 (pF g3 0 (muN a2 1)) a4 (pF g5 0 (muN a4 1)) a6 (pF g7 0 (muN a6 3)) c8 a9 a10 a11 a12 a13 a14)) g7 a6 a9 0 (z93 a0 (pF g1 0 (muN a0 1)) a2 (pF g3 0 (muN a2 1)) a4 (pF g5 0 (muN a4 1)) a6 (pF g7 0 (muN a6 3)) c8 a9 a10 a11 a12 a13 a14)) 0 (muN (z0v a0 (pF g1 0 (muN a0 1)) a2 (pF g3 0 (muN a2 1)) a4 (pF g5 0 (muN a4 1)) a6 (pF g7 0 (muN a6 3)) c8 a9 a10 a11 a12 a13 a14) 1)))) (k_ (zr0 (zh0 a0 (pF g1 0 (muN a0 1)) a2 (pF g3 0 (muN a2 1)) a4 (pF g5 0 (muN a4 1)) a6 (pF g7 0 (muN a6 3)) c8 a9 a10 (z0v a0 (pF g1 0 (muN a0 1)) a2 (pF g3 0 (muN a2 1)) a4 (pF g5 0 (muN a4 1)) a6 (pF g7 0 (muN a6 3)) c8 a9 a10 a11 a12 a13 a14) (pF (z5g (z0v a0 (pF g1 0 (muN a0 1)) a2 (pF g3 0 (muN a2 1)) a4 (pF g5 0 (muN a4 1)) a6 (pF g7 0 (muN a6 3)) c8 a9 a10 a11 a12 a13 a14) (Int.ofNat (z0v a0 (pF g1 0 (muN a0 1)) a2 (pF g3 0 (muN a2 1)) a4 (pF g5 0 (muN a4 1)) a6 (pF g7 0 (muN a6 3)) c8 a9 a10 a11 a12 a13 a14)) g7 a6 a9 0 (z93 a0 (pF g1 0 (muN a0 1)) a2 (pF g3 0 (muN a2 1)) a4 (pF g5 0 (muN a4 1)) a6 (pF g7 0 (muN a6 3)) c8 a9 a10 a11 a12 a13 a14)) 0 (muN (z0v a0 (pF g1 0 (muN a0 1)) a2 (pF g3 0 (muN a2 1)) a4 (pF g5 0 (muN a4 1)) a6 (pF g7 0 (muN a6 3)) c8 a9 a10 a11 a12 a13 a14) 1)))) (zr1 (zh0 a0 (pF g1 0 (muN a0 1)) a2 (pF g3 0 (muN a2 1)) a4 (pF g5 0 (muN a4 1)) a6 (pF g7 0 (muN a6 3)) c8 a9 a10 (z0v a0 (pF g1 0 (muN a0 1)) a2 (pF g3 0 (muN a2 1)) a4 (pF g5 0 (muN a4 1)) a6 (pF g7 0 (muN a6 3)) c8 a9 a10 a11 a12 a13 a14) (pF (z5g (z0v a0 (pF g1 0 (muN a0 1)) a2 (pF g3 0 (muN a2 1)) a4 (pF g5 0 (muN a4 1)) a6 (pF g7 0 (muN a6 3)) c8 a9 a10 a11 a12 a13 a14) (Int.ofNat (z0v a0 (pF g1 0 (muN a0 1)) a2 (pF g3 0 (muN a2 1)) a4 (pF g5 0 (muN a4 1)) a6 (pF g7 0 (muN a6 3)) c8 a9 a10 a11 a12 a13 a14)) g7 a6 a9 0 (z93 a0 (pF g1 0 (muN a0 1)) a2 (pF g3 0 (muN a2 1)) a4 (pF g5 0 (muN a4 1)) a6 (pF g7 0 (muN a6 3)) c8 a9 a10 a11 a12 a13 a14)) 0 (muN (z0v a0 (pF g1 0 (muN a0 1)) a2 (pF g3 0 (muN a2 1)) a4 (pF g5 0 (muN a4 1)) a6 (pF g7 0 (muN a6 3)) c8 a9 a10 a11 a12 a13 a14) 1))))))))))
def z4l:Option (Nat×Bool):=zen a0 g1 a2 g3 a4 g5 a6 g7 c8 a9 a10 a11 a12 a13 a14 (fun c0_ c1_=>some (c0_,c1_))
theorem zy7:Nt2 (fun {R}=>zen (R:=R) a0 g1 a2 g3 a4 g5 a6 g7 c8 a9 a10 a11 a12 a13 a14):=by
 intro R R' o h0 k;unfold zen;repeat (first | apply grd_out h0 | apply br_out | rfl)
def zsy:Bool:=(z4l a0 g1 a2 g3 a4 g5 a6 g7 c8 a9 a10 a11 a12 a13 a14).isSome
def zqx:Nat:=((z4l a0 g1 a2 g3 a4 g5 a6 g7 c8 a9 a10 a11 a12 a13 a14).getD default).1
def zqc:Bool:=((z4l a0 g1 a2 g3 a4 g5 a6 g7 c8 a9 a10 a11 a12 a13 a14).getD default).2
def z2b{R:Type} (kn_:Int→(List Nat)→Option R) (k0_:Int→Bool→(List Nat)→Option R):Option R:=(br (ltI c5 c2) (grd (okIx c5 a1) (grd (okIx c5 a0) (grd (okIx c5 a0) (kn_ (addI .i64 c5 1) (sF g6 (ixO 0 c5 1) (fop .mul .f32 (gF g6 (ixO 0 c5 1)) (fop .sub .f32 (gF g3 (ixO 0 c5 3)) a4))))))) (k0_ c5 (ltI c5 c2) g6))
theorem zu7{R R':Type}(o:Option R→Option R')(h0:o none=none) (kn_:Int→(List Nat)→Option R) (k0_:Int→Bool→(List Nat)→Option R):z2b a0 a1 c2 g3 a4 c5 g6 (fun t32' b5'=>o (kn_ t32' b5')) (fun c0_ c1_ c2_=>o (k0_ c0_ c1_ c2_))=o (z2b a0 a1 c2 g3 a4 c5 g6 kn_ k0_):=by
 unfold z2b
 repeat (first | apply grd_out h0 | apply br_out | rfl)
def z10(q2m q30:Nat)(t31:Int)(b3:List Nat)(q19:Nat):Nat→Int→(List Nat)→Option ((Int×Bool×(List Nat)))
 | 0,_,_=>none
 | n+1,t32,b5=>z2b q2m q30 t31 b3 q19  t32 b5  (fun t32' b5'=>z10 q2m q30 t31 b3 q19 n t32' b5') (fun c0_ c1_ c2_=>some (c0_,c1_,c2_))
theorem zgh:z10 a0 a1 c2 g3 a4 (a5+1) c6 g7=z2b a0 a1 c2 g3 a4  c6 g7  (fun t32' b5'=>z10 a0 a1 c2 g3 a4 a5 t32' b5') (fun c0_ c1_ c2_=>some (c0_,c1_,c2_)):=rfl
def zne:Bool:=(z10 a0 a1 c2 g3 a4 big c5 g6).isSome
def zvf:Int:=((z10 a0 a1 c2 g3 a4 big c5 g6).getD default).1
def zvu:Bool:=((z10 a0 a1 c2 g3 a4 big c5 g6).getD default).2.1
def z5j:List Nat:=((z10 a0 a1 c2 g3 a4 big c5 g6).getD default).2.2
def zem(ws:Int):Bool:=(List.range a6).all fun i=>z8t a0 (pF g1 0 (muN a0 1)) a2 (pF g3 0 (muN a2 1)) a4 (pF g5 0 (muN a4 1)) a6 (pF g7 0 (muN a6 3)) c8 a9 a10 (Int.ofNat i) a11 a12 a13 a14
def z8k(ws:Int):List Nat:=(List.range a6).map fun i=>z7y a0 (pF g1 0 (muN a0 1)) a2 (pF g3 0 (muN a2 1)) a4 (pF g5 0 (muN a4 1)) a6 (pF g7 0 (muN a6 3)) c8 a9 a10 (Int.ofNat i) a11 a12 a13 a14
def z8v(ws:Int):List Nat:=(List.range a6).map fun i=>z85 a0 (pF g1 0 (muN a0 1)) a2 (pF g3 0 (muN a2 1)) a4 (pF g5 0 (muN a4 1)) a6 (pF g7 0 (muN a6 3)) c8 a9 a10 (Int.ofNat i) a11 a12 a13 a14
def z8y(ws:Int):List Bool:=(List.range a6).map fun i=>z7x a0 (pF g1 0 (muN a0 1)) a2 (pF g3 0 (muN a2 1)) a4 (pF g5 0 (muN a4 1)) a6 (pF g7 0 (muN a6 3)) c8 a9 a10 (Int.ofNat i) a11 a12 a13 a14
def z74:Bool:=zc7 a0 (pF g1 0 (muN a0 1)) a2 (pF g3 0 (muN a2 1)) a4 (pF g5 0 (muN a4 1)) a6 (pF g7 0 (muN a6 3)) c8 a9 a10&&(bnot (z7q a0 (pF g1 0 (muN a0 1)) a2 (pF g3 0 (muN a2 1)) a4 (pF g5 0 (muN a4 1)) a6 (pF g7 0 (muN a6 3)) c8 a9 a10)||(z89 c15 1 8&&(bnot (z3v c15 1 8)||(okMk (Int.ofNat a6) (Int.ofNat a6) 4&&(okMk (Int.ofNat a6) (Int.ofNat a6) 1&&(decide (0<a6∧a6≤281474976710656)&&(decide (1≤c15∧c15≤8)&&(zem a0 g1 a2 g3 a4 g5 a6 g7 c8 a9 a10 a11 a12 a13 a14 c15&&z4t a6 (pB (z8y a0 g1 a2 g3 a4 g5 a6 g7 c8 a9 a10 a11 a12 a13 a14 c15) 0 (muN a6 1)) Bool.false))))))))
def z13:Bool:=z7q a0 (pF g1 0 (muN a0 1)) a2 (pF g3 0 (muN a2 1)) a4 (pF g5 0 (muN a4 1)) a6 (pF g7 0 (muN a6 3)) c8 a9 a10&&(z3v c15 1 8&&bnot (z4a a6 (pB (z8y a0 g1 a2 g3 a4 g5 a6 g7 c8 a9 a10 a11 a12 a13 a14 c15) 0 (muN a6 1)) Bool.false))
def z4q:Nat:=match z13 a0 g1 a2 g3 a4 g5 a6 g7 c8 a9 a10 a11 a12 a13 a14 c15 with | true=>a6 | false=>0
def z4r:Nat:=match z13 a0 g1 a2 g3 a4 g5 a6 g7 c8 a9 a10 a11 a12 a13 a14 c15 with | true=>a6 | false=>0
def z4w:List Nat:=match z13 a0 g1 a2 g3 a4 g5 a6 g7 c8 a9 a10 a11 a12 a13 a14 c15 with | true=>z8k a0 g1 a2 g3 a4 g5 a6 g7 c8 a9 a10 a11 a12 a13 a14 c15 | false=>[]
def z4x:List Nat:=match z13 a0 g1 a2 g3 a4 g5 a6 g7 c8 a9 a10 a11 a12 a13 a14 c15 with | true=>z8v a0 g1 a2 g3 a4 g5 a6 g7 c8 a9 a10 a11 a12 a13 a14 c15 | false=>[]
def z8r{R:Type} (k_:Nat→Nat→Bool→(List Nat)→(List Nat)→Option R):Option R:=(grd (z74 a0 (pF g1 0 (muN a0 1)) a2 (pF g3 0 (muN a2 1)) a4 (pF g5 0 (muN a4 1)) a6 (pF g7 0 (muN a6 3)) c8 a9 a10 a11 a12 a13 a14 1) (k_ (z4q a0 (pF g1 0 (muN a0 1)) a2 (pF g3 0 (muN a2 1)) a4 (pF g5 0 (muN a4 1)) a6 (pF g7 0 (muN a6 3)) c8 a9 a10 a11 a12 a13 a14 1) (z4r a0 (pF g1 0 (muN a0 1)) a2 (pF g3 0 (muN a2 1)) a4 (pF g5 0 (muN a4 1)) a6 (pF g7 0 (muN a6 3)) c8 a9 a10 a11 a12 a13 a14 1) (z13 a0 (pF g1 0 (muN a0 1)) a2 (pF g3 0 (muN a2 1)) a4 (pF g5 0 (muN a4 1)) a6 (pF g7 0 (muN a6 3)) c8 a9 a10 a11 a12 a13 a14 1) (z4w a0 (pF g1 0 (muN a0 1)) a2 (pF g3 0 (muN a2 1)) a4 (pF g5 0 (muN a4 1)) a6 (pF g7 0 (muN a6 3)) c8 a9 a10 a11 a12 a13 a14 1) (z4x a0 (pF g1 0 (muN a0 1)) a2 (pF g3 0 (muN a2 1)) a4 (pF g5 0 (muN a4 1)) a6 (pF g7 0 (muN a6 3)) c8 a9 a10 a11 a12 a13 a14 1)))
def z18:Option (Nat×Nat×Bool×(List Nat)×(List Nat)):=z8r a0 g1 a2 g3 a4 g5 a6 g7 c8 a9 a10 a11 a12 a13 a14 (fun c0_ c1_ c2_ c3_ c4_=>some (c0_,c1_,c2_,c3_,c4_))
theorem zti:Nt5 (fun {R}=>z8r (R:=R) a0 g1 a2 g3 a4 g5 a6 g7 c8 a9 a10 a11 a12 a13 a14):=by
 intro R R' o h0 k;unfold z8r;repeat (first | apply grd_out h0 | apply br_out | rfl)
def zmz:Bool:=(z18 a0 g1 a2 g3 a4 g5 a6 g7 c8 a9 a10 a11 a12 a13 a14).isSome
def z0n:Nat:=((z18 a0 g1 a2 g3 a4 g5 a6 g7 c8 a9 a10 a11 a12 a13 a14).getD default).1
def zx8:Nat:=((z18 a0 g1 a2 g3 a4 g5 a6 g7 c8 a9 a10 a11 a12 a13 a14).getD default).2.1
def zky:Bool:=((z18 a0 g1 a2 g3 a4 g5 a6 g7 c8 a9 a10 a11 a12 a13 a14).getD default).2.2.1
def z49:List Nat:=((z18 a0 g1 a2 g3 a4 g5 a6 g7 c8 a9 a10 a11 a12 a13 a14).getD default).2.2.2.1
def zxx:List Nat:=((z18 a0 g1 a2 g3 a4 g5 a6 g7 c8 a9 a10 a11 a12 a13 a14).getD default).2.2.2.2
def zdx{R:Type}(k_:Nat→Bool→Option R):Option R:=(grd (zmz a0 (pF g1 0 (muN a0 1)) a2 (pF g3 0 (muN a2 1)) a4 (pF g5 0 (muN a4 1)) a6 (pF g7 0 (muN a6 3)) c8 a9 a10 a11 a12 a13 a14) (br (bnot (zky a0 (pF g1 0 (muN a0 1)) a2 (pF g3 0 (muN a2 1)) a4 (pF g5 0 (muN a4 1)) a6 (pF g7 0 (muN a6 3)) c8 a9 a10 a11 a12 a13 a14)) (k_ 0 Bool.false) (grd (zne (z0n a0 (pF g1 0 (muN a0 1)) a2 (pF g3 0 (muN a2 1)) a4 (pF g5 0 (muN a4 1)) a6 (pF g7 0 (muN a6 3)) c8 a9 a10 a11 a12 a13 a14) a6 (Int.ofNat a6) g7 a9 0 (z49 a0 (pF g1 0 (muN a0 1)) a2 (pF g3 0 (muN a2 1)) a4 (pF g5 0 (muN a4 1)) a6 (pF g7 0 (muN a6 3)) c8 a9 a10 a11 a12 a13 a14)) (grd (zm5 a0 (pF g1 0 (muN a0 1)) a2 (pF g3 0 (muN a2 1)) a4 (pF g5 0 (muN a4 1)) a6 (pF g7 0 (muN a6 3)) c8 a9 a10 (z0n a0 (pF g1 0 (muN a0 1)) a2 (pF g3 0 (muN a2 1)) a4 (pF g5 0 (muN a4 1)) a6 (pF g7 0 (muN a6 3)) c8 a9 a10 a11 a12 a13 a14) (pF (z5j (z0n a0 (pF g1 0 (muN a0 1)) a2 (pF g3 0 (muN a2 1)) a4 (pF g5 0 (muN a4 1)) a6 (pF g7 0 (muN a6 3)) c8 a9 a10 a11 a12 a13 a14) a6 (Int.ofNat a6) g7 a9 0 (z49 a0 (pF g1 0 (muN a0 1)) a2 (pF g3 0 (muN a2 1)) a4 (pF g5 0 (muN a4 1)) a6 (pF g7 0 (muN a6 3)) c8 a9 a10 a11 a12 a13 a14)) 0 (muN (z0n a0 (pF g1 0 (muN a0 1)) a2 (pF g3 0 (muN a2 1)) a4 (pF g5 0 (muN a4 1)) a6 (pF g7 0 (muN a6 3)) c8 a9 a10 a11 a12 a13 a14) 1))) (grd (zoa (z80 a0 (pF g1 0 (muN a0 1)) a2 (pF g3 0 (muN a2 1)) a4 (pF g5 0 (muN a4 1)) a6 (pF g7 0 (muN a6 3)) c8 a9 a10 (z0n a0 (pF g1 0 (muN a0 1)) a2 (pF g3 0 (muN a2 1)) a4 (pF g5 0 (muN a4 1)) a6 (pF g7 0 (muN a6 3)) c8 a9 a10 a11 a12 a13 a14) (pF (z5j (z0n a0 (pF g1 0 (muN a0 1)) a2 (pF g3 0 (muN a2 1)) a4 (pF g5 0 (muN a4 1)) a6 (pF g7 0 (muN a6 3)) c8 a9 a10 a11 a12 a13 a14) a6 (Int.ofNat a6) g7 a9 0 (z49 a0 (pF g1 0 (muN a0 1)) a2 (pF g3 0 (muN a2 1)) a4 (pF g5 0 (muN a4 1)) a6 (pF g7 0 (muN a6 3)) c8 a9 a10 a11 a12 a13 a14)) 0 (muN (z0n a0 (pF g1 0 (muN a0 1)) a2 (pF g3 0 (muN a2 1)) a4 (pF g5 0 (muN a4 1)) a6 (pF g7 0 (muN a6 3)) c8 a9 a10 a11 a12 a13 a14) 1)))) (k_ (zmy (z80 a0 (pF g1 0 (muN a0 1)) a2 (pF g3 0 (muN a2 1)) a4 (pF g5 0 (muN a4 1)) a6 (pF g7 0 (muN a6 3)) c8 a9 a10 (z0n a0 (pF g1 0 (muN a0 1)) a2 (pF g3 0 (muN a2 1)) a4 (pF g5 0 (muN a4 1)) a6 (pF g7 0 (muN a6 3)) c8 a9 a10 a11 a12 a13 a14) (pF (z5j (z0n a0 (pF g1 0 (muN a0 1)) a2 (pF g3 0 (muN a2 1)) a4 (pF g5 0 (muN a4 1)) a6 (pF g7 0 (muN a6 3)) c8 a9 a10 a11 a12 a13 a14) a6 (Int.ofNat a6) g7 a9 0 (z49 a0 (pF g1 0 (muN a0 1)) a2 (pF g3 0 (muN a2 1)) a4 (pF g5 0 (muN a4 1)) a6 (pF g7 0 (muN a6 3)) c8 a9 a10 a11 a12 a13 a14)) 0 (muN (z0n a0 (pF g1 0 (muN a0 1)) a2 (pF g3 0 (muN a2 1)) a4 (pF g5 0 (muN a4 1)) a6 (pF g7 0 (muN a6 3)) c8 a9 a10 a11 a12 a13 a14) 1)))) (zmj (z80 a0 (pF g1 0 (muN a0 1)) a2 (pF g3 0 (muN a2 1)) a4 (pF g5 0 (muN a4 1)) a6 (pF g7 0 (muN a6 3)) c8 a9 a10 (z0n a0 (pF g1 0 (muN a0 1)) a2 (pF g3 0 (muN a2 1)) a4 (pF g5 0 (muN a4 1)) a6 (pF g7 0 (muN a6 3)) c8 a9 a10 a11 a12 a13 a14) (pF (z5j (z0n a0 (pF g1 0 (muN a0 1)) a2 (pF g3 0 (muN a2 1)) a4 (pF g5 0 (muN a4 1)) a6 (pF g7 0 (muN a6 3)) c8 a9 a10 a11 a12 a13 a14) a6 (Int.ofNat a6) g7 a9 0 (z49 a0 (pF g1 0 (muN a0 1)) a2 (pF g3 0 (muN a2 1)) a4 (pF g5 0 (muN a4 1)) a6 (pF g7 0 (muN a6 3)) c8 a9 a10 a11 a12 a13 a14)) 0 (muN (z0n a0 (pF g1 0 (muN a0 1)) a2 (pF g3 0 (muN a2 1)) a4 (pF g5 0 (muN a4 1)) a6 (pF g7 0 (muN a6 3)) c8 a9 a10 a11 a12 a13 a14) 1))))))))))
def z4i:Option (Nat×Bool):=zdx a0 g1 a2 g3 a4 g5 a6 g7 c8 a9 a10 a11 a12 a13 a14 (fun c0_ c1_=>some (c0_,c1_))
theorem zzi:Nt2 (fun {R}=>zdx (R:=R) a0 g1 a2 g3 a4 g5 a6 g7 c8 a9 a10 a11 a12 a13 a14):=by
 intro R R' o h0 k;unfold zdx;repeat (first | apply grd_out h0 | apply br_out | rfl)
def zrt:Bool:=(z4i a0 g1 a2 g3 a4 g5 a6 g7 c8 a9 a10 a11 a12 a13 a14).isSome
def zqe:Nat:=((z4i a0 g1 a2 g3 a4 g5 a6 g7 c8 a9 a10 a11 a12 a13 a14).getD default).1
def zqg:Bool:=((z4i a0 g1 a2 g3 a4 g5 a6 g7 c8 a9 a10 a11 a12 a13 a14).getD default).2
def laws_FnExactBendingOf_c0:=(zld a0 (pF g1 0 (muN a0 1)) a2 (pF g3 0 (muN a2 1)) a4 (pF g5 0 (muN a4 1)) a6 (pF g7 0 (muN a6 3)) c8 a9 a10)
def laws_FnExactBendingOf_c1:=(zlj a0 (pF g1 0 (muN a0 1)) a2 (pF g3 0 (muN a2 1)) a4 (pF g5 0 (muN a4 1)) a6 (pF g7 0 (muN a6 3)) c8 a9 a10)
def laws_FnExactBendingOf_c2:=(zle a0 (pF g1 0 (muN a0 1)) a2 (pF g3 0 (muN a2 1)) a4 (pF g5 0 (muN a4 1)) a6 (pF g7 0 (muN a6 3)) c8 a9 a10)
def laws_FnExactBendingOf_c3:=(znv a0 (pF g1 0 (muN a0 1)) a2 (pF g3 0 (muN a2 1)) a4 (pF g5 0 (muN a4 1)) a6 (pF g7 0 (muN a6 3)) c8 a9 a10)
def laws_FnExactBendingOf_c4:=(zn1 a0 (pF g1 0 (muN a0 1)) a2 (pF g3 0 (muN a2 1)) a4 (pF g5 0 (muN a4 1)) a6 (pF g7 0 (muN a6 3)) c8 a9 a10)
def laws_FnExactBendingOf_c5:=(pF (zmf a0 (pF g1 0 (muN a0 1)) a2 (pF g3 0 (muN a2 1)) a4 (pF g5 0 (muN a4 1)) a6 (pF g7 0 (muN a6 3)) c8 a9 a10) 0 (muN (laws_FnExactBendingOf_c4 a0 g1 a2 g3 a4 g5 a6 g7 c8 a9 a10) 1))
def laws_FnExactBendingOf_c6:=(pF (zmn a0 (pF g1 0 (muN a0 1)) a2 (pF g3 0 (muN a2 1)) a4 (pF g5 0 (muN a4 1)) a6 (pF g7 0 (muN a6 3)) c8 a9 a10) 0 (muN (laws_FnExactBendingOf_c1 a0 g1 a2 g3 a4 g5 a6 g7 c8 a9 a10) 1))
def laws_FnExactBendingOf_c7:=(pF (zlk a0 (pF g1 0 (muN a0 1)) a2 (pF g3 0 (muN a2 1)) a4 (pF g5 0 (muN a4 1)) a6 (pF g7 0 (muN a6 3)) c8 a9 a10) 0 (muN (laws_FnExactBendingOf_c2 a0 g1 a2 g3 a4 g5 a6 g7 c8 a9 a10) 3))
def laws_FnExactBendingOf_c8:=(pF (zlt a0 (pF g1 0 (muN a0 1)) a2 (pF g3 0 (muN a2 1)) a4 (pF g5 0 (muN a4 1)) a6 (pF g7 0 (muN a6 3)) c8 a9 a10) 0 (muN (laws_FnExactBendingOf_c0 a0 g1 a2 g3 a4 g5 a6 g7 c8 a9 a10) 1))
def laws_FnExactBendingOf_c9:=(fcvV .f32 .f64 (zqe (laws_FnExactBendingOf_c0 a0 g1 a2 g3 a4 g5 a6 g7 c8 a9 a10) (laws_FnExactBendingOf_c8 a0 g1 a2 g3 a4 g5 a6 g7 c8 a9 a10) (laws_FnExactBendingOf_c4 a0 g1 a2 g3 a4 g5 a6 g7 c8 a9 a10) (laws_FnExactBendingOf_c5 a0 g1 a2 g3 a4 g5 a6 g7 c8 a9 a10) (laws_FnExactBendingOf_c1 a0 g1 a2 g3 a4 g5 a6 g7 c8 a9 a10) (laws_FnExactBendingOf_c6 a0 g1 a2 g3 a4 g5 a6 g7 c8 a9 a10) (laws_FnExactBendingOf_c2 a0 g1 a2 g3 a4 g5 a6 g7 c8 a9 a10) (laws_FnExactBendingOf_c7 a0 g1 a2 g3 a4 g5 a6 g7 c8 a9 a10) c8 a9 a10 a11 a12 a13 a14))
def laws_FnExactBendingOf_c10:=(fcvV .f32 .f64 (zqx (laws_FnExactBendingOf_c0 a0 g1 a2 g3 a4 g5 a6 g7 c8 a9 a10) (laws_FnExactBendingOf_c8 a0 g1 a2 g3 a4 g5 a6 g7 c8 a9 a10) (laws_FnExactBendingOf_c4 a0 g1 a2 g3 a4 g5 a6 g7 c8 a9 a10) (laws_FnExactBendingOf_c5 a0 g1 a2 g3 a4 g5 a6 g7 c8 a9 a10) (laws_FnExactBendingOf_c1 a0 g1 a2 g3 a4 g5 a6 g7 c8 a9 a10) (laws_FnExactBendingOf_c6 a0 g1 a2 g3 a4 g5 a6 g7 c8 a9 a10) (laws_FnExactBendingOf_c2 a0 g1 a2 g3 a4 g5 a6 g7 c8 a9 a10) (laws_FnExactBendingOf_c7 a0 g1 a2 g3 a4 g5 a6 g7 c8 a9 a10) c8 a9 a10 a11 a12 a13 a14))
def z6z{R:Type}(k_:Bool→Option R):Option R:=(grd (zog a0 (pF g1 0 (muN a0 1)) a2 (pF g3 0 (muN a2 1)) a4 (pF g5 0 (muN a4 1)) a6 (pF g7 0 (muN a6 3)) c8 a9 a10 1048576) (br (ltI (zlr a0 (pF g1 0 (muN a0 1)) a2 (pF g3 0 (muN a2 1)) a4 (pF g5 0 (muN a4 1)) a6 (pF g7 0 (muN a6 3)) c8 a9 a10 1048576) 0) (k_ Bool.true) (grd (laws_FnExactBendingOf_c3 a0 g1 a2 g3 a4 g5 a6 g7 c8 a9 a10) (grd (zsy (laws_FnExactBendingOf_c0 a0 g1 a2 g3 a4 g5 a6 g7 c8 a9 a10) (laws_FnExactBendingOf_c8 a0 g1 a2 g3 a4 g5 a6 g7 c8 a9 a10) (laws_FnExactBendingOf_c4 a0 g1 a2 g3 a4 g5 a6 g7 c8 a9 a10) (laws_FnExactBendingOf_c5 a0 g1 a2 g3 a4 g5 a6 g7 c8 a9 a10) (laws_FnExactBendingOf_c1 a0 g1 a2 g3 a4 g5 a6 g7 c8 a9 a10) (laws_FnExactBendingOf_c6 a0 g1 a2 g3 a4 g5 a6 g7 c8 a9 a10) (laws_FnExactBendingOf_c2 a0 g1 a2 g3 a4 g5 a6 g7 c8 a9 a10) (laws_FnExactBendingOf_c7 a0 g1 a2 g3 a4 g5 a6 g7 c8 a9 a10) c8 a9 a10 a11 a12 a13 a14) (grd (laws_FnExactBendingOf_c3 a0 g1 a2 g3 a4 g5 a6 g7 c8 a9 a10) (grd (zrt (laws_FnExactBendingOf_c0 a0 g1 a2 g3 a4 g5 a6 g7 c8 a9 a10) (laws_FnExactBendingOf_c8 a0 g1 a2 g3 a4 g5 a6 g7 c8 a9 a10) (laws_FnExactBendingOf_c4 a0 g1 a2 g3 a4 g5 a6 g7 c8 a9 a10) (laws_FnExactBendingOf_c5 a0 g1 a2 g3 a4 g5 a6 g7 c8 a9 a10) (laws_FnExactBendingOf_c1 a0 g1 a2 g3 a4 g5 a6 g7 c8 a9 a10) (laws_FnExactBendingOf_c6 a0 g1 a2 g3 a4 g5 a6 g7 c8 a9 a10) (laws_FnExactBendingOf_c2 a0 g1 a2 g3 a4 g5 a6 g7 c8 a9 a10) (laws_FnExactBendingOf_c7 a0 g1 a2 g3 a4 g5 a6 g7 c8 a9 a10) c8 a9 a10 a11 a12 a13 a14) (grd (z4h (laws_FnExactBendingOf_c9 a0 g1 a2 g3 a4 g5 a6 g7 c8 a9 a10 a11 a12 a13 a14) (laws_FnExactBendingOf_c10 a0 g1 a2 g3 a4 g5 a6 g7 c8 a9 a10 a11 a12 a13 a14)) (br (bnot (z3z (laws_FnExactBendingOf_c9 a0 g1 a2 g3 a4 g5 a6 g7 c8 a9 a10 a11 a12 a13 a14) (laws_FnExactBendingOf_c10 a0 g1 a2 g3 a4 g5 a6 g7 c8 a9 a10 a11 a12 a13 a14))) (k_ Bool.false) (br (bnot (beqB (zqg (laws_FnExactBendingOf_c0 a0 g1 a2 g3 a4 g5 a6 g7 c8 a9 a10) (laws_FnExactBendingOf_c8 a0 g1 a2 g3 a4 g5 a6 g7 c8 a9 a10) (laws_FnExactBendingOf_c4 a0 g1 a2 g3 a4 g5 a6 g7 c8 a9 a10) (laws_FnExactBendingOf_c5 a0 g1 a2 g3 a4 g5 a6 g7 c8 a9 a10) (laws_FnExactBendingOf_c1 a0 g1 a2 g3 a4 g5 a6 g7 c8 a9 a10) (laws_FnExactBendingOf_c6 a0 g1 a2 g3 a4 g5 a6 g7 c8 a9 a10) (laws_FnExactBendingOf_c2 a0 g1 a2 g3 a4 g5 a6 g7 c8 a9 a10) (laws_FnExactBendingOf_c7 a0 g1 a2 g3 a4 g5 a6 g7 c8 a9 a10) c8 a9 a10 a11 a12 a13 a14) (zqc (laws_FnExactBendingOf_c0 a0 g1 a2 g3 a4 g5 a6 g7 c8 a9 a10) (laws_FnExactBendingOf_c8 a0 g1 a2 g3 a4 g5 a6 g7 c8 a9 a10) (laws_FnExactBendingOf_c4 a0 g1 a2 g3 a4 g5 a6 g7 c8 a9 a10) (laws_FnExactBendingOf_c5 a0 g1 a2 g3 a4 g5 a6 g7 c8 a9 a10) (laws_FnExactBendingOf_c1 a0 g1 a2 g3 a4 g5 a6 g7 c8 a9 a10) (laws_FnExactBendingOf_c6 a0 g1 a2 g3 a4 g5 a6 g7 c8 a9 a10) (laws_FnExactBendingOf_c2 a0 g1 a2 g3 a4 g5 a6 g7 c8 a9 a10) (laws_FnExactBendingOf_c7 a0 g1 a2 g3 a4 g5 a6 g7 c8 a9 a10) c8 a9 a10 a11 a12 a13 a14))) (k_ Bool.false) (grd (laws_FnExactBendingOf_c3 a0 g1 a2 g3 a4 g5 a6 g7 c8 a9 a10) (grd (zou (laws_FnExactBendingOf_c0 a0 g1 a2 g3 a4 g5 a6 g7 c8 a9 a10) (laws_FnExactBendingOf_c8 a0 g1 a2 g3 a4 g5 a6 g7 c8 a9 a10) (laws_FnExactBendingOf_c4 a0 g1 a2 g3 a4 g5 a6 g7 c8 a9 a10) (laws_FnExactBendingOf_c5 a0 g1 a2 g3 a4 g5 a6 g7 c8 a9 a10) (laws_FnExactBendingOf_c1 a0 g1 a2 g3 a4 g5 a6 g7 c8 a9 a10) (laws_FnExactBendingOf_c6 a0 g1 a2 g3 a4 g5 a6 g7 c8 a9 a10) (laws_FnExactBendingOf_c2 a0 g1 a2 g3 a4 g5 a6 g7 c8 a9 a10) (laws_FnExactBendingOf_c7 a0 g1 a2 g3 a4 g5 a6 g7 c8 a9 a10) c8 a9 a10 (laws_FnExactBendingOf_c0 a0 g1 a2 g3 a4 g5 a6 g7 c8 a9 a10) (laws_FnExactBendingOf_c8 a0 g1 a2 g3 a4 g5 a6 g7 c8 a9 a10) (laws_FnExactBendingOf_c4 a0 g1 a2 g3 a4 g5 a6 g7 c8 a9 a10) (laws_FnExactBendingOf_c5 a0 g1 a2 g3 a4 g5 a6 g7 c8 a9 a10) (laws_FnExactBendingOf_c1 a0 g1 a2 g3 a4 g5 a6 g7 c8 a9 a10) (laws_FnExactBendingOf_c6 a0 g1 a2 g3 a4 g5 a6 g7 c8 a9 a10) (laws_FnExactBendingOf_c2 a0 g1 a2 g3 a4 g5 a6 g7 c8 a9 a10) (laws_FnExactBendingOf_c7 a0 g1 a2 g3 a4 g5 a6 g7 c8 a9 a10) c8 a9 a10) (br (bnot (zm4 (laws_FnExactBendingOf_c0 a0 g1 a2 g3 a4 g5 a6 g7 c8 a9 a10) (laws_FnExactBendingOf_c8 a0 g1 a2 g3 a4 g5 a6 g7 c8 a9 a10) (laws_FnExactBendingOf_c4 a0 g1 a2 g3 a4 g5 a6 g7 c8 a9 a10) (laws_FnExactBendingOf_c5 a0 g1 a2 g3 a4 g5 a6 g7 c8 a9 a10) (laws_FnExactBendingOf_c1 a0 g1 a2 g3 a4 g5 a6 g7 c8 a9 a10) (laws_FnExactBendingOf_c6 a0 g1 a2 g3 a4 g5 a6 g7 c8 a9 a10) (laws_FnExactBendingOf_c2 a0 g1 a2 g3 a4 g5 a6 g7 c8 a9 a10) (laws_FnExactBendingOf_c7 a0 g1 a2 g3 a4 g5 a6 g7 c8 a9 a10) c8 a9 a10 (laws_FnExactBendingOf_c0 a0 g1 a2 g3 a4 g5 a6 g7 c8 a9 a10) (laws_FnExactBendingOf_c8 a0 g1 a2 g3 a4 g5 a6 g7 c8 a9 a10) (laws_FnExactBendingOf_c4 a0 g1 a2 g3 a4 g5 a6 g7 c8 a9 a10) (laws_FnExactBendingOf_c5 a0 g1 a2 g3 a4 g5 a6 g7 c8 a9 a10) (laws_FnExactBendingOf_c1 a0 g1 a2 g3 a4 g5 a6 g7 c8 a9 a10) (laws_FnExactBendingOf_c6 a0 g1 a2 g3 a4 g5 a6 g7 c8 a9 a10) (laws_FnExactBendingOf_c2 a0 g1 a2 g3 a4 g5 a6 g7 c8 a9 a10) (laws_FnExactBendingOf_c7 a0 g1 a2 g3 a4 g5 a6 g7 c8 a9 a10) c8 a9 a10)) (k_ Bool.false) (k_ Bool.true)))))))))))))
def z2e:Option (Bool):=z6z a0 g1 a2 g3 a4 g5 a6 g7 c8 a9 a10 a11 a12 a13 a14 (fun c0_=>some c0_)
theorem zoz:Nt1 (fun {R}=>z6z (R:=R) a0 g1 a2 g3 a4 g5 a6 g7 c8 a9 a10 a11 a12 a13 a14):=by
 intro R R' o h0 k;unfold z6z;repeat (first | apply grd_out h0 | apply br_out | rfl)
end
section
variable {a0:Nat} {c0:Int} {a1:Nat} {c1:Int} {e1:Bool} {g1:List Nat} {m1:List Bool} {a2:Nat} {c2:Int} {e2:Bool} {g2:List Nat} {a3:Nat} {c3:Int} {e3:Bool} {g3:List Nat} {m3:List Bool} {a4:Nat} {c4:Int} {e4:Bool} {g4:List Nat} {a5:Nat} {c5:Int} {g5:List Nat} {a6:Nat} {c6:Int} {e6:Bool} {g6:List Nat} {a7:Nat} {c7:Int} {g7:List Nat} {a8:Nat} {c8:Int} {a9:Nat} {g9:List Nat} {a10:Nat} {a11:Nat} {c11:Int} {e11:Bool} {g11:List Nat} {a12:Nat} {c12:Int} {e12:Bool} {g12:List Nat} {a13:Nat} {e13:Bool} {a14:Nat} {g14:List Nat} {a15:Nat} {e15:Bool} {a16:Nat} {g16:List Nat} {a17:Nat} {c17:Int} {a18:Nat} {g18:List Nat} {c19:Int} {g19:List Nat} {a20:Nat} {a21:Nat} {e22:Bool}
theorem of1{α1:Type} [Inhabited (α1)] {x:Option (α1)} {r:α1} (h:x=some r):x.isSome=true∧(x.getD default)=r:=by
 subst h;exact⟨rfl,rfl⟩
theorem ol1{β α1:Type} [Inhabited (α1)] {x:Option ((α1)⊕β)} {r:α1} (h:x=some (.inl r)):x.isSome=true∧oL x=true∧((tL x).getD default)=r:=by
 subst h;exact⟨rfl,rfl,rfl⟩
theorem of2{α1 α2:Type} [Inhabited (α1×α2)] {x:Option (α1×α2)} {r:α1×α2} (h:x=some r):x.isSome=true∧(x.getD default).1=r.1∧(x.getD default).2=r.2:=by
 subst h;exact⟨rfl,rfl,rfl⟩
theorem or2{β α1 α2:Type} [Inhabited (α1×α2)] {x:Option (β⊕(α1×α2))} {r:α1×α2} (h:x=some (.inr r)):x.isSome=true∧oL x=false∧((tR x).getD default).1=r.1∧((tR x).getD default).2=r.2:=by
 subst h;exact⟨rfl,rfl,rfl,rfl⟩
theorem of3{α1 α2 α3:Type} [Inhabited (α1×α2×α3)] {x:Option (α1×α2×α3)} {r:α1×α2×α3} (h:x=some r):x.isSome=true∧(x.getD default).1=r.1∧(x.getD default).2.1=r.2.1∧(x.getD default).2.2=r.2.2:=by
 subst h;exact⟨rfl,rfl,rfl,rfl⟩
theorem or3{β α1 α2 α3:Type} [Inhabited (α1×α2×α3)] {x:Option (β⊕(α1×α2×α3))} {r:α1×α2×α3} (h:x=some (.inr r)):x.isSome=true∧oL x=false∧((tR x).getD default).1=r.1∧((tR x).getD default).2.1=r.2.1∧((tR x).getD default).2.2=r.2.2:=by
 subst h;exact⟨rfl,rfl,rfl,rfl,rfl⟩
theorem of4{α1 α2 α3 α4:Type} [Inhabited (α1×α2×α3×α4)] {x:Option (α1×α2×α3×α4)} {r:α1×α2×α3×α4} (h:x=some r):x.isSome=true∧(x.getD default).1=r.1∧(x.getD default).2.1=r.2.1∧(x.getD default).2.2.1=r.2.2.1∧(x.getD default).2.2.2=r.2.2.2:=by
 subst h;exact⟨rfl,rfl,rfl,rfl,rfl⟩
theorem or4{β α1 α2 α3 α4:Type} [Inhabited (α1×α2×α3×α4)] {x:Option (β⊕(α1×α2×α3×α4))} {r:α1×α2×α3×α4} (h:x=some (.inr r)):x.isSome=true∧oL x=false∧((tR x).getD default).1=r.1∧((tR x).getD default).2.1=r.2.1∧((tR x).getD default).2.2.1=r.2.2.1∧((tR x).getD default).2.2.2=r.2.2.2:=by
 subst h;exact⟨rfl,rfl,rfl,rfl,rfl,rfl⟩
theorem of5{α1 α2 α3 α4 α5:Type} [Inhabited (α1×α2×α3×α4×α5)] {x:Option (α1×α2×α3×α4×α5)} {r:α1×α2×α3×α4×α5} (h:x=some r):x.isSome=true∧(x.getD default).1=r.1∧(x.getD default).2.1=r.2.1∧(x.getD default).2.2.1=r.2.2.1∧(x.getD default).2.2.2.1=r.2.2.2.1∧(x.getD default).2.2.2.2=r.2.2.2.2:=by
 subst h;exact⟨rfl,rfl,rfl,rfl,rfl,rfl⟩
theorem of6{α1 α2 α3 α4 α5 α6:Type} [Inhabited (α1×α2×α3×α4×α5×α6)] {x:Option (α1×α2×α3×α4×α5×α6)} {r:α1×α2×α3×α4×α5×α6} (h:x=some r):x.isSome=true∧(x.getD default).1=r.1∧(x.getD default).2.1=r.2.1∧(x.getD default).2.2.1=r.2.2.1∧(x.getD default).2.2.2.1=r.2.2.2.1∧(x.getD default).2.2.2.2.1=r.2.2.2.2.1∧(x.getD default).2.2.2.2.2=r.2.2.2.2.2:=by
 subst h;exact⟨rfl,rfl,rfl,rfl,rfl,rfl,rfl⟩
theorem or6{β α1 α2 α3 α4 α5 α6:Type} [Inhabited (α1×α2×α3×α4×α5×α6)] {x:Option (β⊕(α1×α2×α3×α4×α5×α6))} {r:α1×α2×α3×α4×α5×α6} (h:x=some (.inr r)):x.isSome=true∧oL x=false∧((tR x).getD default).1=r.1∧((tR x).getD default).2.1=r.2.1∧((tR x).getD default).2.2.1=r.2.2.1∧((tR x).getD default).2.2.2.1=r.2.2.2.1∧((tR x).getD default).2.2.2.2.1=r.2.2.2.2.1∧((tR x).getD default).2.2.2.2.2=r.2.2.2.2.2:=by
 subst h;exact⟨rfl,rfl,rfl,rfl,rfl,rfl,rfl,rfl⟩
theorem of8{α1 α2 α3 α4 α5 α6 α7 α8:Type} [Inhabited (α1×α2×α3×α4×α5×α6×α7×α8)] {x:Option (α1×α2×α3×α4×α5×α6×α7×α8)} {r:α1×α2×α3×α4×α5×α6×α7×α8} (h:x=some r):x.isSome=true∧(x.getD default).1=r.1∧(x.getD default).2.1=r.2.1∧(x.getD default).2.2.1=r.2.2.1∧(x.getD default).2.2.2.1=r.2.2.2.1∧(x.getD default).2.2.2.2.1=r.2.2.2.2.1∧(x.getD default).2.2.2.2.2.1=r.2.2.2.2.2.1∧(x.getD default).2.2.2.2.2.2.1=r.2.2.2.2.2.2.1∧(x.getD default).2.2.2.2.2.2.2=r.2.2.2.2.2.2.2:=by
 subst h;exact⟨rfl,rfl,rfl,rfl,rfl,rfl,rfl,rfl,rfl⟩
theorem ol0{α β:Type} {x:Option (α⊕β)} {r:α} (h:x=some (.inl r)):x.isSome=true∧oL x=true:=by
 subst h;exact⟨rfl,rfl⟩
theorem z52(h:z5v a0 a1=some e2):z4h a0 a1=true∧z3z a0 a1=e2:=of1 h
theorem zol(h:z8g c0 c1 c2=some e3):z89 c0 c1 c2=true∧z3v c0 c1 c2=e3:=of1 h
theorem z3k(h:z87 a0=some e1):z2j a0=true∧z25 a0=e1:=of1 h
theorem y09(h:z98 c0 c1 c2=some e3):zs0 c0 c1 c2=true∧zpy c0 c1 c2=e3:=of1 h
theorem y2w(h:z58 a0 g1 c2=some c3):zqa a0 g1 c2=true∧zgq a0 g1 c2=c3:=of1 h
theorem z1f(h:z7j a0=some e1):z0x a0=true∧z0r a0=e1:=of1 h
theorem zgs(h:z53 a0 g1 c2=some c3):zci a0 g1 c2=true∧z16 a0 g1 c2=c3:=of1 h
theorem zs8(h:z6i a0 a1 a2=some e3):zme a0 a1 a2=true∧zjf a0 a1 a2=e3:=of1 h
theorem zvj(h:z3a a0 g1 a2 g3 a4 g5 a6 g7 c8 a9 a10 c11=some a12):zkx a0 g1 a2 g3 a4 g5 a6 g7 c8 a9 a10 c11=true∧zb3 a0 g1 a2 g3 a4 g5 a6 g7 c8 a9 a10 c11=a12:=of1 h
theorem ya0(h:z8b a0 g1 a2 g3 a4 g5 a6 g7 c8 a9 a10 c11 a12=some a13):y03 a0 g1 a2 g3 a4 g5 a6 g7 c8 a9 a10 c11 a12=true∧zok a0 g1 a2 g3 a4 g5 a6 g7 c8 a9 a10 c11 a12=a13:=of1 h
theorem y1g(h:z4b a0 g1 a2 g3 a4 g5 a6 g7 c8 a9 a10 c11=some a12):zp3 a0 g1 a2 g3 a4 g5 a6 g7 c8 a9 a10 c11=true∧zfd a0 g1 a2 g3 a4 g5 a6 g7 c8 a9 a10 c11=a12:=of1 h
theorem y5s(h:zec=some a0):zz0=true∧zow=a0:=of1 h
theorem yan(h:zcp a0 a1 a2=some a3):zsl a0 a1 a2=true∧zpr a0 a1 a2=a3:=of1 h
theorem zqu(h:z5z a0=some a1):zk5 a0=true∧zch a0=a1:=of1 h
theorem ybg(h:ze4 a0=some a1):y7m a0=true∧y5r a0=a1:=of1 h
theorem zuk{r:Nat×Bool}(h:z6a a0=some r):zoa a0=true∧zmy a0=r.1∧zmj a0=r.2:=of2 h
theorem y4y(h:z60 a0 g1 a2 g3 a4 g5 c6=some c7):zte a0 g1 a2 g3 a4 g5 c6=true∧z8h a0 g1 a2 g3 a4 g5 c6=c7:=of1 h
theorem y5b{r:Nat×Bool}(h:z4j a0=some r):zs4 a0=true∧zr0 a0=r.1∧zr1 a0=r.2:=of2 h
theorem zdl(h:z6k a0=some e1):zaf a0=true∧z9d a0=e1:=of1 h
theorem zum(h:z7b a0=some e1):zno a0=true∧zlg a0=e1:=of1 h
theorem zxp(h:z3q a0=some e1):zlu a0=true∧zl4 a0=e1:=of1 h
theorem y5i(h:z5u a0 a1 a2 a3 a4 a5=some e6):zst a0 a1 a2 a3 a4 a5=true∧zq9 a0 a1 a2 a3 a4 a5=e6:=of1 h
theorem zt4(h:z6h a0=some e1):z7t a0=true∧z7d a0=e1:=of1 h
theorem y6j(h:z6j a0 g1 a2 g3 a4 g5 a6 g7 c8 a9 a10 c11 a12=some e13):zup a0 g1 a2 g3 a4 g5 a6 g7 c8 a9 a10 c11 a12=true∧ztd a0 g1 a2 g3 a4 g5 a6 g7 c8 a9 a10 c11 a12=e13:=of1 h
theorem y9x{r:Nat×Nat×Bool}(h:z5m a0 a1=some r):zpd a0 a1=true∧zh5 a0 a1=r.1∧zh6 a0 a1=r.2.1∧zh9 a0 a1=r.2.2:=of3 h
theorem y0p(h:z4d a0=some e1):zp8 a0=true∧zna a0=e1:=of1 h
theorem zub(h:z2t a0 g1 a2 g3 a4 g5 a6 g7 c8 a9 a10 c11=some e12):ziq a0 g1 a2 g3 a4 g5 a6 g7 c8 a9 a10 c11=true∧zhg a0 g1 a2 g3 a4 g5 a6 g7 c8 a9 a10 c11=e12:=of1 h
theorem y95(h:z8a a0=some e1):zzy a0=true∧zxg a0=e1:=of1 h
theorem y9a(h:z8d a0=some e1):y08 a0=true∧zxk a0=e1:=of1 h
theorem zvr {r:Int×Bool×(List Nat)} (hm:a5=big) (h:z15 a0 a1 g2 a5 c3 g4=some r):zew a0 a1 g2 c3 g4=true∧zu6 a0 a1 g2 c3 g4=r.1∧ztz a0 a1 g2 c3 g4=r.2.1∧za7 a0 a1 g2 c3 g4=r.2.2:=by
 subst hm;exact of3 h
theorem zrn{r:Nat×Int×Bool}(hm:a6=big)(h:z0d a0 g1 g2 a3 a6 a4 c5=some r):zhf a0 g1 g2 a3 a4 c5=true∧zf6 a0 g1 g2 a3 a4 c5=r.1∧zpn a0 g1 g2 a3 a4 c5=r.2.1∧zpu a0 g1 g2 a3 a4 c5=r.2.2:=by
 subst hm;exact of3 h
theorem y21{r:Nat×Int×Bool}(hm:a6=big)(h:z0w a0 g1 a2 g3 a6 a4 c5=some r):zs2 a0 g1 a2 g3 a4 c5=true∧zn8 a0 g1 a2 g3 a4 c5=r.1∧y11 a0 g1 a2 g3 a4 c5=r.2.1∧y0q a0 g1 a2 g3 a4 c5=r.2.2:=by
 subst hm;exact of3 h
theorem zm7(hm:a5=big) (h:z04 a0 e1 c2 m3 a5 c4=some (Sum.inl c6)):z7a a0 e1 c2 m3 c4=true∧z6x a0 e1 c2 m3 c4=true∧z9z a0 e1 c2 m3 c4=c6:=by
 subst hm;exact ol1 h
theorem zmd{r:Int×Bool}(hm:a5=big) (h:z04 a0 e1 c2 m3 a5 c4=some (Sum.inr r)):z7a a0 e1 c2 m3 c4=true∧z6x a0 e1 c2 m3 c4=false∧zl7 a0 e1 c2 m3 c4=r.1∧zl6 a0 e1 c2 m3 c4=r.2:=by
 subst hm;exact or2 h
theorem y86(h:z7i a0 g1 a2 g3 a4 g5 a6 g7 c8 a9 a10 c11=some c12):zog a0 g1 a2 g3 a4 g5 a6 g7 c8 a9 a10 c11=true∧zlr a0 g1 a2 g3 a4 g5 a6 g7 c8 a9 a10 c11=c12:=of1 h
theorem zgw {r:Nat×(List Nat)} (h:z3w a0 g1=some r):zby a0 g1=true∧zai a0 g1=r.1∧zao a0 g1=r.2:=of2 h
theorem zwg(h:z3m a0 g1 a2 g3 a4 g5 a6 g7 c8 a9 a10 a11 g12=some a13):zm5 a0 g1 a2 g3 a4 g5 a6 g7 c8 a9 a10 a11 g12=true∧z80 a0 g1 a2 g3 a4 g5 a6 g7 c8 a9 a10 a11 g12=a13:=of1 h
theorem y9g(h:z8e a0 g1 a2 g3 a4 g5 a6 g7 c8 a9 a10 a11 g12=some a13):y05 a0 g1 a2 g3 a4 g5 a6 g7 c8 a9 a10 a11 g12=true∧zh0 a0 g1 a2 g3 a4 g5 a6 g7 c8 a9 a10 a11 g12=a13:=of1 h
theorem zq3(h:z1z a0 m1 e2=some c3):zg5 a0 m1 e2=true∧zf1 a0 m1 e2=c3:=of1 h
theorem y2q(h:z51 a0=some e1):zqo a0=true∧zp6 a0=e1:=of1 h
theorem yaj(h:z9i a0=some a1):y3e a0=true∧zf2 a0=a1:=of1 h
theorem zvw{r:Int×Bool}(hm:a5=big) (h:z12 a0 a1 g2 g3 a5 c4=some (Sum.inr r)):zn3 a0 a1 g2 g3 c4=true∧zkr a0 a1 g2 g3 c4=false∧zuh a0 a1 g2 g3 c4=r.1∧ztw a0 a1 g2 g3 c4=r.2:=by
 subst hm;exact or2 h
theorem zvo {r:Int×Bool×(List Nat)} (hm:a5=big) (h:z0m a0 a1 g2 a5 c3 g4=some r):zeo a0 a1 g2 c3 g4=true∧ztm a0 a1 g2 c3 g4=r.1∧zu1 a0 a1 g2 c3 g4=r.2.1∧za5 a0 a1 g2 c3 g4=r.2.2:=by
 subst hm;exact of3 h
theorem zs5{r:Nat×Int×Bool}(hm:a3=big)(h:z0j a0 a3 a1 c2=some r):z17 a0 a1 c2=true∧z07 a0 a1 c2=r.1∧zra a0 a1 c2=r.2.1∧zrd a0 a1 c2=r.2.2:=by
 subst hm;exact of3 h
theorem zgc(h:z54 a0 g1 a2 g3=some e4):zc8 a0 g1 a2 g3=true∧zan a0 g1 a2 g3=e4:=of1 h
theorem zn5(h:z1c a0 m1 e2=some e3):z4t a0 m1 e2=true∧z4a a0 m1 e2=e3:=of1 h
theorem y42 {r:Nat×Nat×Nat×(List Nat)×(List Nat)×(List Nat)} (h:z1s a0 g1 a2 g3 a4 g5=some r):zrw a0 g1 a2 g3 a4 g5=true∧zqn a0 g1 a2 g3 a4 g5=r.1∧zqz a0 g1 a2 g3 a4 g5=r.2.1∧zql a0 g1 a2 g3 a4 g5=r.2.2.1∧zqk a0 g1 a2 g3 a4 g5=r.2.2.2.1∧zqv a0 g1 a2 g3 a4 g5=r.2.2.2.2.1∧zqd a0 g1 a2 g3 a4 g5=r.2.2.2.2.2:=of6 h
theorem y2f {r:Nat×(List Nat)} (h:z3x a0 g1=some r):zqq a0 g1=true∧zp2 a0 g1=r.1∧zp4 a0 g1=r.2:=of2 h
theorem y0n(h:z23 a0=some a1):zoy a0=true∧zfi a0=a1:=of1 h
theorem y25(h:z5a a0=some a1):zqs a0=true∧z08 a0=a1:=of1 h
theorem zvh{r:Int×Bool}(hm:a5=big) (h:z14 a0 a1 g2 g3 a5 c4=some (Sum.inr r)):zej a0 a1 g2 g3 c4=true∧zd5 a0 a1 g2 g3 c4=false∧ztu a0 a1 g2 g3 c4=r.1∧ztl a0 a1 g2 g3 c4=r.2:=by
 subst hm;exact or2 h
theorem y54{r:Unit}(hm:a8=big) (h:z1r c0 g1 g2 g3 a4 a5 a6 a8 c7=some (Sum.inl r)):zak c0 g1 g2 g3 a4 a5 a6 c7=true∧z97 c0 g1 g2 g3 a4 a5 a6 c7=true:=by
 subst hm;exact ol0 h
theorem y5h{r:Int×Bool}(hm:a8=big) (h:z1r c0 g1 g2 g3 a4 a5 a6 a8 c7=some (Sum.inr r)):zak c0 g1 g2 g3 a4 a5 a6 c7=true∧z97 c0 g1 g2 g3 a4 a5 a6 c7=false∧y2k c0 g1 g2 g3 a4 a5 a6 c7=r.1∧y2u c0 g1 g2 g3 a4 a5 a6 c7=r.2:=by
 subst hm;exact or2 h
theorem zaa(hm:a4=big) (h:z01 a0 c1 g2 a4 c3=some (Sum.inl c5)):z2u a0 c1 g2 c3=true∧z2n a0 c1 g2 c3=true∧z4o a0 c1 g2 c3=c5:=by
 subst hm;exact ol1 h
theorem za9{r:Int×Bool}(hm:a4=big) (h:z01 a0 c1 g2 a4 c3=some (Sum.inr r)):z2u a0 c1 g2 c3=true∧z2n a0 c1 g2 c3=false∧z9y a0 c1 g2 c3=r.1∧z9w a0 c1 g2 c3=r.2:=by
 subst hm;exact or2 h
theorem zb6(hm:a4=big) (h:z02 a0 c1 g2 a4 c3=some (Sum.inl c5)):z3b a0 c1 g2 c3=true∧z2x a0 c1 g2 c3=true∧z5b a0 c1 g2 c3=c5:=by
 subst hm;exact ol1 h
theorem zbp{r:Int×Bool}(hm:a4=big) (h:z02 a0 c1 g2 a4 c3=some (Sum.inr r)):z3b a0 c1 g2 c3=true∧z2x a0 c1 g2 c3=false∧zb2 a0 c1 g2 c3=r.1∧zat a0 c1 g2 c3=r.2:=by
 subst hm;exact or2 h
theorem y7h {r:Nat×Nat×Nat×Nat×(List Nat)×(List Nat)×(List Nat)×(List Nat)} (h:z1n a0 g1 a2 g3 a4 g5 a6 g7 c8 a9 a10=some r):znv a0 g1 a2 g3 a4 g5 a6 g7 c8 a9 a10=true∧zld a0 g1 a2 g3 a4 g5 a6 g7 c8 a9 a10=r.1∧zn1 a0 g1 a2 g3 a4 g5 a6 g7 c8 a9 a10=r.2.1∧zlj a0 g1 a2 g3 a4 g5 a6 g7 c8 a9 a10=r.2.2.1∧zle a0 g1 a2 g3 a4 g5 a6 g7 c8 a9 a10=r.2.2.2.1∧zlt a0 g1 a2 g3 a4 g5 a6 g7 c8 a9 a10=r.2.2.2.2.1∧zmf a0 g1 a2 g3 a4 g5 a6 g7 c8 a9 a10=r.2.2.2.2.2.1∧zmn a0 g1 a2 g3 a4 g5 a6 g7 c8 a9 a10=r.2.2.2.2.2.2.1∧zlk a0 g1 a2 g3 a4 g5 a6 g7 c8 a9 a10=r.2.2.2.2.2.2.2:=of8 h
theorem y48(h:z5q a0 g1 a2 g3 a4 g5 a6 g7 a8 g9 a10 g11=some e12):zsx a0 g1 a2 g3 a4 g5 a6 g7 a8 g9 a10 g11=true∧zqf a0 g1 a2 g3 a4 g5 a6 g7 a8 g9 a10 g11=e12:=of1 h
theorem y3c(h:z56 a0 g1 a2 g3=some e4):zqw a0 g1 a2 g3=true∧zp0 a0 g1 a2 g3=e4:=of1 h
theorem yao(h:z9a a0 g1 a2 g3 a4 g5=some e6):y37 a0 g1 a2 g3 a4 g5=true∧y02 a0 g1 a2 g3 a4 g5=e6:=of1 h
theorem zcm(h:z0k a0 g1=some c2):z6e a0 g1=true∧z63 a0 g1=c2:=of1 h
theorem zee(h:z0o a0 g1=some c2):z6v a0 g1=true∧z6l a0 g1=c2:=of1 h
theorem z82(h:z65 a0=some a1):z7k a0=true∧z1b a0=a1:=of1 h
theorem zbr(hm:a4=big) (h:z03 a0 c1 g2 a4 c3=some (Sum.inl c5)):z3e a0 c1 g2 c3=true∧z33 a0 c1 g2 c3=true∧z5i a0 c1 g2 c3=c5:=by
 subst hm;exact ol1 h
theorem zbu{r:Int×Bool}(hm:a4=big) (h:z03 a0 c1 g2 a4 c3=some (Sum.inr r)):z3e a0 c1 g2 c3=true∧z33 a0 c1 g2 c3=false∧zb9 a0 c1 g2 c3=r.1∧zbj a0 c1 g2 c3=r.2:=by
 subst hm;exact or2 h
theorem y87(h:z7f a0 g1 a2 g3 a4 g5 a6 g7 c8 a9 a10 a11 g12 a13 g14 a15 g16 a17 g18 c19 a20 a21=some e22):zou a0 g1 a2 g3 a4 g5 a6 g7 c8 a9 a10 a11 g12 a13 g14 a15 g16 a17 g18 c19 a20 a21=true∧zm4 a0 g1 a2 g3 a4 g5 a6 g7 c8 a9 a10 a11 g12 a13 g14 a15 g16 a17 g18 c19 a20 a21=e22:=of1 h
theorem zf7(h:z0q a0 g1=some c2):z77 a0 g1=true∧z6t a0 g1=c2:=of1 h
theorem y06(h:z9c a0=some a1):zrz a0=true∧z8f a0=a1:=of1 h
theorem y61{r:Nat×Nat×Bool}(hm:a3=big)(h:z1q a0 a3 a1 a2=some r):z95 a0 a1 a2=true∧z6s a0 a1 a2=r.1∧y3y a0 a1 a2=r.2.1∧y5n a0 a1 a2=r.2.2:=by
 subst hm;exact of3 h
theorem zax(h:z0g a0 g1=some e2):z5h a0 g1=true∧z5f a0 g1=e2:=of1 h
theorem zbt(h:z0i a0 g1=some e2):z68 a0 g1=true∧z5n a0 g1=e2:=of1 h
theorem zck(h:z0l a0 g1=some e2):z6f a0 g1=true∧z6b a0 g1=e2:=of1 h
theorem yax(h:zb4 a0=some a1):y5v a0=true∧zsh a0=a1:=of1 h
theorem y4a(h:z5p a0=some a1):zt1 a0=true∧z0y a0=a1:=of1 h
theorem y7s(h:z7e a0=some a1):zxl a0=true∧z45 a0=a1:=of1 h
theorem y56{r:Unit}(hm:a6=big) (h:z0z c0 g1 a2 a3 a6 a4 c5=some (Sum.inl r)):zg1 c0 g1 a2 a3 a4 c5=true∧zex c0 g1 a2 a3 a4 c5=true:=by
 subst hm;exact ol0 h
theorem y59{r:Nat×Int×Bool}(hm:a6=big) (h:z0z c0 g1 a2 a3 a6 a4 c5=some (Sum.inr r)):zg1 c0 g1 a2 a3 a4 c5=true∧zex c0 g1 a2 a3 a4 c5=false∧y3b c0 g1 a2 a3 a4 c5=r.1∧y30 c0 g1 a2 a3 a4 c5=r.2.1∧y2z c0 g1 a2 a3 a4 c5=r.2.2:=by
 subst hm;exact or3 h
theorem zfr(h:z1m a0 g1=some e2):z7s a0 g1=true∧z73 a0 g1=e2:=of1 h
theorem y0b(h:z99 a0 g1 a2 g3 a4 g5 a6 g7 c8 a9 a10=some e11):ztj a0 g1 a2 g3 a4 g5 a6 g7 c8 a9 a10=true∧zph a0 g1 a2 g3 a4 g5 a6 g7 c8 a9 a10=e11:=of1 h
theorem zr2(h:z4c a0 g1=some e2):zk2 a0 g1=true∧zhs a0 g1=e2:=of1 h
theorem y78(h:z6m a0 g1=some e2):zut a0 g1=true∧zsr a0 g1=e2:=of1 h
theorem z6r(h:z5r a0=some a1):z4f a0=true∧z1g a0=a1:=of1 h
theorem y3k{r:Nat×Nat×Bool}(h:z2z a0 a1=some r):zic a0 a1=true∧zgx a0 a1=r.1∧zge a0 a1=r.2.1∧zgi a0 a1=r.2.2:=of3 h
theorem y2l(h:z50 a0 g1 a2 g3 a4 g5 a6 g7 c8 a9 a10 c11=some e12):zqt a0 g1 a2 g3 a4 g5 a6 g7 c8 a9 a10 c11=true∧zp1 a0 g1 a2 g3 a4 g5 a6 g7 c8 a9 a10 c11=e12:=of1 h
theorem zvk(h:z35 a0 g1 a2 g3 a4 g5 a6 g7 c8 a9 a10 c11 a12=some a13):zl3 a0 g1 a2 g3 a4 g5 a6 g7 c8 a9 a10 c11 a12=true∧zbg a0 g1 a2 g3 a4 g5 a6 g7 c8 a9 a10 c11 a12=a13:=of1 h
theorem z9t(hm:a5=big) (h:z00 a0 c1 g2 a3 a5 c4=some (Sum.inl c6)):z2m a0 c1 g2 a3 c4=true∧z2i a0 c1 g2 a3 c4=true∧z06 a0 c1 g2 a3 c4=c6:=by
 subst hm;exact ol1 h
theorem z9x{r:Int×Bool}(hm:a5=big) (h:z00 a0 c1 g2 a3 a5 c4=some (Sum.inr r)):z2m a0 c1 g2 a3 c4=true∧z2i a0 c1 g2 a3 c4=false∧z9h a0 c1 g2 a3 c4=r.1∧z9j a0 c1 g2 a3 c4=r.2:=by
 subst hm;exact or2 h
theorem znc{r:Int×Bool}(hm:a4=big)(h:z1d a0 g1 a2 a4 c3=some r):zqj a0 g1 a2 c3=true∧zml a0 g1 a2 c3=r.1∧zz3 a0 g1 a2 c3=r.2:=by
 subst hm;exact of2 h
theorem y9f(h:z8c a0 g1 a2 g3 a4 g5 a6 g7 c8 a9 a10 c11 a12 a13 a14=some e15):zzz a0 g1 a2 g3 a4 g5 a6 g7 c8 a9 a10 c11 a12 a13 a14=true∧zx5 a0 g1 a2 g3 a4 g5 a6 g7 c8 a9 a10 c11 a12 a13 a14=e15:=of1 h
theorem zuc{r:Int×Int×Nat×Nat×Nat}(h:z0t a0 g1 a2 g3 a4 g5 a6=some r):zit a0 g1 a2 g3 a4 g5 a6=true∧z2h a0 g1 a2 g3 a4 g5 a6=r.1∧z2f a0 g1 a2 g3 a4 g5 a6=r.2.1∧z3j a0 g1 a2 g3 a4 g5 a6=r.2.2.1∧z70 a0 g1 a2 g3 a4 g5 a6=r.2.2.2.1∧zac a0 g1 a2 g3 a4 g5 a6=r.2.2.2.2:=of5 h
theorem y8b{r:Int×Int×Nat×Nat}(h:z36 a0 g1 a2 g3 a4 g5 a6=some r):zxs a0 g1 a2 g3 a4 g5 a6=true∧zap a0 g1 a2 g3 a4 g5 a6=r.1∧zlx a0 g1 a2 g3 a4 g5 a6=r.2.1∧zui a0 g1 a2 g3 a4 g5 a6=r.2.2.1∧y7q a0 g1 a2 g3 a4 g5 a6=r.2.2.2:=of4 h
theorem zt7{r:Unit}(hm:a5=big) (h:z0p a0 c1 g2 a3 a5 c4=some (Sum.inl r)):z7p a0 c1 g2 a3 c4=true∧z72 a0 c1 g2 a3 c4=true:=by
 subst hm;exact ol0 h
theorem zt3{r:Int×Bool}(hm:a5=big) (h:z0p a0 c1 g2 a3 a5 c4=some (Sum.inr r)):z7p a0 c1 g2 a3 c4=true∧z72 a0 c1 g2 a3 c4=false∧zre a0 c1 g2 a3 c4=r.1∧zrb a0 c1 g2 a3 c4=r.2:=by
 subst hm;exact or2 h
theorem zzs(h:z42 a0 g1 a2 g3 a4 g5=some e6):znk a0 g1 a2 g3 a4 g5=true∧zmc a0 g1 a2 g3 a4 g5=e6:=of1 h
theorem zp9(h:z57 a0 g1 a2 g3 a4 g5 a6 g7 a8=some a9):zhw a0 g1 a2 g3 a4 g5 a6 g7 a8=true∧z7r a0 g1 a2 g3 a4 g5 a6 g7 a8=a9:=of1 h
theorem y07(h:z9b a0 g1 a2 g3 a4 g5 a6 g7 a8=some a9):zsj a0 g1 a2 g3 a4 g5 a6 g7 a8=true∧zpw a0 g1 a2 g3 a4 g5 a6 g7 a8=a9:=of1 h
theorem zmp{r:Nat×Nat}(h:z2c a0 g1 a2 g3 a4 g5 a6 g7 c8 a9 a10 c11 a12 a13=some r):zfo a0 g1 a2 g3 a4 g5 a6 g7 c8 a9 a10 c11 a12 a13=true∧zek a0 g1 a2 g3 a4 g5 a6 g7 c8 a9 a10 c11 a12 a13=r.1∧zdv a0 g1 a2 g3 a4 g5 a6 g7 c8 a9 a10 c11 a12 a13=r.2:=of2 h
theorem y7i(h:z7g a0 g1 a2 g3 a4 g5 a6=some a7):zxw a0 g1 a2 g3 a4 g5 a6=true∧zm3 a0 g1 a2 g3 a4 g5 a6=a7:=of1 h
theorem y81(h:z7h a0 g1 a2 g3 a4 g5 a6=some a7):zwt a0 g1 a2 g3 a4 g5 a6=true∧zmv a0 g1 a2 g3 a4 g5 a6=a7:=of1 h
theorem zmi{r:Nat×Nat}(h:z2y a0 g1 a2 g3 a4 g5 a6 g7 c8 a9 a10 c11 a12 a13=some r):zfc a0 g1 a2 g3 a4 g5 a6 g7 c8 a9 a10 c11 a12 a13=true∧zes a0 g1 a2 g3 a4 g5 a6 g7 c8 a9 a10 c11 a12 a13=r.1∧zdz a0 g1 a2 g3 a4 g5 a6 g7 c8 a9 a10 c11 a12 a13=r.2:=of2 h
theorem y4k{r:Nat×Nat}(h:z4m a0 g1 a2 g3 a4 g5 a6 g7 c8 a9 a10 c11 a12 a13=some r):zru a0 g1 a2 g3 a4 g5 a6 g7 c8 a9 a10 c11 a12 a13=true∧zi8 a0 g1 a2 g3 a4 g5 a6 g7 c8 a9 a10 c11 a12 a13=r.1∧zig a0 g1 a2 g3 a4 g5 a6 g7 c8 a9 a10 c11 a12 a13=r.2:=of2 h
theorem zw1{r:Unit}(hm:a6=big) (h:z0f a0 c1 g2 a3 a6 a4 c5=some (Sum.inl r)):z8x a0 c1 g2 a3 a4 c5=true∧z7z a0 c1 g2 a3 a4 c5=true:=by
 subst hm;exact ol0 h
theorem zv6{r:Nat×Int×Bool}(hm:a6=big) (h:z0f a0 c1 g2 a3 a6 a4 c5=some (Sum.inr r)):z8x a0 c1 g2 a3 a4 c5=true∧z7z a0 c1 g2 a3 a4 c5=false∧zto a0 c1 g2 a3 a4 c5=r.1∧zu0 a0 c1 g2 a3 a4 c5=r.2.1∧zua a0 c1 g2 a3 a4 c5=r.2.2:=by
 subst hm;exact or3 h
theorem zpb(h:z59 a0 g1 a2 g3 a4 g5 a6 g7 c8 a9 a10=some e11):zc7 a0 g1 a2 g3 a4 g5 a6 g7 c8 a9 a10=true∧z7q a0 g1 a2 g3 a4 g5 a6 g7 c8 a9 a10=e11:=of1 h
theorem zuu{r:Nat×Nat×Nat×Nat}(h:z3u a0 g1 a2 g3 a4 g5 a6 g7 c8 a9 a10 c11 a12 a13=some r):zo5 a0 g1 a2 g3 a4 g5 a6 g7 c8 a9 a10 c11 a12 a13=true∧zlz a0 g1 a2 g3 a4 g5 a6 g7 c8 a9 a10 c11 a12 a13=r.1∧zmt a0 g1 a2 g3 a4 g5 a6 g7 c8 a9 a10 c11 a12 a13=r.2.1∧zul a0 g1 a2 g3 a4 g5 a6 g7 c8 a9 a10 c11 a12 a13=r.2.2.1∧zur a0 g1 a2 g3 a4 g5 a6 g7 c8 a9 a10 c11 a12 a13=r.2.2.2:=of4 h
theorem zwn(h:z2p a0 g1 a2 g3 a4 g5 a6 g7 c8 a9 a10 c11 a12 a13 a14 a15=some a16):zls a0 g1 a2 g3 a4 g5 a6 g7 c8 a9 a10 c11 a12 a13 a14 a15=true∧z7u a0 g1 a2 g3 a4 g5 a6 g7 c8 a9 a10 c11 a12 a13 a14 a15=a16:=of1 h
theorem zus(h:z7l a0 g1 a2 g3 a4 g5 a6 g7 c8 a9 a10 c11 a12 a13 a14=some e15):znn a0 g1 a2 g3 a4 g5 a6 g7 c8 a9 a10 c11 a12 a13 a14=true∧zmx a0 g1 a2 g3 a4 g5 a6 g7 c8 a9 a10 c11 a12 a13 a14=e15:=of1 h
theorem y2i(h:z30 a0 g1 a2 g3 a4 g5 a6 g7 c8 a9 a10 c11 a12 a13 a14 a15=some a16):zqr a0 g1 a2 g3 a4 g5 a6 g7 c8 a9 a10 c11 a12 a13 a14 a15=true∧zar a0 g1 a2 g3 a4 g5 a6 g7 c8 a9 a10 c11 a12 a13 a14 a15=a16:=of1 h
theorem y4s{r:Nat×Bool}(h:z4k a0 g1 a2 g3 a4 g5 a6 g7 c8 a9 a10 c11 a12 a13 a14 a15=some r):zsi a0 g1 a2 g3 a4 g5 a6 g7 c8 a9 a10 c11 a12 a13 a14 a15=true∧zqb a0 g1 a2 g3 a4 g5 a6 g7 c8 a9 a10 c11 a12 a13 a14 a15=r.1∧zr5 a0 g1 a2 g3 a4 g5 a6 g7 c8 a9 a10 c11 a12 a13 a14 a15=r.2:=of2 h
theorem zx1{r:Unit}(hm:a18=big) (h:z0h c0 a1 a2 a3 g4 g5 g6 g7 a8 a9 a10 a11 c12 a13 a14 a18 a15 a16 c17=some (Sum.inl r)):zfl c0 a1 a2 a3 g4 g5 g6 g7 a8 a9 a10 a11 c12 a13 a14 a15 a16 c17=true∧zef c0 a1 a2 a3 g4 g5 g6 g7 a8 a9 a10 a11 c12 a13 a14 a15 a16 c17=true:=by
 subst hm;exact ol0 h
theorem zw7{r:Nat×Nat×Int×Bool}(hm:a18=big) (h:z0h c0 a1 a2 a3 g4 g5 g6 g7 a8 a9 a10 a11 c12 a13 a14 a18 a15 a16 c17=some (Sum.inr r)):zfl c0 a1 a2 a3 g4 g5 g6 g7 a8 a9 a10 a11 c12 a13 a14 a15 a16 c17=true∧zef c0 a1 a2 a3 g4 g5 g6 g7 a8 a9 a10 a11 c12 a13 a14 a15 a16 c17=false∧ziv c0 a1 a2 a3 g4 g5 g6 g7 a8 a9 a10 a11 c12 a13 a14 a15 a16 c17=r.1∧zuy c0 a1 a2 a3 g4 g5 g6 g7 a8 a9 a10 a11 c12 a13 a14 a15 a16 c17=r.2.1∧zvq c0 a1 a2 a3 g4 g5 g6 g7 a8 a9 a10 a11 c12 a13 a14 a15 a16 c17=r.2.2.1∧zvd c0 a1 a2 a3 g4 g5 g6 g7 a8 a9 a10 a11 c12 a13 a14 a15 a16 c17=r.2.2.2:=by
 subst hm;exact or4 h
theorem y53{r:Nat×Bool}(h:z4g a0 g1 a2 g3 a4 g5 a6 g7 c8 a9 a10 c11 a12 a13 a14=some r):zt8 a0 g1 a2 g3 a4 g5 a6 g7 c8 a9 a10 c11 a12 a13 a14=true∧zr4 a0 g1 a2 g3 a4 g5 a6 g7 c8 a9 a10 c11 a12 a13 a14=r.1∧zqh a0 g1 a2 g3 a4 g5 a6 g7 c8 a9 a10 c11 a12 a13 a14=r.2:=of2 h
theorem y23{r:Unit}(hm:a18=big) (h:z0s c0 a1 a2 a3 g4 g5 g6 g7 a8 a9 a10 a11 c12 a13 a14 a18 a15 a16 c17=some (Sum.inl r)):zjl c0 a1 a2 a3 g4 g5 g6 g7 a8 a9 a10 a11 c12 a13 a14 a15 a16 c17=true∧zid c0 a1 a2 a3 g4 g5 g6 g7 a8 a9 a10 a11 c12 a13 a14 a15 a16 c17=true:=by
 subst hm;exact ol0 h
theorem y3i{r:Nat×Nat×Int×Bool}(hm:a18=big) (h:z0s c0 a1 a2 a3 g4 g5 g6 g7 a8 a9 a10 a11 c12 a13 a14 a18 a15 a16 c17=some (Sum.inr r)):zjl c0 a1 a2 a3 g4 g5 g6 g7 a8 a9 a10 a11 c12 a13 a14 a15 a16 c17=true∧zid c0 a1 a2 a3 g4 g5 g6 g7 a8 a9 a10 a11 c12 a13 a14 a15 a16 c17=false∧znf c0 a1 a2 a3 g4 g5 g6 g7 a8 a9 a10 a11 c12 a13 a14 a15 a16 c17=r.1∧y0y c0 a1 a2 a3 g4 g5 g6 g7 a8 a9 a10 a11 c12 a13 a14 a15 a16 c17=r.2.1∧y1x c0 a1 a2 a3 g4 g5 g6 g7 a8 a9 a10 a11 c12 a13 a14 a15 a16 c17=r.2.2.1∧y0f c0 a1 a2 a3 g4 g5 g6 g7 a8 a9 a10 a11 c12 a13 a14 a15 a16 c17=r.2.2.2:=by
 subst hm;exact or4 h
theorem y47{r:Nat×Nat×Bool}(h:z1t a0 g1 a2 g3 a4 g5 a6 g7 c8 a9 a10 c11 a12 a13 a14 a15=some r):zkd a0 g1 a2 g3 a4 g5 a6 g7 c8 a9 a10 c11 a12 a13 a14 a15=true∧zcd a0 g1 a2 g3 a4 g5 a6 g7 c8 a9 a10 c11 a12 a13 a14 a15=r.1∧zcj a0 g1 a2 g3 a4 g5 a6 g7 c8 a9 a10 c11 a12 a13 a14 a15=r.2.1∧zi2 a0 g1 a2 g3 a4 g5 a6 g7 c8 a9 a10 c11 a12 a13 a14 a15=r.2.2:=of3 h
theorem y8w{r:Nat×Bool}(h:z6u a0 g1 a2 g3 a4 g5 a6 g7 c8 a9 a10 c11 a12 a13 a14=some r):y04 a0 g1 a2 g3 a4 g5 a6 g7 c8 a9 a10 c11 a12 a13 a14=true∧zxc a0 g1 a2 g3 a4 g5 a6 g7 c8 a9 a10 c11 a12 a13 a14=r.1∧zxh a0 g1 a2 g3 a4 g5 a6 g7 c8 a9 a10 c11 a12 a13 a14=r.2:=of2 h
theorem zxe{r:Nat×Nat×Bool}(h:z1j a0 g1 a2 g3 a4 g5 a6 g7 c8 a9 a10 c11 a12 a13 a14 a15=some r):z8t a0 g1 a2 g3 a4 g5 a6 g7 c8 a9 a10 c11 a12 a13 a14 a15=true∧z7y a0 g1 a2 g3 a4 g5 a6 g7 c8 a9 a10 c11 a12 a13 a14 a15=r.1∧z85 a0 g1 a2 g3 a4 g5 a6 g7 c8 a9 a10 c11 a12 a13 a14 a15=r.2.1∧z7x a0 g1 a2 g3 a4 g5 a6 g7 c8 a9 a10 c11 a12 a13 a14 a15=r.2.2:=of3 h
theorem y2c{r:Unit}(hm:a20=big) (h:z0e a0 a1 a2 a3 g4 g5 g6 g7 a8 a9 a10 a11 c12 a13 a14 a20 a15 a16 c17 g18 g19=some (Sum.inl r)):zjm a0 a1 a2 a3 g4 g5 g6 g7 a8 a9 a10 a11 c12 a13 a14 a15 a16 c17 g18 g19=true∧zhu a0 a1 a2 a3 g4 g5 g6 g7 a8 a9 a10 a11 c12 a13 a14 a15 a16 c17 g18 g19=true:=by
 subst hm;exact ol0 h
theorem y2b {r:Nat×Nat×Int×Bool×(List Nat)×(List Nat)} (hm:a20=big) (h:z0e a0 a1 a2 a3 g4 g5 g6 g7 a8 a9 a10 a11 c12 a13 a14 a20 a15 a16 c17 g18 g19=some (Sum.inr r)):zjm a0 a1 a2 a3 g4 g5 g6 g7 a8 a9 a10 a11 c12 a13 a14 a15 a16 c17 g18 g19=true∧zhu a0 a1 a2 a3 g4 g5 g6 g7 a8 a9 a10 a11 c12 a13 a14 a15 a16 c17 g18 g19=false∧znm a0 a1 a2 a3 g4 g5 g6 g7 a8 a9 a10 a11 c12 a13 a14 a15 a16 c17 g18 g19=r.1∧znd a0 a1 a2 a3 g4 g5 g6 g7 a8 a9 a10 a11 c12 a13 a14 a15 a16 c17 g18 g19=r.2.1∧y1z a0 a1 a2 a3 g4 g5 g6 g7 a8 a9 a10 a11 c12 a13 a14 a15 a16 c17 g18 g19=r.2.2.1∧y1w a0 a1 a2 a3 g4 g5 g6 g7 a8 a9 a10 a11 c12 a13 a14 a15 a16 c17 g18 g19=r.2.2.2.1∧znj a0 a1 a2 a3 g4 g5 g6 g7 a8 a9 a10 a11 c12 a13 a14 a15 a16 c17 g18 g19=r.2.2.2.2.1∧zni a0 a1 a2 a3 g4 g5 g6 g7 a8 a9 a10 a11 c12 a13 a14 a15 a16 c17 g18 g19=r.2.2.2.2.2:=by
 subst hm;exact or6 h
theorem y9q {r:Nat×Nat×Bool×(List Nat)×(List Nat)} (h:z3t a0 g1 a2 g3 a4 g5 a6 g7 c8 a9 a10 a11 a12 a13 a14=some r):y0a a0 g1 a2 g3 a4 g5 a6 g7 c8 a9 a10 a11 a12 a13 a14=true∧z0v a0 g1 a2 g3 a4 g5 a6 g7 c8 a9 a10 a11 a12 a13 a14=r.1∧y9r a0 g1 a2 g3 a4 g5 a6 g7 c8 a9 a10 a11 a12 a13 a14=r.2.1∧zx9 a0 g1 a2 g3 a4 g5 a6 g7 c8 a9 a10 a11 a12 a13 a14=r.2.2.1∧z93 a0 g1 a2 g3 a4 g5 a6 g7 c8 a9 a10 a11 a12 a13 a14=r.2.2.2.1∧y9z a0 g1 a2 g3 a4 g5 a6 g7 c8 a9 a10 a11 a12 a13 a14=r.2.2.2.2:=of5 h
theorem zwh {r:Int×Bool×(List Nat)} (hm:a7=big) (h:z11 a0 c1 g2 a3 a4 a7 c5 g6=some r):zn7 a0 c1 g2 a3 a4 c5 g6=true∧zvp a0 c1 g2 a3 a4 c5 g6=r.1∧zvs a0 c1 g2 a3 a4 c5 g6=r.2.1∧z5g a0 c1 g2 a3 a4 c5 g6=r.2.2:=by
 subst hm;exact of3 h
theorem y4p{r:Nat×Bool}(h:z4l a0 g1 a2 g3 a4 g5 a6 g7 c8 a9 a10 a11 a12 a13 a14=some r):zsy a0 g1 a2 g3 a4 g5 a6 g7 c8 a9 a10 a11 a12 a13 a14=true∧zqx a0 g1 a2 g3 a4 g5 a6 g7 c8 a9 a10 a11 a12 a13 a14=r.1∧zqc a0 g1 a2 g3 a4 g5 a6 g7 c8 a9 a10 a11 a12 a13 a14=r.2:=of2 h
theorem zx6 {r:Int×Bool×(List Nat)} (hm:a7=big) (h:z10 a0 a1 c2 g3 a4 a7 c5 g6=some r):zne a0 a1 c2 g3 a4 c5 g6=true∧zvf a0 a1 c2 g3 a4 c5 g6=r.1∧zvu a0 a1 c2 g3 a4 c5 g6=r.2.1∧z5j a0 a1 c2 g3 a4 c5 g6=r.2.2:=by
 subst hm;exact of3 h
theorem zxy {r:Nat×Nat×Bool×(List Nat)×(List Nat)} (h:z18 a0 g1 a2 g3 a4 g5 a6 g7 c8 a9 a10 a11 a12 a13 a14=some r):zmz a0 g1 a2 g3 a4 g5 a6 g7 c8 a9 a10 a11 a12 a13 a14=true∧z0n a0 g1 a2 g3 a4 g5 a6 g7 c8 a9 a10 a11 a12 a13 a14=r.1∧zx8 a0 g1 a2 g3 a4 g5 a6 g7 c8 a9 a10 a11 a12 a13 a14=r.2.1∧zky a0 g1 a2 g3 a4 g5 a6 g7 c8 a9 a10 a11 a12 a13 a14=r.2.2.1∧z49 a0 g1 a2 g3 a4 g5 a6 g7 c8 a9 a10 a11 a12 a13 a14=r.2.2.2.1∧zxx a0 g1 a2 g3 a4 g5 a6 g7 c8 a9 a10 a11 a12 a13 a14=r.2.2.2.2:=of5 h
theorem y44{r:Nat×Bool}(h:z4i a0 g1 a2 g3 a4 g5 a6 g7 c8 a9 a10 a11 a12 a13 a14=some r):zrt a0 g1 a2 g3 a4 g5 a6 g7 c8 a9 a10 a11 a12 a13 a14=true∧zqe a0 g1 a2 g3 a4 g5 a6 g7 c8 a9 a10 a11 a12 a13 a14=r.1∧zqg a0 g1 a2 g3 a4 g5 a6 g7 c8 a9 a10 a11 a12 a13 a14=r.2:=of2 h
end
end Go.Rf
