import Derived.Test.YtijjhfailnmeoaaGreatB
set_option linter.unusedVariables false
set_option linter.unusedSimpArgs false
set_option linter.unusedSectionVars false
set_option maxRecDepth 100000
set_option maxHeartbeats 4000000
namespace Go.Rf
open Go
noncomputable section
variable (a0:Nat) (c0:Int) (g0:List Nat) (a1:Nat) (c1:Int) (e1:Bool) (g1:List Nat) (m1:List Bool) (a2:Nat) (c2:Int) (e2:Bool) (g2:List Nat) (a3:Nat) (c3:Int) (g3:List Nat) (m3:List Bool) (a4:Nat) (c4:Int) (g4:List Nat) (a5:Nat) (c5:Int) (g5:List Nat) (a6:Nat) (c6:Int) (a7:Nat) (c7:Int) (g7:List Nat) (a8:Nat) (c8:Int) (a9:Nat) (g9:List Nat) (a10:Nat) (a11:Nat) (c11:Int) (g11:List Nat) (a12:Nat) (g12:List Nat) (a13:Nat) (a14:Nat) (g14:List Nat) (a15:Nat) (g16:List Nat) (a17:Nat) (g18:List Nat) (c19:Int) (a20:Nat) (a21:Nat)
abbrev Nt1{A1:Type} (T:{R:Type}→(A1→Option R)→Option R):Prop:=∀ {R R':Type} (o:Option R→Option R'),o none=none→∀ k:A1→Option R,T (fun c1=>o (k c1))=o (T k)
abbrev Nt2{A1 A2:Type} (T:{R:Type}→(A1→A2→Option R)→Option R):Prop:=∀ {R R':Type} (o:Option R→Option R'),o none=none→∀ k:A1→A2→Option R,T (fun c1 c2=>o (k c1 c2))=o (T k)
abbrev Nt3{A1 A2 A3:Type} (T:{R:Type}→(A1→A2→A3→Option R)→Option R):Prop:=∀ {R R':Type} (o:Option R→Option R'),o none=none→∀ k:A1→A2→A3→Option R,T (fun c1 c2 c3=>o (k c1 c2 c3))=o (T k)
abbrev Nt4{A1 A2 A3 A4:Type} (T:{R:Type}→(A1→A2→A3→A4→Option R)→Option R):Prop:=∀ {R R':Type} (o:Option R→Option R'),o none=none→∀ k:A1→A2→A3→A4→Option R,T (fun c1 c2 c3 c4=>o (k c1 c2 c3 c4))=o (T k)
abbrev Nt5{A1 A2 A3 A4 A5:Type} (T:{R:Type}→(A1→A2→A3→A4→A5→Option R)→Option R):Prop:=∀ {R R':Type} (o:Option R→Option R'),o none=none→∀ k:A1→A2→A3→A4→A5→Option R,T (fun c1 c2 c3 c4 c5=>o (k c1 c2 c3 c4 c5))=o (T k)
abbrev Nt6{A1 A2 A3 A4 A5 A6:Type} (T:{R:Type}→(A1→A2→A3→A4→A5→A6→Option R)→Option R):Prop:=∀ {R R':Type} (o:Option R→Option R'),o none=none→∀ k:A1→A2→A3→A4→A5→A6→Option R,T (fun c1 c2 c3 c4 c5 c6=>o (k c1 c2 c3 c4 c5 c6))=o (T k)
abbrev Nt8{A1 A2 A3 A4 A5 A6 A7 A8:Type} (T:{R:Type}→(A1→A2→A3→A4→A5→A6→A7→A8→Option R)→Option R):Prop:=∀ {R R':Type} (o:Option R→Option R'),o none=none→∀ k:A1→A2→A3→A4→A5→A6→A7→A8→Option R,T (fun c1 c2 c3 c4 c5 c6 c7 c8=>o (k c1 c2 c3 c4 c5 c6 c7 c8))=o (T k)
def zex{R:Type}(k_:Bool→Option R):Option R:=(br (fcmp .neq .f64 a0 a0) (br (fcmp .neq .f64 a0 a0) (k_ (fcmp .neq .f64 a1 a1)) (k_ Bool.false)) (br (fcmp .neq .f64 a1 a1) (br (fcmp .neq .f64 a0 a0) (k_ (fcmp .neq .f64 a1 a1)) (k_ Bool.false)) (br (fcmp .eql .f64 a0 0) (br (fcmp .eql .f64 a1 0) (k_ (beqB (fcmp .gtr .f64 (fop .quo .f64 4607182418800017408 a0) 0) (fcmp .gtr .f64 (fop .quo .f64 4607182418800017408 a1) 0))) (k_ (fcmp .eql .f64 a0 a1))) (k_ (fcmp .eql .f64 a0 a1)))))
def z5r:Option (Bool):=zex a0 a1 (fun c0_=>some c0_)
theorem zzn:Nt1 (fun {R}=>zex (R:=R) a0 a1):=by
 intro R R' o h0 k;unfold zex;repeat (first | apply grd_out h0 | apply br_out | rfl)
def z4f:Bool:=(z5r a0 a1).isSome
def z3x:Bool:=((z5r a0 a1).getD default)
def zj3{R:Type}(k_:Bool→Option R):Option R:=(br (leI c1 c0) (k_ (leI c0 c2)) (k_ Bool.false))
def z8c:Option (Bool):=zj3 c0 c1 c2 (fun c0_=>some c0_)
theorem y5x:Nt1 (fun {R}=>zj3 (R:=R) c0 c1 c2):=by
 intro R R' o h0 k;unfold zj3;repeat (first | apply grd_out h0 | apply br_out | rfl)
def z8b:Bool:=(z8c c0 c1 c2).isSome
def z3u:Bool:=((z8c c0 c1 c2).getD default)
def zlw{R:Type}(k_:Bool→Option R):Option R:=(k_ (fcmp .eql .f32 (fop .sub .f32 a0 a0) 0))
def z7u:Option (Bool):=zlw a0 (fun c0_=>some c0_)
theorem y1p:Nt1 (fun {R}=>zlw (R:=R) a0):=by
 intro R R' o h0 k;unfold zlw;repeat (first | apply grd_out h0 | apply br_out | rfl)
def z2h:Bool:=(z7u a0).isSome
def z27:Bool:=((z7u a0).getD default)
def zn4{R:Type}(k_:Bool→Option R):Option R:=(br (leI c1 c0) (k_ (leI c0 c2)) (k_ Bool.false))
def z9a:Option (Bool):=zn4 c0 c1 c2 (fun c0_=>some c0_)
theorem y76:Nt1 (fun {R}=>zn4 (R:=R) c0 c1 c2):=by
 intro R R' o h0 k;unfold zn4;repeat (first | apply grd_out h0 | apply br_out | rfl)
def zs0:Bool:=(z9a c0 c1 c2).isSome
def zpu:Bool:=((z9a c0 c1 c2).getD default)
def zch{R:Type}(a:List Nat)(q2j:Int)(k_:Int→Option R):Option R:=(br (ltI (subI .i64 q2j (Int.ofNat a0)) 0) (k_ (Int.negSucc 0)) (k_ (subI .i64 q2j (Int.ofNat a0))))
def z53:Option (Int):=zch a0 g1 c2 (fun c0_=>some c0_)
theorem zwj:Nt1 (fun {R}=>zch (R:=R) a0 g1 c2):=by
 intro R R' o h0 k;unfold zch;repeat (first | apply grd_out h0 | apply br_out | rfl)
def zr0:Bool:=(z53 a0 g1 c2).isSome
def zgn:Int:=((z53 a0 g1 c2).getD default)
def zkp{R:Type}(k_:Bool→Option R):Option R:=(k_ (fcmp .eql .f32 (fop .sub .f32 a0 a0) 0))
def z7k:Option (Bool):=zkp a0 (fun c0_=>some c0_)
theorem zz6:Nt1 (fun {R}=>zkp (R:=R) a0):=by
 intro R R' o h0 k;unfold zkp;repeat (first | apply grd_out h0 | apply br_out | rfl)
def z0y:Bool:=(z7k a0).isSome
def z0r:Bool:=((z7k a0).getD default)
def zc5{R:Type}(a:List Nat)(q2j:Int)(k_:Int→Option R):Option R:=(br (ltI (subI .i64 q2j (Int.ofNat a0)) 0) (k_ (Int.negSucc 0)) (k_ (subI .i64 q2j (Int.ofNat a0))))
def z50:Option (Int):=zc5 a0 g1 c2 (fun c0_=>some c0_)
theorem zxl:Nt1 (fun {R}=>zc5 (R:=R) a0 g1 c2):=by
 intro R R' o h0 k;unfold zc5;repeat (first | apply grd_out h0 | apply br_out | rfl)
def zc4:Bool:=(z50 a0 g1 c2).isSome
def z15:Int:=((z50 a0 g1 c2).getD default)
def zjc{R:Type}(q2p q2r q2s:Nat)(k_:Unit→Option R):Option R:=(k_ ())
def zkm:Option (Unit):=zjc a0 a1 a2 (fun _=>some ())
theorem zzm:Nt1 (fun {R}=>zjc (R:=R) a0 a1 a2):=by
 intro R R' o h0 k;unfold zjc;repeat (first | apply grd_out h0 | apply br_out | rfl)
def zsl:Bool:=(zkm a0 a1 a2).isSome
def zg6{R:Type}(k_:Bool→Option R):Option R:=(br (fcmp .geq .f32 a0 a1) (k_ (fcmp .leq .f32 a0 a2)) (k_ Bool.false))
def z6n:Option (Bool):=zg6 a0 a1 a2 (fun c0_=>some c0_)
theorem y0y:Nt1 (fun {R}=>zg6 (R:=R) a0 a1 a2):=by
 intro R R' o h0 k;unfold zg6;repeat (first | apply grd_out h0 | apply br_out | rfl)
def zlq:Bool:=(z6n a0 a1 a2).isSome
def zjk:Bool:=((z6n a0 a1 a2).getD default)
def z7x{R:Type}(q00:Nat)(q03:List Nat)(q02:Nat)(q04:List Nat)(q01:Nat)(q05:List Nat)(q06:Nat)(q07:List Nat)(q0c:Int)(q0k q0j:Nat)(i:Int)(k_:Nat→Option R):Option R:=(grd (okIx i q06) (grd (okIx i q06) (k_ (fop .quo .f32 (fop .mul .f32 (fOI .f32 q0c) (gF q07 (Nat.succ (ixO 0 i 3)))) (fop .mul .f32 1086918619 (gF q07 (ixO 0 i 3)))))))
def z3b:Option (Nat):=z7x a0 g1 a2 g3 a4 g5 a6 g7 c8 a9 a10 c11 (fun c0_=>some c0_)
theorem zra:Nt1 (fun {R}=>z7x (R:=R) a0 g1 a2 g3 a4 g5 a6 g7 c8 a9 a10 c11):=by
 intro R R' o h0 k;unfold z7x;repeat (first | apply grd_out h0 | apply br_out | rfl)
def zl0:Bool:=(z3b a0 g1 a2 g3 a4 g5 a6 g7 c8 a9 a10 c11).isSome
def zbc:Nat:=((z3b a0 g1 a2 g3 a4 g5 a6 g7 c8 a9 a10 c11).getD default)
def zj5{R:Type}(q00:Nat)(q03:List Nat)(q02:Nat)(q04:List Nat)(q01:Nat)(q05:List Nat)(q06:Nat)(q07:List Nat)(q0c:Int)(q0k q0j:Nat)(i:Int)(q3o:Nat)(k_:Nat→Option R):Option R:=(grd (okIx i q06) (k_ (fop .quo .f32 (fop .quo .f32 (fop .mul .f32 (fOI .f32 q0c) (fop .sub .f32 q0j (gF q07 (ixO 0 i 3)))) (fop .mul .f32 1073741824 (gF q07 (ixO 0 i 3)))) (fop .add .f32 (fop .quo .f32 (fop .mul .f32 (fOI .f32 q0c) (fop .sub .f32 q0j (gF q07 (ixO 0 i 3)))) (fop .mul .f32 1073741824 (gF q07 (ixO 0 i 3)))) q3o))))
def z8f:Option (Nat):=zj5 a0 g1 a2 g3 a4 g5 a6 g7 c8 a9 a10 c11 a12 (fun c0_=>some c0_)
theorem y4d:Nt1 (fun {R}=>zj5 (R:=R) a0 g1 a2 g3 a4 g5 a6 g7 c8 a9 a10 c11 a12):=by
 intro R R' o h0 k;unfold zj5;repeat (first | apply grd_out h0 | apply br_out | rfl)
def y06:Bool:=(z8f a0 g1 a2 g3 a4 g5 a6 g7 c8 a9 a10 c11 a12).isSome
def znq:Nat:=((z8f a0 g1 a2 g3 a4 g5 a6 g7 c8 a9 a10 c11 a12).getD default)
def zad{R:Type}(q00:Nat)(q03:List Nat)(q02:Nat)(q04:List Nat)(q01:Nat)(q05:List Nat)(q06:Nat)(q07:List Nat)(q0c:Int)(q0k q0j:Nat)(i:Int)(k_:Nat→Option R):Option R:=(grd (okIx i q06) (k_ (fop .quo .f32 (fop .mul .f32 (fOI .f32 q0c) (gF q07 (Nat.succ (ixO 0 i 3)))) (fop .mul .f32 1086918619 (gF q07 (ixO 0 i 3))))))
def z4i:Option (Nat):=zad a0 g1 a2 g3 a4 g5 a6 g7 c8 a9 a10 c11 (fun c0_=>some c0_)
theorem zvj:Nt1 (fun {R}=>zad (R:=R) a0 g1 a2 g3 a4 g5 a6 g7 c8 a9 a10 c11):=by
 intro R R' o h0 k;unfold zad;repeat (first | apply grd_out h0 | apply br_out | rfl)
def zp2:Bool:=(z4i a0 g1 a2 g3 a4 g5 a6 g7 c8 a9 a10 c11).isSome
def zfb:Nat:=((z4i a0 g1 a2 g3 a4 g5 a6 g7 c8 a9 a10 c11).getD default)
def zrn{R:Type}  (k_:Nat→Option R):Option R:=(grd (okU .f64 9221120237041090561) (k_ (cnI .f64 9221120237041090561)))
def ze5  : Option (Nat):=zrn (fun c0_=>some c0_)
theorem ya1  : Nt1 (fun {R}=>zrn (R:=R)):=by
 intro R R' o h0 k;unfold zrn;repeat (first | apply grd_out h0 | apply br_out | rfl)
def zy8  : Bool:=(ze5).isSome
def zoz  : Nat:=((ze5).getD default)
def ztm{R:Type}(k_:Nat→Option R):Option R:=(k_ (fop .add .f32 a0 (fop .mul .f32 a2 (fop .sub .f32 a1 a0))))
def zcm:Option (Nat):=ztm a0 a1 a2 (fun c0_=>some c0_)
theorem y7a:Nt1 (fun {R}=>ztm (R:=R) a0 a1 a2):=by
 intro R R' o h0 k;unfold ztm;repeat (first | apply grd_out h0 | apply br_out | rfl)
def zsc:Bool:=(zcm a0 a1 a2).isSome
def zqa:Nat:=((zcm a0 a1 a2).getD default)
def zeu{R:Type}(k_:Nat→Option R):Option R:=(grd (fcvB .f64 .f32 a0) (k_ (fcvV .f64 .f32 a0)))
def z5p:Option (Nat):=zeu a0 (fun c0_=>some c0_)
theorem zyq:Nt1 (fun {R}=>zeu (R:=R) a0):=by
 intro R R' o h0 k;unfold zeu;repeat (first | apply grd_out h0 | apply br_out | rfl)
def zjd:Bool:=(z5p a0).isSome
def zce:Nat:=((z5p a0).getD default)
def zrp{R:Type}(k_:Nat→Option R):Option R:=(grd (bnot (nanQ .f64 a0)) (grd (okU .f64 (bitI .andNot .u64 (Int.ofNat a0) 9223372036854775808)) (k_ (cnI .f64 (bitI .andNot .u64 (Int.ofNat a0) 9223372036854775808)))))
def ze2:Option (Nat):=zrp a0 (fun c0_=>some c0_)
theorem y8y:Nt1 (fun {R}=>zrp (R:=R) a0):=by
 intro R R' o h0 k;unfold zrp;repeat (first | apply grd_out h0 | apply br_out | rfl)
def y84:Bool:=(ze2 a0).isSome
def y60:Nat:=((ze2 a0).getD default)
def zh2{R:Type}(k_:Nat→Bool→Option R):Option R:=(grd (z2h a0) (br (bnot (z27 a0)) (k_ 0 Bool.false) (k_ a0 Bool.true)))
def z6a:Option (Nat×Bool):=zh2 a0 (fun c0_ c1_=>some (c0_,c1_))
theorem y2e:Nt2 (fun {R}=>zh2 (R:=R) a0):=by
 intro R R' o h0 k;unfold zh2;repeat (first | apply grd_out h0 | apply br_out | rfl)
def zoj:Bool:=(z6a a0).isSome
def zmd:Nat:=((z6a a0).getD default).1
def zlp:Bool:=((z6a a0).getD default).2
def zdw{R:Type}(k_:Int→Option R):Option R:=(grd (zc4 a0 (pF g1 0 (muN a0 1)) c6) (br (ltI (z15 a0 (pF g1 0 (muN a0 1)) c6) 0) (k_ (Int.negSucc 0)) (grd (zc4 a2 (pF g3 0 (muN a2 1)) (z15 a0 (pF g1 0 (muN a0 1)) c6)) (br (ltI (z15 a2 (pF g3 0 (muN a2 1)) (z15 a0 (pF g1 0 (muN a0 1)) c6)) 0) (k_ (Int.negSucc 0)) (grd (zc4 a4 (pF g5 0 (muN a4 1)) (z15 a2 (pF g3 0 (muN a2 1)) (z15 a0 (pF g1 0 (muN a0 1)) c6))) (br (ltI (z15 a4 (pF g5 0 (muN a4 1)) (z15 a2 (pF g3 0 (muN a2 1)) (z15 a0 (pF g1 0 (muN a0 1)) c6))) 0) (k_ (Int.negSucc 0)) (k_ (z15 a4 (pF g5 0 (muN a4 1)) (z15 a2 (pF g3 0 (muN a2 1)) (z15 a0 (pF g1 0 (muN a0 1)) c6))))))))))
def z5w:Option (Int):=zdw a0 g1 a2 g3 a4 g5 c6 (fun c0_=>some c0_)
theorem zyy:Nt1 (fun {R}=>zdw (R:=R) a0 g1 a2 g3 a4 g5 c6):=by
 intro R R' o h0 k;unfold zdw;repeat (first | apply grd_out h0 | apply br_out | rfl)
def zt5:Bool:=(z5w a0 g1 a2 g3 a4 g5 c6).isSome
def z8i:Int:=((z5w a0 g1 a2 g3 a4 g5 c6).getD default)
def ze7{R:Type}(k_:Nat→Bool→Option R):Option R:=(grd (z0y a0) (br (bnot (z0r a0)) (k_ 0 Bool.false) (k_ a0 Bool.true)))
def z4l:Option (Nat×Bool):=ze7 a0 (fun c0_ c1_=>some (c0_,c1_))
theorem zym:Nt2 (fun {R}=>ze7 (R:=R) a0):=by
 intro R R' o h0 k;unfold ze7;repeat (first | apply grd_out h0 | apply br_out | rfl)
def zru:Bool:=(z4l a0).isSome
def zqm:Nat:=((z4l a0).getD default).1
def zqh:Bool:=((z4l a0).getD default).2
def zfw{R:Type}(k_:Bool→Option R):Option R:=(grd (z0y a0) (br (z0r a0) (k_ (fcmp .gtr .f32 a0 0)) (k_ Bool.false)))
def z6i:Option (Bool):=zfw a0 (fun c0_=>some c0_)
theorem y0w:Nt1 (fun {R}=>zfw (R:=R) a0):=by
 intro R R' o h0 k;unfold zfw;repeat (first | apply grd_out h0 | apply br_out | rfl)
def zas:Bool:=(z6i a0).isSome
def z9e:Bool:=((z6i a0).getD default)
def zhb{R:Type}(k_:Bool→Option R):Option R:=(grd (z2h a0) (br (z27 a0) (k_ (fcmp .geq .f32 a0 0)) (k_ Bool.false)))
def z78:Option (Bool):=zhb a0 (fun c0_=>some c0_)
theorem y2c:Nt1 (fun {R}=>zhb (R:=R) a0):=by
 intro R R' o h0 k;unfold zhb;repeat (first | apply grd_out h0 | apply br_out | rfl)
def znz:Bool:=(z78 a0).isSome
def zlb:Bool:=((z78 a0).getD default)
def z8l{R:Type}(k_:Bool→Option R):Option R:=(grd (z2h a0) (br (bnot (z27 a0)) (k_ Bool.true) (k_ (fcmp .leq .f32 a0 0))))
def z3k:Option (Bool):=z8l a0 (fun c0_=>some c0_)
theorem zsu:Nt1 (fun {R}=>z8l (R:=R) a0):=by
 intro R R' o h0 k;unfold z8l;repeat (first | apply grd_out h0 | apply br_out | rfl)
def zmw:Bool:=(z3k a0).isSome
def zl2:Bool:=((z3k a0).getD default)
def zdv{R:Type}(k_:Bool→Option R):Option R:=(grd (z4f (fcvV .f32 .f64 a0) (fcvV .f32 .f64 a3)) (br (bnot (z3x (fcvV .f32 .f64 a0) (fcvV .f32 .f64 a3))) (k_ Bool.false) (grd (z4f (fcvV .f32 .f64 a1) (fcvV .f32 .f64 a4)) (br (bnot (z3x (fcvV .f32 .f64 a1) (fcvV .f32 .f64 a4))) (k_ Bool.false) (grd (z4f (fcvV .f32 .f64 a2) (fcvV .f32 .f64 a5)) (br (bnot (z3x (fcvV .f32 .f64 a2) (fcvV .f32 .f64 a5))) (k_ Bool.false) (k_ Bool.true)))))))
def z60:Option (Bool):=zdv a0 a1 a2 a3 a4 a5 (fun c0_=>some c0_)
theorem zyl:Nt1 (fun {R}=>zdv (R:=R) a0 a1 a2 a3 a4 a5):=by
 intro R R' o h0 k;unfold zdv;repeat (first | apply grd_out h0 | apply br_out | rfl)
def zrw:Bool:=(z60 a0 a1 a2 a3 a4 a5).isSome
def zqu:Bool:=((z60 a0 a1 a2 a3 a4 a5).getD default)
def zg5{R:Type}(k_:Bool→Option R):Option R:=(grd (z0y a0) (br (z0r a0) (k_ (fcmp .geq .f32 a0 0)) (k_ Bool.false)))
def z6j:Option (Bool):=zg5 a0 (fun c0_=>some c0_)
theorem y1j:Nt1 (fun {R}=>zg5 (R:=R) a0):=by
 intro R R' o h0 k;unfold zg5;repeat (first | apply grd_out h0 | apply br_out | rfl)
def z86:Bool:=(z6j a0).isSome
def z7a:Bool:=((z6j a0).getD default)
def zfy{R:Type}(q00:Nat)(q03:List Nat)(q02:Nat)(q04:List Nat)(q01:Nat)(q05:List Nat)(q06:Nat)(q07:List Nat)(q0c:Int)(q0k q0j:Nat)(i:Int)(q0l:Nat)(k_:Bool→Option R):Option R:=(grd (okIx i q06) (grd (z0y (fop .sub .f32 (fop .sub .f32 981668463 (gF q07 (Nat.succ (Nat.succ (ixO 0 i 3))))) q0l)) (br (z0r (fop .sub .f32 (fop .sub .f32 981668463 (gF q07 (Nat.succ (Nat.succ (ixO 0 i 3))))) q0l)) (grd (okIx i q06) (grd (z0y (fop .sub .f32 (fop .sub .f32 1048508891 (gF q07 (Nat.succ (Nat.succ (ixO 0 i 3))))) q0l)) (k_ (z0r (fop .sub .f32 (fop .sub .f32 1048508891 (gF q07 (Nat.succ (Nat.succ (ixO 0 i 3))))) q0l))))) (k_ Bool.false))))
def z6l:Option (Bool):=zfy a0 g1 a2 g3 a4 g5 a6 g7 c8 a9 a10 c11 a12 (fun c0_=>some c0_)
theorem y22:Nt1 (fun {R}=>zfy (R:=R) a0 g1 a2 g3 a4 g5 a6 g7 c8 a9 a10 c11 a12):=by
 intro R R' o h0 k;unfold zfy;repeat (first | apply grd_out h0 | apply br_out | rfl)
def zup:Bool:=(z6l a0 g1 a2 g3 a4 g5 a6 g7 c8 a9 a10 c11 a12).isSome
def zso:Bool:=((z6l a0 g1 a2 g3 a4 g5 a6 g7 c8 a9 a10 c11 a12).getD default)
def zj6{R:Type}(k_:Nat→Nat→Bool→Option R):Option R:=(grd (z0y a0) (br (bnot (z0r a0)) (k_ 0 0 Bool.false) (grd (z0y a1) (br (bnot (z0r a1)) (k_ 0 0 Bool.false) (k_ a0 a1 Bool.true)))))
def z5m:Option (Nat×Nat×Bool):=zj6 a0 a1 (fun c0_ c1_ c2_=>some (c0_,c1_,c2_))
theorem y4f:Nt3 (fun {R}=>zj6 (R:=R) a0 a1):=by
 intro R R' o h0 k;unfold zj6;repeat (first | apply grd_out h0 | apply br_out | rfl)
def zpo:Bool:=(z5m a0 a1).isSome
def zh0:Nat:=((z5m a0 a1).getD default).1
def zh9:Nat:=((z5m a0 a1).getD default).2.1
def zh1:Bool:=((z5m a0 a1).getD default).2.2
def zaq{R:Type}(k_:Bool→Option R):Option R:=(grd (z2h a0) (k_ (bnot (z27 a0))))
def z4d:Option (Bool):=zaq a0 (fun c0_=>some c0_)
theorem zvx:Nt1 (fun {R}=>zaq (R:=R) a0):=by
 intro R R' o h0 k;unfold zaq;repeat (first | apply grd_out h0 | apply br_out | rfl)
def zp0:Bool:=(z4d a0).isSome
def znd:Bool:=((z4d a0).getD default)
def z7n{R:Type}(q00:Nat)(q03:List Nat)(q02:Nat)(q04:List Nat)(q01:Nat)(q05:List Nat)(q06:Nat)(q07:List Nat)(q0c:Int)(q0k q0j:Nat)(i:Int)(k_:Bool→Option R):Option R:=(grd (z8b i 0 (subI .i64 (Int.ofNat q06) 1)) (k_ (z3u i 0 (subI .i64 (Int.ofNat q06) 1))))
def z2q:Option (Bool):=z7n a0 g1 a2 g3 a4 g5 a6 g7 c8 a9 a10 c11 (fun c0_=>some c0_)
theorem zpn:Nt1 (fun {R}=>z7n (R:=R) a0 g1 a2 g3 a4 g5 a6 g7 c8 a9 a10 c11):=by
 intro R R' o h0 k;unfold z7n;repeat (first | apply grd_out h0 | apply br_out | rfl)
def zit:Bool:=(z2q a0 g1 a2 g3 a4 g5 a6 g7 c8 a9 a10 c11).isSome
def zhl:Bool:=((z2q a0 g1 a2 g3 a4 g5 a6 g7 c8 a9 a10 c11).getD default)
def ziz{R:Type}(k_:Bool→Option R):Option R:=(grd (zlq a0 981668463 1048508891) (k_ (zjk a0 981668463 1048508891)))
def z8e:Option (Bool):=ziz a0 (fun c0_=>some c0_)
theorem y5p:Nt1 (fun {R}=>ziz (R:=R) a0):=by
 intro R R' o h0 k;unfold ziz;repeat (first | apply grd_out h0 | apply br_out | rfl)
def y0g:Bool:=(z8e a0).isSome
def zwt:Bool:=((z8e a0).getD default)
def zj2{R:Type}(k_:Bool→Option R):Option R:=(grd (y84 a0) (k_ (fcmp .geq .f64 (y60 a0) 4841369599423283200)))
def z8d:Option (Bool):=zj2 a0 (fun c0_=>some c0_)
theorem y5j:Nt1 (fun {R}=>zj2 (R:=R) a0):=by
 intro R R' o h0 k;unfold zj2;repeat (first | apply grd_out h0 | apply br_out | rfl)
def y0i:Bool:=(z8d a0).isSome
def zxq:Bool:=((z8d a0).getD default)
def z1x{R:Type} (kn_:Int→(List Nat)→Option R) (k0_:Int→Bool→(List Nat)→Option R):Option R:=(br (ltI c3 (Int.ofNat a0)) (grd (okIx c3 a0) (grd (okIx c3 a1) (kn_ (addI .i64 c3 1) (sF g4 (ixO 0 c3 1) (gF g2 (ixO 0 c3 1)))))) (k0_ c3 (ltI c3 (Int.ofNat a0)) g4))
theorem zsb{R R':Type}(o:Option R→Option R')(h0:o none=none) (kn_:Int→(List Nat)→Option R) (k0_:Int→Bool→(List Nat)→Option R):z1x a0 a1 g2 c3 g4 (fun i' b1'=>o (kn_ i' b1')) (fun c0_ c1_ c2_=>o (k0_ c0_ c1_ c2_))=o (z1x a0 a1 g2 c3 g4 kn_ k0_):=by
 unfold z1x
 repeat (first | apply grd_out h0 | apply br_out | rfl)
def z14(an q2e:Nat)(b0:List Nat):Nat→Int→(List Nat)→Option ((Int×Bool×(List Nat)))
 | 0,_,_=>none
 | n+1,i,b1=>z1x an q2e b0  i b1  (fun i' b1'=>z14 an q2e b0 n i' b1') (fun c0_ c1_ c2_=>some (c0_,c1_,c2_))
theorem zg1:z14 a0 a1 g2 (a3+1) c4 g5=z1x a0 a1 g2  c4 g5  (fun i' b1'=>z14 a0 a1 g2 a3 i' b1') (fun c0_ c1_ c2_=>some (c0_,c1_,c2_)):=rfl
def ze6:Bool:=(z14 a0 a1 g2 big c3 g4).isSome
def zue:Int:=((z14 a0 a1 g2 big c3 g4).getD default).1
def ztt:Bool:=((z14 a0 a1 g2 big c3 g4).getD default).2.1
def zaa:List Nat:=((z14 a0 a1 g2 big c3 g4).getD default).2.2
def z19{R:Type}(kn_:Nat→Int→Option R)(k0_:Nat→Int→Bool→Option R):Option R:=(br (ltI c5 (Int.ofNat a0)) (grd (okIx (subI .i64 c5 1) a0) (grd (okIx c5 a0) (grd (okIx c5 a3) (grd (okIx (subI .i64 c5 1) a3) (kn_ (fop .add .f32 a4 (fop .mul .f32 (fop .sub .f32 (gF g1 (ixO 0 c5 3)) (gF g1 (ixO 0 (subI .i64 c5 1) 3))) (fop .quo .f32 (fop .add .f32 (gF g2 (ixO 0 (subI .i64 c5 1) 1)) (gF g2 (ixO 0 c5 1))) 1073741824))) (addI .i64 c5 1)))))) (k0_ a4 c5 (ltI c5 (Int.ofNat a0))))
theorem zp3{R R':Type}(o:Option R→Option R')(h0:o none=none)(kn_:Nat→Int→Option R)(k0_:Nat→Int→Bool→Option R):z19 a0 g1 g2 a3 a4 c5 (fun all' i'=>o (kn_ all' i')) (fun c0_ c1_ c2_=>o (k0_ c0_ c1_ c2_))=o (z19 a0 g1 g2 a3 a4 c5 kn_ k0_):=by
 unfold z19
 repeat (first | apply grd_out h0 | apply br_out | rfl)
def z0d(q2a:Nat)(b3 b4:List Nat)(q2t:Nat):Nat→Nat→Int→Option ((Nat×Int×Bool))
 | 0,_,_=>none
 | n+1,all,i=>z19 q2a b3 b4 q2t  all i  (fun all' i'=>z0d q2a b3 b4 q2t n all' i') (fun c0_ c1_ c2_=>some (c0_,c1_,c2_))
theorem zd8:z0d a0 g1 g2 a3 (a4+1) a5 c6=z19 a0 g1 g2 a3  a5 c6  (fun all' i'=>z0d a0 g1 g2 a3 a4 all' i') (fun c0_ c1_ c2_=>some (c0_,c1_,c2_)):=rfl
def zhi:Bool:=(z0d a0 g1 g2 a3 big a4 c5).isSome
def zf7:Nat:=((z0d a0 g1 g2 a3 big a4 c5).getD default).1
def zpz:Int:=((z0d a0 g1 g2 a3 big a4 c5).getD default).2.1
def zpl:Bool:=((z0d a0 g1 g2 a3 big a4 c5).getD default).2.2
def z3n{R:Type}(kn_:Nat→Int→Option R)(k0_:Nat→Int→Bool→Option R):Option R:=(br (ltI (addI .i64 c5 1) (Int.ofNat a0)) (grd (okIx (addI .i64 c5 1) a2) (grd (okIx c5 a2) (grd (okIx c5 a0) (grd (okIx (addI .i64 c5 1) a0) (kn_ (fop .add .f32 a4 (fop .mul .f32 (fop .sub .f32 (gF g1 (ixO 0 (addI .i64 c5 1) 3)) (gF g1 (ixO 0 c5 3))) (fop .mul .f32 1056964608 (fop .add .f32 (gF g3 (ixO 0 c5 1)) (gF g3 (ixO 0 (addI .i64 c5 1) 1)))))) (addI .i64 c5 1)))))) (k0_ a4 c5 (ltI (addI .i64 c5 1) (Int.ofNat a0))))
theorem zyv{R R':Type}(o:Option R→Option R')(h0:o none=none)(kn_:Nat→Int→Option R)(k0_:Nat→Int→Bool→Option R):z3n a0 g1 a2 g3 a4 c5 (fun sum' i'=>o (kn_ sum' i')) (fun c0_ c1_ c2_=>o (k0_ c0_ c1_ c2_))=o (z3n a0 g1 a2 g3 a4 c5 kn_ k0_):=by
 unfold z3n
 repeat (first | apply grd_out h0 | apply br_out | rfl)
def z0x(q2a:Nat)(b3:List Nat)(q0q:Nat)(b5:List Nat):Nat→Nat→Int→Option ((Nat×Int×Bool))
 | 0,_,_=>none
 | n+1,sum,i=>z3n q2a b3 q0q b5  sum i  (fun sum' i'=>z0x q2a b3 q0q b5 n sum' i') (fun c0_ c1_ c2_=>some (c0_,c1_,c2_))
theorem zkt:z0x a0 g1 a2 g3 (a4+1) a5 c6=z3n a0 g1 a2 g3  a5 c6  (fun sum' i'=>z0x a0 g1 a2 g3 a4 sum' i') (fun c0_ c1_ c2_=>some (c0_,c1_,c2_)):=rfl
def zrv:Bool:=(z0x a0 g1 a2 g3 big a4 c5).isSome
def zno:Nat:=((z0x a0 g1 a2 g3 big a4 c5).getD default).1
def y1l:Int:=((z0x a0 g1 a2 g3 big a4 c5).getD default).2.1
def y17:Bool:=((z0x a0 g1 a2 g3 big a4 c5).getD default).2.2
def z0u{R:Type}(kn_:Int→Option R)(k0_:Int→Option R)(k1_:Int→Bool→Option R):Option R:=(br (ltI c4 c2) (grd (okIx c4 a0) (br (beqB e1 (gB m3 (ixO 0 c4 1))) (k0_ c4) (kn_ (addI .i64 c4 1)))) (k1_ c4 (ltI c4 c2)))
theorem zjx{R R':Type}(o:Option R→Option R')(h0:o none=none)(kn_:Int→Option R)(k0_:Int→Option R)(k1_:Int→Bool→Option R):z0u a0 e1 c2 m3 c4 (fun t8'=>o (kn_ t8')) (fun c0_=>o (k0_ c0_)) (fun c0_ c1_=>o (k1_ c0_ c1_))=o (z0u a0 e1 c2 m3 c4 kn_ k0_ k1_):=by
 unfold z0u
 repeat (first | apply grd_out h0 | apply br_out | rfl)
def z04(sn:Nat)(v:Bool)(t7:Int)(b0:List Bool):Nat→Int→Option ((Int)⊕(Int×Bool))
 | 0,_=>none
 | n+1,t8=>z0u sn v t7 b0  t8  (fun t8'=>z04 sn v t7 b0 n t8') (fun c0_=>some (Sum.inl c0_)) (fun c0_ c1_=>some (Sum.inr (c0_,c1_)))
theorem z93:z04 a0 e1 c2 m3 (a4+1) c5=z0u a0 e1 c2 m3  c5  (fun t8'=>z04 a0 e1 c2 m3 a4 t8') (fun c0_=>some (Sum.inl c0_)) (fun c0_ c1_=>some (Sum.inr (c0_,c1_))):=rfl
def z7g:Bool:=(z04 a0 e1 c2 m3 big c4).isSome
def z6x:Bool:=oL (z04 a0 e1 c2 m3 big c4)
def z9z:Int:=((tL (z04 a0 e1 c2 m3 big c4)).getD default)
def zl5:Int:=((tR (z04 a0 e1 c2 m3 big c4)).getD default).1
def zl9:Bool:=((tR (z04 a0 e1 c2 m3 big c4)).getD default).2
def zh8{R:Type}(q27:Int)(q2c q2d:Nat)(q2j:Int)(k_:Int→Option R):Option R:=(grd (zt5 a0 (pF g1 0 (muN a0 1)) a2 (pF g3 0 (muN a2 1)) a4 (pF g5 0 (muN a4 1)) q2j) (br (ltI (z8i a0 (pF g1 0 (muN a0 1)) a2 (pF g3 0 (muN a2 1)) a4 (pF g5 0 (muN a4 1)) q2j) 0) (k_ (Int.negSucc 0)) (grd (zr0 a6 (pF g7 0 (muN a6 3)) (z8i a0 (pF g1 0 (muN a0 1)) a2 (pF g3 0 (muN a2 1)) a4 (pF g5 0 (muN a4 1)) q2j)) (br (ltI (zgn a6 (pF g7 0 (muN a6 3)) (z8i a0 (pF g1 0 (muN a0 1)) a2 (pF g3 0 (muN a2 1)) a4 (pF g5 0 (muN a4 1)) q2j)) 0) (k_ (Int.negSucc 0)) (k_ (zgn a6 (pF g7 0 (muN a6 3)) (z8i a0 (pF g1 0 (muN a0 1)) a2 (pF g3 0 (muN a2 1)) a4 (pF g5 0 (muN a4 1)) q2j)))))))
def z7l:Option (Int):=zh8 a0 g1 a2 g3 a4 g5 a6 g7 c8 a9 a10 c11 (fun c0_=>some c0_)
theorem y26:Nt1 (fun {R}=>zh8 (R:=R) a0 g1 a2 g3 a4 g5 a6 g7 c8 a9 a10 c11):=by
 intro R R' o h0 k;unfold zh8;repeat (first | apply grd_out h0 | apply br_out | rfl)
def zo5:Bool:=(z7l a0 g1 a2 g3 a4 g5 a6 g7 c8 a9 a10 c11).isSome
def zls:Int:=((z7l a0 g1 a2 g3 a4 g5 a6 g7 c8 a9 a10 c11).getD default)
def zc9{R:Type} (k_:Nat→(List Nat)→Option R):Option R:=(grd (okMk (Int.ofNat a0) (Int.ofNat a0) 4) (grd (ze6 a0 (toN (Int.ofNat a0)) g1 0 (rF (muN (toN (Int.ofNat a0)) 1))) (k_ (toN (Int.ofNat a0)) (zaa a0 (toN (Int.ofNat a0)) g1 0 (rF (muN (toN (Int.ofNat a0)) 1))))))
def z3z:Option (Nat×(List Nat)):=zc9 a0 g1 (fun c0_ c1_=>some (c0_,c1_))
theorem zx1:Nt2 (fun {R}=>zc9 (R:=R) a0 g1):=by
 intro R R' o h0 k;unfold zc9;repeat (first | apply grd_out h0 | apply br_out | rfl)
def zc1:Bool:=(z3z a0 g1).isSome
def zaz:Nat:=((z3z a0 g1).getD default).1
def zar:List Nat:=((z3z a0 g1).getD default).2
def z8s{R:Type}(q00:Nat)(q03:List Nat)(q02:Nat)(q04:List Nat)(q01:Nat)(q05:List Nat)(q06:Nat)(q07:List Nat)(q0c:Int)(q0k q0j q1t:Nat)(q26:List Nat)(k_:Nat→Option R):Option R:=(grd (zhi q1t q07 q26 q06 0 1) (k_ (zf7 q1t q07 q26 q06 0 1)))
def z3m:Option (Nat):=z8s a0 g1 a2 g3 a4 g5 a6 g7 c8 a9 a10 a11 g12 (fun c0_=>some c0_)
theorem zt4:Nt1 (fun {R}=>z8s (R:=R) a0 g1 a2 g3 a4 g5 a6 g7 c8 a9 a10 a11 g12):=by
 intro R R' o h0 k;unfold z8s;repeat (first | apply grd_out h0 | apply br_out | rfl)
def zmt:Bool:=(z3m a0 g1 a2 g3 a4 g5 a6 g7 c8 a9 a10 a11 g12).isSome
def z82:Nat:=((z3m a0 g1 a2 g3 a4 g5 a6 g7 c8 a9 a10 a11 g12).getD default)
def zj0{R:Type}(q00:Nat)(q03:List Nat)(q02:Nat)(q04:List Nat)(q01:Nat)(q05:List Nat)(q06:Nat)(q07:List Nat)(q0c:Int)(q0k q0j q1t:Nat)(q26:List Nat)(k_:Nat→Option R):Option R:=(grd (zrv q1t q07 q06 q26 0 0) (k_ (zno q1t q07 q06 q26 0 0)))
def z8g:Option (Nat):=zj0 a0 g1 a2 g3 a4 g5 a6 g7 c8 a9 a10 a11 g12 (fun c0_=>some c0_)
theorem y51:Nt1 (fun {R}=>zj0 (R:=R) a0 g1 a2 g3 a4 g5 a6 g7 c8 a9 a10 a11 g12):=by
 intro R R' o h0 k;unfold zj0;repeat (first | apply grd_out h0 | apply br_out | rfl)
def y0a:Bool:=(z8g a0 g1 a2 g3 a4 g5 a6 g7 c8 a9 a10 a11 g12).isSome
def zhe:Nat:=((z8g a0 g1 a2 g3 a4 g5 a6 g7 c8 a9 a10 a11 g12).getD default)
def z6e{R:Type}(k_:Int→Option R):Option R:=(grd (z7g a0 e2 (Int.ofNat a0) m1 0) (br (z6x a0 e2 (Int.ofNat a0) m1 0) (k_ (z9z a0 e2 (Int.ofNat a0) m1 0)) (k_ (Int.negSucc 0))))
def z1z:Option (Int):=z6e a0 m1 e2 (fun c0_=>some c0_)
theorem zn8:Nt1 (fun {R}=>z6e (R:=R) a0 m1 e2):=by
 intro R R' o h0 k;unfold z6e;repeat (first | apply grd_out h0 | apply br_out | rfl)
def zfz:Bool:=(z1z a0 m1 e2).isSome
def zf4:Int:=((z1z a0 m1 e2).getD default)
def zc2{R:Type}(k_:Bool→Option R):Option R:=(grd (znz a0) (k_ (bnot (zlb a0))))
def z4z:Option (Bool):=zc2 a0 (fun c0_=>some c0_)
theorem zxp:Nt1 (fun {R}=>zc2 (R:=R) a0):=by
 intro R R' o h0 k;unfold zc2;repeat (first | apply grd_out h0 | apply br_out | rfl)
def zr6:Bool:=(z4z a0).isSome
def zp4:Bool:=((z4z a0).getD default)
def zlk{R:Type}(k_:Nat→Option R):Option R:=(grd (bnot (nanQ .f64 a0)) (k_ (fint Ieee.Toward.zero a0)))
def z9i:Option (Nat):=zlk a0 (fun c0_=>some c0_)
theorem y64:Nt1 (fun {R}=>zlk (R:=R) a0):=by
 intro R R' o h0 k;unfold zlk;repeat (first | apply grd_out h0 | apply br_out | rfl)
def y2a:Bool:=(z9i a0).isSome
def zf8:Nat:=((z9i a0).getD default)
def z21{R:Type}(kn_:Int→Option R)(k0_:Unit→Option R)(k1_:Int→Bool→Option R):Option R:=(br (ltI c4 (Int.ofNat a0)) (grd (okIx c4 a0) (grd (okIx c4 a1) (grd (z4f (fcvV .f32 .f64 (gF g2 (ixO 0 c4 1))) (fcvV .f32 .f64 (gF g3 (ixO 0 c4 1)))) (br (bnot (z3x (fcvV .f32 .f64 (gF g2 (ixO 0 c4 1))) (fcvV .f32 .f64 (gF g3 (ixO 0 c4 1))))) (k0_ ()) (kn_ (addI .i64 c4 1)))))) (k1_ c4 (ltI c4 (Int.ofNat a0))))
theorem ztb{R R':Type}(o:Option R→Option R')(h0:o none=none)(kn_:Int→Option R)(k0_:Unit→Option R)(k1_:Int→Bool→Option R):z21 a0 a1 g2 g3 c4 (fun i'=>o (kn_ i')) (fun _=>o (k0_ ())) (fun c0_ c1_=>o (k1_ c0_ c1_))=o (z21 a0 a1 g2 g3 c4 kn_ k0_ k1_):=by
 unfold z21
 repeat (first | apply grd_out h0 | apply br_out | rfl)
def z12(an bn:Nat)(b0 b1:List Nat):Nat→Int→Option ((Unit)⊕(Int×Bool))
 | 0,_=>none
 | n+1,i=>z21 an bn b0 b1  i  (fun i'=>z12 an bn b0 b1 n i') (fun _=>some (Sum.inl ())) (fun c0_ c1_=>some (Sum.inr (c0_,c1_)))
theorem zg8:z12 a0 a1 g2 g3 (a4+1) c5=z21 a0 a1 g2 g3  c5  (fun i'=>z12 a0 a1 g2 g3 a4 i') (fun _=>some (Sum.inl ())) (fun c0_ c1_=>some (Sum.inr (c0_,c1_))):=rfl
def zmm:Bool:=(z12 a0 a1 g2 g3 big c4).isSome
def zks:Bool:=oL (z12 a0 a1 g2 g3 big c4)
def zu0:Int:=((tR (z12 a0 a1 g2 g3 big c4)).getD default).1
def zuc:Bool:=((tR (z12 a0 a1 g2 g3 big c4)).getD default).2
def z1y{R:Type} (kn_:Int→(List Nat)→Option R) (k0_:Int→Bool→(List Nat)→Option R):Option R:=(br (ltI c3 (Int.ofNat a0)) (grd (okIx c3 a0) (grd (zsl (gF g2 (ixO 0 c3 3)) (gF g2 (Nat.succ (ixO 0 c3 3))) (gF g2 (Nat.succ (Nat.succ (ixO 0 c3 3))))) (grd (okIx c3 a1) (kn_ (addI .i64 c3 1) (sF (sF (sF g4 (ixO 0 c3 3) (gF g2 (ixO 0 c3 3))) (Nat.succ (ixO 0 c3 3)) (gF g2 (Nat.succ (ixO 0 c3 3)))) (Nat.succ (Nat.succ (ixO 0 c3 3))) (gF g2 (Nat.succ (Nat.succ (ixO 0 c3 3))))))))) (k0_ c3 (ltI c3 (Int.ofNat a0)) g4))
theorem zsr{R R':Type}(o:Option R→Option R')(h0:o none=none) (kn_:Int→(List Nat)→Option R) (k0_:Int→Bool→(List Nat)→Option R):z1y a0 a1 g2 c3 g4 (fun i' b1'=>o (kn_ i' b1')) (fun c0_ c1_ c2_=>o (k0_ c0_ c1_ c2_))=o (z1y a0 a1 g2 c3 g4 kn_ k0_):=by
 unfold z1y
 repeat (first | apply grd_out h0 | apply br_out | rfl)
def z0m(an q2e:Nat)(b0:List Nat):Nat→Int→(List Nat)→Option ((Int×Bool×(List Nat)))
 | 0,_,_=>none
 | n+1,i,b1=>z1y an q2e b0  i b1  (fun i' b1'=>z0m an q2e b0 n i' b1') (fun c0_ c1_ c2_=>some (c0_,c1_,c2_))
theorem zfu:z0m a0 a1 g2 (a3+1) c4 g5=z1y a0 a1 g2  c4 g5  (fun i' b1'=>z0m a0 a1 g2 a3 i' b1') (fun c0_ c1_ c2_=>some (c0_,c1_,c2_)):=rfl
def ze9:Bool:=(z0m a0 a1 g2 big c3 g4).isSome
def zuk:Int:=((z0m a0 a1 g2 big c3 g4).getD default).1
def ztv:Bool:=((z0m a0 a1 g2 big c3 g4).getD default).2.1
def za6:List Nat:=((z0m a0 a1 g2 big c3 g4).getD default).2.2
def z1j{R:Type}(kn_:Nat→Int→Option R)(k0_:Nat→Int→Bool→Option R):Option R:=(br (leI 1 c2) (kn_ (fop .sub .f64 4607182418800017408 (fop .quo .f64 (fop .mul .f64 a0 a1) (fOI .f64 (mulI .i64 (mulI .i64 2 c2) (addI .i64 (mulI .i64 2 c2) 1))))) (subI .i64 c2 1)) (k0_ a1 c2 (leI 1 c2)))
theorem zqb{R R':Type}(o:Option R→Option R')(h0:o none=none)(kn_:Nat→Int→Option R)(k0_:Nat→Int→Bool→Option R):z1j a0 a1 c2 (fun t7' t8'=>o (kn_ t7' t8')) (fun c0_ c1_ c2_=>o (k0_ c0_ c1_ c2_))=o (z1j a0 a1 c2 kn_ k0_):=by
 unfold z1j
 repeat (first | apply grd_out h0 | apply br_out | rfl)
def z0j(t6:Nat):Nat→Nat→Int→Option ((Nat×Int×Bool))
 | 0,_,_=>none
 | n+1,t7,t8=>z1j t6  t7 t8  (fun t7' t8'=>z0j t6 n t7' t8') (fun c0_ c1_ c2_=>some (c0_,c1_,c2_))
theorem zdj:z0j a0 (a1+1) a2 c3=z1j a0  a2 c3  (fun t7' t8'=>z0j a0 a1 t7' t8') (fun c0_ c1_ c2_=>some (c0_,c1_,c2_)):=rfl
def z17:Bool:=(z0j a0 big a1 c2).isSome
def z07:Nat:=((z0j a0 big a1 c2).getD default).1
def zre:Int:=((z0j a0 big a1 c2).getD default).2.1
def zrd:Bool:=((z0j a0 big a1 c2).getD default).2.2
def zcg{R:Type}(k_:Bool→Option R):Option R:=(br (neI (Int.ofNat a0) (Int.ofNat a2)) (k_ Bool.false) (grd (zmm a0 a2 g1 g3 0) (br (zks a0 a2 g1 g3 0) (k_ Bool.false) (k_ Bool.true))))
def z51:Option (Bool):=zcg a0 g1 a2 g3 (fun c0_=>some c0_)
theorem zwi:Nt1 (fun {R}=>zcg (R:=R) a0 g1 a2 g3):=by
 intro R R' o h0 k;unfold zcg;repeat (first | apply grd_out h0 | apply br_out | rfl)
def zc0:Bool:=(z51 a0 g1 a2 g3).isSome
def zah:Bool:=((z51 a0 g1 a2 g3).getD default)
def z4w{R:Type}(k_:Bool→Option R):Option R:=(grd (zfz a0 (pB m1 0 (muN a0 1)) e2) (k_ (leI 0 (zf4 a0 (pB m1 0 (muN a0 1)) e2))))
def z1c:Option (Bool):=z4w a0 m1 e2 (fun c0_=>some c0_)
theorem zkq:Nt1 (fun {R}=>z4w (R:=R) a0 m1 e2):=by
 intro R R' o h0 k;unfold z4w;repeat (first | apply grd_out h0 | apply br_out | rfl)
def z4p:Bool:=(z1c a0 m1 e2).isSome
def z4a:Bool:=((z1c a0 m1 e2).getD default)
def zes{R:Type} (k_:Nat→Nat→Nat→(List Nat)→(List Nat)→(List Nat)→Option R):Option R:=(grd (zc1 a0 (pF g1 0 (muN a0 1))) (grd (zc1 a2 (pF g3 0 (muN a2 1))) (grd (zc1 a4 (pF g5 0 (muN a4 1))) (k_ (zaz a0 (pF g1 0 (muN a0 1))) (zaz a2 (pF g3 0 (muN a2 1))) (zaz a4 (pF g5 0 (muN a4 1))) (zar a0 (pF g1 0 (muN a0 1))) (zar a2 (pF g3 0 (muN a2 1))) (zar a4 (pF g5 0 (muN a4 1)))))))
def z1s:Option (Nat×Nat×Nat×(List Nat)×(List Nat)×(List Nat)):=zes a0 g1 a2 g3 a4 g5 (fun c0_ c1_ c2_ c3_ c4_ c5_=>some (c0_,c1_,c2_,c3_,c4_,c5_))
theorem zzj:Nt6 (fun {R}=>zes (R:=R) a0 g1 a2 g3 a4 g5):=by
 intro R R' o h0 k;unfold zes;repeat (first | apply grd_out h0 | apply br_out | rfl)
def zsh:Bool:=(z1s a0 g1 a2 g3 a4 g5).isSome
def zqq:Nat:=((z1s a0 g1 a2 g3 a4 g5).getD default).1
def zql:Nat:=((z1s a0 g1 a2 g3 a4 g5).getD default).2.1
def zqg:Nat:=((z1s a0 g1 a2 g3 a4 g5).getD default).2.2.1
def zqo:List Nat:=((z1s a0 g1 a2 g3 a4 g5).getD default).2.2.2.1
def zqf:List Nat:=((z1s a0 g1 a2 g3 a4 g5).getD default).2.2.2.2.1
def zqw:List Nat:=((z1s a0 g1 a2 g3 a4 g5).getD default).2.2.2.2.2
def zc7{R:Type} (k_:Nat→(List Nat)→Option R):Option R:=(grd (okMk (Int.ofNat a0) (Int.ofNat a0) 12) (grd (ze9 a0 (toN (Int.ofNat a0)) g1 0 (rF (muN (toN (Int.ofNat a0)) 3))) (k_ (toN (Int.ofNat a0)) (za6 a0 (toN (Int.ofNat a0)) g1 0 (rF (muN (toN (Int.ofNat a0)) 3))))))
def z3y:Option (Nat×(List Nat)):=zc7 a0 g1 (fun c0_ c1_=>some (c0_,c1_))
theorem zxo:Nt2 (fun {R}=>zc7 (R:=R) a0 g1):=by
 intro R R' o h0 k;unfold zc7;repeat (first | apply grd_out h0 | apply br_out | rfl)
def zr4:Bool:=(z3y a0 g1).isSome
def zpd:Nat:=((z3y a0 g1).getD default).1
def zp6:List Nat:=((z3y a0 g1).getD default).2
def z6c{R:Type}(k_:Nat→Option R):Option R:=(br (fcmp .neq .f64 (fop .sub .f64 a0 a0) 0) (grd zy8 (k_ zoz)) (br (fcmp .geq .f64 a0 4841369599423283200) (k_ 0) (br (fcmp .leq .f64 a0 14064741636278059008) (k_ 0) (grd (f2iB .f64 a0 .i64) (br (fcmp .lss .f64 (fop .sub .f64 a0 (fOI .f64 (f2iV .f64 a0 .i64))) 0) (br (fcmp .geq .f64 (fop .add .f64 (fop .sub .f64 a0 (fOI .f64 (f2iV .f64 a0 .i64))) 4607182418800017408) 4602678819172646912) (br (fcmp .gtr .f64 (fop .sub .f64 (fop .add .f64 (fop .sub .f64 a0 (fOI .f64 (f2iV .f64 a0 .i64))) 4607182418800017408) 4602678819172646912) 4598175219545276416) (grd (z17 (fop .mul .f64 (fop .mul .f64 (fop .sub .f64 4602678819172646912 (fop .sub .f64 (fop .add .f64 (fop .sub .f64 a0 (fOI .f64 (f2iV .f64 a0 .i64))) 4607182418800017408) 4602678819172646912)) 4618760256179416344) (fop .mul .f64 (fop .sub .f64 4602678819172646912 (fop .sub .f64 (fop .add .f64 (fop .sub .f64 a0 (fOI .f64 (f2iV .f64 a0 .i64))) 4607182418800017408) 4602678819172646912)) 4618760256179416344)) 4607182418800017408 8) (br (fcmp .geq .f64 (fop .add .f64 (fop .sub .f64 a0 (fOI .f64 (f2iV .f64 a0 .i64))) 4607182418800017408) 4602678819172646912) (k_ (fneg .f64 (fop .mul .f64 (fop .mul .f64 (fop .sub .f64 4602678819172646912 (fop .sub .f64 (fop .add .f64 (fop .sub .f64 a0 (fOI .f64 (f2iV .f64 a0 .i64))) 4607182418800017408) 4602678819172646912)) 4618760256179416344) (z07 (fop .mul .f64 (fop .mul .f64 (fop .sub .f64 4602678819172646912 (fop .sub .f64 (fop .add .f64 (fop .sub .f64 a0 (fOI .f64 (f2iV .f64 a0 .i64))) 4607182418800017408) 4602678819172646912)) 4618760256179416344) (fop .mul .f64 (fop .sub .f64 4602678819172646912 (fop .sub .f64 (fop .add .f64 (fop .sub .f64 a0 (fOI .f64 (f2iV .f64 a0 .i64))) 4607182418800017408) 4602678819172646912)) 4618760256179416344)) 4607182418800017408 8)))) (k_ (fop .mul .f64 (fop .mul .f64 (fop .sub .f64 4602678819172646912 (fop .sub .f64 (fop .add .f64 (fop .sub .f64 a0 (fOI .f64 (f2iV .f64 a0 .i64))) 4607182418800017408) 4602678819172646912)) 4618760256179416344) (z07 (fop .mul .f64 (fop .mul .f64 (fop .sub .f64 4602678819172646912 (fop .sub .f64 (fop .add .f64 (fop .sub .f64 a0 (fOI .f64 (f2iV .f64 a0 .i64))) 4607182418800017408) 4602678819172646912)) 4618760256179416344) (fop .mul .f64 (fop .sub .f64 4602678819172646912 (fop .sub .f64 (fop .add .f64 (fop .sub .f64 a0 (fOI .f64 (f2iV .f64 a0 .i64))) 4607182418800017408) 4602678819172646912)) 4618760256179416344)) 4607182418800017408 8))))) (grd (z17 (fop .mul .f64 (fop .mul .f64 (fop .sub .f64 (fop .add .f64 (fop .sub .f64 a0 (fOI .f64 (f2iV .f64 a0 .i64))) 4607182418800017408) 4602678819172646912) 4618760256179416344) (fop .mul .f64 (fop .sub .f64 (fop .add .f64 (fop .sub .f64 a0 (fOI .f64 (f2iV .f64 a0 .i64))) 4607182418800017408) 4602678819172646912) 4618760256179416344)) 4607182418800017408 8) (br (fcmp .geq .f64 (fop .add .f64 (fop .sub .f64 a0 (fOI .f64 (f2iV .f64 a0 .i64))) 4607182418800017408) 4602678819172646912) (k_ (fneg .f64 (fop .mul .f64 (fop .mul .f64 (fop .sub .f64 (fop .add .f64 (fop .sub .f64 a0 (fOI .f64 (f2iV .f64 a0 .i64))) 4607182418800017408) 4602678819172646912) 4618760256179416344) (z07 (fop .mul .f64 (fop .mul .f64 (fop .sub .f64 (fop .add .f64 (fop .sub .f64 a0 (fOI .f64 (f2iV .f64 a0 .i64))) 4607182418800017408) 4602678819172646912) 4618760256179416344) (fop .mul .f64 (fop .sub .f64 (fop .add .f64 (fop .sub .f64 a0 (fOI .f64 (f2iV .f64 a0 .i64))) 4607182418800017408) 4602678819172646912) 4618760256179416344)) 4607182418800017408 8)))) (k_ (fop .mul .f64 (fop .mul .f64 (fop .sub .f64 (fop .add .f64 (fop .sub .f64 a0 (fOI .f64 (f2iV .f64 a0 .i64))) 4607182418800017408) 4602678819172646912) 4618760256179416344) (z07 (fop .mul .f64 (fop .mul .f64 (fop .sub .f64 (fop .add .f64 (fop .sub .f64 a0 (fOI .f64 (f2iV .f64 a0 .i64))) 4607182418800017408) 4602678819172646912) 4618760256179416344) (fop .mul .f64 (fop .sub .f64 (fop .add .f64 (fop .sub .f64 a0 (fOI .f64 (f2iV .f64 a0 .i64))) 4607182418800017408) 4602678819172646912) 4618760256179416344)) 4607182418800017408 8)))))) (br (fcmp .gtr .f64 (fop .add .f64 (fop .sub .f64 a0 (fOI .f64 (f2iV .f64 a0 .i64))) 4607182418800017408) 4598175219545276416) (grd (z17 (fop .mul .f64 (fop .mul .f64 (fop .sub .f64 4602678819172646912 (fop .add .f64 (fop .sub .f64 a0 (fOI .f64 (f2iV .f64 a0 .i64))) 4607182418800017408)) 4618760256179416344) (fop .mul .f64 (fop .sub .f64 4602678819172646912 (fop .add .f64 (fop .sub .f64 a0 (fOI .f64 (f2iV .f64 a0 .i64))) 4607182418800017408)) 4618760256179416344)) 4607182418800017408 8) (br (fcmp .geq .f64 (fop .add .f64 (fop .sub .f64 a0 (fOI .f64 (f2iV .f64 a0 .i64))) 4607182418800017408) 4602678819172646912) (k_ (fneg .f64 (fop .mul .f64 (fop .mul .f64 (fop .sub .f64 4602678819172646912 (fop .add .f64 (fop .sub .f64 a0 (fOI .f64 (f2iV .f64 a0 .i64))) 4607182418800017408)) 4618760256179416344) (z07 (fop .mul .f64 (fop .mul .f64 (fop .sub .f64 4602678819172646912 (fop .add .f64 (fop .sub .f64 a0 (fOI .f64 (f2iV .f64 a0 .i64))) 4607182418800017408)) 4618760256179416344) (fop .mul .f64 (fop .sub .f64 4602678819172646912 (fop .add .f64 (fop .sub .f64 a0 (fOI .f64 (f2iV .f64 a0 .i64))) 4607182418800017408)) 4618760256179416344)) 4607182418800017408 8)))) (k_ (fop .mul .f64 (fop .mul .f64 (fop .sub .f64 4602678819172646912 (fop .add .f64 (fop .sub .f64 a0 (fOI .f64 (f2iV .f64 a0 .i64))) 4607182418800017408)) 4618760256179416344) (z07 (fop .mul .f64 (fop .mul .f64 (fop .sub .f64 4602678819172646912 (fop .add .f64 (fop .sub .f64 a0 (fOI .f64 (f2iV .f64 a0 .i64))) 4607182418800017408)) 4618760256179416344) (fop .mul .f64 (fop .sub .f64 4602678819172646912 (fop .add .f64 (fop .sub .f64 a0 (fOI .f64 (f2iV .f64 a0 .i64))) 4607182418800017408)) 4618760256179416344)) 4607182418800017408 8))))) (grd (z17 (fop .mul .f64 (fop .mul .f64 (fop .add .f64 (fop .sub .f64 a0 (fOI .f64 (f2iV .f64 a0 .i64))) 4607182418800017408) 4618760256179416344) (fop .mul .f64 (fop .add .f64 (fop .sub .f64 a0 (fOI .f64 (f2iV .f64 a0 .i64))) 4607182418800017408) 4618760256179416344)) 4607182418800017408 8) (br (fcmp .geq .f64 (fop .add .f64 (fop .sub .f64 a0 (fOI .f64 (f2iV .f64 a0 .i64))) 4607182418800017408) 4602678819172646912) (k_ (fneg .f64 (fop .mul .f64 (fop .mul .f64 (fop .add .f64 (fop .sub .f64 a0 (fOI .f64 (f2iV .f64 a0 .i64))) 4607182418800017408) 4618760256179416344) (z07 (fop .mul .f64 (fop .mul .f64 (fop .add .f64 (fop .sub .f64 a0 (fOI .f64 (f2iV .f64 a0 .i64))) 4607182418800017408) 4618760256179416344) (fop .mul .f64 (fop .add .f64 (fop .sub .f64 a0 (fOI .f64 (f2iV .f64 a0 .i64))) 4607182418800017408) 4618760256179416344)) 4607182418800017408 8)))) (k_ (fop .mul .f64 (fop .mul .f64 (fop .add .f64 (fop .sub .f64 a0 (fOI .f64 (f2iV .f64 a0 .i64))) 4607182418800017408) 4618760256179416344) (z07 (fop .mul .f64 (fop .mul .f64 (fop .add .f64 (fop .sub .f64 a0 (fOI .f64 (f2iV .f64 a0 .i64))) 4607182418800017408) 4618760256179416344) (fop .mul .f64 (fop .add .f64 (fop .sub .f64 a0 (fOI .f64 (f2iV .f64 a0 .i64))) 4607182418800017408) 4618760256179416344)) 4607182418800017408 8))))))) (br (fcmp .geq .f64 (fop .sub .f64 a0 (fOI .f64 (f2iV .f64 a0 .i64))) 4602678819172646912) (br (fcmp .gtr .f64 (fop .sub .f64 (fop .sub .f64 a0 (fOI .f64 (f2iV .f64 a0 .i64))) 4602678819172646912) 4598175219545276416) (grd (z17 (fop .mul .f64 (fop .mul .f64 (fop .sub .f64 4602678819172646912 (fop .sub .f64 (fop .sub .f64 a0 (fOI .f64 (f2iV .f64 a0 .i64))) 4602678819172646912)) 4618760256179416344) (fop .mul .f64 (fop .sub .f64 4602678819172646912 (fop .sub .f64 (fop .sub .f64 a0 (fOI .f64 (f2iV .f64 a0 .i64))) 4602678819172646912)) 4618760256179416344)) 4607182418800017408 8) (br (fcmp .geq .f64 (fop .sub .f64 a0 (fOI .f64 (f2iV .f64 a0 .i64))) 4602678819172646912) (k_ (fneg .f64 (fop .mul .f64 (fop .mul .f64 (fop .sub .f64 4602678819172646912 (fop .sub .f64 (fop .sub .f64 a0 (fOI .f64 (f2iV .f64 a0 .i64))) 4602678819172646912)) 4618760256179416344) (z07 (fop .mul .f64 (fop .mul .f64 (fop .sub .f64 4602678819172646912 (fop .sub .f64 (fop .sub .f64 a0 (fOI .f64 (f2iV .f64 a0 .i64))) 4602678819172646912)) 4618760256179416344) (fop .mul .f64 (fop .sub .f64 4602678819172646912 (fop .sub .f64 (fop .sub .f64 a0 (fOI .f64 (f2iV .f64 a0 .i64))) 4602678819172646912)) 4618760256179416344)) 4607182418800017408 8)))) (k_ (fop .mul .f64 (fop .mul .f64 (fop .sub .f64 4602678819172646912 (fop .sub .f64 (fop .sub .f64 a0 (fOI .f64 (f2iV .f64 a0 .i64))) 4602678819172646912)) 4618760256179416344) (z07 (fop .mul .f64 (fop .mul .f64 (fop .sub .f64 4602678819172646912 (fop .sub .f64 (fop .sub .f64 a0 (fOI .f64 (f2iV .f64 a0 .i64))) 4602678819172646912)) 4618760256179416344) (fop .mul .f64 (fop .sub .f64 4602678819172646912 (fop .sub .f64 (fop .sub .f64 a0 (fOI .f64 (f2iV .f64 a0 .i64))) 4602678819172646912)) 4618760256179416344)) 4607182418800017408 8))))) (grd (z17 (fop .mul .f64 (fop .mul .f64 (fop .sub .f64 (fop .sub .f64 a0 (fOI .f64 (f2iV .f64 a0 .i64))) 4602678819172646912) 4618760256179416344) (fop .mul .f64 (fop .sub .f64 (fop .sub .f64 a0 (fOI .f64 (f2iV .f64 a0 .i64))) 4602678819172646912) 4618760256179416344)) 4607182418800017408 8) (br (fcmp .geq .f64 (fop .sub .f64 a0 (fOI .f64 (f2iV .f64 a0 .i64))) 4602678819172646912) (k_ (fneg .f64 (fop .mul .f64 (fop .mul .f64 (fop .sub .f64 (fop .sub .f64 a0 (fOI .f64 (f2iV .f64 a0 .i64))) 4602678819172646912) 4618760256179416344) (z07 (fop .mul .f64 (fop .mul .f64 (fop .sub .f64 (fop .sub .f64 a0 (fOI .f64 (f2iV .f64 a0 .i64))) 4602678819172646912) 4618760256179416344) (fop .mul .f64 (fop .sub .f64 (fop .sub .f64 a0 (fOI .f64 (f2iV .f64 a0 .i64))) 4602678819172646912) 4618760256179416344)) 4607182418800017408 8)))) (k_ (fop .mul .f64 (fop .mul .f64 (fop .sub .f64 (fop .sub .f64 a0 (fOI .f64 (f2iV .f64 a0 .i64))) 4602678819172646912) 4618760256179416344) (z07 (fop .mul .f64 (fop .mul .f64 (fop .sub .f64 (fop .sub .f64 a0 (fOI .f64 (f2iV .f64 a0 .i64))) 4602678819172646912) 4618760256179416344) (fop .mul .f64 (fop .sub .f64 (fop .sub .f64 a0 (fOI .f64 (f2iV .f64 a0 .i64))) 4602678819172646912) 4618760256179416344)) 4607182418800017408 8)))))) (br (fcmp .gtr .f64 (fop .sub .f64 a0 (fOI .f64 (f2iV .f64 a0 .i64))) 4598175219545276416) (grd (z17 (fop .mul .f64 (fop .mul .f64 (fop .sub .f64 4602678819172646912 (fop .sub .f64 a0 (fOI .f64 (f2iV .f64 a0 .i64)))) 4618760256179416344) (fop .mul .f64 (fop .sub .f64 4602678819172646912 (fop .sub .f64 a0 (fOI .f64 (f2iV .f64 a0 .i64)))) 4618760256179416344)) 4607182418800017408 8) (br (fcmp .geq .f64 (fop .sub .f64 a0 (fOI .f64 (f2iV .f64 a0 .i64))) 4602678819172646912) (k_ (fneg .f64 (fop .mul .f64 (fop .mul .f64 (fop .sub .f64 4602678819172646912 (fop .sub .f64 a0 (fOI .f64 (f2iV .f64 a0 .i64)))) 4618760256179416344) (z07 (fop .mul .f64 (fop .mul .f64 (fop .sub .f64 4602678819172646912 (fop .sub .f64 a0 (fOI .f64 (f2iV .f64 a0 .i64)))) 4618760256179416344) (fop .mul .f64 (fop .sub .f64 4602678819172646912 (fop .sub .f64 a0 (fOI .f64 (f2iV .f64 a0 .i64)))) 4618760256179416344)) 4607182418800017408 8)))) (k_ (fop .mul .f64 (fop .mul .f64 (fop .sub .f64 4602678819172646912 (fop .sub .f64 a0 (fOI .f64 (f2iV .f64 a0 .i64)))) 4618760256179416344) (z07 (fop .mul .f64 (fop .mul .f64 (fop .sub .f64 4602678819172646912 (fop .sub .f64 a0 (fOI .f64 (f2iV .f64 a0 .i64)))) 4618760256179416344) (fop .mul .f64 (fop .sub .f64 4602678819172646912 (fop .sub .f64 a0 (fOI .f64 (f2iV .f64 a0 .i64)))) 4618760256179416344)) 4607182418800017408 8))))) (grd (z17 (fop .mul .f64 (fop .mul .f64 (fop .sub .f64 a0 (fOI .f64 (f2iV .f64 a0 .i64))) 4618760256179416344) (fop .mul .f64 (fop .sub .f64 a0 (fOI .f64 (f2iV .f64 a0 .i64))) 4618760256179416344)) 4607182418800017408 8) (br (fcmp .geq .f64 (fop .sub .f64 a0 (fOI .f64 (f2iV .f64 a0 .i64))) 4602678819172646912) (k_ (fneg .f64 (fop .mul .f64 (fop .mul .f64 (fop .sub .f64 a0 (fOI .f64 (f2iV .f64 a0 .i64))) 4618760256179416344) (z07 (fop .mul .f64 (fop .mul .f64 (fop .sub .f64 a0 (fOI .f64 (f2iV .f64 a0 .i64))) 4618760256179416344) (fop .mul .f64 (fop .sub .f64 a0 (fOI .f64 (f2iV .f64 a0 .i64))) 4618760256179416344)) 4607182418800017408 8)))) (k_ (fop .mul .f64 (fop .mul .f64 (fop .sub .f64 a0 (fOI .f64 (f2iV .f64 a0 .i64))) 4618760256179416344) (z07 (fop .mul .f64 (fop .mul .f64 (fop .sub .f64 a0 (fOI .f64 (f2iV .f64 a0 .i64))) 4618760256179416344) (fop .mul .f64 (fop .sub .f64 a0 (fOI .f64 (f2iV .f64 a0 .i64))) 4618760256179416344)) 4607182418800017408 8))))))))))))
def z23:Option (Nat):=z6c a0 (fun c0_=>some c0_)
theorem zvq:Nt1 (fun {R}=>z6c (R:=R) a0):=by
 intro R R' o h0 k;unfold z6c;repeat (first | apply grd_out h0 | apply br_out | rfl)
def zp1:Bool:=(z23 a0).isSome
def zfs:Nat:=((z23 a0).getD default)
def zc8{R:Type}(k_:Nat→Option R):Option R:=(grd (y2a a0) (br (fcmp .eql .f64 (zf8 a0) 0) (br (fcmp .lss .f64 (fop .sub .f64 a0 0) 0) (k_ (fop .add .f64 (fop .sub .f64 a0 0) 4607182418800017408)) (k_ (fop .sub .f64 a0 0))) (br (fcmp .lss .f64 (fop .sub .f64 a0 (zf8 a0)) 0) (k_ (fop .add .f64 (fop .sub .f64 a0 (zf8 a0)) 4607182418800017408)) (k_ (fop .sub .f64 a0 (zf8 a0))))))
def z59:Option (Nat):=zc8 a0 (fun c0_=>some c0_)
theorem zwe:Nt1 (fun {R}=>zc8 (R:=R) a0):=by
 intro R R' o h0 k;unfold zc8;repeat (first | apply grd_out h0 | apply br_out | rfl)
def zqn:Bool:=(z59 a0).isSome
def z08:Nat:=((z59 a0).getD default)
def z20{R:Type}(kn_:Int→Option R)(k0_:Unit→Option R)(k1_:Int→Bool→Option R):Option R:=(br (ltI c4 (Int.ofNat a0)) (grd (okIx c4 a0) (grd (okIx c4 a1) (grd (zrw (gF g2 (ixO 0 c4 3)) (gF g2 (Nat.succ (ixO 0 c4 3))) (gF g2 (Nat.succ (Nat.succ (ixO 0 c4 3)))) (gF g3 (ixO 0 c4 3)) (gF g3 (Nat.succ (ixO 0 c4 3))) (gF g3 (Nat.succ (Nat.succ (ixO 0 c4 3))))) (br (bnot (zqu (gF g2 (ixO 0 c4 3)) (gF g2 (Nat.succ (ixO 0 c4 3))) (gF g2 (Nat.succ (Nat.succ (ixO 0 c4 3)))) (gF g3 (ixO 0 c4 3)) (gF g3 (Nat.succ (ixO 0 c4 3))) (gF g3 (Nat.succ (Nat.succ (ixO 0 c4 3)))))) (k0_ ()) (kn_ (addI .i64 c4 1)))))) (k1_ c4 (ltI c4 (Int.ofNat a0))))
theorem zsz{R R':Type}(o:Option R→Option R')(h0:o none=none)(kn_:Int→Option R)(k0_:Unit→Option R)(k1_:Int→Bool→Option R):z20 a0 a1 g2 g3 c4 (fun i'=>o (kn_ i')) (fun _=>o (k0_ ())) (fun c0_ c1_=>o (k1_ c0_ c1_))=o (z20 a0 a1 g2 g3 c4 kn_ k0_ k1_):=by
 unfold z20
 repeat (first | apply grd_out h0 | apply br_out | rfl)
def z11(an bn:Nat)(b0 b1:List Nat):Nat→Int→Option ((Unit)⊕(Int×Bool))
 | 0,_=>none
 | n+1,i=>z20 an bn b0 b1  i  (fun i'=>z11 an bn b0 b1 n i') (fun _=>some (Sum.inl ())) (fun c0_ c1_=>some (Sum.inr (c0_,c1_)))
theorem zg4:z11 a0 a1 g2 g3 (a4+1) c5=z20 a0 a1 g2 g3  c5  (fun i'=>z11 a0 a1 g2 g3 a4 i') (fun _=>some (Sum.inl ())) (fun c0_ c1_=>some (Sum.inr (c0_,c1_))):=rfl
def zer:Bool:=(z11 a0 a1 g2 g3 big c4).isSome
def zd1:Bool:=oL (z11 a0 a1 g2 g3 big c4)
def ztw:Int:=((tR (z11 a0 a1 g2 g3 big c4)).getD default).1
def zu2:Bool:=((tR (z11 a0 a1 g2 g3 big c4)).getD default).2
def z46{R:Type}(kn_:Int→Option R)(k0_:Unit→Option R)(k1_:Int→Bool→Option R):Option R:=(br (ltI c7 c0) (grd (okIx c7 a4) (br (fcmp .geq .f32 (gF g1 (ixO 0 c7 1)) 3204448256) (grd (okIx c7 a4) (br (bnot (fcmp .leq .f32 (gF g1 (ixO 0 c7 1)) 1056964608)) (k0_ ()) (br (ltI 0 c7) (grd (okIx c7 a4) (grd (okIx (subI .i64 c7 1) a4) (br (fcmp .leq .f32 (gF g1 (ixO 0 c7 1)) (gF g1 (ixO 0 (subI .i64 c7 1) 1))) (k0_ ()) (grd (okIx c7 a5) (grd (z0y (gF g2 (ixO 0 c7 1))) (br (bnot (z0r (gF g2 (ixO 0 c7 1)))) (k0_ ()) (grd (okIx c7 a6) (grd (z86 (gF g3 (ixO 0 c7 1))) (br (bnot (z7a (gF g3 (ixO 0 c7 1)))) (k0_ ()) (kn_ (addI .i64 c7 1))))))))))) (grd (okIx c7 a5) (grd (z0y (gF g2 (ixO 0 c7 1))) (br (bnot (z0r (gF g2 (ixO 0 c7 1)))) (k0_ ()) (grd (okIx c7 a6) (grd (z86 (gF g3 (ixO 0 c7 1))) (br (bnot (z7a (gF g3 (ixO 0 c7 1)))) (k0_ ()) (kn_ (addI .i64 c7 1))))))))))) (br (bnot Bool.false) (k0_ ()) (br (ltI 0 c7) (grd (okIx c7 a4) (grd (okIx (subI .i64 c7 1) a4) (br (fcmp .leq .f32 (gF g1 (ixO 0 c7 1)) (gF g1 (ixO 0 (subI .i64 c7 1) 1))) (k0_ ()) (grd (okIx c7 a5) (grd (z0y (gF g2 (ixO 0 c7 1))) (br (bnot (z0r (gF g2 (ixO 0 c7 1)))) (k0_ ()) (grd (okIx c7 a6) (grd (z86 (gF g3 (ixO 0 c7 1))) (br (bnot (z7a (gF g3 (ixO 0 c7 1)))) (k0_ ()) (kn_ (addI .i64 c7 1))))))))))) (grd (okIx c7 a5) (grd (z0y (gF g2 (ixO 0 c7 1))) (br (bnot (z0r (gF g2 (ixO 0 c7 1)))) (k0_ ()) (grd (okIx c7 a6) (grd (z86 (gF g3 (ixO 0 c7 1))) (br (bnot (z7a (gF g3 (ixO 0 c7 1)))) (k0_ ()) (kn_ (addI .i64 c7 1)))))))))))) (k1_ c7 (ltI c7 c0)))
theorem y1b{R R':Type}(o:Option R→Option R')(h0:o none=none)(kn_:Int→Option R)(k0_:Unit→Option R)(k1_:Int→Bool→Option R):z46 c0 g1 g2 g3 a4 a5 a6 c7 (fun t4'=>o (kn_ t4')) (fun _=>o (k0_ ())) (fun c0_ c1_=>o (k1_ c0_ c1_))=o (z46 c0 g1 g2 g3 a4 a5 a6 c7 kn_ k0_ k1_):=by
 unfold z46
 repeat (first | apply grd_out h0 | apply br_out | rfl)
def z1r(t3:Int)(b0 b1 b2:List Nat)(q1r q23 q24:Nat):Nat→Int→Option ((Unit)⊕(Int×Bool))
 | 0,_=>none
 | n+1,t4=>z46 t3 b0 b1 b2 q1r q23 q24  t4  (fun t4'=>z1r t3 b0 b1 b2 q1r q23 q24 n t4') (fun _=>some (Sum.inl ())) (fun c0_ c1_=>some (Sum.inr (c0_,c1_)))
theorem zlh:z1r c0 g1 g2 g3 a4 a5 a6 (a7+1) c8=z46 c0 g1 g2 g3 a4 a5 a6  c8  (fun t4'=>z1r c0 g1 g2 g3 a4 a5 a6 a7 t4') (fun _=>some (Sum.inl ())) (fun c0_ c1_=>some (Sum.inr (c0_,c1_))):=rfl
def zaj:Bool:=(z1r c0 g1 g2 g3 a4 a5 a6 big c7).isSome
def z9j:Bool:=oL (z1r c0 g1 g2 g3 a4 a5 a6 big c7)
def y2l:Int:=((tR (z1r c0 g1 g2 g3 a4 a5 a6 big c7)).getD default).1
def y29:Bool:=((tR (z1r c0 g1 g2 g3 a4 a5 a6 big c7)).getD default).2
def z0a{R:Type}(kn_:Int→Option R)(k0_:Int→Option R)(k1_:Int→Bool→Option R):Option R:=(br (ltI c3 c1) (grd (okIx c3 a0) (grd (zmw (gF g2 (ixO 0 c3 1))) (br (zl2 (gF g2 (ixO 0 c3 1))) (k0_ c3) (kn_ (addI .i64 c3 1))))) (k1_ c3 (ltI c3 c1)))
theorem z9m{R R':Type}(o:Option R→Option R')(h0:o none=none)(kn_:Int→Option R)(k0_:Int→Option R)(k1_:Int→Bool→Option R):z0a a0 c1 g2 c3 (fun t8'=>o (kn_ t8')) (fun c0_=>o (k0_ c0_)) (fun c0_ c1_=>o (k1_ c0_ c1_))=o (z0a a0 c1 g2 c3 kn_ k0_ k1_):=by
 unfold z0a
 repeat (first | apply grd_out h0 | apply br_out | rfl)
def z01(sn:Nat)(t7:Int)(b0:List Nat):Nat→Int→Option ((Int)⊕(Int×Bool))
 | 0,_=>none
 | n+1,t8=>z0a sn t7 b0  t8  (fun t8'=>z01 sn t7 b0 n t8') (fun c0_=>some (Sum.inl c0_)) (fun c0_ c1_=>some (Sum.inr (c0_,c1_)))
theorem z48:z01 a0 c1 g2 (a3+1) c4=z0a a0 c1 g2  c4  (fun t8'=>z01 a0 c1 g2 a3 t8') (fun c0_=>some (Sum.inl c0_)) (fun c0_ c1_=>some (Sum.inr (c0_,c1_))):=rfl
def z2r:Bool:=(z01 a0 c1 g2 big c3).isSome
def z2k:Bool:=oL (z01 a0 c1 g2 big c3)
def z4o:Int:=((tL (z01 a0 c1 g2 big c3)).getD default)
def z9u:Int:=((tR (z01 a0 c1 g2 big c3)).getD default).1
def z9s:Bool:=((tR (z01 a0 c1 g2 big c3)).getD default).2
def z0b{R:Type}(kn_:Int→Option R)(k0_:Int→Option R)(k1_:Int→Bool→Option R):Option R:=(br (ltI c3 c1) (grd (okIx c3 a0) (grd (zp0 (gF g2 (ixO 0 c3 1))) (br (znd (gF g2 (ixO 0 c3 1))) (k0_ c3) (kn_ (addI .i64 c3 1))))) (k1_ c3 (ltI c3 c1)))
theorem za0{R R':Type}(o:Option R→Option R')(h0:o none=none)(kn_:Int→Option R)(k0_:Int→Option R)(k1_:Int→Bool→Option R):z0b a0 c1 g2 c3 (fun t8'=>o (kn_ t8')) (fun c0_=>o (k0_ c0_)) (fun c0_ c1_=>o (k1_ c0_ c1_))=o (z0b a0 c1 g2 c3 kn_ k0_ k1_):=by
 unfold z0b
 repeat (first | apply grd_out h0 | apply br_out | rfl)
def z02(sn:Nat)(t7:Int)(b0:List Nat):Nat→Int→Option ((Int)⊕(Int×Bool))
 | 0,_=>none
 | n+1,t8=>z0b sn t7 b0  t8  (fun t8'=>z02 sn t7 b0 n t8') (fun c0_=>some (Sum.inl c0_)) (fun c0_ c1_=>some (Sum.inr (c0_,c1_)))
theorem z4n:z02 a0 c1 g2 (a3+1) c4=z0b a0 c1 g2  c4  (fun t8'=>z02 a0 c1 g2 a3 t8') (fun c0_=>some (Sum.inl c0_)) (fun c0_ c1_=>some (Sum.inr (c0_,c1_))):=rfl
def z32:Bool:=(z02 a0 c1 g2 big c3).isSome
def z2w:Bool:=oL (z02 a0 c1 g2 big c3)
def z5f:Int:=((tL (z02 a0 c1 g2 big c3)).getD default)
def zan:Int:=((tR (z02 a0 c1 g2 big c3)).getD default).1
def zav:Bool:=((tR (z02 a0 c1 g2 big c3)).getD default).2
def zgz{R:Type}(q27:Int)(q2c q2d:Nat) (k_:Nat→Nat→Nat→Nat→(List Nat)→(List Nat)→(List Nat)→(List Nat)→Option R):Option R:=(grd (zsh a0 (pF g1 0 (muN a0 1)) a2 (pF g3 0 (muN a2 1)) a4 (pF g5 0 (muN a4 1))) (grd (zr4 a6 (pF g7 0 (muN a6 3))) (k_ (zqq a0 (pF g1 0 (muN a0 1)) a2 (pF g3 0 (muN a2 1)) a4 (pF g5 0 (muN a4 1))) (zql a0 (pF g1 0 (muN a0 1)) a2 (pF g3 0 (muN a2 1)) a4 (pF g5 0 (muN a4 1))) (zqg a0 (pF g1 0 (muN a0 1)) a2 (pF g3 0 (muN a2 1)) a4 (pF g5 0 (muN a4 1))) (zpd a6 (pF g7 0 (muN a6 3))) (zqo a0 (pF g1 0 (muN a0 1)) a2 (pF g3 0 (muN a2 1)) a4 (pF g5 0 (muN a4 1))) (zqf a0 (pF g1 0 (muN a0 1)) a2 (pF g3 0 (muN a2 1)) a4 (pF g5 0 (muN a4 1))) (zqw a0 (pF g1 0 (muN a0 1)) a2 (pF g3 0 (muN a2 1)) a4 (pF g5 0 (muN a4 1))) (zp6 a6 (pF g7 0 (muN a6 3))))))
def z1o:Option (Nat×Nat×Nat×Nat×(List Nat)×(List Nat)×(List Nat)×(List Nat)):=zgz a0 g1 a2 g3 a4 g5 a6 g7 c8 a9 a10 (fun c0_ c1_ c2_ c3_ c4_ c5_ c6_ c7_=>some (c0_,c1_,c2_,c3_,c4_,c5_,c6_,c7_))
theorem y30:Nt8 (fun {R}=>zgz (R:=R) a0 g1 a2 g3 a4 g5 a6 g7 c8 a9 a10):=by
 intro R R' o h0 k;unfold zgz;repeat (first | apply grd_out h0 | apply br_out | rfl)
def zoe:Bool:=(z1o a0 g1 a2 g3 a4 g5 a6 g7 c8 a9 a10).isSome
def zmo:Nat:=((z1o a0 g1 a2 g3 a4 g5 a6 g7 c8 a9 a10).getD default).1
def zmx:Nat:=((z1o a0 g1 a2 g3 a4 g5 a6 g7 c8 a9 a10).getD default).2.1
def zlx:Nat:=((z1o a0 g1 a2 g3 a4 g5 a6 g7 c8 a9 a10).getD default).2.2.1
def zml:Nat:=((z1o a0 g1 a2 g3 a4 g5 a6 g7 c8 a9 a10).getD default).2.2.2.1
def zlt:List Nat:=((z1o a0 g1 a2 g3 a4 g5 a6 g7 c8 a9 a10).getD default).2.2.2.2.1
def zmq:List Nat:=((z1o a0 g1 a2 g3 a4 g5 a6 g7 c8 a9 a10).getD default).2.2.2.2.2.1
def zlj:List Nat:=((z1o a0 g1 a2 g3 a4 g5 a6 g7 c8 a9 a10).getD default).2.2.2.2.2.2.1
def zms:List Nat:=((z1o a0 g1 a2 g3 a4 g5 a6 g7 c8 a9 a10).getD default).2.2.2.2.2.2.2
def zdn{R:Type}(k_:Bool→Option R):Option R:=(grd (zc0 a0 (pF g1 0 (muN a0 1)) a6 (pF g7 0 (muN a6 1))) (br (bnot (zah a0 (pF g1 0 (muN a0 1)) a6 (pF g7 0 (muN a6 1)))) (k_ Bool.false) (grd (zc0 a2 (pF g3 0 (muN a2 1)) a8 (pF g9 0 (muN a8 1))) (br (bnot (zah a2 (pF g3 0 (muN a2 1)) a8 (pF g9 0 (muN a8 1)))) (k_ Bool.false) (grd (zc0 a4 (pF g5 0 (muN a4 1)) a10 (pF g11 0 (muN a10 1))) (br (bnot (zah a4 (pF g5 0 (muN a4 1)) a10 (pF g11 0 (muN a10 1)))) (k_ Bool.false) (k_ Bool.true)))))))
def z5x:Option (Bool):=zdn a0 g1 a2 g3 a4 g5 a6 g7 a8 g9 a10 g11 (fun c0_=>some c0_)
theorem zzh:Nt1 (fun {R}=>zdn (R:=R) a0 g1 a2 g3 a4 g5 a6 g7 a8 g9 a10 g11):=by
 intro R R' o h0 k;unfold zdn;repeat (first | apply grd_out h0 | apply br_out | rfl)
def zsa:Bool:=(z5x a0 g1 a2 g3 a4 g5 a6 g7 a8 g9 a10 g11).isSome
def zr1:Bool:=((z5x a0 g1 a2 g3 a4 g5 a6 g7 a8 g9 a10 g11).getD default)
def zcc{R:Type}(k_:Bool→Option R):Option R:=(br (neI (Int.ofNat a0) (Int.ofNat a2)) (k_ Bool.false) (grd (zer a0 a2 g1 g3 0) (br (zd1 a0 a2 g1 g3 0) (k_ Bool.false) (k_ Bool.true))))
def z55:Option (Bool):=zcc a0 g1 a2 g3 (fun c0_=>some c0_)
theorem zwf:Nt1 (fun {R}=>zcc (R:=R) a0 g1 a2 g3):=by
 intro R R' o h0 k;unfold zcc;repeat (first | apply grd_out h0 | apply br_out | rfl)
def zqi:Bool:=(z55 a0 g1 a2 g3).isSome
def zp8:Bool:=((z55 a0 g1 a2 g3).getD default)
def zmz{R:Type}(k_:Bool→Option R):Option R:=(br (ltI (Int.ofNat a0) 2) (k_ Bool.false) (br (ltI 24 (Int.ofNat a0)) (k_ Bool.false) (br (neI (Int.ofNat a2) (Int.ofNat a0)) (k_ Bool.false) (br (neI (Int.ofNat a4) (Int.ofNat a0)) (k_ Bool.false) (grd (zaj (Int.ofNat a0) g1 g3 g5 a0 a2 a4 0) (br (z9j (Int.ofNat a0) g1 g3 g5 a0 a2 a4 0) (k_ Bool.false) (k_ Bool.true)))))))
def z9k:Option (Bool):=zmz a0 g1 a2 g3 a4 g5 (fun c0_=>some c0_)
theorem y6t:Nt1 (fun {R}=>zmz (R:=R) a0 g1 a2 g3 a4 g5):=by
 intro R R' o h0 k;unfold zmz;repeat (first | apply grd_out h0 | apply br_out | rfl)
def y3t:Bool:=(z9k a0 g1 a2 g3 a4 g5).isSome
def y03:Bool:=((z9k a0 g1 a2 g3 a4 g5).getD default)
def z1w{R:Type}(k_:Int→Option R):Option R:=(grd (z2r a0 (Int.ofNat a0) g1 0) (br (z2k a0 (Int.ofNat a0) g1 0) (k_ (z4o a0 (Int.ofNat a0) g1 0)) (k_ (Int.negSucc 0))))
def z0l:Option (Int):=z1w a0 g1 (fun c0_=>some c0_)
theorem zat:Nt1 (fun {R}=>z1w (R:=R) a0 g1):=by
 intro R R' o h0 k;unfold z1w;repeat (first | apply grd_out h0 | apply br_out | rfl)
def z6g:Bool:=(z0l a0 g1).isSome
def z61:Int:=((z0l a0 g1).getD default)
def z24{R:Type}(k_:Int→Option R):Option R:=(grd (z32 a0 (Int.ofNat a0) g1 0) (br (z2w a0 (Int.ofNat a0) g1 0) (k_ (z5f a0 (Int.ofNat a0) g1 0)) (k_ (Int.negSucc 0))))
def z0o:Option (Int):=z24 a0 g1 (fun c0_=>some c0_)
theorem zbs:Nt1 (fun {R}=>z24 (R:=R) a0 g1):=by
 intro R R' o h0 k;unfold z24;repeat (first | apply grd_out h0 | apply br_out | rfl)
def z6u:Bool:=(z0o a0 g1).isSome
def z6m:Int:=((z0o a0 g1).getD default)
def zh4{R:Type}(k_:Nat→Option R):Option R:=(grd (zp1 (fcvV .f32 .f64 a0)) (grd (zjd (zfs (fcvV .f32 .f64 a0))) (k_ (zce (zfs (fcvV .f32 .f64 a0))))))
def z62:Option (Nat):=zh4 a0 (fun c0_=>some c0_)
theorem y3e:Nt1 (fun {R}=>zh4 (R:=R) a0):=by
 intro R R' o h0 k;unfold zh4;repeat (first | apply grd_out h0 | apply br_out | rfl)
def z7b:Bool:=(z62 a0).isSome
def z1b:Nat:=((z62 a0).getD default)
def z0c{R:Type}(kn_:Int→Option R)(k0_:Int→Option R)(k1_:Int→Bool→Option R):Option R:=(br (ltI c3 c1) (grd (okIx c3 a0) (grd (zr6 (gF g2 (ixO 0 c3 1))) (br (zp4 (gF g2 (ixO 0 c3 1))) (k0_ c3) (kn_ (addI .i64 c3 1))))) (k1_ c3 (ltI c3 c1)))
theorem zao{R R':Type}(o:Option R→Option R')(h0:o none=none)(kn_:Int→Option R)(k0_:Int→Option R)(k1_:Int→Bool→Option R):z0c a0 c1 g2 c3 (fun t8'=>o (kn_ t8')) (fun c0_=>o (k0_ c0_)) (fun c0_ c1_=>o (k1_ c0_ c1_))=o (z0c a0 c1 g2 c3 kn_ k0_ k1_):=by
 unfold z0c
 repeat (first | apply grd_out h0 | apply br_out | rfl)
def z03(sn:Nat)(t7:Int)(b0:List Nat):Nat→Int→Option ((Int)⊕(Int×Bool))
 | 0,_=>none
 | n+1,t8=>z0c sn t7 b0  t8  (fun t8'=>z03 sn t7 b0 n t8') (fun c0_=>some (Sum.inl c0_)) (fun c0_ c1_=>some (Sum.inr (c0_,c1_)))
theorem z4y:z03 a0 c1 g2 (a3+1) c4=z0c a0 c1 g2  c4  (fun t8'=>z03 a0 c1 g2 a3 t8') (fun c0_=>some (Sum.inl c0_)) (fun c0_ c1_=>some (Sum.inr (c0_,c1_))):=rfl
def z3i:Bool:=(z03 a0 c1 g2 big c3).isSome
def z38:Bool:=oL (z03 a0 c1 g2 big c3)
def z5j:Int:=((tL (z03 a0 c1 g2 big c3)).getD default)
def zb3:Int:=((tR (z03 a0 c1 g2 big c3)).getD default).1
def zb9:Bool:=((tR (z03 a0 c1 g2 big c3)).getD default).2
def zh7{R:Type}(k_:Bool→Option R):Option R:=(grd (zsa a0 (pF g1 0 (muN a0 1)) a2 (pF g3 0 (muN a2 1)) a4 (pF g5 0 (muN a4 1)) a11 (pF g12 0 (muN a11 1)) a13 (pF g14 0 (muN a13 1)) a15 (pF g16 0 (muN a15 1))) (br (bnot (zr1 a0 (pF g1 0 (muN a0 1)) a2 (pF g3 0 (muN a2 1)) a4 (pF g5 0 (muN a4 1)) a11 (pF g12 0 (muN a11 1)) a13 (pF g14 0 (muN a13 1)) a15 (pF g16 0 (muN a15 1)))) (k_ Bool.false) (grd (zqi a6 (pF g7 0 (muN a6 3)) a17 (pF g18 0 (muN a17 3))) (br (bnot (zp8 a6 (pF g7 0 (muN a6 3)) a17 (pF g18 0 (muN a17 3)))) (k_ Bool.false) (br (neI c8 c19) (k_ Bool.false) (grd (z4f (fcvV .f32 .f64 a9) (fcvV .f32 .f64 a20)) (br (bnot (z3x (fcvV .f32 .f64 a9) (fcvV .f32 .f64 a20))) (k_ Bool.false) (grd (z4f (fcvV .f32 .f64 a10) (fcvV .f32 .f64 a21)) (br (bnot (z3x (fcvV .f32 .f64 a10) (fcvV .f32 .f64 a21))) (k_ Bool.false) (k_ Bool.true))))))))))
def z7j:Option (Bool):=zh7 a0 g1 a2 g3 a4 g5 a6 g7 c8 a9 a10 a11 g12 a13 g14 a15 g16 a17 g18 c19 a20 a21 (fun c0_=>some c0_)
theorem y25:Nt1 (fun {R}=>zh7 (R:=R) a0 g1 a2 g3 a4 g5 a6 g7 c8 a9 a10 a11 g12 a13 g14 a15 g16 a17 g18 c19 a20 a21):=by
 intro R R' o h0 k;unfold zh7;repeat (first | apply grd_out h0 | apply br_out | rfl)
def zop:Bool:=(z7j a0 g1 a2 g3 a4 g5 a6 g7 c8 a9 a10 a11 g12 a13 g14 a15 g16 a17 g18 c19 a20 a21).isSome
def zmh:Bool:=((z7j a0 g1 a2 g3 a4 g5 a6 g7 c8 a9 a10 a11 g12 a13 g14 a15 g16 a17 g18 c19 a20 a21).getD default)
def z2b{R:Type}(k_:Int→Option R):Option R:=(grd (z3i a0 (Int.ofNat a0) g1 0) (br (z38 a0 (Int.ofNat a0) g1 0) (k_ (z5j a0 (Int.ofNat a0) g1 0)) (k_ (Int.negSucc 0))))
def z0q:Option (Int):=z2b a0 g1 (fun c0_=>some c0_)
theorem zcr:Nt1 (fun {R}=>z2b (R:=R) a0 g1):=by
 intro R R' o h0 k;unfold z2b;repeat (first | apply grd_out h0 | apply br_out | rfl)
def z76:Bool:=(z0q a0 g1).isSome
def z6w:Int:=((z0q a0 g1).getD default)
def zmk{R:Type}(k_:Nat→Option R):Option R:=(grd (bnot (nanQ .f64 a0)) (k_ (fint Ieee.Toward.down a0)))
def z9h:Option (Nat):=zmk a0 (fun c0_=>some c0_)
theorem y6e:Nt1 (fun {R}=>zmk (R:=R) a0):=by
 intro R R' o h0 k;unfold zmk;repeat (first | apply grd_out h0 | apply br_out | rfl)
def zs3:Bool:=(z9h a0).isSome
def z8h:Nat:=((z9h a0).getD default)
def z4s{R:Type}(kn_:Nat→Nat→Option R)(k0_:Nat→Nat→Bool→Option R):Option R:=(br (fcmp .geq .f64 a2 4607182418800017408) (kn_ (fop .sub .f64 4607182418800017408 (fop .quo .f64 (fop .mul .f64 a0 a1) (fop .mul .f64 (fop .mul .f64 4611686018427387904 a2) (fop .add .f64 (fop .mul .f64 4611686018427387904 a2) 4607182418800017408)))) (fop .sub .f64 a2 4607182418800017408)) (k0_ a1 a2 (fcmp .geq .f64 a2 4607182418800017408)))
theorem y39{R R':Type}(o:Option R→Option R')(h0:o none=none)(kn_:Nat→Nat→Option R)(k0_:Nat→Nat→Bool→Option R):z4s a0 a1 a2 (fun p' k'=>o (kn_ p' k')) (fun c0_ c1_ c2_=>o (k0_ c0_ c1_ c2_))=o (z4s a0 a1 a2 kn_ k0_):=by
 unfold z4s
 repeat (first | apply grd_out h0 | apply br_out | rfl)
def z1q(u:Nat):Nat→Nat→Nat→Option ((Nat×Nat×Bool))
 | 0,_,_=>none
 | n+1,p,k=>z4s u  p k  (fun p' k'=>z1q u n p' k') (fun c0_ c1_ c2_=>some (c0_,c1_,c2_))
theorem zne:z1q a0 (a1+1) a2 a3=z4s a0  a2 a3  (fun p' k'=>z1q a0 a1 p' k') (fun c0_ c1_ c2_=>some (c0_,c1_,c2_)):=rfl
def z96:Bool:=(z1q a0 big a1 a2).isSome
def z6p:Nat:=((z1q a0 big a1 a2).getD default).1
def y4n:Nat:=((z1q a0 big a1 a2).getD default).2.1
def y46:Bool:=((z1q a0 big a1 a2).getD default).2.2
def z1i{R:Type}(k_:Bool→Option R):Option R:=(grd (z6g a0 (pF g1 0 (muN a0 1))) (k_ (leI 0 (z61 a0 (pF g1 0 (muN a0 1))))))
def z0g:Option (Bool):=z1i a0 g1 (fun c0_=>some c0_)
theorem z9g:Nt1 (fun {R}=>z1i (R:=R) a0 g1):=by
 intro R R' o h0 k;unfold z1i;repeat (first | apply grd_out h0 | apply br_out | rfl)
def z5l:Bool:=(z0g a0 g1).isSome
def z5a:Bool:=((z0g a0 g1).getD default)
def z1n{R:Type}(k_:Bool→Option R):Option R:=(grd (z6u a0 (pF g1 0 (muN a0 1))) (k_ (leI 0 (z6m a0 (pF g1 0 (muN a0 1))))))
def z0i:Option (Bool):=z1n a0 g1 (fun c0_=>some c0_)
theorem za7:Nt1 (fun {R}=>z1n (R:=R) a0 g1):=by
 intro R R' o h0 k;unfold z1n;repeat (first | apply grd_out h0 | apply br_out | rfl)
def z69:Bool:=(z0i a0 g1).isSome
def z5n:Bool:=((z0i a0 g1).getD default)
def z1v{R:Type}(k_:Bool→Option R):Option R:=(grd (z76 a0 (pF g1 0 (muN a0 1))) (k_ (leI 0 (z6w a0 (pF g1 0 (muN a0 1))))))
def z0k:Option (Bool):=z1v a0 g1 (fun c0_=>some c0_)
theorem zac:Nt1 (fun {R}=>z1v (R:=R) a0 g1):=by
 intro R R' o h0 k;unfold z1v;repeat (first | apply grd_out h0 | apply br_out | rfl)
def z6h:Bool:=(z0k a0 g1).isSome
def z65:Bool:=((z0k a0 g1).getD default)
def zoy{R:Type}(k_:Nat→Option R):Option R:=(grd (zqn a0) (br (fcmp .geq .f64 (z08 a0) 4602678819172646912) (br (fcmp .gtr .f64 (fop .sub .f64 (z08 a0) 4602678819172646912) 4598175219545276416) (grd (z96 (fop .mul .f64 (fop .mul .f64 (fop .sub .f64 4602678819172646912 (fop .sub .f64 (z08 a0) 4602678819172646912)) 4618760256179416344) (fop .mul .f64 (fop .sub .f64 4602678819172646912 (fop .sub .f64 (z08 a0) 4602678819172646912)) 4618760256179416344)) 4607182418800017408 4620693217682128896) (k_ (fneg .f64 (fop .mul .f64 (fop .mul .f64 (fop .sub .f64 4602678819172646912 (fop .sub .f64 (z08 a0) 4602678819172646912)) 4618760256179416344) (z6p (fop .mul .f64 (fop .mul .f64 (fop .sub .f64 4602678819172646912 (fop .sub .f64 (z08 a0) 4602678819172646912)) 4618760256179416344) (fop .mul .f64 (fop .sub .f64 4602678819172646912 (fop .sub .f64 (z08 a0) 4602678819172646912)) 4618760256179416344)) 4607182418800017408 4620693217682128896))))) (grd (z96 (fop .mul .f64 (fop .mul .f64 (fop .sub .f64 (z08 a0) 4602678819172646912) 4618760256179416344) (fop .mul .f64 (fop .sub .f64 (z08 a0) 4602678819172646912) 4618760256179416344)) 4607182418800017408 4620693217682128896) (k_ (fneg .f64 (fop .mul .f64 (fop .mul .f64 (fop .sub .f64 (z08 a0) 4602678819172646912) 4618760256179416344) (z6p (fop .mul .f64 (fop .mul .f64 (fop .sub .f64 (z08 a0) 4602678819172646912) 4618760256179416344) (fop .mul .f64 (fop .sub .f64 (z08 a0) 4602678819172646912) 4618760256179416344)) 4607182418800017408 4620693217682128896)))))) (br (fcmp .gtr .f64 (z08 a0) 4598175219545276416) (grd (z96 (fop .mul .f64 (fop .mul .f64 (fop .sub .f64 4602678819172646912 (z08 a0)) 4618760256179416344) (fop .mul .f64 (fop .sub .f64 4602678819172646912 (z08 a0)) 4618760256179416344)) 4607182418800017408 4620693217682128896) (k_ (fop .mul .f64 (fop .mul .f64 (fop .sub .f64 4602678819172646912 (z08 a0)) 4618760256179416344) (z6p (fop .mul .f64 (fop .mul .f64 (fop .sub .f64 4602678819172646912 (z08 a0)) 4618760256179416344) (fop .mul .f64 (fop .sub .f64 4602678819172646912 (z08 a0)) 4618760256179416344)) 4607182418800017408 4620693217682128896)))) (grd (z96 (fop .mul .f64 (fop .mul .f64 (z08 a0) 4618760256179416344) (fop .mul .f64 (z08 a0) 4618760256179416344)) 4607182418800017408 4620693217682128896) (k_ (fop .mul .f64 (fop .mul .f64 (z08 a0) 4618760256179416344) (z6p (fop .mul .f64 (fop .mul .f64 (z08 a0) 4618760256179416344) (fop .mul .f64 (z08 a0) 4618760256179416344)) 4607182418800017408 4620693217682128896)))))))
def zb8:Option (Nat):=zoy a0 (fun c0_=>some c0_)
theorem y7q:Nt1 (fun {R}=>zoy (R:=R) a0):=by
 intro R R' o h0 k;unfold zoy;repeat (first | apply grd_out h0 | apply br_out | rfl)
def y61:Bool:=(zb8 a0).isSome
def zsy:Nat:=((zb8 a0).getD default)
def zds{R:Type}(k_:Nat→Option R):Option R:=(grd (zs3 (fop .add .f64 (fcvV .f32 .f64 a0) 4602678819172646912)) (grd (fcvB .f64 .f32 (fop .sub .f64 (fcvV .f32 .f64 a0) (z8h (fop .add .f64 (fcvV .f32 .f64 a0) 4602678819172646912)))) (br (fcmp .geq .f32 (fcvV .f64 .f32 (fop .sub .f64 (fcvV .f32 .f64 a0) (z8h (fop .add .f64 (fcvV .f32 .f64 a0) 4602678819172646912)))) 1056964608) (k_ 3204448256) (k_ (fcvV .f64 .f32 (fop .sub .f64 (fcvV .f32 .f64 a0) (z8h (fop .add .f64 (fcvV .f32 .f64 a0) 4602678819172646912))))))))
def z5s:Option (Nat):=zds a0 (fun c0_=>some c0_)
theorem zz1:Nt1 (fun {R}=>zds (R:=R) a0):=by
 intro R R' o h0 k;unfold zds;repeat (first | apply grd_out h0 | apply br_out | rfl)
def zt7:Bool:=(z5s a0).isSome
def z0w:Nat:=((z5s a0).getD default)
def zhd{R:Type}(k_:Nat→Option R):Option R:=(grd (zs3 (fop .add .f64 (fcvV .f32 .f64 a0) 4602678819172646912)) (grd (zjd (fop .sub .f64 (fcvV .f32 .f64 a0) (z8h (fop .add .f64 (fcvV .f32 .f64 a0) 4602678819172646912)))) (br (fcmp .geq .f32 (zce (fop .sub .f64 (fcvV .f32 .f64 a0) (z8h (fop .add .f64 (fcvV .f32 .f64 a0) 4602678819172646912)))) 1056964608) (k_ 3204448256) (k_ (zce (fop .sub .f64 (fcvV .f32 .f64 a0) (z8h (fop .add .f64 (fcvV .f32 .f64 a0) 4602678819172646912))))))))
def z7h:Option (Nat):=zhd a0 (fun c0_=>some c0_)
theorem y2i:Nt1 (fun {R}=>zhd (R:=R) a0):=by
 intro R R' o h0 k;unfold zhd;repeat (first | apply grd_out h0 | apply br_out | rfl)
def zwa:Bool:=(z7h a0).isSome
def z45:Nat:=((z7h a0).getD default)
def z44{R:Type}(kn_:Nat→Int→Option R)(k0_:Unit→Option R)(k1_:Nat→Int→Bool→Option R):Option R:=(br (ltI c5 c0) (grd (okIx c5 a2) (br (bnot (fcmp .gtr .f32 (gF g1 (ixO 0 c5 3)) a4)) (k0_ ()) (br (bnot (fcmp .lss .f32 (gF g1 (ixO 0 c5 3)) a3)) (k0_ ()) (grd (zas (gF g1 (Nat.succ (ixO 0 c5 3)))) (br (bnot (z9e (gF g1 (Nat.succ (ixO 0 c5 3))))) (k0_ ()) (grd (z0y (gF g1 (Nat.succ (Nat.succ (ixO 0 c5 3))))) (br (bnot (z0r (gF g1 (Nat.succ (Nat.succ (ixO 0 c5 3)))))) (k0_ ()) (kn_ (gF g1 (ixO 0 c5 3)) (addI .i64 c5 1))))))))) (k1_ a4 c5 (ltI c5 c0)))
theorem y0x{R R':Type}(o:Option R→Option R')(h0:o none=none)(kn_:Nat→Int→Option R)(k0_:Unit→Option R)(k1_:Nat→Int→Bool→Option R):z44 c0 g1 a2 a3 a4 c5 (fun t4' t58'=>o (kn_ t4' t58')) (fun _=>o (k0_ ())) (fun c0_ c1_ c2_=>o (k1_ c0_ c1_ c2_))=o (z44 c0 g1 a2 a3 a4 c5 kn_ k0_ k1_):=by
 unfold z44
 repeat (first | apply grd_out h0 | apply br_out | rfl)
def z0z(t57:Int)(b3:List Nat)(q0q q18:Nat):Nat→Nat→Int→Option ((Unit)⊕(Nat×Int×Bool))
 | 0,_,_=>none
 | n+1,t4,t58=>z44 t57 b3 q0q q18  t4 t58  (fun t4' t58'=>z0z t57 b3 q0q q18 n t4' t58') (fun _=>some (Sum.inl ())) (fun c0_ c1_ c2_=>some (Sum.inr (c0_,c1_,c2_)))
theorem zn0:z0z c0 g1 a2 a3 (a4+1) a5 c6=z44 c0 g1 a2 a3  a5 c6  (fun t4' t58'=>z0z c0 g1 a2 a3 a4 t4' t58') (fun _=>some (Sum.inl ())) (fun c0_ c1_ c2_=>some (Sum.inr (c0_,c1_,c2_))):=rfl
def zg0:Bool:=(z0z c0 g1 a2 a3 big a4 c5).isSome
def zet:Bool:=oL (z0z c0 g1 a2 a3 big a4 c5)
def y3a:Nat:=((tR (z0z c0 g1 a2 a3 big a4 c5)).getD default).1
def y3h:Int:=((tR (z0z c0 g1 a2 a3 big a4 c5)).getD default).2.1
def y2v:Bool:=((tR (z0z c0 g1 a2 a3 big a4 c5)).getD default).2.2
def zay{R:Type}(k_:Bool→Option R):Option R:=(grd (z5l a0 (pF g1 0 (muN a0 1))) (k_ (bnot (z5a a0 (pF g1 0 (muN a0 1))))))
def z1m:Option (Bool):=zay a0 g1 (fun c0_=>some c0_)
theorem zvc:Nt1 (fun {R}=>zay (R:=R) a0 g1):=by
 intro R R' o h0 k;unfold zay;repeat (first | apply grd_out h0 | apply br_out | rfl)
def z7s:Bool:=(z1m a0 g1).isSome
def z73:Bool:=((z1m a0 g1).getD default)
def zln{R:Type}(k_:Bool→Option R):Option R:=(grd (y3t a0 (pF g1 0 (muN a0 1)) a2 (pF g3 0 (muN a2 1)) a4 (pF g5 0 (muN a4 1))) (br (bnot (y03 a0 (pF g1 0 (muN a0 1)) a2 (pF g3 0 (muN a2 1)) a4 (pF g5 0 (muN a4 1)))) (k_ Bool.false) (br (ltI (Int.ofNat a6) 2) (k_ Bool.false) (br (ltI 12 (Int.ofNat a6)) (k_ Bool.false) (grd (zs0 c8 1 6) (br (bnot (zpu c8 1 6)) (k_ Bool.false) (grd (z86 a9) (br (bnot (z7a a9)) (k_ Bool.false) (grd (z0y a10) (br (bnot (z0r a10)) (k_ Bool.false) (grd (zg0 (Int.ofNat a6) g7 a6 a10 a9 0) (br (zet (Int.ofNat a6) g7 a6 a10 a9 0) (k_ Bool.false) (k_ Bool.true)))))))))))))
def z98:Option (Bool):=zln a0 g1 a2 g3 a4 g5 a6 g7 c8 a9 a10 (fun c0_=>some c0_)
theorem y7i:Nt1 (fun {R}=>zln (R:=R) a0 g1 a2 g3 a4 g5 a6 g7 c8 a9 a10):=by
 intro R R' o h0 k;unfold zln;repeat (first | apply grd_out h0 | apply br_out | rfl)
def zt2:Bool:=(z98 a0 g1 a2 g3 a4 g5 a6 g7 c8 a9 a10).isSome
def zpv:Bool:=((z98 a0 g1 a2 g3 a4 g5 a6 g7 c8 a9 a10).getD default)
def zew{R:Type}(k_:Bool→Option R):Option R:=(grd (z69 a0 (pF g1 0 (muN a0 1))) (k_ (bnot (z5n a0 (pF g1 0 (muN a0 1))))))
def z4m:Option (Bool):=zew a0 g1 (fun c0_=>some c0_)
theorem zyf:Nt1 (fun {R}=>zew (R:=R) a0 g1):=by
 intro R R' o h0 k;unfold zew;repeat (first | apply grd_out h0 | apply br_out | rfl)
def zjn:Bool:=(z4m a0 g1).isSome
def zhv:Bool:=((z4m a0 g1).getD default)
def zfx{R:Type}(k_:Bool→Option R):Option R:=(grd (z6h a0 (pF g1 0 (muN a0 1))) (k_ (bnot (z65 a0 (pF g1 0 (muN a0 1))))))
def z6o:Option (Bool):=zfx a0 g1 (fun c0_=>some c0_)
theorem y0k:Nt1 (fun {R}=>zfx (R:=R) a0 g1):=by
 intro R R' o h0 k;unfold zfx;repeat (first | apply grd_out h0 | apply br_out | rfl)
def zuu:Bool:=(z6o a0 g1).isSome
def zsj:Bool:=((z6o a0 g1).getD default)
def ze0{R:Type}(k_:Nat→Option R):Option R:=(grd (z2h a0) (br (bnot (z27 a0)) (grd zy8 (grd (fcvB .f64 .f32 zoz) (k_ (fcvV .f64 .f32 zoz)))) (grd (y0i (fcvV .f32 .f64 a0)) (br (zxq (fcvV .f32 .f64 a0)) (k_ 0) (grd (y61 (fcvV .f32 .f64 a0)) (grd (fcvB .f64 .f32 (zsy (fcvV .f32 .f64 a0))) (k_ (fcvV .f64 .f32 (zsy (fcvV .f32 .f64 a0))))))))))
def z5y:Option (Nat):=ze0 a0 (fun c0_=>some c0_)
theorem zyr:Nt1 (fun {R}=>ze0 (R:=R) a0):=by
 intro R R' o h0 k;unfold ze0;repeat (first | apply grd_out h0 | apply br_out | rfl)
def z4j:Bool:=(z5y a0).isSome
def z1d:Nat:=((z5y a0).getD default)
def zc6{R:Type}(k_:Nat→Nat→Bool→Option R):Option R:=(grd (zjn 2 (pF [a0,a1] 0 (muN 2 1))) (br (bnot (zhv 2 (pF [a0,a1] 0 (muN 2 1)))) (k_ 0 0 Bool.false) (k_ a0 a1 Bool.true)))
def z31:Option (Nat×Nat×Bool):=zc6 a0 a1 (fun c0_ c1_ c2_=>some (c0_,c1_,c2_))
theorem zxz:Nt3 (fun {R}=>zc6 (R:=R) a0 a1):=by
 intro R R' o h0 k;unfold zc6;repeat (first | apply grd_out h0 | apply br_out | rfl)
def zi1:Bool:=(z31 a0 a1).isSome
def zgu:Nat:=((z31 a0 a1).getD default).1
def zgk:Nat:=((z31 a0 a1).getD default).2.1
def zgt:Bool:=((z31 a0 a1).getD default).2.2
def zcj{R:Type}(k_:Bool→Option R):Option R:=(grd (zt2 a0 (pF g1 0 (muN a0 1)) a2 (pF g3 0 (muN a2 1)) a4 (pF g5 0 (muN a4 1)) a6 (pF g7 0 (muN a6 3)) c8 a9 a10) (br (zpv a0 (pF g1 0 (muN a0 1)) a2 (pF g3 0 (muN a2 1)) a4 (pF g5 0 (muN a4 1)) a6 (pF g7 0 (muN a6 3)) c8 a9 a10) (grd (zs0 c11 0 (subI .i64 (Int.ofNat a6) 1)) (k_ (zpu c11 0 (subI .i64 (Int.ofNat a6) 1)))) (k_ Bool.false)))
def z54:Option (Bool):=zcj a0 g1 a2 g3 a4 g5 a6 g7 c8 a9 a10 c11 (fun c0_=>some c0_)
theorem zy2:Nt1 (fun {R}=>zcj (R:=R) a0 g1 a2 g3 a4 g5 a6 g7 c8 a9 a10 c11):=by
 intro R R' o h0 k;unfold zcj;repeat (first | apply grd_out h0 | apply br_out | rfl)
def zr2:Bool:=(z54 a0 g1 a2 g3 a4 g5 a6 g7 c8 a9 a10 c11).isSome
def zpc:Bool:=((z54 a0 g1 a2 g3 a4 g5 a6 g7 c8 a9 a10 c11).getD default)
def z7v{R:Type}(q00:Nat)(q03:List Nat)(q02:Nat)(q04:List Nat)(q01:Nat)(q05:List Nat)(q06:Nat)(q07:List Nat)(q0c:Int)(q0k q0j:Nat)(i:Int)(q1p:Nat)(k_:Nat→Option R):Option R:=(grd (okIx i q06) (grd (z4j q1p) (k_ (fop .quo .f32 (fop .quo .f32 (fop .mul .f32 (fOI .f32 q0c) (fop .sub .f32 q0j (gF q07 (ixO 0 i 3)))) (fop .mul .f32 1073741824 (gF q07 (ixO 0 i 3)))) (fop .add .f32 (fop .quo .f32 (fop .mul .f32 (fOI .f32 q0c) (fop .sub .f32 q0j (gF q07 (ixO 0 i 3)))) (fop .mul .f32 1073741824 (gF q07 (ixO 0 i 3)))) (z1d q1p))))))
def z34:Option (Nat):=z7v a0 g1 a2 g3 a4 g5 a6 g7 c8 a9 a10 c11 a12 (fun c0_=>some c0_)
theorem zrc:Nt1 (fun {R}=>z7v (R:=R) a0 g1 a2 g3 a4 g5 a6 g7 c8 a9 a10 c11 a12):=by
 intro R R' o h0 k;unfold z7v;repeat (first | apply grd_out h0 | apply br_out | rfl)
def zl1:Bool:=(z34 a0 g1 a2 g3 a4 g5 a6 g7 c8 a9 a10 c11 a12).isSome
def zbq:Nat:=((z34 a0 g1 a2 g3 a4 g5 a6 g7 c8 a9 a10 c11 a12).getD default)
def z09{R:Type}(kn_:Int→Option R)(k0_:Int→Option R)(k1_:Int→Bool→Option R):Option R:=(br (ltI c4 c1) (grd (okIx c4 a0) (br (fcmp .gtr .f32 (gF g2 (ixO 0 c4 1)) a3) (k0_ c4) (kn_ (addI .i64 c4 1)))) (k1_ c4 (ltI c4 c1)))
theorem z94{R R':Type}(o:Option R→Option R')(h0:o none=none)(kn_:Int→Option R)(k0_:Int→Option R)(k1_:Int→Bool→Option R):z09 a0 c1 g2 a3 c4 (fun t8'=>o (kn_ t8')) (fun c0_=>o (k0_ c0_)) (fun c0_ c1_=>o (k1_ c0_ c1_))=o (z09 a0 c1 g2 a3 c4 kn_ k0_ k1_):=by
 unfold z09
 repeat (first | apply grd_out h0 | apply br_out | rfl)
def z00(sn:Nat)(t7:Int)(b0:List Nat)(b4:Nat):Nat→Int→Option ((Int)⊕(Int×Bool))
 | 0,_=>none
 | n+1,t8=>z09 sn t7 b0 b4  t8  (fun t8'=>z00 sn t7 b0 b4 n t8') (fun c0_=>some (Sum.inl c0_)) (fun c0_ c1_=>some (Sum.inr (c0_,c1_)))
theorem z47:z00 a0 c1 g2 a3 (a4+1) c5=z09 a0 c1 g2 a3  c5  (fun t8'=>z00 a0 c1 g2 a3 a4 t8') (fun c0_=>some (Sum.inl c0_)) (fun c0_ c1_=>some (Sum.inr (c0_,c1_))):=rfl
def z2i:Bool:=(z00 a0 c1 g2 a3 big c4).isSome
def z2c:Bool:=oL (z00 a0 c1 g2 a3 big c4)
def z06:Int:=((tL (z00 a0 c1 g2 a3 big c4)).getD default)
def z97:Int:=((tR (z00 a0 c1 g2 a3 big c4)).getD default).1
def z99:Bool:=((tR (z00 a0 c1 g2 a3 big c4)).getD default).2
def z2z{R:Type}(kn_:Int→Option R)(k0_:Int→Bool→Option R):Option R:=(br (leI 0 c3) (grd (okIx c3 a2) (br (fcmp .gtr .f32 (gF g1 (ixO 0 c3 1)) a0) (kn_ (subI .i64 c3 1)) (k0_ c3 (fcmp .gtr .f32 (gF g1 (ixO 0 c3 1)) a0)))) (k0_ c3 Bool.false))
theorem zwo{R R':Type}(o:Option R→Option R')(h0:o none=none)(kn_:Int→Option R)(k0_:Int→Bool→Option R):z2z a0 g1 a2 c3 (fun t10'=>o (kn_ t10')) (fun c0_ c1_=>o (k0_ c0_ c1_))=o (z2z a0 g1 a2 c3 kn_ k0_):=by
 unfold z2z
 repeat (first | apply grd_out h0 | apply br_out | rfl)
def z1f(t8:Nat)(b0:List Nat)(q1r:Nat):Nat→Int→Option ((Int×Bool))
 | 0,_=>none
 | n+1,t10=>z2z t8 b0 q1r  t10  (fun t10'=>z1f t8 b0 q1r n t10') (fun c0_ c1_=>some (c0_,c1_))
theorem zix:z1f a0 g1 a2 (a3+1) c4=z2z a0 g1 a2  c4  (fun t10'=>z1f a0 g1 a2 a3 t10') (fun c0_ c1_=>some (c0_,c1_)):=rfl
def zqj:Bool:=(z1f a0 g1 a2 big c3).isSome
def zma:Int:=((z1f a0 g1 a2 big c3).getD default).1
def zz5:Bool:=((z1f a0 g1 a2 big c3).getD default).2
def zj1{R:Type}(k_:Bool→Option R):Option R:=(grd (zr2 a0 (pF g1 0 (muN a0 1)) a2 (pF g3 0 (muN a2 1)) a4 (pF g5 0 (muN a4 1)) a6 (pF g7 0 (muN a6 3)) c8 a9 a10 c11) (br (zpc a0 (pF g1 0 (muN a0 1)) a2 (pF g3 0 (muN a2 1)) a4 (pF g5 0 (muN a4 1)) a6 (pF g7 0 (muN a6 3)) c8 a9 a10 c11) (grd (zas a12) (br (z9e a12) (grd (zas a13) (br (z9e a13) (grd (z0y a14) (br (z0r a14) (grd (zup a0 (pF g1 0 (muN a0 1)) a2 (pF g3 0 (muN a2 1)) a4 (pF g5 0 (muN a4 1)) a6 (pF g7 0 (muN a6 3)) c8 a9 a10 c11 a14) (k_ (zso a0 (pF g1 0 (muN a0 1)) a2 (pF g3 0 (muN a2 1)) a4 (pF g5 0 (muN a4 1)) a6 (pF g7 0 (muN a6 3)) c8 a9 a10 c11 a14))) (k_ Bool.false))) (k_ Bool.false))) (k_ Bool.false))) (k_ Bool.false)))
def z8a:Option (Bool):=zj1 a0 g1 a2 g3 a4 g5 a6 g7 c8 a9 a10 c11 a12 a13 a14 (fun c0_=>some c0_)
theorem y4m:Nt1 (fun {R}=>zj1 (R:=R) a0 g1 a2 g3 a4 g5 a6 g7 c8 a9 a10 c11 a12 a13 a14):=by
 intro R R' o h0 k;unfold zj1;repeat (first | apply grd_out h0 | apply br_out | rfl)
def y05:Bool:=(z8a a0 g1 a2 g3 a4 g5 a6 g7 c8 a9 a10 c11 a12 a13 a14).isSome
def zx7:Bool:=((z8a a0 g1 a2 g3 a4 g5 a6 g7 c8 a9 a10 c11 a12 a13 a14).getD default)
def z5k{R:Type}(q1a:Nat)(q1k:List Nat)(q19:Nat)(q1l:List Nat)(x1:Nat)(k_:Int→Int→Nat→Nat→Nat→Option R):Option R:=(grd (zt7 x1) (grd (z2i a0 (Int.ofNat a0) g1 (z0w x1) 0) (br (z2c a0 (Int.ofNat a0) g1 (z0w x1) 0) (br (eqI (z06 a0 (Int.ofNat a0) g1 (z0w x1) 0) 0) (grd (okIx (subI .i64 (Int.ofNat a0) 1) a0) (grd (okIx 0 a0) (k_ (subI .i64 (Int.ofNat a0) 1) 0 (fop .sub .f32 (gF g1 (ixO 0 (subI .i64 (Int.ofNat a0) 1) 1)) 1065353216) (gF g1 (ixO 0 0 1)) (z0w x1)))) (br (ltI (z06 a0 (Int.ofNat a0) g1 (z0w x1) 0) 0) (grd (okIx (subI .i64 (Int.ofNat a0) 1) a0) (grd (okIx 0 a0) (k_ (subI .i64 (Int.ofNat a0) 1) 0 (gF g1 (ixO 0 (subI .i64 (Int.ofNat a0) 1) 1)) (fop .add .f32 (gF g1 (ixO 0 0 1)) 1065353216) (z0w x1)))) (grd (okIx (subI .i64 (z06 a0 (Int.ofNat a0) g1 (z0w x1) 0) 1) a0) (grd (okIx (z06 a0 (Int.ofNat a0) g1 (z0w x1) 0) a0) (k_ (subI .i64 (z06 a0 (Int.ofNat a0) g1 (z0w x1) 0) 1) (z06 a0 (Int.ofNat a0) g1 (z0w x1) 0) (gF g1 (ixO 0 (subI .i64 (z06 a0 (Int.ofNat a0) g1 (z0w x1) 0) 1) 1)) (gF g1 (ixO 0 (z06 a0 (Int.ofNat a0) g1 (z0w x1) 0) 1)) (z0w x1)))))) (grd (okIx (subI .i64 (Int.ofNat a0) 1) a0) (grd (okIx 0 a0) (k_ (subI .i64 (Int.ofNat a0) 1) 0 (gF g1 (ixO 0 (subI .i64 (Int.ofNat a0) 1) 1)) (fop .add .f32 (gF g1 (ixO 0 0 1)) 1065353216) (z0w x1)))))))
def z0t:Option (Int×Int×Nat×Nat×Nat):=z5k a0 g1 a2 g3 a4 g5 a6 (fun c0_ c1_ c2_ c3_ c4_=>some (c0_,c1_,c2_,c3_,c4_))
theorem zph:Nt5 (fun {R}=>z5k (R:=R) a0 g1 a2 g3 a4 g5 a6):=by
 intro R R' o h0 k;unfold z5k;repeat (first | apply grd_out h0 | apply br_out | rfl)
def ziy:Bool:=(z0t a0 g1 a2 g3 a4 g5 a6).isSome
def z2f:Int:=((z0t a0 g1 a2 g3 a4 g5 a6).getD default).1
def z2g:Int:=((z0t a0 g1 a2 g3 a4 g5 a6).getD default).2.1
def z3j:Nat:=((z0t a0 g1 a2 g3 a4 g5 a6).getD default).2.2.1
def z70:Nat:=((z0t a0 g1 a2 g3 a4 g5 a6).getD default).2.2.2.1
def za5:Nat:=((z0t a0 g1 a2 g3 a4 g5 a6).getD default).2.2.2.2
def zap:=(fop .add .f32 (gF g0 (ixO 0 0 1)) 1065353216)
def z05:=(zma (z45 a2) g1 a0 (subI .i64 (Int.ofNat a0) 1))
def z85:=(gF g1 (ixO 0 (subI .i64 (Int.ofNat a0) 1) 1))
def zae:=(fcmp .lss .f32 (z45 a1) (gF g0 (ixO 0 0 1)))
def zak:=(okIx (z05 a0 g1 a2) a0)
def zaw:=(fop .sub .f32 (z85 a0 g1) 1065353216)
def z5g:=(gF g1 (ixO 0 (z05 a0 g1 a2) 1))
def z83:=(eqI (addI .i64 (z05 a0 g1 a2) 1) 0)
def z6k:=(gF g1 (ixO 0 (addI .i64 (z05 a0 g1 a2) 1) 1))
def z88:=(fop .sub .f32 (z5g a0 g1 a2) 1065353216)
def z4c:=(fop .sub .f32 (z45 a2) (z5g a0 g1 a2))
def z5u:=(fop .sub .f32 (gF g1 (ixO 0 0 1)) (zaw a0 g1))
def z5q:=(fop .sub .f32 (zap g1) (z85 a0 g1))
def z9d:=(fop .sub .f32 (z45 a2) (z88 a0 g1 a2))
def z5v:=(fop .sub .f32 (zap g1) (z5g a0 g1 a2))
def z5t:=(fop .sub .f32 (gF g1 (ixO 0 0 1)) (z88 a0 g1 a2))
def z26:=(fop .sub .f32 (z6k a0 g1 a2) (z5g a0 g1 a2))
def z5z:=(fop .sub .f32 (z6k a0 g1 a2) (z88 a0 g1 a2))
def z25:=(fop .sub .f32 (fop .add .f32 (z6k a0 g1 a2) 1065353216) (z5g a0 g1 a2))
def zcn{R:Type}(q1a:Nat)(q1k:List Nat)(q19:Nat)(q1l:List Nat)(x1:Nat)(k_:Int→Int→Nat→Nat→Option R):Option R:=(grd (zwa x1) (grd (zqj (z45 x1) g1 a0 (subI .i64 (Int.ofNat a0) 1)) (br (ltI (z05 a0 g1 x1) 0) (grd (okIx (subI .i64 (Int.ofNat a0) 1) a0) (grd (okIx 0 a0) (br (zae g1 x1) (br (fcmp .eql .f32 (z5u a0 g1) 0) (k_ (subI .i64 (Int.ofNat a0) 1) 0 0 (z5u a0 g1)) (k_ (subI .i64 (Int.ofNat a0) 1) 0 (fop .quo .f32 (fop .sub .f32 (z45 x1) (zaw a0 g1)) (z5u a0 g1)) (z5u a0 g1))) (br (fcmp .eql .f32 (z5q a0 g1) 0) (k_ (subI .i64 (Int.ofNat a0) 1) 0 0 (z5q a0 g1)) (k_ (subI .i64 (Int.ofNat a0) 1) 0 (fop .quo .f32 (fop .sub .f32 (z45 x1) (z85 a0 g1)) (z5q a0 g1)) (z5q a0 g1)))))) (br (eqI (addI .i64 (z05 a0 g1 x1) 1) (Int.ofNat a0)) (grd (zak a0 g1 x1) (grd (okIx 0 a0) (br (zae g1 x1) (br (fcmp .eql .f32 (z5t a0 g1 x1) 0) (k_ (z05 a0 g1 x1) 0 0 (z5t a0 g1 x1)) (k_ (z05 a0 g1 x1) 0 (fop .quo .f32 (z9d a0 g1 x1) (z5t a0 g1 x1)) (z5t a0 g1 x1))) (br (fcmp .eql .f32 (z5v a0 g1 x1) 0) (k_ (z05 a0 g1 x1) 0 0 (z5v a0 g1 x1)) (k_ (z05 a0 g1 x1) 0 (fop .quo .f32 (z4c a0 g1 x1) (z5v a0 g1 x1)) (z5v a0 g1 x1)))))) (grd (zak a0 g1 x1) (grd (okIx (addI .i64 (z05 a0 g1 x1) 1) a0) (br (z83 a0 g1 x1) (br (fcmp .lss .f32 (z45 x1) (z6k a0 g1 x1)) (br (fcmp .eql .f32 (z5z a0 g1 x1) 0) (k_ (z05 a0 g1 x1) (addI .i64 (z05 a0 g1 x1) 1) 0 (z5z a0 g1 x1)) (k_ (z05 a0 g1 x1) (addI .i64 (z05 a0 g1 x1) 1) (fop .quo .f32 (z9d a0 g1 x1) (z5z a0 g1 x1)) (z5z a0 g1 x1))) (br (z83 a0 g1 x1) (br (fcmp .eql .f32 (z25 a0 g1 x1) 0) (k_ (z05 a0 g1 x1) (addI .i64 (z05 a0 g1 x1) 1) 0 (z25 a0 g1 x1)) (k_ (z05 a0 g1 x1) (addI .i64 (z05 a0 g1 x1) 1) (fop .quo .f32 (z4c a0 g1 x1) (z25 a0 g1 x1)) (z25 a0 g1 x1))) (br (fcmp .eql .f32 (z26 a0 g1 x1) 0) (k_ (z05 a0 g1 x1) (addI .i64 (z05 a0 g1 x1) 1) 0 (z26 a0 g1 x1)) (k_ (z05 a0 g1 x1) (addI .i64 (z05 a0 g1 x1) 1) (fop .quo .f32 (z4c a0 g1 x1) (z26 a0 g1 x1)) (z26 a0 g1 x1))))) (br (z83 a0 g1 x1) (br (fcmp .eql .f32 (z25 a0 g1 x1) 0) (k_ (z05 a0 g1 x1) (addI .i64 (z05 a0 g1 x1) 1) 0 (z25 a0 g1 x1)) (k_ (z05 a0 g1 x1) (addI .i64 (z05 a0 g1 x1) 1) (fop .quo .f32 (z4c a0 g1 x1) (z25 a0 g1 x1)) (z25 a0 g1 x1))) (br (fcmp .eql .f32 (z26 a0 g1 x1) 0) (k_ (z05 a0 g1 x1) (addI .i64 (z05 a0 g1 x1) 1) 0 (z26 a0 g1 x1)) (k_ (z05 a0 g1 x1) (addI .i64 (z05 a0 g1 x1) 1) (fop .quo .f32 (z4c a0 g1 x1) (z26 a0 g1 x1)) (z26 a0 g1 x1)))))))))))
def z36:Option (Int×Int×Nat×Nat):=zcn a0 g1 a2 g3 a4 g5 a6 (fun c0_ c1_ c2_ c3_=>some (c0_,c1_,c2_,c3_))
theorem y36:Nt4 (fun {R}=>zcn (R:=R) a0 g1 a2 g3 a4 g5 a6):=by
 intro R R' o h0 k;unfold zcn;repeat (first | apply grd_out h0 | apply br_out | rfl)
def zxd:Bool:=(z36 a0 g1 a2 g3 a4 g5 a6).isSome
def zb1:Int:=((z36 a0 g1 a2 g3 a4 g5 a6).getD default).1
def zme:Int:=((z36 a0 g1 a2 g3 a4 g5 a6).getD default).2.1
def zuo:Nat:=((z36 a0 g1 a2 g3 a4 g5 a6).getD default).2.2.1
def y8f:Nat:=((z36 a0 g1 a2 g3 a4 g5 a6).getD default).2.2.2
def z1l{R:Type}(kn_:Int→Option R)(k0_:Unit→Option R)(k1_:Int→Bool→Option R):Option R:=(br (ltI c4 c1) (grd (okIx c4 a0) (grd (zlq (gF g2 (ixO 0 c4 1)) 3204448256 1056964608) (br (bnot (zjk (gF g2 (ixO 0 c4 1)) 3204448256 1056964608)) (k0_ ()) (br (ltI 0 c4) (grd (okIx (subI .i64 c4 1) a3) (br (fcmp .geq .f32 (gF g2 (ixO 0 (subI .i64 c4 1) 1)) (gF g2 (ixO 0 c4 1))) (k0_ ()) (kn_ (addI .i64 c4 1)))) (kn_ (addI .i64 c4 1)))))) (k1_ c4 (ltI c4 c1)))
theorem zpt{R R':Type}(o:Option R→Option R')(h0:o none=none)(kn_:Int→Option R)(k0_:Unit→Option R)(k1_:Int→Bool→Option R):z1l a0 c1 g2 a3 c4 (fun t44'=>o (kn_ t44')) (fun _=>o (k0_ ())) (fun c0_ c1_=>o (k1_ c0_ c1_))=o (z1l a0 c1 g2 a3 c4 kn_ k0_ k1_):=by
 unfold z1l
 repeat (first | apply grd_out h0 | apply br_out | rfl)
def z0p(q2y:Nat)(t43:Int)(b0:List Nat)(q1r:Nat):Nat→Int→Option ((Unit)⊕(Int×Bool))
 | 0,_=>none
 | n+1,t44=>z1l q2y t43 b0 q1r  t44  (fun t44'=>z0p q2y t43 b0 q1r n t44') (fun _=>some (Sum.inl ())) (fun c0_ c1_=>some (Sum.inr (c0_,c1_)))
theorem zdk:z0p a0 c1 g2 a3 (a4+1) c5=z1l a0 c1 g2 a3  c5  (fun t44'=>z0p a0 c1 g2 a3 a4 t44') (fun _=>some (Sum.inl ())) (fun c0_ c1_=>some (Sum.inr (c0_,c1_))):=rfl
def z7m:Bool:=(z0p a0 c1 g2 a3 big c4).isSome
def z71:Bool:=oL (z0p a0 c1 g2 a3 big c4)
def zrg:Int:=((tR (z0p a0 c1 g2 a3 big c4)).getD default).1
def zrf:Bool:=((tR (z0p a0 c1 g2 a3 big c4)).getD default).2
def z9r{R:Type}(k_:Bool→Option R):Option R:=(br (ltI (Int.ofNat a0) 2) (k_ Bool.false) (br (ltI 24 (Int.ofNat a0)) (k_ Bool.false) (br (neI (Int.ofNat a2) (Int.ofNat a0)) (k_ Bool.false) (br (neI (Int.ofNat a4) (Int.ofNat a0)) (k_ Bool.false) (grd (zjn a2 (pF g3 0 (muN a2 1))) (br (bnot (zhv a2 (pF g3 0 (muN a2 1)))) (k_ Bool.false) (grd (zuu a4 (pF g5 0 (muN a4 1))) (br (bnot (zsj a4 (pF g5 0 (muN a4 1)))) (k_ Bool.false) (grd (z7m a0 (Int.ofNat a0) g1 a0 0) (br (z71 a0 (Int.ofNat a0) g1 a0 0) (k_ Bool.false) (k_ Bool.true)))))))))))
def z43:Option (Bool):=z9r a0 g1 a2 g3 a4 g5 (fun c0_=>some c0_)
theorem zu1:Nt1 (fun {R}=>z9r (R:=R) a0 g1 a2 g3 a4 g5):=by
 intro R R' o h0 k;unfold z9r;repeat (first | apply grd_out h0 | apply br_out | rfl)
def znl:Bool:=(z43 a0 g1 a2 g3 a4 g5).isSome
def zm6:Bool:=((z43 a0 g1 a2 g3 a4 g5).getD default)
def zc3{R:Type}(k_:Nat→Option R):Option R:=(grd (ziy a0 (pF g1 0 (muN a0 1)) a2 (pF g3 0 (muN a2 1)) a4 (pF g5 0 (muN a4 1)) a8) (br (fcmp .neq .f32 (z3j a0 (pF g1 0 (muN a0 1)) a2 (pF g3 0 (muN a2 1)) a4 (pF g5 0 (muN a4 1)) a8) (z70 a0 (pF g1 0 (muN a0 1)) a2 (pF g3 0 (muN a2 1)) a4 (pF g5 0 (muN a4 1)) a8)) (grd (okIx (z2f a0 (pF g1 0 (muN a0 1)) a2 (pF g3 0 (muN a2 1)) a4 (pF g5 0 (muN a4 1)) a8) a6) (grd (okIx (z2g a0 (pF g1 0 (muN a0 1)) a2 (pF g3 0 (muN a2 1)) a4 (pF g5 0 (muN a4 1)) a8) a6) (grd (zsc (gF g7 (ixO 0 (z2f a0 (pF g1 0 (muN a0 1)) a2 (pF g3 0 (muN a2 1)) a4 (pF g5 0 (muN a4 1)) a8) 1)) (gF g7 (ixO 0 (z2g a0 (pF g1 0 (muN a0 1)) a2 (pF g3 0 (muN a2 1)) a4 (pF g5 0 (muN a4 1)) a8) 1)) (fop .quo .f32 (fop .sub .f32 (za5 a0 (pF g1 0 (muN a0 1)) a2 (pF g3 0 (muN a2 1)) a4 (pF g5 0 (muN a4 1)) a8) (z3j a0 (pF g1 0 (muN a0 1)) a2 (pF g3 0 (muN a2 1)) a4 (pF g5 0 (muN a4 1)) a8)) (fop .sub .f32 (z70 a0 (pF g1 0 (muN a0 1)) a2 (pF g3 0 (muN a2 1)) a4 (pF g5 0 (muN a4 1)) a8) (z3j a0 (pF g1 0 (muN a0 1)) a2 (pF g3 0 (muN a2 1)) a4 (pF g5 0 (muN a4 1)) a8)))) (k_ (zqa (gF g7 (ixO 0 (z2f a0 (pF g1 0 (muN a0 1)) a2 (pF g3 0 (muN a2 1)) a4 (pF g5 0 (muN a4 1)) a8) 1)) (gF g7 (ixO 0 (z2g a0 (pF g1 0 (muN a0 1)) a2 (pF g3 0 (muN a2 1)) a4 (pF g5 0 (muN a4 1)) a8) 1)) (fop .quo .f32 (fop .sub .f32 (za5 a0 (pF g1 0 (muN a0 1)) a2 (pF g3 0 (muN a2 1)) a4 (pF g5 0 (muN a4 1)) a8) (z3j a0 (pF g1 0 (muN a0 1)) a2 (pF g3 0 (muN a2 1)) a4 (pF g5 0 (muN a4 1)) a8)) (fop .sub .f32 (z70 a0 (pF g1 0 (muN a0 1)) a2 (pF g3 0 (muN a2 1)) a4 (pF g5 0 (muN a4 1)) a8) (z3j a0 (pF g1 0 (muN a0 1)) a2 (pF g3 0 (muN a2 1)) a4 (pF g5 0 (muN a4 1)) a8)))))))) (grd (okIx (z2f a0 (pF g1 0 (muN a0 1)) a2 (pF g3 0 (muN a2 1)) a4 (pF g5 0 (muN a4 1)) a8) a6) (grd (okIx (z2g a0 (pF g1 0 (muN a0 1)) a2 (pF g3 0 (muN a2 1)) a4 (pF g5 0 (muN a4 1)) a8) a6) (grd (zsc (gF g7 (ixO 0 (z2f a0 (pF g1 0 (muN a0 1)) a2 (pF g3 0 (muN a2 1)) a4 (pF g5 0 (muN a4 1)) a8) 1)) (gF g7 (ixO 0 (z2g a0 (pF g1 0 (muN a0 1)) a2 (pF g3 0 (muN a2 1)) a4 (pF g5 0 (muN a4 1)) a8) 1)) 0) (k_ (zqa (gF g7 (ixO 0 (z2f a0 (pF g1 0 (muN a0 1)) a2 (pF g3 0 (muN a2 1)) a4 (pF g5 0 (muN a4 1)) a8) 1)) (gF g7 (ixO 0 (z2g a0 (pF g1 0 (muN a0 1)) a2 (pF g3 0 (muN a2 1)) a4 (pF g5 0 (muN a4 1)) a8) 1)) 0)))))))
def z57:Option (Nat):=zc3 a0 g1 a2 g3 a4 g5 a6 g7 a8 (fun c0_=>some c0_)
theorem zx2:Nt1 (fun {R}=>zc3 (R:=R) a0 g1 a2 g3 a4 g5 a6 g7 a8):=by
 intro R R' o h0 k;unfold zc3;repeat (first | apply grd_out h0 | apply br_out | rfl)
def zip:Bool:=(z57 a0 g1 a2 g3 a4 g5 a6 g7 a8).isSome
def z7t:Nat:=((z57 a0 g1 a2 g3 a4 g5 a6 g7 a8).getD default)
def zm5{R:Type}(k_:Nat→Option R):Option R:=(grd (zxd a0 (pF g1 0 (muN a0 1)) a2 (pF g3 0 (muN a2 1)) a4 (pF g5 0 (muN a4 1)) a8) (grd (okIx (zb1 a0 (pF g1 0 (muN a0 1)) a2 (pF g3 0 (muN a2 1)) a4 (pF g5 0 (muN a4 1)) a8) a6) (grd (okIx (zme a0 (pF g1 0 (muN a0 1)) a2 (pF g3 0 (muN a2 1)) a4 (pF g5 0 (muN a4 1)) a8) a6) (grd (okIx (zb1 a0 (pF g1 0 (muN a0 1)) a2 (pF g3 0 (muN a2 1)) a4 (pF g5 0 (muN a4 1)) a8) a6) (k_ (fop .add .f32 (gF g7 (ixO 0 (zb1 a0 (pF g1 0 (muN a0 1)) a2 (pF g3 0 (muN a2 1)) a4 (pF g5 0 (muN a4 1)) a8) 1)) (fop .mul .f32 (zuo a0 (pF g1 0 (muN a0 1)) a2 (pF g3 0 (muN a2 1)) a4 (pF g5 0 (muN a4 1)) a8) (fop .sub .f32 (gF g7 (ixO 0 (zme a0 (pF g1 0 (muN a0 1)) a2 (pF g3 0 (muN a2 1)) a4 (pF g5 0 (muN a4 1)) a8) 1)) (gF g7 (ixO 0 (zb1 a0 (pF g1 0 (muN a0 1)) a2 (pF g3 0 (muN a2 1)) a4 (pF g5 0 (muN a4 1)) a8) 1))))))))))
def z9b:Option (Nat):=zm5 a0 g1 a2 g3 a4 g5 a6 g7 a8 (fun c0_=>some c0_)
theorem y72:Nt1 (fun {R}=>zm5 (R:=R) a0 g1 a2 g3 a4 g5 a6 g7 a8):=by
 intro R R' o h0 k;unfold zm5;repeat (first | apply grd_out h0 | apply br_out | rfl)
def zs1:Bool:=(z9b a0 g1 a2 g3 a4 g5 a6 g7 a8).isSome
def zpm:Nat:=((z9b a0 g1 a2 g3 a4 g5 a6 g7 a8).getD default)
def z9p{R:Type}(q0c:Int)(q0k q0j:Nat)(i:Int)(q1p q0l:Nat)(k_:Nat→Nat→Option R):Option R:=(grd (okIx i a6) (grd (zip a0 (pF g1 0 (muN a0 1)) a2 (pF g3 0 (muN a2 1)) a4 (pF g5 0 (muN a4 1)) a2 (pF g3 0 (muN a2 1)) (fop .sub .f32 (fop .sub .f32 q1p (gF g7 (Nat.succ (Nat.succ (ixO 0 i 3))))) q0l)) (grd (zip a0 (pF g1 0 (muN a0 1)) a2 (pF g3 0 (muN a2 1)) a4 (pF g5 0 (muN a4 1)) a4 (pF g5 0 (muN a4 1)) (fop .sub .f32 (fop .sub .f32 q1p (gF g7 (Nat.succ (Nat.succ (ixO 0 i 3))))) q0l)) (grd (z4j q1p) (grd (z4j (fop .add .f32 q1p 1048576000)) (k_ (fop .add .f32 (fop .mul .f32 (z7t a0 (pF g1 0 (muN a0 1)) a2 (pF g3 0 (muN a2 1)) a4 (pF g5 0 (muN a4 1)) a2 (pF g3 0 (muN a2 1)) (fop .sub .f32 (fop .sub .f32 q1p (gF g7 (Nat.succ (Nat.succ (ixO 0 i 3))))) q0l)) (z1d (fop .add .f32 q1p 1048576000))) (fop .mul .f32 (z7t a0 (pF g1 0 (muN a0 1)) a2 (pF g3 0 (muN a2 1)) a4 (pF g5 0 (muN a4 1)) a4 (pF g5 0 (muN a4 1)) (fop .sub .f32 (fop .sub .f32 q1p (gF g7 (Nat.succ (Nat.succ (ixO 0 i 3))))) q0l)) (z1d q1p))) (fop .sub .f32 (fop .mul .f32 (z7t a0 (pF g1 0 (muN a0 1)) a2 (pF g3 0 (muN a2 1)) a4 (pF g5 0 (muN a4 1)) a2 (pF g3 0 (muN a2 1)) (fop .sub .f32 (fop .sub .f32 q1p (gF g7 (Nat.succ (Nat.succ (ixO 0 i 3))))) q0l)) (z1d q1p)) (fop .mul .f32 (z7t a0 (pF g1 0 (muN a0 1)) a2 (pF g3 0 (muN a2 1)) a4 (pF g5 0 (muN a4 1)) a4 (pF g5 0 (muN a4 1)) (fop .sub .f32 (fop .sub .f32 q1p (gF g7 (Nat.succ (Nat.succ (ixO 0 i 3))))) q0l)) (z1d (fop .add .f32 q1p 1048576000))))))))))
def z28:Option (Nat×Nat):=z9p a0 g1 a2 g3 a4 g5 a6 g7 c8 a9 a10 c11 a12 a13 (fun c0_ c1_=>some (c0_,c1_))
theorem ztr:Nt2 (fun {R}=>z9p (R:=R) a0 g1 a2 g3 a4 g5 a6 g7 c8 a9 a10 c11 a12 a13):=by
 intro R R' o h0 k;unfold z9p;repeat (first | apply grd_out h0 | apply br_out | rfl)
def zfh:Bool:=(z28 a0 g1 a2 g3 a4 g5 a6 g7 c8 a9 a10 c11 a12 a13).isSome
def zei:Nat:=((z28 a0 g1 a2 g3 a4 g5 a6 g7 c8 a9 a10 c11 a12 a13).getD default).1
def zec:Nat:=((z28 a0 g1 a2 g3 a4 g5 a6 g7 c8 a9 a10 c11 a12 a13).getD default).2
def zhc{R:Type}(k_:Nat→Option R):Option R:=(grd (zs1 a0 (pF g1 0 (muN a0 1)) a2 (pF g3 0 (muN a2 1)) a4 (pF g5 0 (muN a4 1)) a2 (pF g3 0 (muN a2 1)) a6) (k_ (zpm a0 (pF g1 0 (muN a0 1)) a2 (pF g3 0 (muN a2 1)) a4 (pF g5 0 (muN a4 1)) a2 (pF g3 0 (muN a2 1)) a6)))
def z7i:Option (Nat):=zhc a0 g1 a2 g3 a4 g5 a6 (fun c0_=>some c0_)
theorem y2b:Nt1 (fun {R}=>zhc (R:=R) a0 g1 a2 g3 a4 g5 a6):=by
 intro R R' o h0 k;unfold zhc;repeat (first | apply grd_out h0 | apply br_out | rfl)
def zwz:Bool:=(z7i a0 g1 a2 g3 a4 g5 a6).isSome
def zm9:Nat:=((z7i a0 g1 a2 g3 a4 g5 a6).getD default)
def zhf{R:Type}(k_:Nat→Option R):Option R:=(grd (zs1 a0 (pF g1 0 (muN a0 1)) a2 (pF g3 0 (muN a2 1)) a4 (pF g5 0 (muN a4 1)) a4 (pF g5 0 (muN a4 1)) a6) (k_ (zpm a0 (pF g1 0 (muN a0 1)) a2 (pF g3 0 (muN a2 1)) a4 (pF g5 0 (muN a4 1)) a4 (pF g5 0 (muN a4 1)) a6)))
def z7f:Option (Nat):=zhf a0 g1 a2 g3 a4 g5 a6 (fun c0_=>some c0_)
theorem y35:Nt1 (fun {R}=>zhf (R:=R) a0 g1 a2 g3 a4 g5 a6):=by
 intro R R' o h0 k;unfold zhf;repeat (first | apply grd_out h0 | apply br_out | rfl)
def zy1:Bool:=(z7f a0 g1 a2 g3 a4 g5 a6).isSome
def zmc:Nat:=((z7f a0 g1 a2 g3 a4 g5 a6).getD default)
def z9n{R:Type}(k_:Nat→Nat→Option R):Option R:=(grd (zfh a0 (pF g1 0 (muN a0 1)) a2 (pF g3 0 (muN a2 1)) a4 (pF g5 0 (muN a4 1)) a6 (pF g7 0 (muN a6 3)) c8 a9 a10 c11 a12 a13) (grd (z4j a12) (grd (z4j (fop .add .f32 a12 1048576000)) (grd (zl0 a0 (pF g1 0 (muN a0 1)) a2 (pF g3 0 (muN a2 1)) a4 (pF g5 0 (muN a4 1)) a6 (pF g7 0 (muN a6 3)) c8 a9 a10 c11) (grd (zl1 a0 (pF g1 0 (muN a0 1)) a2 (pF g3 0 (muN a2 1)) a4 (pF g5 0 (muN a4 1)) a6 (pF g7 0 (muN a6 3)) c8 a9 a10 c11 a12) (k_ (fop .quo .f32 (fop .mul .f32 (zbc a0 (pF g1 0 (muN a0 1)) a2 (pF g3 0 (muN a2 1)) a4 (pF g5 0 (muN a4 1)) a6 (pF g7 0 (muN a6 3)) c8 a9 a10 c11) (zei a0 (pF g1 0 (muN a0 1)) a2 (pF g3 0 (muN a2 1)) a4 (pF g5 0 (muN a4 1)) a6 (pF g7 0 (muN a6 3)) c8 a9 a10 c11 a12 a13)) (fop .mul .f32 (fop .mul .f32 (fop .mul .f32 1082130432 (zbq a0 (pF g1 0 (muN a0 1)) a2 (pF g3 0 (muN a2 1)) a4 (pF g5 0 (muN a4 1)) a6 (pF g7 0 (muN a6 3)) c8 a9 a10 c11 a12)) (z1d a12)) (z1d a12))) (fop .quo .f32 (fop .mul .f32 (zbc a0 (pF g1 0 (muN a0 1)) a2 (pF g3 0 (muN a2 1)) a4 (pF g5 0 (muN a4 1)) a6 (pF g7 0 (muN a6 3)) c8 a9 a10 c11) (zec a0 (pF g1 0 (muN a0 1)) a2 (pF g3 0 (muN a2 1)) a4 (pF g5 0 (muN a4 1)) a6 (pF g7 0 (muN a6 3)) c8 a9 a10 c11 a12 a13)) (fop .mul .f32 (fop .mul .f32 (fop .mul .f32 1082130432 (zbq a0 (pF g1 0 (muN a0 1)) a2 (pF g3 0 (muN a2 1)) a4 (pF g5 0 (muN a4 1)) a6 (pF g7 0 (muN a6 3)) c8 a9 a10 c11 a12)) (z1d a12)) (z1d (fop .add .f32 a12 1048576000))))))))))
def z2y:Option (Nat×Nat):=z9n a0 g1 a2 g3 a4 g5 a6 g7 c8 a9 a10 c11 a12 a13 (fun c0_ c1_=>some (c0_,c1_))
theorem zua:Nt2 (fun {R}=>z9n (R:=R) a0 g1 a2 g3 a4 g5 a6 g7 c8 a9 a10 c11 a12 a13):=by
 intro R R' o h0 k;unfold z9n;repeat (first | apply grd_out h0 | apply br_out | rfl)
def zfe:Bool:=(z2y a0 g1 a2 g3 a4 g5 a6 g7 c8 a9 a10 c11 a12 a13).isSome
def ze1:Nat:=((z2y a0 g1 a2 g3 a4 g5 a6 g7 c8 a9 a10 c11 a12 a13).getD default).1
def zeg:Nat:=((z2y a0 g1 a2 g3 a4 g5 a6 g7 c8 a9 a10 c11 a12 a13).getD default).2
def zel{R:Type}(q0c:Int)(q0k q0j:Nat)(i:Int)(q1p q0l:Nat)(k_:Nat→Nat→Option R):Option R:=(grd (okIx i a6) (grd (zwz a0 (pF g1 0 (muN a0 1)) a2 (pF g3 0 (muN a2 1)) a4 (pF g5 0 (muN a4 1)) (fop .sub .f32 (fop .sub .f32 q1p (gF g7 (Nat.succ (Nat.succ (ixO 0 i 3))))) q0l)) (grd (zy1 a0 (pF g1 0 (muN a0 1)) a2 (pF g3 0 (muN a2 1)) a4 (pF g5 0 (muN a4 1)) (fop .sub .f32 (fop .sub .f32 q1p (gF g7 (Nat.succ (Nat.succ (ixO 0 i 3))))) q0l)) (grd (z7b q1p) (grd (z7b (fop .add .f32 q1p 1048576000)) (k_ (fop .add .f32 (fop .mul .f32 (zm9 a0 (pF g1 0 (muN a0 1)) a2 (pF g3 0 (muN a2 1)) a4 (pF g5 0 (muN a4 1)) (fop .sub .f32 (fop .sub .f32 q1p (gF g7 (Nat.succ (Nat.succ (ixO 0 i 3))))) q0l)) (z1b (fop .add .f32 q1p 1048576000))) (fop .mul .f32 (zmc a0 (pF g1 0 (muN a0 1)) a2 (pF g3 0 (muN a2 1)) a4 (pF g5 0 (muN a4 1)) (fop .sub .f32 (fop .sub .f32 q1p (gF g7 (Nat.succ (Nat.succ (ixO 0 i 3))))) q0l)) (z1b q1p))) (fop .sub .f32 (fop .mul .f32 (zm9 a0 (pF g1 0 (muN a0 1)) a2 (pF g3 0 (muN a2 1)) a4 (pF g5 0 (muN a4 1)) (fop .sub .f32 (fop .sub .f32 q1p (gF g7 (Nat.succ (Nat.succ (ixO 0 i 3))))) q0l)) (z1b q1p)) (fop .mul .f32 (zmc a0 (pF g1 0 (muN a0 1)) a2 (pF g3 0 (muN a2 1)) a4 (pF g5 0 (muN a4 1)) (fop .sub .f32 (fop .sub .f32 q1p (gF g7 (Nat.succ (Nat.succ (ixO 0 i 3))))) q0l)) (z1b (fop .add .f32 q1p 1048576000))))))))))
def z4g:Option (Nat×Nat):=zel a0 g1 a2 g3 a4 g5 a6 g7 c8 a9 a10 c11 a12 a13 (fun c0_ c1_=>some (c0_,c1_))
theorem zzt:Nt2 (fun {R}=>zel (R:=R) a0 g1 a2 g3 a4 g5 a6 g7 c8 a9 a10 c11 a12 a13):=by
 intro R R' o h0 k;unfold zel;repeat (first | apply grd_out h0 | apply br_out | rfl)
def zti:Bool:=(z4g a0 g1 a2 g3 a4 g5 a6 g7 c8 a9 a10 c11 a12 a13).isSome
def zhz:Nat:=((z4g a0 g1 a2 g3 a4 g5 a6 g7 c8 a9 a10 c11 a12 a13).getD default).1
def zhr:Nat:=((z4g a0 g1 a2 g3 a4 g5 a6 g7 c8 a9 a10 c11 a12 a13).getD default).2
def z22{R:Type}(kn_:Nat→Int→Option R)(k0_:Unit→Option R)(k1_:Nat→Int→Bool→Option R):Option R:=(br (ltI c5 c1) (grd (okIx c5 a0) (br (fcmp .gtr .f32 (gF g2 (ixO 0 c5 3)) a4) (br (bnot (fcmp .lss .f32 (gF g2 (ixO 0 c5 3)) a3)) (k0_ ()) (grd (z7s 1 (pF [(gF g2 (Nat.succ (ixO 0 c5 3)))] 0 (muN 1 1))) (br (bnot (z73 1 (pF [(gF g2 (Nat.succ (ixO 0 c5 3)))] 0 (muN 1 1)))) (k0_ ()) (grd (z2h (gF g2 (Nat.succ (Nat.succ (ixO 0 c5 3))))) (br (bnot (z27 (gF g2 (Nat.succ (Nat.succ (ixO 0 c5 3)))))) (k0_ ()) (kn_ (gF g2 (ixO 0 c5 3)) (addI .i64 c5 1))))))) (br (bnot Bool.false) (k0_ ()) (grd (z7s 1 (pF [(gF g2 (Nat.succ (ixO 0 c5 3)))] 0 (muN 1 1))) (br (bnot (z73 1 (pF [(gF g2 (Nat.succ (ixO 0 c5 3)))] 0 (muN 1 1)))) (k0_ ()) (grd (z2h (gF g2 (Nat.succ (Nat.succ (ixO 0 c5 3))))) (br (bnot (z27 (gF g2 (Nat.succ (Nat.succ (ixO 0 c5 3)))))) (k0_ ()) (kn_ (gF g2 (ixO 0 c5 3)) (addI .i64 c5 1))))))))) (k1_ a4 c5 (ltI c5 c1)))
theorem ztl{R R':Type}(o:Option R→Option R')(h0:o none=none)(kn_:Nat→Int→Option R)(k0_:Unit→Option R)(k1_:Nat→Int→Bool→Option R):z22 a0 c1 g2 a3 a4 c5 (fun t4' t45'=>o (kn_ t4' t45')) (fun _=>o (k0_ ())) (fun c0_ c1_ c2_=>o (k1_ c0_ c1_ c2_))=o (z22 a0 c1 g2 a3 a4 c5 kn_ k0_ k1_):=by
 unfold z22
 repeat (first | apply grd_out h0 | apply br_out | rfl)
def z0f(q2w:Nat)(t44:Int)(b3:List Nat)(q18:Nat):Nat→Nat→Int→Option ((Unit)⊕(Nat×Int×Bool))
 | 0,_,_=>none
 | n+1,t4,t45=>z22 q2w t44 b3 q18  t4 t45  (fun t4' t45'=>z0f q2w t44 b3 q18 n t4' t45') (fun _=>some (Sum.inl ())) (fun c0_ c1_ c2_=>some (Sum.inr (c0_,c1_,c2_)))
theorem zg3:z0f a0 c1 g2 a3 (a4+1) a5 c6=z22 a0 c1 g2 a3  a5 c6  (fun t4' t45'=>z0f a0 c1 g2 a3 a4 t4' t45') (fun _=>some (Sum.inl ())) (fun c0_ c1_ c2_=>some (Sum.inr (c0_,c1_,c2_))):=rfl
def z8x:Bool:=(z0f a0 c1 g2 a3 big a4 c5).isSome
def z81:Bool:=oL (z0f a0 c1 g2 a3 big a4 c5)
def ztz:Nat:=((tR (z0f a0 c1 g2 a3 big a4 c5)).getD default).1
def zud:Int:=((tR (z0f a0 c1 g2 a3 big a4 c5)).getD default).2.1
def zu6:Bool:=((tR (z0f a0 c1 g2 a3 big a4 c5)).getD default).2.2
def zcb{R:Type}(k_:Bool→Option R):Option R:=(grd (znl a0 (pF g1 0 (muN a0 1)) a2 (pF g3 0 (muN a2 1)) a4 (pF g5 0 (muN a4 1))) (br (bnot (zm6 a0 (pF g1 0 (muN a0 1)) a2 (pF g3 0 (muN a2 1)) a4 (pF g5 0 (muN a4 1)))) (k_ Bool.false) (grd (z8b c8 1 6) (br (bnot (z3u c8 1 6)) (k_ Bool.false) (br (ltI (Int.ofNat a6) 2) (k_ Bool.false) (br (ltI 12 (Int.ofNat a6)) (k_ Bool.false) (grd (znz a9) (br (bnot (zlb a9)) (k_ Bool.false) (grd (z2h a10) (br (bnot (z27 a10)) (k_ Bool.false) (grd (z8x a6 (Int.ofNat a6) g7 a10 a9 0) (br (z81 a6 (Int.ofNat a6) g7 a10 a9 0) (k_ Bool.false) (k_ Bool.true)))))))))))))
def z56:Option (Bool):=zcb a0 g1 a2 g3 a4 g5 a6 g7 c8 a9 a10 (fun c0_=>some c0_)
theorem zxt:Nt1 (fun {R}=>zcb (R:=R) a0 g1 a2 g3 a4 g5 a6 g7 c8 a9 a10):=by
 intro R R' o h0 k;unfold zcb;repeat (first | apply grd_out h0 | apply br_out | rfl)
def zca:Bool:=(z56 a0 g1 a2 g3 a4 g5 a6 g7 c8 a9 a10).isSome
def z7r:Bool:=((z56 a0 g1 a2 g3 a4 g5 a6 g7 c8 a9 a10).getD default)
def zh5{R:Type}(k_:Nat→Nat→Nat→Nat→Option R):Option R:=(grd (zti a0 (pF g1 0 (muN a0 1)) a2 (pF g3 0 (muN a2 1)) a4 (pF g5 0 (muN a4 1)) a6 (pF g7 0 (muN a6 3)) c8 a9 a10 c11 a12 a13) (grd (z7b a12) (grd (z7b (fop .add .f32 a12 1048576000)) (grd (y06 a0 (pF g1 0 (muN a0 1)) a2 (pF g3 0 (muN a2 1)) a4 (pF g5 0 (muN a4 1)) a6 (pF g7 0 (muN a6 3)) c8 a9 a10 c11 (z1b a12)) (grd (zp2 a0 (pF g1 0 (muN a0 1)) a2 (pF g3 0 (muN a2 1)) a4 (pF g5 0 (muN a4 1)) a6 (pF g7 0 (muN a6 3)) c8 a9 a10 c11) (k_ (fop .quo .f32 (fop .mul .f32 (zfb a0 (pF g1 0 (muN a0 1)) a2 (pF g3 0 (muN a2 1)) a4 (pF g5 0 (muN a4 1)) a6 (pF g7 0 (muN a6 3)) c8 a9 a10 c11) (zhz a0 (pF g1 0 (muN a0 1)) a2 (pF g3 0 (muN a2 1)) a4 (pF g5 0 (muN a4 1)) a6 (pF g7 0 (muN a6 3)) c8 a9 a10 c11 a12 a13)) (fop .mul .f32 (fop .mul .f32 (fop .mul .f32 1082130432 (znq a0 (pF g1 0 (muN a0 1)) a2 (pF g3 0 (muN a2 1)) a4 (pF g5 0 (muN a4 1)) a6 (pF g7 0 (muN a6 3)) c8 a9 a10 c11 (z1b a12))) (z1b a12)) (z1b a12))) (fop .quo .f32 (fop .mul .f32 (zfb a0 (pF g1 0 (muN a0 1)) a2 (pF g3 0 (muN a2 1)) a4 (pF g5 0 (muN a4 1)) a6 (pF g7 0 (muN a6 3)) c8 a9 a10 c11) (zhr a0 (pF g1 0 (muN a0 1)) a2 (pF g3 0 (muN a2 1)) a4 (pF g5 0 (muN a4 1)) a6 (pF g7 0 (muN a6 3)) c8 a9 a10 c11 a12 a13)) (fop .mul .f32 (fop .mul .f32 (fop .mul .f32 1082130432 (znq a0 (pF g1 0 (muN a0 1)) a2 (pF g3 0 (muN a2 1)) a4 (pF g5 0 (muN a4 1)) a6 (pF g7 0 (muN a6 3)) c8 a9 a10 c11 (z1b a12))) (z1b a12)) (z1b (fop .add .f32 a12 1048576000)))) (zhz a0 (pF g1 0 (muN a0 1)) a2 (pF g3 0 (muN a2 1)) a4 (pF g5 0 (muN a4 1)) a6 (pF g7 0 (muN a6 3)) c8 a9 a10 c11 a12 a13) (zhr a0 (pF g1 0 (muN a0 1)) a2 (pF g3 0 (muN a2 1)) a4 (pF g5 0 (muN a4 1)) a6 (pF g7 0 (muN a6 3)) c8 a9 a10 c11 a12 a13)))))))
def z3v:Option (Nat×Nat×Nat×Nat):=zh5 a0 g1 a2 g3 a4 g5 a6 g7 c8 a9 a10 c11 a12 a13 (fun c0_ c1_ c2_ c3_=>some (c0_,c1_,c2_,c3_))
theorem y2u:Nt4 (fun {R}=>zh5 (R:=R) a0 g1 a2 g3 a4 g5 a6 g7 c8 a9 a10 c11 a12 a13):=by
 intro R R' o h0 k;unfold zh5;repeat (first | apply grd_out h0 | apply br_out | rfl)
def zo4:Bool:=(z3v a0 g1 a2 g3 a4 g5 a6 g7 c8 a9 a10 c11 a12 a13).isSome
def zmf:Nat:=((z3v a0 g1 a2 g3 a4 g5 a6 g7 c8 a9 a10 c11 a12 a13).getD default).1
def zlm:Nat:=((z3v a0 g1 a2 g3 a4 g5 a6 g7 c8 a9 a10 c11 a12 a13).getD default).2.1
def zus:Nat:=((z3v a0 g1 a2 g3 a4 g5 a6 g7 c8 a9 a10 c11 a12 a13).getD default).2.2.1
def zv1:Nat:=((z3v a0 g1 a2 g3 a4 g5 a6 g7 c8 a9 a10 c11 a12 a13).getD default).2.2.2
def z8w{R:Type}(k_:Nat→Option R):Option R:=(grd (zfe a0 (pF g1 0 (muN a0 1)) a2 (pF g3 0 (muN a2 1)) a4 (pF g5 0 (muN a4 1)) a6 (pF g7 0 (muN a6 3)) c8 a9 a10 c11 a12 a15) (grd (z4j a12) (grd (z4j (fop .add .f32 a12 1048576000)) (grd (okIx c11 a6) (k_ (fop .sub .f32 (fop .mul .f32 (z1d a12) (fop .add .f32 1065353216 (ze1 a0 (pF g1 0 (muN a0 1)) a2 (pF g3 0 (muN a2 1)) a4 (pF g5 0 (muN a4 1)) a6 (pF g7 0 (muN a6 3)) c8 a9 a10 c11 a12 a15))) (fop .mul .f32 (fop .mul .f32 (fop .quo .f32 a13 (fop .mul .f32 a14 (gF g7 (ixO 0 c11 3)))) (z1d (fop .add .f32 a12 1048576000))) (fop .sub .f32 1065353216 (zeg a0 (pF g1 0 (muN a0 1)) a2 (pF g3 0 (muN a2 1)) a4 (pF g5 0 (muN a4 1)) a6 (pF g7 0 (muN a6 3)) c8 a9 a10 c11 a12 a15)))))))))
def z2l:Option (Nat):=z8w a0 g1 a2 g3 a4 g5 a6 g7 c8 a9 a10 c11 a12 a13 a14 a15 (fun c0_=>some c0_)
theorem zto:Nt1 (fun {R}=>z8w (R:=R) a0 g1 a2 g3 a4 g5 a6 g7 c8 a9 a10 c11 a12 a13 a14 a15):=by
 intro R R' o h0 k;unfold z8w;repeat (first | apply grd_out h0 | apply br_out | rfl)
def zmv:Bool:=(z2l a0 g1 a2 g3 a4 g5 a6 g7 c8 a9 a10 c11 a12 a13 a14 a15).isSome
def z7w:Nat:=((z2l a0 g1 a2 g3 a4 g5 a6 g7 c8 a9 a10 c11 a12 a13 a14 a15).getD default)
def zh3{R:Type}(k_:Bool→Option R):Option R:=(grd (zca a0 (pF g1 0 (muN a0 1)) a2 (pF g3 0 (muN a2 1)) a4 (pF g5 0 (muN a4 1)) a6 (pF g7 0 (muN a6 3)) c8 a9 a10) (br (z7r a0 (pF g1 0 (muN a0 1)) a2 (pF g3 0 (muN a2 1)) a4 (pF g5 0 (muN a4 1)) a6 (pF g7 0 (muN a6 3)) c8 a9 a10) (grd (zit a0 (pF g1 0 (muN a0 1)) a2 (pF g3 0 (muN a2 1)) a4 (pF g5 0 (muN a4 1)) a6 (pF g7 0 (muN a6 3)) c8 a9 a10 c11) (br (zhl a0 (pF g1 0 (muN a0 1)) a2 (pF g3 0 (muN a2 1)) a4 (pF g5 0 (muN a4 1)) a6 (pF g7 0 (muN a6 3)) c8 a9 a10 c11) (grd (z7s 2 (pF [a12,a13] 0 (muN 2 1))) (br (z73 2 (pF [a12,a13] 0 (muN 2 1))) (grd (z2h a14) (br (z27 a14) (grd (okIx c11 a6) (grd (z2h (fop .sub .f32 (fop .sub .f32 981668463 (gF g7 (Nat.succ (Nat.succ (ixO 0 c11 3))))) a14)) (k_ (z27 (fop .sub .f32 (fop .sub .f32 981668463 (gF g7 (Nat.succ (Nat.succ (ixO 0 c11 3))))) a14))))) (k_ Bool.false))) (k_ Bool.false))) (k_ Bool.false))) (k_ Bool.false)))
def z7e:Option (Bool):=zh3 a0 g1 a2 g3 a4 g5 a6 g7 c8 a9 a10 c11 a12 a13 a14 (fun c0_=>some c0_)
theorem y3c:Nt1 (fun {R}=>zh3 (R:=R) a0 g1 a2 g3 a4 g5 a6 g7 c8 a9 a10 c11 a12 a13 a14):=by
 intro R R' o h0 k;unfold zh3;repeat (first | apply grd_out h0 | apply br_out | rfl)
def zns:Bool:=(z7e a0 g1 a2 g3 a4 g5 a6 g7 c8 a9 a10 c11 a12 a13 a14).isSome
def zlr:Bool:=((z7e a0 g1 a2 g3 a4 g5 a6 g7 c8 a9 a10 c11 a12 a13 a14).getD default)
def zbx{R:Type}(k_:Nat→Option R):Option R:=(grd (zo4 a0 (pF g1 0 (muN a0 1)) a2 (pF g3 0 (muN a2 1)) a4 (pF g5 0 (muN a4 1)) a6 (pF g7 0 (muN a6 3)) c8 a9 a10 c11 a12 a15) (grd (z7b a12) (grd (z7b (fop .add .f32 a12 1048576000)) (grd (okIx c11 a6) (k_ (fop .sub .f32 (fop .mul .f32 (z1b a12) (fop .add .f32 1065353216 (zmf a0 (pF g1 0 (muN a0 1)) a2 (pF g3 0 (muN a2 1)) a4 (pF g5 0 (muN a4 1)) a6 (pF g7 0 (muN a6 3)) c8 a9 a10 c11 a12 a15))) (fop .mul .f32 (fop .mul .f32 (fop .quo .f32 a13 (fop .mul .f32 a14 (gF g7 (ixO 0 c11 3)))) (z1b (fop .add .f32 a12 1048576000))) (fop .sub .f32 1065353216 (zlm a0 (pF g1 0 (muN a0 1)) a2 (pF g3 0 (muN a2 1)) a4 (pF g5 0 (muN a4 1)) a6 (pF g7 0 (muN a6 3)) c8 a9 a10 c11 a12 a15)))))))))
def z30:Option (Nat):=zbx a0 g1 a2 g3 a4 g5 a6 g7 c8 a9 a10 c11 a12 a13 a14 a15 (fun c0_=>some c0_)
theorem zxn:Nt1 (fun {R}=>zbx (R:=R) a0 g1 a2 g3 a4 g5 a6 g7 c8 a9 a10 c11 a12 a13 a14 a15):=by
 intro R R' o h0 k;unfold zbx;repeat (first | apply grd_out h0 | apply br_out | rfl)
def zqd:Bool:=(z30 a0 g1 a2 g3 a4 g5 a6 g7 c8 a9 a10 c11 a12 a13 a14 a15).isSome
def zal:Nat:=((z30 a0 g1 a2 g3 a4 g5 a6 g7 c8 a9 a10 c11 a12 a13 a14 a15).getD default)
def zez{R:Type}(k_:Nat→Bool→Option R):Option R:=(grd (zns a0 (pF g1 0 (muN a0 1)) a2 (pF g3 0 (muN a2 1)) a4 (pF g5 0 (muN a4 1)) a6 (pF g7 0 (muN a6 3)) c8 a9 a10 c11 a13 a14 a15) (br (bnot (zlr a0 (pF g1 0 (muN a0 1)) a2 (pF g3 0 (muN a2 1)) a4 (pF g5 0 (muN a4 1)) a6 (pF g7 0 (muN a6 3)) c8 a9 a10 c11 a13 a14 a15)) (k_ 0 Bool.false) (grd (y0g a12) (br (bnot (zwt a12)) (k_ 0 Bool.false) (grd (zmv a0 (pF g1 0 (muN a0 1)) a2 (pF g3 0 (muN a2 1)) a4 (pF g5 0 (muN a4 1)) a6 (pF g7 0 (muN a6 3)) c8 a9 a10 c11 a12 a13 a14 a15) (grd (zoj (z7w a0 (pF g1 0 (muN a0 1)) a2 (pF g3 0 (muN a2 1)) a4 (pF g5 0 (muN a4 1)) a6 (pF g7 0 (muN a6 3)) c8 a9 a10 c11 a12 a13 a14 a15)) (k_ (zmd (z7w a0 (pF g1 0 (muN a0 1)) a2 (pF g3 0 (muN a2 1)) a4 (pF g5 0 (muN a4 1)) a6 (pF g7 0 (muN a6 3)) c8 a9 a10 c11 a12 a13 a14 a15)) (zlp (z7w a0 (pF g1 0 (muN a0 1)) a2 (pF g3 0 (muN a2 1)) a4 (pF g5 0 (muN a4 1)) a6 (pF g7 0 (muN a6 3)) c8 a9 a10 c11 a12 a13 a14 a15)))))))))
def z4h:Option (Nat×Bool):=zez a0 g1 a2 g3 a4 g5 a6 g7 c8 a9 a10 c11 a12 a13 a14 a15 (fun c0_ c1_=>some (c0_,c1_))
theorem zza:Nt2 (fun {R}=>zez (R:=R) a0 g1 a2 g3 a4 g5 a6 g7 c8 a9 a10 c11 a12 a13 a14 a15):=by
 intro R R' o h0 k;unfold zez;repeat (first | apply grd_out h0 | apply br_out | rfl)
def zsd:Bool:=(z4h a0 g1 a2 g3 a4 g5 a6 g7 c8 a9 a10 c11 a12 a13 a14 a15).isSome
def zqk:Nat:=((z4h a0 g1 a2 g3 a4 g5 a6 g7 c8 a9 a10 c11 a12 a13 a14 a15).getD default).1
def zqr:Bool:=((z4h a0 g1 a2 g3 a4 g5 a6 g7 c8 a9 a10 c11 a12 a13 a14 a15).getD default).2
end
section
variable {a0:Nat} {c0:Int} {a1:Nat} {c1:Int} {e1:Bool} {g1:List Nat} {m1:List Bool} {a2:Nat} {c2:Int} {e2:Bool} {g2:List Nat} {a3:Nat} {c3:Int} {e3:Bool} {g3:List Nat} {m3:List Bool} {a4:Nat} {c4:Int} {e4:Bool} {g4:List Nat} {a5:Nat} {c5:Int} {g5:List Nat} {a6:Nat} {c6:Int} {e6:Bool} {a7:Nat} {c7:Int} {g7:List Nat} {a8:Nat} {c8:Int} {a9:Nat} {g9:List Nat} {a10:Nat} {a11:Nat} {c11:Int} {e11:Bool} {g11:List Nat} {a12:Nat} {c12:Int} {e12:Bool} {g12:List Nat} {a13:Nat} {e13:Bool} {a14:Nat} {g14:List Nat} {a15:Nat} {e15:Bool} {a16:Nat} {g16:List Nat} {a17:Nat} {g18:List Nat} {c19:Int} {a20:Nat} {a21:Nat} {e22:Bool}
theorem of1{α1:Type} [Inhabited (α1)] {x:Option (α1)} {r:α1} (h:x=some r):x.isSome=true∧(x.getD default)=r:=by
 subst h;exact⟨rfl,rfl⟩
theorem ol1{β α1:Type} [Inhabited (α1)] {x:Option ((α1)⊕β)} {r:α1} (h:x=some (.inl r)):x.isSome=true∧oL x=true∧((tL x).getD default)=r:=by
 subst h;exact⟨rfl,rfl,rfl⟩
theorem of2{α1 α2:Type} [Inhabited (α1×α2)] {x:Option (α1×α2)} {r:α1×α2} (h:x=some r):x.isSome=true∧(x.getD default).1=r.1∧(x.getD default).2=r.2:=by
 subst h;exact⟨rfl,rfl,rfl⟩
theorem or2{β α1 α2:Type} [Inhabited (α1×α2)] {x:Option (β⊕(α1×α2))} {r:α1×α2} (h:x=some (.inr r)):x.isSome=true∧oL x=false∧((tR x).getD default).1=r.1∧((tR x).getD default).2=r.2:=by
 subst h;exact⟨rfl,rfl,rfl,rfl⟩
theorem of3{α1 α2 α3:Type} [Inhabited (α1×α2×α3)] {x:Option (α1×α2×α3)} {r:α1×α2×α3} (h:x=some r):x.isSome=true∧(x.getD default).1=r.1∧(x.getD default).2.1=r.2.1∧(x.getD default).2.2=r.2.2:=by
 subst h;exact⟨rfl,rfl,rfl,rfl⟩
theorem or3{β α1 α2 α3:Type} [Inhabited (α1×α2×α3)] {x:Option (β⊕(α1×α2×α3))} {r:α1×α2×α3} (h:x=some (.inr r)):x.isSome=true∧oL x=false∧((tR x).getD default).1=r.1∧((tR x).getD default).2.1=r.2.1∧((tR x).getD default).2.2=r.2.2:=by
 subst h;exact⟨rfl,rfl,rfl,rfl,rfl⟩
theorem of4{α1 α2 α3 α4:Type} [Inhabited (α1×α2×α3×α4)] {x:Option (α1×α2×α3×α4)} {r:α1×α2×α3×α4} (h:x=some r):x.isSome=true∧(x.getD default).1=r.1∧(x.getD default).2.1=r.2.1∧(x.getD default).2.2.1=r.2.2.1∧(x.getD default).2.2.2=r.2.2.2:=by
 subst h;exact⟨rfl,rfl,rfl,rfl,rfl⟩
theorem or4{β α1 α2 α3 α4:Type} [Inhabited (α1×α2×α3×α4)] {x:Option (β⊕(α1×α2×α3×α4))} {r:α1×α2×α3×α4} (h:x=some (.inr r)):x.isSome=true∧oL x=false∧((tR x).getD default).1=r.1∧((tR x).getD default).2.1=r.2.1∧((tR x).getD default).2.2.1=r.2.2.1∧((tR x).getD default).2.2.2=r.2.2.2:=by
 subst h;exact⟨rfl,rfl,rfl,rfl,rfl,rfl⟩
theorem of5{α1 α2 α3 α4 α5:Type} [Inhabited (α1×α2×α3×α4×α5)] {x:Option (α1×α2×α3×α4×α5)} {r:α1×α2×α3×α4×α5} (h:x=some r):x.isSome=true∧(x.getD default).1=r.1∧(x.getD default).2.1=r.2.1∧(x.getD default).2.2.1=r.2.2.1∧(x.getD default).2.2.2.1=r.2.2.2.1∧(x.getD default).2.2.2.2=r.2.2.2.2:=by
 subst h;exact⟨rfl,rfl,rfl,rfl,rfl,rfl⟩
theorem of6{α1 α2 α3 α4 α5 α6:Type} [Inhabited (α1×α2×α3×α4×α5×α6)] {x:Option (α1×α2×α3×α4×α5×α6)} {r:α1×α2×α3×α4×α5×α6} (h:x=some r):x.isSome=true∧(x.getD default).1=r.1∧(x.getD default).2.1=r.2.1∧(x.getD default).2.2.1=r.2.2.1∧(x.getD default).2.2.2.1=r.2.2.2.1∧(x.getD default).2.2.2.2.1=r.2.2.2.2.1∧(x.getD default).2.2.2.2.2=r.2.2.2.2.2:=by
 subst h;exact⟨rfl,rfl,rfl,rfl,rfl,rfl,rfl⟩
theorem or6{β α1 α2 α3 α4 α5 α6:Type} [Inhabited (α1×α2×α3×α4×α5×α6)] {x:Option (β⊕(α1×α2×α3×α4×α5×α6))} {r:α1×α2×α3×α4×α5×α6} (h:x=some (.inr r)):x.isSome=true∧oL x=false∧((tR x).getD default).1=r.1∧((tR x).getD default).2.1=r.2.1∧((tR x).getD default).2.2.1=r.2.2.1∧((tR x).getD default).2.2.2.1=r.2.2.2.1∧((tR x).getD default).2.2.2.2.1=r.2.2.2.2.1∧((tR x).getD default).2.2.2.2.2=r.2.2.2.2.2:=by
 subst h;exact⟨rfl,rfl,rfl,rfl,rfl,rfl,rfl,rfl⟩
theorem of8{α1 α2 α3 α4 α5 α6 α7 α8:Type} [Inhabited (α1×α2×α3×α4×α5×α6×α7×α8)] {x:Option (α1×α2×α3×α4×α5×α6×α7×α8)} {r:α1×α2×α3×α4×α5×α6×α7×α8} (h:x=some r):x.isSome=true∧(x.getD default).1=r.1∧(x.getD default).2.1=r.2.1∧(x.getD default).2.2.1=r.2.2.1∧(x.getD default).2.2.2.1=r.2.2.2.1∧(x.getD default).2.2.2.2.1=r.2.2.2.2.1∧(x.getD default).2.2.2.2.2.1=r.2.2.2.2.2.1∧(x.getD default).2.2.2.2.2.2.1=r.2.2.2.2.2.2.1∧(x.getD default).2.2.2.2.2.2.2=r.2.2.2.2.2.2.2:=by
 subst h;exact⟨rfl,rfl,rfl,rfl,rfl,rfl,rfl,rfl,rfl⟩
theorem ol0{α β:Type} {x:Option (α⊕β)} {r:α} (h:x=some (.inl r)):x.isSome=true∧oL x=true:=by
 subst h;exact⟨rfl,rfl⟩
theorem z58(h:z5r a0 a1=some e2):z4f a0 a1=true∧z3x a0 a1=e2:=of1 h
theorem zos(h:z8c c0 c1 c2=some e3):z8b c0 c1 c2=true∧z3u c0 c1 c2=e3:=of1 h
theorem z3l(h:z7u a0=some e1):z2h a0=true∧z27 a0=e1:=of1 h
theorem y07(h:z9a c0 c1 c2=some e3):zs0 c0 c1 c2=true∧zpu c0 c1 c2=e3:=of1 h
theorem y2t(h:z53 a0 g1 c2=some c3):zr0 a0 g1 c2=true∧zgn a0 g1 c2=c3:=of1 h
theorem z1e(h:z7k a0=some e1):z0y a0=true∧z0r a0=e1:=of1 h
theorem zgq(h:z50 a0 g1 c2=some c3):zc4 a0 g1 c2=true∧z15 a0 g1 c2=c3:=of1 h
theorem ztn(h:z6n a0 a1 a2=some e3):zlq a0 a1 a2=true∧zjk a0 a1 a2=e3:=of1 h
theorem zw1(h:z3b a0 g1 a2 g3 a4 g5 a6 g7 c8 a9 a10 c11=some a12):zl0 a0 g1 a2 g3 a4 g5 a6 g7 c8 a9 a10 c11=true∧zbc a0 g1 a2 g3 a4 g5 a6 g7 c8 a9 a10 c11=a12:=of1 h
theorem ya9(h:z8f a0 g1 a2 g3 a4 g5 a6 g7 c8 a9 a10 c11 a12=some a13):y06 a0 g1 a2 g3 a4 g5 a6 g7 c8 a9 a10 c11 a12=true∧znq a0 g1 a2 g3 a4 g5 a6 g7 c8 a9 a10 c11 a12=a13:=of1 h
theorem y1t(h:z4i a0 g1 a2 g3 a4 g5 a6 g7 c8 a9 a10 c11=some a12):zp2 a0 g1 a2 g3 a4 g5 a6 g7 c8 a9 a10 c11=true∧zfb a0 g1 a2 g3 a4 g5 a6 g7 c8 a9 a10 c11=a12:=of1 h
theorem y5z(h:ze5=some a0):zy8=true∧zoz=a0:=of1 h
theorem yav(h:zcm a0 a1 a2=some a3):zsc a0 a1 a2=true∧zqa a0 a1 a2=a3:=of1 h
theorem zqv(h:z5p a0=some a1):zjd a0=true∧zce a0=a1:=of1 h
theorem ybs(h:ze2 a0=some a1):y84 a0=true∧y60 a0=a1:=of1 h
theorem zum{r:Nat×Bool}(h:z6a a0=some r):zoj a0=true∧zmd a0=r.1∧zlp a0=r.2:=of2 h
theorem y5o(h:z5w a0 g1 a2 g3 a4 g5 c6=some c7):zt5 a0 g1 a2 g3 a4 g5 c6=true∧z8i a0 g1 a2 g3 a4 g5 c6=c7:=of1 h
theorem y59{r:Nat×Bool}(h:z4l a0=some r):zru a0=true∧zqm a0=r.1∧zqh a0=r.2:=of2 h
theorem zdz(h:z6i a0=some e1):zas a0=true∧z9e a0=e1:=of1 h
theorem zv0(h:z78 a0=some e1):znz a0=true∧zlb a0=e1:=of1 h
theorem zx8(h:z3k a0=some e1):zmw a0=true∧zl2 a0=e1:=of1 h
theorem y5e(h:z60 a0 a1 a2 a3 a4 a5=some e6):zrw a0 a1 a2 a3 a4 a5=true∧zqu a0 a1 a2 a3 a4 a5=e6:=of1 h
theorem zry(h:z6j a0=some e1):z86 a0=true∧z7a a0=e1:=of1 h
theorem y6g(h:z6l a0 g1 a2 g3 a4 g5 a6 g7 c8 a9 a10 c11 a12=some e13):zup a0 g1 a2 g3 a4 g5 a6 g7 c8 a9 a10 c11 a12=true∧zso a0 g1 a2 g3 a4 g5 a6 g7 c8 a9 a10 c11 a12=e13:=of1 h
theorem ya5{r:Nat×Nat×Bool}(h:z5m a0 a1=some r):zpo a0 a1=true∧zh0 a0 a1=r.1∧zh9 a0 a1=r.2.1∧zh1 a0 a1=r.2.2:=of3 h
theorem y1r(h:z4d a0=some e1):zp0 a0=true∧znd a0=e1:=of1 h
theorem zug(h:z2q a0 g1 a2 g3 a4 g5 a6 g7 c8 a9 a10 c11=some e12):zit a0 g1 a2 g3 a4 g5 a6 g7 c8 a9 a10 c11=true∧zhl a0 g1 a2 g3 a4 g5 a6 g7 c8 a9 a10 c11=e12:=of1 h
theorem y8x(h:z8e a0=some e1):y0g a0=true∧zwt a0=e1:=of1 h
theorem ya2(h:z8d a0=some e1):y0i a0=true∧zxq a0=e1:=of1 h
theorem zw7 {r:Int×Bool×(List Nat)} (hm:a5=big) (h:z14 a0 a1 g2 a5 c3 g4=some r):ze6 a0 a1 g2 c3 g4=true∧zue a0 a1 g2 c3 g4=r.1∧ztt a0 a1 g2 c3 g4=r.2.1∧zaa a0 a1 g2 c3 g4=r.2.2:=by
 subst hm;exact of3 h
theorem zrj{r:Nat×Int×Bool}(hm:a6=big)(h:z0d a0 g1 g2 a3 a6 a4 c5=some r):zhi a0 g1 g2 a3 a4 c5=true∧zf7 a0 g1 g2 a3 a4 c5=r.1∧zpz a0 g1 g2 a3 a4 c5=r.2.1∧zpl a0 g1 g2 a3 a4 c5=r.2.2:=by
 subst hm;exact of3 h
theorem y2k{r:Nat×Int×Bool}(hm:a6=big)(h:z0x a0 g1 a2 g3 a6 a4 c5=some r):zrv a0 g1 a2 g3 a4 c5=true∧zno a0 g1 a2 g3 a4 c5=r.1∧y1l a0 g1 a2 g3 a4 c5=r.2.1∧y17 a0 g1 a2 g3 a4 c5=r.2.2:=by
 subst hm;exact of3 h
theorem zmu(hm:a5=big) (h:z04 a0 e1 c2 m3 a5 c4=some (Sum.inl c6)):z7g a0 e1 c2 m3 c4=true∧z6x a0 e1 c2 m3 c4=true∧z9z a0 e1 c2 m3 c4=c6:=by
 subst hm;exact ol1 h
theorem zlf{r:Int×Bool}(hm:a5=big) (h:z04 a0 e1 c2 m3 a5 c4=some (Sum.inr r)):z7g a0 e1 c2 m3 c4=true∧z6x a0 e1 c2 m3 c4=false∧zl5 a0 e1 c2 m3 c4=r.1∧zl9 a0 e1 c2 m3 c4=r.2:=by
 subst hm;exact or2 h
theorem y86(h:z7l a0 g1 a2 g3 a4 g5 a6 g7 c8 a9 a10 c11=some c12):zo5 a0 g1 a2 g3 a4 g5 a6 g7 c8 a9 a10 c11=true∧zls a0 g1 a2 g3 a4 g5 a6 g7 c8 a9 a10 c11=c12:=of1 h
theorem zgy {r:Nat×(List Nat)} (h:z3z a0 g1=some r):zc1 a0 g1=true∧zaz a0 g1=r.1∧zar a0 g1=r.2:=of2 h
theorem zwm(h:z3m a0 g1 a2 g3 a4 g5 a6 g7 c8 a9 a10 a11 g12=some a13):zmt a0 g1 a2 g3 a4 g5 a6 g7 c8 a9 a10 a11 g12=true∧z82 a0 g1 a2 g3 a4 g5 a6 g7 c8 a9 a10 a11 g12=a13:=of1 h
theorem ya6(h:z8g a0 g1 a2 g3 a4 g5 a6 g7 c8 a9 a10 a11 g12=some a13):y0a a0 g1 a2 g3 a4 g5 a6 g7 c8 a9 a10 a11 g12=true∧zhe a0 g1 a2 g3 a4 g5 a6 g7 c8 a9 a10 a11 g12=a13:=of1 h
theorem zq2(h:z1z a0 m1 e2=some c3):zfz a0 m1 e2=true∧zf4 a0 m1 e2=c3:=of1 h
theorem y2g(h:z4z a0=some e1):zr6 a0=true∧zp4 a0=e1:=of1 h
theorem yaz(h:z9i a0=some a1):y2a a0=true∧zf8 a0=a1:=of1 h
theorem zvo{r:Int×Bool}(hm:a5=big) (h:z12 a0 a1 g2 g3 a5 c4=some (Sum.inr r)):zmm a0 a1 g2 g3 c4=true∧zks a0 a1 g2 g3 c4=false∧zu0 a0 a1 g2 g3 c4=r.1∧zuc a0 a1 g2 g3 c4=r.2:=by
 subst hm;exact or2 h
theorem zv3 {r:Int×Bool×(List Nat)} (hm:a5=big) (h:z0m a0 a1 g2 a5 c3 g4=some r):ze9 a0 a1 g2 c3 g4=true∧zuk a0 a1 g2 c3 g4=r.1∧ztv a0 a1 g2 c3 g4=r.2.1∧za6 a0 a1 g2 c3 g4=r.2.2:=by
 subst hm;exact of3 h
theorem zsw{r:Nat×Int×Bool}(hm:a3=big)(h:z0j a0 a3 a1 c2=some r):z17 a0 a1 c2=true∧z07 a0 a1 c2=r.1∧zre a0 a1 c2=r.2.1∧zrd a0 a1 c2=r.2.2:=by
 subst hm;exact of3 h
theorem zgd(h:z51 a0 g1 a2 g3=some e4):zc0 a0 g1 a2 g3=true∧zah a0 g1 a2 g3=e4:=of1 h
theorem zn7(h:z1c a0 m1 e2=some e3):z4p a0 m1 e2=true∧z4a a0 m1 e2=e3:=of1 h
theorem y45 {r:Nat×Nat×Nat×(List Nat)×(List Nat)×(List Nat)} (h:z1s a0 g1 a2 g3 a4 g5=some r):zsh a0 g1 a2 g3 a4 g5=true∧zqq a0 g1 a2 g3 a4 g5=r.1∧zql a0 g1 a2 g3 a4 g5=r.2.1∧zqg a0 g1 a2 g3 a4 g5=r.2.2.1∧zqo a0 g1 a2 g3 a4 g5=r.2.2.2.1∧zqf a0 g1 a2 g3 a4 g5=r.2.2.2.2.1∧zqw a0 g1 a2 g3 a4 g5=r.2.2.2.2.2:=of6 h
theorem y3i {r:Nat×(List Nat)} (h:z3y a0 g1=some r):zr4 a0 g1=true∧zpd a0 g1=r.1∧zp6 a0 g1=r.2:=of2 h
theorem y12(h:z23 a0=some a1):zp1 a0=true∧zfs a0=a1:=of1 h
theorem y27(h:z59 a0=some a1):zqn a0=true∧z08 a0=a1:=of1 h
theorem zw9{r:Int×Bool}(hm:a5=big) (h:z11 a0 a1 g2 g3 a5 c4=some (Sum.inr r)):zer a0 a1 g2 g3 c4=true∧zd1 a0 a1 g2 g3 c4=false∧ztw a0 a1 g2 g3 c4=r.1∧zu2 a0 a1 g2 g3 c4=r.2:=by
 subst hm;exact or2 h
theorem y5s{r:Unit}(hm:a8=big) (h:z1r c0 g1 g2 g3 a4 a5 a6 a8 c7=some (Sum.inl r)):zaj c0 g1 g2 g3 a4 a5 a6 c7=true∧z9j c0 g1 g2 g3 a4 a5 a6 c7=true:=by
 subst hm;exact ol0 h
theorem y5r{r:Int×Bool}(hm:a8=big) (h:z1r c0 g1 g2 g3 a4 a5 a6 a8 c7=some (Sum.inr r)):zaj c0 g1 g2 g3 a4 a5 a6 c7=true∧z9j c0 g1 g2 g3 a4 a5 a6 c7=false∧y2l c0 g1 g2 g3 a4 a5 a6 c7=r.1∧y29 c0 g1 g2 g3 a4 a5 a6 c7=r.2:=by
 subst hm;exact or2 h
theorem za2(hm:a4=big) (h:z01 a0 c1 g2 a4 c3=some (Sum.inl c5)):z2r a0 c1 g2 c3=true∧z2k a0 c1 g2 c3=true∧z4o a0 c1 g2 c3=c5:=by
 subst hm;exact ol1 h
theorem za3{r:Int×Bool}(hm:a4=big) (h:z01 a0 c1 g2 a4 c3=some (Sum.inr r)):z2r a0 c1 g2 c3=true∧z2k a0 c1 g2 c3=false∧z9u a0 c1 g2 c3=r.1∧z9s a0 c1 g2 c3=r.2:=by
 subst hm;exact or2 h
theorem zbp(hm:a4=big) (h:z02 a0 c1 g2 a4 c3=some (Sum.inl c5)):z32 a0 c1 g2 c3=true∧z2w a0 c1 g2 c3=true∧z5f a0 c1 g2 c3=c5:=by
 subst hm;exact ol1 h
theorem zbg{r:Int×Bool}(hm:a4=big) (h:z02 a0 c1 g2 a4 c3=some (Sum.inr r)):z32 a0 c1 g2 c3=true∧z2w a0 c1 g2 c3=false∧zan a0 c1 g2 c3=r.1∧zav a0 c1 g2 c3=r.2:=by
 subst hm;exact or2 h
theorem y7x {r:Nat×Nat×Nat×Nat×(List Nat)×(List Nat)×(List Nat)×(List Nat)} (h:z1o a0 g1 a2 g3 a4 g5 a6 g7 c8 a9 a10=some r):zoe a0 g1 a2 g3 a4 g5 a6 g7 c8 a9 a10=true∧zmo a0 g1 a2 g3 a4 g5 a6 g7 c8 a9 a10=r.1∧zmx a0 g1 a2 g3 a4 g5 a6 g7 c8 a9 a10=r.2.1∧zlx a0 g1 a2 g3 a4 g5 a6 g7 c8 a9 a10=r.2.2.1∧zml a0 g1 a2 g3 a4 g5 a6 g7 c8 a9 a10=r.2.2.2.1∧zlt a0 g1 a2 g3 a4 g5 a6 g7 c8 a9 a10=r.2.2.2.2.1∧zmq a0 g1 a2 g3 a4 g5 a6 g7 c8 a9 a10=r.2.2.2.2.2.1∧zlj a0 g1 a2 g3 a4 g5 a6 g7 c8 a9 a10=r.2.2.2.2.2.2.1∧zms a0 g1 a2 g3 a4 g5 a6 g7 c8 a9 a10=r.2.2.2.2.2.2.2:=of8 h
theorem y5k(h:z5x a0 g1 a2 g3 a4 g5 a6 g7 a8 g9 a10 g11=some e12):zsa a0 g1 a2 g3 a4 g5 a6 g7 a8 g9 a10 g11=true∧zr1 a0 g1 a2 g3 a4 g5 a6 g7 a8 g9 a10 g11=e12:=of1 h
theorem y3q(h:z55 a0 g1 a2 g3=some e4):zqi a0 g1 a2 g3=true∧zp8 a0 g1 a2 g3=e4:=of1 h
theorem yax(h:z9k a0 g1 a2 g3 a4 g5=some e6):y3t a0 g1 a2 g3 a4 g5=true∧y03 a0 g1 a2 g3 a4 g5=e6:=of1 h
theorem zdc(h:z0l a0 g1=some c2):z6g a0 g1=true∧z61 a0 g1=c2:=of1 h
theorem zek(h:z0o a0 g1=some c2):z6u a0 g1=true∧z6m a0 g1=c2:=of1 h
theorem z80(h:z62 a0=some a1):z7b a0=true∧z1b a0=a1:=of1 h
theorem zbv(hm:a4=big) (h:z03 a0 c1 g2 a4 c3=some (Sum.inl c5)):z3i a0 c1 g2 c3=true∧z38 a0 c1 g2 c3=true∧z5j a0 c1 g2 c3=c5:=by
 subst hm;exact ol1 h
theorem zbu{r:Int×Bool}(hm:a4=big) (h:z03 a0 c1 g2 a4 c3=some (Sum.inr r)):z3i a0 c1 g2 c3=true∧z38 a0 c1 g2 c3=false∧zb3 a0 c1 g2 c3=r.1∧zb9 a0 c1 g2 c3=r.2:=by
 subst hm;exact or2 h
theorem y8g(h:z7j a0 g1 a2 g3 a4 g5 a6 g7 c8 a9 a10 a11 g12 a13 g14 a15 g16 a17 g18 c19 a20 a21=some e22):zop a0 g1 a2 g3 a4 g5 a6 g7 c8 a9 a10 a11 g12 a13 g14 a15 g16 a17 g18 c19 a20 a21=true∧zmh a0 g1 a2 g3 a4 g5 a6 g7 c8 a9 a10 a11 g12 a13 g14 a15 g16 a17 g18 c19 a20 a21=e22:=of1 h
theorem zf6(h:z0q a0 g1=some c2):z76 a0 g1=true∧z6w a0 g1=c2:=of1 h
theorem y08(h:z9h a0=some a1):zs3 a0=true∧z8h a0=a1:=of1 h
theorem y6d{r:Nat×Nat×Bool}(hm:a3=big)(h:z1q a0 a3 a1 a2=some r):z96 a0 a1 a2=true∧z6p a0 a1 a2=r.1∧y4n a0 a1 a2=r.2.1∧y46 a0 a1 a2=r.2.2:=by
 subst hm;exact of3 h
theorem zag(h:z0g a0 g1=some e2):z5l a0 g1=true∧z5a a0 g1=e2:=of1 h
theorem zbt(h:z0i a0 g1=some e2):z69 a0 g1=true∧z5n a0 g1=e2:=of1 h
theorem zd6(h:z0k a0 g1=some e2):z6h a0 g1=true∧z65 a0 g1=e2:=of1 h
theorem ybc(h:zb8 a0=some a1):y61 a0=true∧zsy a0=a1:=of1 h
theorem y48(h:z5s a0=some a1):zt7 a0=true∧z0w a0=a1:=of1 h
theorem y8j(h:z7h a0=some a1):zwa a0=true∧z45 a0=a1:=of1 h
theorem y4h{r:Unit}(hm:a6=big) (h:z0z c0 g1 a2 a3 a6 a4 c5=some (Sum.inl r)):zg0 c0 g1 a2 a3 a4 c5=true∧zet c0 g1 a2 a3 a4 c5=true:=by
 subst hm;exact ol0 h
theorem y5w{r:Nat×Int×Bool}(hm:a6=big) (h:z0z c0 g1 a2 a3 a6 a4 c5=some (Sum.inr r)):zg0 c0 g1 a2 a3 a4 c5=true∧zet c0 g1 a2 a3 a4 c5=false∧y3a c0 g1 a2 a3 a4 c5=r.1∧y3h c0 g1 a2 a3 a4 c5=r.2.1∧y2v c0 g1 a2 a3 a4 c5=r.2.2:=by
 subst hm;exact or3 h
theorem zfg(h:z1m a0 g1=some e2):z7s a0 g1=true∧z73 a0 g1=e2:=of1 h
theorem y0c(h:z98 a0 g1 a2 g3 a4 g5 a6 g7 c8 a9 a10=some e11):zt2 a0 g1 a2 g3 a4 g5 a6 g7 c8 a9 a10=true∧zpv a0 g1 a2 g3 a4 g5 a6 g7 c8 a9 a10=e11:=of1 h
theorem zqx(h:z4m a0 g1=some e2):zjn a0 g1=true∧zhv a0 g1=e2:=of1 h
theorem y7n(h:z6o a0 g1=some e2):zuu a0 g1=true∧zsj a0 g1=e2:=of1 h
theorem z6s(h:z5y a0=some a1):z4j a0=true∧z1d a0=a1:=of1 h
theorem y33{r:Nat×Nat×Bool}(h:z31 a0 a1=some r):zi1 a0 a1=true∧zgu a0 a1=r.1∧zgk a0 a1=r.2.1∧zgt a0 a1=r.2.2:=of3 h
theorem y34(h:z54 a0 g1 a2 g3 a4 g5 a6 g7 c8 a9 a10 c11=some e12):zr2 a0 g1 a2 g3 a4 g5 a6 g7 c8 a9 a10 c11=true∧zpc a0 g1 a2 g3 a4 g5 a6 g7 c8 a9 a10 c11=e12:=of1 h
theorem zvl(h:z34 a0 g1 a2 g3 a4 g5 a6 g7 c8 a9 a10 c11 a12=some a13):zl1 a0 g1 a2 g3 a4 g5 a6 g7 c8 a9 a10 c11 a12=true∧zbq a0 g1 a2 g3 a4 g5 a6 g7 c8 a9 a10 c11 a12=a13:=of1 h
theorem z9y(hm:a5=big) (h:z00 a0 c1 g2 a3 a5 c4=some (Sum.inl c6)):z2i a0 c1 g2 a3 c4=true∧z2c a0 c1 g2 a3 c4=true∧z06 a0 c1 g2 a3 c4=c6:=by
 subst hm;exact ol1 h
theorem z9v{r:Int×Bool}(hm:a5=big) (h:z00 a0 c1 g2 a3 a5 c4=some (Sum.inr r)):z2i a0 c1 g2 a3 c4=true∧z2c a0 c1 g2 a3 c4=false∧z97 a0 c1 g2 a3 c4=r.1∧z99 a0 c1 g2 a3 c4=r.2:=by
 subst hm;exact or2 h
theorem znm{r:Int×Bool}(hm:a4=big)(h:z1f a0 g1 a2 a4 c3=some r):zqj a0 g1 a2 c3=true∧zma a0 g1 a2 c3=r.1∧zz5 a0 g1 a2 c3=r.2:=by
 subst hm;exact of2 h
theorem y9u(h:z8a a0 g1 a2 g3 a4 g5 a6 g7 c8 a9 a10 c11 a12 a13 a14=some e15):y05 a0 g1 a2 g3 a4 g5 a6 g7 c8 a9 a10 c11 a12 a13 a14=true∧zx7 a0 g1 a2 g3 a4 g5 a6 g7 c8 a9 a10 c11 a12 a13 a14=e15:=of1 h
theorem ztu{r:Int×Int×Nat×Nat×Nat}(h:z0t a0 g1 a2 g3 a4 g5 a6=some r):ziy a0 g1 a2 g3 a4 g5 a6=true∧z2f a0 g1 a2 g3 a4 g5 a6=r.1∧z2g a0 g1 a2 g3 a4 g5 a6=r.2.1∧z3j a0 g1 a2 g3 a4 g5 a6=r.2.2.1∧z70 a0 g1 a2 g3 a4 g5 a6=r.2.2.2.1∧za5 a0 g1 a2 g3 a4 g5 a6=r.2.2.2.2:=of5 h
theorem y8c{r:Int×Int×Nat×Nat}(h:z36 a0 g1 a2 g3 a4 g5 a6=some r):zxd a0 g1 a2 g3 a4 g5 a6=true∧zb1 a0 g1 a2 g3 a4 g5 a6=r.1∧zme a0 g1 a2 g3 a4 g5 a6=r.2.1∧zuo a0 g1 a2 g3 a4 g5 a6=r.2.2.1∧y8f a0 g1 a2 g3 a4 g5 a6=r.2.2.2:=of4 h
theorem zst{r:Unit}(hm:a5=big) (h:z0p a0 c1 g2 a3 a5 c4=some (Sum.inl r)):z7m a0 c1 g2 a3 c4=true∧z71 a0 c1 g2 a3 c4=true:=by
 subst hm;exact ol0 h
theorem zs6{r:Int×Bool}(hm:a5=big) (h:z0p a0 c1 g2 a3 a5 c4=some (Sum.inr r)):z7m a0 c1 g2 a3 c4=true∧z71 a0 c1 g2 a3 c4=false∧zrg a0 c1 g2 a3 c4=r.1∧zrf a0 c1 g2 a3 c4=r.2:=by
 subst hm;exact or2 h
theorem zzl(h:z43 a0 g1 a2 g3 a4 g5=some e6):znl a0 g1 a2 g3 a4 g5=true∧zm6 a0 g1 a2 g3 a4 g5=e6:=of1 h
theorem zp5(h:z57 a0 g1 a2 g3 a4 g5 a6 g7 a8=some a9):zip a0 g1 a2 g3 a4 g5 a6 g7 a8=true∧z7t a0 g1 a2 g3 a4 g5 a6 g7 a8=a9:=of1 h
theorem y0b(h:z9b a0 g1 a2 g3 a4 g5 a6 g7 a8=some a9):zs1 a0 g1 a2 g3 a4 g5 a6 g7 a8=true∧zpm a0 g1 a2 g3 a4 g5 a6 g7 a8=a9:=of1 h
theorem zm7{r:Nat×Nat}(h:z28 a0 g1 a2 g3 a4 g5 a6 g7 c8 a9 a10 c11 a12 a13=some r):zfh a0 g1 a2 g3 a4 g5 a6 g7 c8 a9 a10 c11 a12 a13=true∧zei a0 g1 a2 g3 a4 g5 a6 g7 c8 a9 a10 c11 a12 a13=r.1∧zec a0 g1 a2 g3 a4 g5 a6 g7 c8 a9 a10 c11 a12 a13=r.2:=of2 h
theorem y8s(h:z7i a0 g1 a2 g3 a4 g5 a6=some a7):zwz a0 g1 a2 g3 a4 g5 a6=true∧zm9 a0 g1 a2 g3 a4 g5 a6=a7:=of1 h
theorem y8d(h:z7f a0 g1 a2 g3 a4 g5 a6=some a7):zy1 a0 g1 a2 g3 a4 g5 a6=true∧zmc a0 g1 a2 g3 a4 g5 a6=a7:=of1 h
theorem zn3{r:Nat×Nat}(h:z2y a0 g1 a2 g3 a4 g5 a6 g7 c8 a9 a10 c11 a12 a13=some r):zfe a0 g1 a2 g3 a4 g5 a6 g7 c8 a9 a10 c11 a12 a13=true∧ze1 a0 g1 a2 g3 a4 g5 a6 g7 c8 a9 a10 c11 a12 a13=r.1∧zeg a0 g1 a2 g3 a4 g5 a6 g7 c8 a9 a10 c11 a12 a13=r.2:=of2 h
theorem y5i{r:Nat×Nat}(h:z4g a0 g1 a2 g3 a4 g5 a6 g7 c8 a9 a10 c11 a12 a13=some r):zti a0 g1 a2 g3 a4 g5 a6 g7 c8 a9 a10 c11 a12 a13=true∧zhz a0 g1 a2 g3 a4 g5 a6 g7 c8 a9 a10 c11 a12 a13=r.1∧zhr a0 g1 a2 g3 a4 g5 a6 g7 c8 a9 a10 c11 a12 a13=r.2:=of2 h
theorem zw6{r:Unit}(hm:a6=big) (h:z0f a0 c1 g2 a3 a6 a4 c5=some (Sum.inl r)):z8x a0 c1 g2 a3 a4 c5=true∧z81 a0 c1 g2 a3 a4 c5=true:=by
 subst hm;exact ol0 h
theorem zvy{r:Nat×Int×Bool}(hm:a6=big) (h:z0f a0 c1 g2 a3 a6 a4 c5=some (Sum.inr r)):z8x a0 c1 g2 a3 a4 c5=true∧z81 a0 c1 g2 a3 a4 c5=false∧ztz a0 c1 g2 a3 a4 c5=r.1∧zud a0 c1 g2 a3 a4 c5=r.2.1∧zu6 a0 c1 g2 a3 a4 c5=r.2.2:=by
 subst hm;exact or3 h
theorem zpe(h:z56 a0 g1 a2 g3 a4 g5 a6 g7 c8 a9 a10=some e11):zca a0 g1 a2 g3 a4 g5 a6 g7 c8 a9 a10=true∧z7r a0 g1 a2 g3 a4 g5 a6 g7 c8 a9 a10=e11:=of1 h
theorem zuv{r:Nat×Nat×Nat×Nat}(h:z3v a0 g1 a2 g3 a4 g5 a6 g7 c8 a9 a10 c11 a12 a13=some r):zo4 a0 g1 a2 g3 a4 g5 a6 g7 c8 a9 a10 c11 a12 a13=true∧zmf a0 g1 a2 g3 a4 g5 a6 g7 c8 a9 a10 c11 a12 a13=r.1∧zlm a0 g1 a2 g3 a4 g5 a6 g7 c8 a9 a10 c11 a12 a13=r.2.1∧zus a0 g1 a2 g3 a4 g5 a6 g7 c8 a9 a10 c11 a12 a13=r.2.2.1∧zv1 a0 g1 a2 g3 a4 g5 a6 g7 c8 a9 a10 c11 a12 a13=r.2.2.2:=of4 h
theorem zwq(h:z2l a0 g1 a2 g3 a4 g5 a6 g7 c8 a9 a10 c11 a12 a13 a14 a15=some a16):zmv a0 g1 a2 g3 a4 g5 a6 g7 c8 a9 a10 c11 a12 a13 a14 a15=true∧z7w a0 g1 a2 g3 a4 g5 a6 g7 c8 a9 a10 c11 a12 a13 a14 a15=a16:=of1 h
theorem zur(h:z7e a0 g1 a2 g3 a4 g5 a6 g7 c8 a9 a10 c11 a12 a13 a14=some e15):zns a0 g1 a2 g3 a4 g5 a6 g7 c8 a9 a10 c11 a12 a13 a14=true∧zlr a0 g1 a2 g3 a4 g5 a6 g7 c8 a9 a10 c11 a12 a13 a14=e15:=of1 h
theorem y2q(h:z30 a0 g1 a2 g3 a4 g5 a6 g7 c8 a9 a10 c11 a12 a13 a14 a15=some a16):zqd a0 g1 a2 g3 a4 g5 a6 g7 c8 a9 a10 c11 a12 a13 a14 a15=true∧zal a0 g1 a2 g3 a4 g5 a6 g7 c8 a9 a10 c11 a12 a13 a14 a15=a16:=of1 h
theorem y5v{r:Nat×Bool}(h:z4h a0 g1 a2 g3 a4 g5 a6 g7 c8 a9 a10 c11 a12 a13 a14 a15=some r):zsd a0 g1 a2 g3 a4 g5 a6 g7 c8 a9 a10 c11 a12 a13 a14 a15=true∧zqk a0 g1 a2 g3 a4 g5 a6 g7 c8 a9 a10 c11 a12 a13 a14 a15=r.1∧zqr a0 g1 a2 g3 a4 g5 a6 g7 c8 a9 a10 c11 a12 a13 a14 a15=r.2:=of2 h
end
end Go.Rf
