import Derived.Test.YtijjhfailnmeoaaGreatB
set_option linter.unusedVariables false
set_option linter.unusedSimpArgs false
set_option linter.unusedSectionVars false
set_option maxRecDepth 100000
set_option maxHeartbeats 4000000
namespace Go.Rf
open Go
noncomputable section
variable (a0:Nat) (c0:Int) (g0:List Nat) (a1:Nat) (c1:Int) (e1:Bool) (g1:List Nat) (m1:List Bool) (a2:Nat) (c2:Int) (e2:Bool) (g2:List Nat) (a3:Nat) (c3:Int) (g3:List Nat) (m3:List Bool) (a4:Nat) (c4:Int) (g4:List Nat) (a5:Nat) (c5:Int) (g5:List Nat) (a6:Nat) (c6:Int) (a7:Nat) (c7:Int) (g7:List Nat) (a8:Nat) (c8:Int) (a9:Nat) (g9:List Nat) (a10:Nat) (a11:Nat) (c11:Int) (g11:List Nat) (a12:Nat) (g12:List Nat) (a13:Nat) (a14:Nat) (g14:List Nat) (a15:Nat) (g16:List Nat) (a17:Nat) (g18:List Nat) (c19:Int) (a20:Nat) (a21:Nat)
abbrev Nt1{A1:Type} (T:{R:Type}→(A1→Option R)→Option R):Prop:=∀ {R R':Type} (o:Option R→Option R'),o none=none→∀ k:A1→Option R,T (fun c1=>o (k c1))=o (T k)
abbrev Nt2{A1 A2:Type} (T:{R:Type}→(A1→A2→Option R)→Option R):Prop:=∀ {R R':Type} (o:Option R→Option R'),o none=none→∀ k:A1→A2→Option R,T (fun c1 c2=>o (k c1 c2))=o (T k)
abbrev Nt3{A1 A2 A3:Type} (T:{R:Type}→(A1→A2→A3→Option R)→Option R):Prop:=∀ {R R':Type} (o:Option R→Option R'),o none=none→∀ k:A1→A2→A3→Option R,T (fun c1 c2 c3=>o (k c1 c2 c3))=o (T k)
abbrev Nt4{A1 A2 A3 A4:Type} (T:{R:Type}→(A1→A2→A3→A4→Option R)→Option R):Prop:=∀ {R R':Type} (o:Option R→Option R'),o none=none→∀ k:A1→A2→A3→A4→Option R,T (fun c1 c2 c3 c4=>o (k c1 c2 c3 c4))=o (T k)
abbrev Nt5{A1 A2 A3 A4 A5:Type} (T:{R:Type}→(A1→A2→A3→A4→A5→Option R)→Option R):Prop:=∀ {R R':Type} (o:Option R→Option R'),o none=none→∀ k:A1→A2→A3→A4→A5→Option R,T (fun c1 c2 c3 c4 c5=>o (k c1 c2 c3 c4 c5))=o (T k)
abbrev Nt6{A1 A2 A3 A4 A5 A6:Type} (T:{R:Type}→(A1→A2→A3→A4→A5→A6→Option R)→Option R):Prop:=∀ {R R':Type} (o:Option R→Option R'),o none=none→∀ k:A1→A2→A3→A4→A5→A6→Option R,T (fun c1 c2 c3 c4 c5 c6=>o (k c1 c2 c3 c4 c5 c6))=o (T k)
abbrev Nt8{A1 A2 A3 A4 A5 A6 A7 A8:Type} (T:{R:Type}→(A1→A2→A3→A4→A5→A6→A7→A8→Option R)→Option R):Prop:=∀ {R R':Type} (o:Option R→Option R'),o none=none→∀ k:A1→A2→A3→A4→A5→A6→A7→A8→Option R,T (fun c1 c2 c3 c4 c5 c6 c7 c8=>o (k c1 c2 c3 c4 c5 c6 c7 c8))=o (T k)
def zf5{R:Type}(k_:Bool→Option R):Option R:=(br (fcmp .neq .f64 a0 a0) (br (fcmp .neq .f64 a0 a0) (k_ (fcmp .neq .f64 a1 a1)) (k_ Bool.false)) (br (fcmp .neq .f64 a1 a1) (br (fcmp .neq .f64 a0 a0) (k_ (fcmp .neq .f64 a1 a1)) (k_ Bool.false)) (br (fcmp .eql .f64 a0 0) (br (fcmp .eql .f64 a1 0) (k_ (beqB (fcmp .gtr .f64 (fop .quo .f64 4607182418800017408 a0) 0) (fcmp .gtr .f64 (fop .quo .f64 4607182418800017408 a1) 0))) (k_ (fcmp .eql .f64 a0 a1))) (k_ (fcmp .eql .f64 a0 a1)))))
def z65:Option (Bool):=zf5 a0 a1 (fun c0_=>some c0_)
theorem y1k:Nt1 (fun {R}=>zf5 (R:=R) a0 a1):=by
 intro R R' o h0 k;unfold zf5;repeat (first | apply grd_out h0 | apply br_out | rfl)
def z4n:Bool:=(z65 a0 a1).isSome
def z48:Bool:=((z65 a0 a1).getD default)
def zk9{R:Type}(k_:Bool→Option R):Option R:=(br (leI c1 c0) (k_ (leI c0 c2)) (k_ Bool.false))
def z94:Option (Bool):=zk9 c0 c1 c2 (fun c0_=>some c0_)
theorem y8s:Nt1 (fun {R}=>zk9 (R:=R) c0 c1 c2):=by
 intro R R' o h0 k;unfold zk9;repeat (first | apply grd_out h0 | apply br_out | rfl)
def z91:Bool:=(z94 c0 c1 c2).isSome
def z45:Bool:=((z94 c0 c1 c2).getD default)
def znj{R:Type}(k_:Bool→Option R):Option R:=(k_ (fcmp .eql .f32 (fop .sub .f32 a0 a0) 0))
def z8n:Option (Bool):=znj a0 (fun c0_=>some c0_)
theorem y4q:Nt1 (fun {R}=>znj (R:=R) a0):=by
 intro R R' o h0 k;unfold znj;repeat (first | apply grd_out h0 | apply br_out | rfl)
def z2p:Bool:=(z8n a0).isSome
def z2c:Bool:=((z8n a0).getD default)
def zom{R:Type}(k_:Bool→Option R):Option R:=(br (leI c1 c0) (k_ (leI c0 c2)) (k_ Bool.false))
def zab:Option (Bool):=zom c0 c1 c2 (fun c0_=>some c0_)
theorem yaj:Nt1 (fun {R}=>zom (R:=R) c0 c1 c2):=by
 intro R R' o h0 k;unfold zom;repeat (first | apply grd_out h0 | apply br_out | rfl)
def zty:Bool:=(zab c0 c1 c2).isSome
def zs4:Bool:=((zab c0 c1 c2).getD default)
def zcw{R:Type}(a:List Nat)(q2j:Int)(k_:Int→Option R):Option R:=(br (ltI (subI .i64 q2j (Int.ofNat a0)) 0) (k_ (Int.negSucc 0)) (k_ (subI .i64 q2j (Int.ofNat a0))))
def z5d:Option (Int):=zcw a0 g1 c2 (fun c0_=>some c0_)
theorem zyy:Nt1 (fun {R}=>zcw (R:=R) a0 g1 c2):=by
 intro R R' o h0 k;unfold zcw;repeat (first | apply grd_out h0 | apply br_out | rfl)
def zsb:Bool:=(z5d a0 g1 c2).isSome
def zho:Int:=((z5d a0 g1 c2).getD default)
def zkx{R:Type}(k_:Bool→Option R):Option R:=(k_ (fcmp .eql .f32 (fop .sub .f32 a0 a0) 0))
def z80:Option (Bool):=zkx a0 (fun c0_=>some c0_)
theorem y1t:Nt1 (fun {R}=>zkx (R:=R) a0):=by
 intro R R' o h0 k;unfold zkx;repeat (first | apply grd_out h0 | apply br_out | rfl)
def z12:Bool:=(z80 a0).isSome
def z0v:Bool:=((z80 a0).getD default)
def zdc{R:Type}(a:List Nat)(q2j:Int)(k_:Int→Option R):Option R:=(br (ltI (subI .i64 q2j (Int.ofNat a0)) 0) (k_ (Int.negSucc 0)) (k_ (subI .i64 q2j (Int.ofNat a0))))
def z5b:Option (Int):=zdc a0 g1 c2 (fun c0_=>some c0_)
theorem zz4:Nt1 (fun {R}=>zdc (R:=R) a0 g1 c2):=by
 intro R R' o h0 k;unfold zdc;repeat (first | apply grd_out h0 | apply br_out | rfl)
def zcv:Bool:=(z5b a0 g1 c2).isSome
def z1b:Int:=((z5b a0 g1 c2).getD default)
def zlm{R:Type}(q2p q2s q2t:Nat)(k_:Unit→Option R):Option R:=(k_ ())
def zlf:Option (Unit):=zlm a0 a1 a2 (fun _=>some ())
theorem y0o:Nt1 (fun {R}=>zlm (R:=R) a0 a1 a2):=by
 intro R R' o h0 k;unfold zlm;repeat (first | apply grd_out h0 | apply br_out | rfl)
def zu7:Bool:=(zlf a0 a1 a2).isSome
def zh5{R:Type}(k_:Bool→Option R):Option R:=(br (fcmp .geq .f32 a0 a1) (k_ (fcmp .leq .f32 a0 a2)) (k_ Bool.false))
def z6w:Option (Bool):=zh5 a0 a1 a2 (fun c0_=>some c0_)
theorem y4g:Nt1 (fun {R}=>zh5 (R:=R) a0 a1 a2):=by
 intro R R' o h0 k;unfold zh5;repeat (first | apply grd_out h0 | apply br_out | rfl)
def zo5:Bool:=(z6w a0 a1 a2).isSome
def zlx:Bool:=((z6w a0 a1 a2).getD default)
def z8x{R:Type}(q00:Nat)(q03:List Nat)(q01:Nat)(q05:List Nat)(q02:Nat)(q04:List Nat)(q06:Nat)(q0b:List Nat)(q0g:Int)(q0o q0n:Nat)(i:Int)(k_:Nat→Option R):Option R:=(grd (okIx i q06) (grd (okIx i q06) (k_ (fop .quo .f32 (fop .mul .f32 (fOI .f32 q0g) (gF q0b (Nat.succ (ixO 0 i 3)))) (fop .mul .f32 1086918619 (gF q0b (ixO 0 i 3)))))))
def z3g:Option (Nat):=z8x a0 g1 a2 g3 a4 g5 a6 g7 c8 a9 a10 c11 (fun c0_=>some c0_)
theorem zta:Nt1 (fun {R}=>z8x (R:=R) a0 g1 a2 g3 a4 g5 a6 g7 c8 a9 a10 c11):=by
 intro R R' o h0 k;unfold z8x;repeat (first | apply grd_out h0 | apply br_out | rfl)
def zme:Bool:=(z3g a0 g1 a2 g3 a4 g5 a6 g7 c8 a9 a10 c11).isSome
def zbz:Nat:=((z3g a0 g1 a2 g3 a4 g5 a6 g7 c8 a9 a10 c11).getD default)
def zkb{R:Type}(q00:Nat)(q03:List Nat)(q01:Nat)(q05:List Nat)(q02:Nat)(q04:List Nat)(q06:Nat)(q0b:List Nat)(q0g:Int)(q0o q0n:Nat)(i:Int)(q3g:Nat)(k_:Nat→Option R):Option R:=(grd (okIx i q06) (k_ (fop .quo .f32 (fop .quo .f32 (fop .mul .f32 (fOI .f32 q0g) (fop .sub .f32 q0n (gF q0b (ixO 0 i 3)))) (fop .mul .f32 1073741824 (gF q0b (ixO 0 i 3)))) (fop .add .f32 (fop .quo .f32 (fop .mul .f32 (fOI .f32 q0g) (fop .sub .f32 q0n (gF q0b (ixO 0 i 3)))) (fop .mul .f32 1073741824 (gF q0b (ixO 0 i 3)))) q3g))))
def z96:Option (Nat):=zkb a0 g1 a2 g3 a4 g5 a6 g7 c8 a9 a10 c11 a12 (fun c0_=>some c0_)
theorem y8l:Nt1 (fun {R}=>zkb (R:=R) a0 g1 a2 g3 a4 g5 a6 g7 c8 a9 a10 c11 a12):=by
 intro R R' o h0 k;unfold zkb;repeat (first | apply grd_out h0 | apply br_out | rfl)
def y2m:Bool:=(z96 a0 g1 a2 g3 a4 g5 a6 g7 c8 a9 a10 c11 a12).isSome
def zpj:Nat:=((z96 a0 g1 a2 g3 a4 g5 a6 g7 c8 a9 a10 c11 a12).getD default)
def zbn{R:Type}(q00:Nat)(q03:List Nat)(q01:Nat)(q05:List Nat)(q02:Nat)(q04:List Nat)(q06:Nat)(q0b:List Nat)(q0g:Int)(q0o q0n:Nat)(i:Int)(k_:Nat→Option R):Option R:=(grd (okIx i q06) (k_ (fop .quo .f32 (fop .mul .f32 (fOI .f32 q0g) (gF q0b (Nat.succ (ixO 0 i 3)))) (fop .mul .f32 1086918619 (gF q0b (ixO 0 i 3))))))
def z4l:Option (Nat):=zbn a0 g1 a2 g3 a4 g5 a6 g7 c8 a9 a10 c11 (fun c0_=>some c0_)
theorem zye:Nt1 (fun {R}=>zbn (R:=R) a0 g1 a2 g3 a4 g5 a6 g7 c8 a9 a10 c11):=by
 intro R R' o h0 k;unfold zbn;repeat (first | apply grd_out h0 | apply br_out | rfl)
def zqp:Bool:=(z4l a0 g1 a2 g3 a4 g5 a6 g7 c8 a9 a10 c11).isSome
def zgj:Nat:=((z4l a0 g1 a2 g3 a4 g5 a6 g7 c8 a9 a10 c11).getD default)
def ztg{R:Type}  (k_:Nat→Option R):Option R:=(grd (okU .f64 9221120237041090561) (k_ (cnI .f64 9221120237041090561)))
def zfc  : Option (Nat):=ztg (fun c0_=>some c0_)
theorem ycj  : Nt1 (fun {R}=>ztg (R:=R)):=by
 intro R R' o h0 k;unfold ztg;repeat (first | apply grd_out h0 | apply br_out | rfl)
def y25  : Bool:=(zfc).isSome
def zqm  : Nat:=((zfc).getD default)
def zvh{R:Type}(k_:Nat→Option R):Option R:=(k_ (fop .add .f32 a0 (fop .mul .f32 a2 (fop .sub .f32 a1 a0))))
def ze1:Option (Nat):=zvh a0 a1 a2 (fun c0_=>some c0_)
theorem y8z:Nt1 (fun {R}=>zvh (R:=R) a0 a1 a2):=by
 intro R R' o h0 k;unfold zvh;repeat (first | apply grd_out h0 | apply br_out | rfl)
def ztt:Bool:=(ze1 a0 a1 a2).isSome
def zrw:Nat:=((ze1 a0 a1 a2).getD default)
def zer{R:Type}(k_:Nat→Option R):Option R:=(grd (fcvB .f64 .f32 a0) (k_ (fcvV .f64 .f32 a0)))
def z63:Option (Nat):=zer a0 (fun c0_=>some c0_)
theorem y16:Nt1 (fun {R}=>zer (R:=R) a0):=by
 intro R R' o h0 k;unfold zer;repeat (first | apply grd_out h0 | apply br_out | rfl)
def zl9:Bool:=(z63 a0).isSome
def zcs:Nat:=((z63 a0).getD default)
def ztm{R:Type}(k_:Nat→Option R):Option R:=(grd (bnot (nanQ .f64 a0)) (grd (okU .f64 (bitI .andNot .u64 (Int.ofNat a0) 9223372036854775808)) (k_ (cnI .f64 (bitI .andNot .u64 (Int.ofNat a0) 9223372036854775808)))))
def zg1:Option (Nat):=ztm a0 (fun c0_=>some c0_)
theorem ybv:Nt1 (fun {R}=>ztm (R:=R) a0):=by
 intro R R' o h0 k;unfold ztm;repeat (first | apply grd_out h0 | apply br_out | rfl)
def ybe:Bool:=(zg1 a0).isSome
def y8u:Nat:=((zg1 a0).getD default)
def zid{R:Type}(k_:Nat→Bool→Option R):Option R:=(grd (z2p a0) (br (bnot (z2c a0)) (k_ 0 Bool.false) (k_ a0 Bool.true)))
def z6g:Option (Nat×Bool):=zid a0 (fun c0_ c1_=>some (c0_,c1_))
theorem y62:Nt2 (fun {R}=>zid (R:=R) a0):=by
 intro R R' o h0 k;unfold zid;repeat (first | apply grd_out h0 | apply br_out | rfl)
def zi8:Bool:=(z6g a0).isSome
def z8t:Nat:=((z6g a0).getD default).1
def zh0:Bool:=((z6g a0).getD default).2
def zf4{R:Type}(k_:Int→Option R):Option R:=(grd (zcv a0 (pF g1 0 (muN a0 1)) c6) (br (ltI (z1b a0 (pF g1 0 (muN a0 1)) c6) 0) (k_ (Int.negSucc 0)) (grd (zcv a2 (pF g3 0 (muN a2 1)) (z1b a0 (pF g1 0 (muN a0 1)) c6)) (br (ltI (z1b a2 (pF g3 0 (muN a2 1)) (z1b a0 (pF g1 0 (muN a0 1)) c6)) 0) (k_ (Int.negSucc 0)) (grd (zcv a4 (pF g5 0 (muN a4 1)) (z1b a2 (pF g3 0 (muN a2 1)) (z1b a0 (pF g1 0 (muN a0 1)) c6))) (br (ltI (z1b a4 (pF g5 0 (muN a4 1)) (z1b a2 (pF g3 0 (muN a2 1)) (z1b a0 (pF g1 0 (muN a0 1)) c6))) 0) (k_ (Int.negSucc 0)) (k_ (z1b a4 (pF g5 0 (muN a4 1)) (z1b a2 (pF g3 0 (muN a2 1)) (z1b a0 (pF g1 0 (muN a0 1)) c6))))))))))
def z6b:Option (Int):=zf4 a0 g1 a2 g3 a4 g5 c6 (fun c0_=>some c0_)
theorem y0p:Nt1 (fun {R}=>zf4 (R:=R) a0 g1 a2 g3 a4 g5 c6):=by
 intro R R' o h0 k;unfold zf4;repeat (first | apply grd_out h0 | apply br_out | rfl)
def zu3:Bool:=(z6b a0 g1 a2 g3 a4 g5 c6).isSome
def z97:Int:=((z6b a0 g1 a2 g3 a4 g5 c6).getD default)
def zg0{R:Type}(k_:Nat→Bool→Option R):Option R:=(grd (z12 a0) (br (bnot (z0v a0)) (k_ 0 Bool.false) (k_ a0 Bool.true)))
def z4m:Option (Nat×Bool):=zg0 a0 (fun c0_ c1_=>some (c0_,c1_))
theorem y1o:Nt2 (fun {R}=>zg0 (R:=R) a0):=by
 intro R R' o h0 k;unfold zg0;repeat (first | apply grd_out h0 | apply br_out | rfl)
def zkk:Bool:=(z4m a0).isSome
def zit:Nat:=((z4m a0).getD default).1
def zjl:Bool:=((z4m a0).getD default).2
def zgy{R:Type}(k_:Bool→Option R):Option R:=(grd (z12 a0) (br (z0v a0) (k_ (fcmp .gtr .f32 a0 0)) (k_ Bool.false)))
def z71:Option (Bool):=zgy a0 (fun c0_=>some c0_)
theorem y4o:Nt1 (fun {R}=>zgy (R:=R) a0):=by
 intro R R' o h0 k;unfold zgy;repeat (first | apply grd_out h0 | apply br_out | rfl)
def zbf:Bool:=(z71 a0).isSome
def zad:Bool:=((z71 a0).getD default)
def zic{R:Type}(k_:Bool→Option R):Option R:=(grd (z2p a0) (br (z2c a0) (k_ (fcmp .geq .f32 a0 0)) (k_ Bool.false)))
def z7s:Option (Bool):=zic a0 (fun c0_=>some c0_)
theorem y5q:Nt1 (fun {R}=>zic (R:=R) a0):=by
 intro R R' o h0 k;unfold zic;repeat (first | apply grd_out h0 | apply br_out | rfl)
def zq7:Bool:=(z7s a0).isSome
def zn6:Bool:=((z7s a0).getD default)
def z9q{R:Type}(k_:Bool→Option R):Option R:=(grd (z2p a0) (br (bnot (z2c a0)) (k_ Bool.true) (k_ (fcmp .leq .f32 a0 0))))
def z3y:Option (Bool):=z9q a0 (fun c0_=>some c0_)
theorem zut:Nt1 (fun {R}=>z9q (R:=R) a0):=by
 intro R R' o h0 k;unfold z9q;repeat (first | apply grd_out h0 | apply br_out | rfl)
def zmq:Bool:=(z3y a0).isSome
def zm6:Bool:=((z3y a0).getD default)
def zfr{R:Type}(k_:Bool→Option R):Option R:=(grd (z4n (fcvV .f32 .f64 a0) (fcvV .f32 .f64 a3)) (br (bnot (z48 (fcvV .f32 .f64 a0) (fcvV .f32 .f64 a3))) (k_ Bool.false) (grd (z4n (fcvV .f32 .f64 a1) (fcvV .f32 .f64 a4)) (br (bnot (z48 (fcvV .f32 .f64 a1) (fcvV .f32 .f64 a4))) (k_ Bool.false) (grd (z4n (fcvV .f32 .f64 a2) (fcvV .f32 .f64 a5)) (br (bnot (z48 (fcvV .f32 .f64 a2) (fcvV .f32 .f64 a5))) (k_ Bool.false) (k_ Bool.true)))))))
def z6e:Option (Bool):=zfr a0 a1 a2 a3 a4 a5 (fun c0_=>some c0_)
theorem y1c:Nt1 (fun {R}=>zfr (R:=R) a0 a1 a2 a3 a4 a5):=by
 intro R R' o h0 k;unfold zfr;repeat (first | apply grd_out h0 | apply br_out | rfl)
def zv6:Bool:=(z6e a0 a1 a2 a3 a4 a5).isSome
def zs7:Bool:=((z6e a0 a1 a2 a3 a4 a5).getD default)
def zgz{R:Type}(k_:Bool→Option R):Option R:=(grd (z12 a0) (br (z0v a0) (k_ (fcmp .geq .f32 a0 0)) (k_ Bool.false)))
def z6x:Option (Bool):=zgz a0 (fun c0_=>some c0_)
theorem y4e:Nt1 (fun {R}=>zgz (R:=R) a0):=by
 intro R R' o h0 k;unfold zgz;repeat (first | apply grd_out h0 | apply br_out | rfl)
def z8l:Bool:=(z6x a0).isSome
def z7t:Bool:=((z6x a0).getD default)
def zh2{R:Type}(q00:Nat)(q03:List Nat)(q01:Nat)(q05:List Nat)(q02:Nat)(q04:List Nat)(q06:Nat)(q0b:List Nat)(q0g:Int)(q0o q0n:Nat)(i:Int)(q0l:Nat)(k_:Bool→Option R):Option R:=(grd (okIx i q06) (grd (z12 (fop .sub .f32 (fop .sub .f32 981668463 (gF q0b (Nat.succ (Nat.succ (ixO 0 i 3))))) q0l)) (br (z0v (fop .sub .f32 (fop .sub .f32 981668463 (gF q0b (Nat.succ (Nat.succ (ixO 0 i 3))))) q0l)) (grd (okIx i q06) (grd (z12 (fop .sub .f32 (fop .sub .f32 1048508891 (gF q0b (Nat.succ (Nat.succ (ixO 0 i 3))))) q0l)) (k_ (z0v (fop .sub .f32 (fop .sub .f32 1048508891 (gF q0b (Nat.succ (Nat.succ (ixO 0 i 3))))) q0l))))) (k_ Bool.false))))
def z6v:Option (Bool):=zh2 a0 g1 a2 g3 a4 g5 a6 g7 c8 a9 a10 c11 a12 (fun c0_=>some c0_)
theorem y40:Nt1 (fun {R}=>zh2 (R:=R) a0 g1 a2 g3 a4 g5 a6 g7 c8 a9 a10 c11 a12):=by
 intro R R' o h0 k;unfold zh2;repeat (first | apply grd_out h0 | apply br_out | rfl)
def zwx:Bool:=(z6v a0 g1 a2 g3 a4 g5 a6 g7 c8 a9 a10 c11 a12).isSome
def zu2:Bool:=((z6v a0 g1 a2 g3 a4 g5 a6 g7 c8 a9 a10 c11 a12).getD default)
def zke{R:Type}(k_:Nat→Nat→Bool→Option R):Option R:=(grd (z12 a0) (br (bnot (z0v a0)) (k_ 0 0 Bool.false) (grd (z12 a1) (br (bnot (z0v a1)) (k_ 0 0 Bool.false) (k_ a0 a1 Bool.true)))))
def z60:Option (Nat×Nat×Bool):=zke a0 a1 (fun c0_ c1_ c2_=>some (c0_,c1_,c2_))
theorem y7r:Nt3 (fun {R}=>zke (R:=R) a0 a1):=by
 intro R R' o h0 k;unfold zke;repeat (first | apply grd_out h0 | apply br_out | rfl)
def zry:Bool:=(z60 a0 a1).isSome
def zi6:Nat:=((z60 a0 a1).getD default).1
def zi5:Nat:=((z60 a0 a1).getD default).2.1
def zib:Bool:=((z60 a0 a1).getD default).2.2
def zbl{R:Type}(k_:Bool→Option R):Option R:=(grd (z2p a0) (k_ (bnot (z2c a0))))
def z4p:Option (Bool):=zbl a0 (fun c0_=>some c0_)
theorem zxg:Nt1 (fun {R}=>zbl (R:=R) a0):=by
 intro R R' o h0 k;unfold zbl;repeat (first | apply grd_out h0 | apply br_out | rfl)
def zr2:Bool:=(z4p a0).isSome
def zpa:Bool:=((z4p a0).getD default)
def z85{R:Type}(q00:Nat)(q03:List Nat)(q01:Nat)(q05:List Nat)(q02:Nat)(q04:List Nat)(q06:Nat)(q0b:List Nat)(q0g:Int)(q0o q0n:Nat)(i:Int)(k_:Bool→Option R):Option R:=(grd (z91 i 0 (subI .i64 (Int.ofNat q06) 1)) (k_ (z45 i 0 (subI .i64 (Int.ofNat q06) 1))))
def z31:Option (Bool):=z85 a0 g1 a2 g3 a4 g5 a6 g7 c8 a9 a10 c11 (fun c0_=>some c0_)
theorem zrx:Nt1 (fun {R}=>z85 (R:=R) a0 g1 a2 g3 a4 g5 a6 g7 c8 a9 a10 c11):=by
 intro R R' o h0 k;unfold z85;repeat (first | apply grd_out h0 | apply br_out | rfl)
def zk4:Bool:=(z31 a0 g1 a2 g3 a4 g5 a6 g7 c8 a9 a10 c11).isSome
def zim:Bool:=((z31 a0 g1 a2 g3 a4 g5 a6 g7 c8 a9 a10 c11).getD default)
def zkf{R:Type}(k_:Bool→Option R):Option R:=(grd (zo5 a0 981668463 1048508891) (k_ (zlx a0 981668463 1048508891)))
def z8y:Option (Bool):=zkf a0 (fun c0_=>some c0_)
theorem y7n:Nt1 (fun {R}=>zkf (R:=R) a0):=by
 intro R R' o h0 k;unfold zkf;repeat (first | apply grd_out h0 | apply br_out | rfl)
def y2j:Bool:=(z8y a0).isSome
def zz7:Bool:=((z8y a0).getD default)
def zkg{R:Type}(k_:Bool→Option R):Option R:=(grd (ybe a0) (k_ (fcmp .geq .f64 (y8u a0) 4841369599423283200)))
def z90:Option (Bool):=zkg a0 (fun c0_=>some c0_)
theorem y6x:Nt1 (fun {R}=>zkg (R:=R) a0):=by
 intro R R' o h0 k;unfold zkg;repeat (first | apply grd_out h0 | apply br_out | rfl)
def y2u:Bool:=(z90 a0).isSome
def zzj:Bool:=((z90 a0).getD default)
def z25{R:Type} (kn_:Int→(List Nat)→Option R) (k0_:Int→Bool→(List Nat)→Option R):Option R:=(br (ltI c3 (Int.ofNat a0)) (grd (okIx c3 a0) (grd (okIx c3 a1) (kn_ (addI .i64 c3 1) (sF g4 (ixO 0 c3 1) (gF g2 (ixO 0 c3 1)))))) (k0_ c3 (ltI c3 (Int.ofNat a0)) g4))
theorem zvj{R R':Type}(o:Option R→Option R')(h0:o none=none) (kn_:Int→(List Nat)→Option R) (k0_:Int→Bool→(List Nat)→Option R):z25 a0 a1 g2 c3 g4 (fun i' b1'=>o (kn_ i' b1')) (fun c0_ c1_ c2_=>o (k0_ c0_ c1_ c2_))=o (z25 a0 a1 g2 c3 g4 kn_ k0_):=by
 unfold z25
 repeat (first | apply grd_out h0 | apply br_out | rfl)
def z16(an q2d:Nat)(b0:List Nat):Nat→Int→(List Nat)→Option ((Int×Bool×(List Nat)))
 | 0,_,_=>none
 | n+1,i,b1=>z25 an q2d b0  i b1  (fun i' b1'=>z16 an q2d b0 n i' b1') (fun c0_ c1_ c2_=>some (c0_,c1_,c2_))
theorem zh8:z16 a0 a1 g2 (a3+1) c4 g5=z25 a0 a1 g2  c4 g5  (fun i' b1'=>z16 a0 a1 g2 a3 i' b1') (fun c0_ c1_ c2_=>some (c0_,c1_,c2_)):=rfl
def zfk:Bool:=(z16 a0 a1 g2 big c3 g4).isSome
def zvv:Int:=((z16 a0 a1 g2 big c3 g4).getD default).1
def zwj:Bool:=((z16 a0 a1 g2 big c3 g4).getD default).2.1
def zaz:List Nat:=((z16 a0 a1 g2 big c3 g4).getD default).2.2
def z1e{R:Type}(kn_:Nat→Int→Option R)(k0_:Nat→Int→Bool→Option R):Option R:=(br (ltI c5 (Int.ofNat a0)) (grd (okIx (subI .i64 c5 1) a0) (grd (okIx c5 a0) (grd (okIx c5 a3) (grd (okIx (subI .i64 c5 1) a3) (kn_ (fop .add .f32 a4 (fop .mul .f32 (fop .sub .f32 (gF g1 (ixO 0 c5 3)) (gF g1 (ixO 0 (subI .i64 c5 1) 3))) (fop .quo .f32 (fop .add .f32 (gF g2 (ixO 0 (subI .i64 c5 1) 1)) (gF g2 (ixO 0 c5 1))) 1073741824))) (addI .i64 c5 1)))))) (k0_ a4 c5 (ltI c5 (Int.ofNat a0))))
theorem zr0{R R':Type}(o:Option R→Option R')(h0:o none=none)(kn_:Nat→Int→Option R)(k0_:Nat→Int→Bool→Option R):z1e a0 g1 g2 a3 a4 c5 (fun all' i'=>o (kn_ all' i')) (fun c0_ c1_ c2_=>o (k0_ c0_ c1_ c2_))=o (z1e a0 g1 g2 a3 a4 c5 kn_ k0_):=by
 unfold z1e
 repeat (first | apply grd_out h0 | apply br_out | rfl)
def z0f(q1g:Nat)(b3 b4:List Nat)(q1k:Nat):Nat→Nat→Int→Option ((Nat×Int×Bool))
 | 0,_,_=>none
 | n+1,all,i=>z1e q1g b3 b4 q1k  all i  (fun all' i'=>z0f q1g b3 b4 q1k n all' i') (fun c0_ c1_ c2_=>some (c0_,c1_,c2_))
theorem zdm:z0f a0 g1 g2 a3 (a4+1) a5 c6=z1e a0 g1 g2 a3  a5 c6  (fun all' i'=>z0f a0 g1 g2 a3 a4 all' i') (fun c0_ c1_ c2_=>some (c0_,c1_,c2_)):=rfl
def zio:Bool:=(z0f a0 g1 g2 a3 big a4 c5).isSome
def zg4:Nat:=((z0f a0 g1 g2 a3 big a4 c5).getD default).1
def zrh:Int:=((z0f a0 g1 g2 a3 big a4 c5).getD default).2.1
def zrg:Bool:=((z0f a0 g1 g2 a3 big a4 c5).getD default).2.2
def z3u{R:Type}(kn_:Nat→Int→Option R)(k0_:Nat→Int→Bool→Option R):Option R:=(br (ltI (addI .i64 c5 1) (Int.ofNat a0)) (grd (okIx (addI .i64 c5 1) a2) (grd (okIx c5 a2) (grd (okIx c5 a0) (grd (okIx (addI .i64 c5 1) a0) (kn_ (fop .add .f32 a4 (fop .mul .f32 (fop .sub .f32 (gF g1 (ixO 0 (addI .i64 c5 1) 3)) (gF g1 (ixO 0 c5 3))) (fop .mul .f32 1056964608 (fop .add .f32 (gF g3 (ixO 0 c5 1)) (gF g3 (ixO 0 (addI .i64 c5 1) 1)))))) (addI .i64 c5 1)))))) (k0_ a4 c5 (ltI (addI .i64 c5 1) (Int.ofNat a0))))
theorem y0g{R R':Type}(o:Option R→Option R')(h0:o none=none)(kn_:Nat→Int→Option R)(k0_:Nat→Int→Bool→Option R):z3u a0 g1 a2 g3 a4 c5 (fun sum' i'=>o (kn_ sum' i')) (fun c0_ c1_ c2_=>o (k0_ c0_ c1_ c2_))=o (z3u a0 g1 a2 g3 a4 c5 kn_ k0_):=by
 unfold z3u
 repeat (first | apply grd_out h0 | apply br_out | rfl)
def z11(q1g:Nat)(b3:List Nat)(q0r:Nat)(b5:List Nat):Nat→Nat→Int→Option ((Nat×Int×Bool))
 | 0,_,_=>none
 | n+1,sum,i=>z3u q1g b3 q0r b5  sum i  (fun sum' i'=>z11 q1g b3 q0r b5 n sum' i') (fun c0_ c1_ c2_=>some (c0_,c1_,c2_))
theorem zmg:z11 a0 g1 a2 g3 (a4+1) a5 c6=z3u a0 g1 a2 g3  a5 c6  (fun sum' i'=>z11 a0 g1 a2 g3 a4 sum' i') (fun c0_ c1_ c2_=>some (c0_,c1_,c2_)):=rfl
def ztv:Bool:=(z11 a0 g1 a2 g3 big a4 c5).isSome
def zp6:Nat:=((z11 a0 g1 a2 g3 big a4 c5).getD default).1
def y4d:Int:=((z11 a0 g1 a2 g3 big a4 c5).getD default).2.1
def y32:Bool:=((z11 a0 g1 a2 g3 big a4 c5).getD default).2.2
def z37{R:Type}(kn_:Int→Int→Option R)(k0_:Int→Int→Bool→Option R):Option R:=(br (ltI c4 c1) (grd (okIx c4 a0) (grd (okIx c3 a0) (br (fcmp .gtr .f32 (gF g2 (ixO 0 c4 1)) (gF g2 (ixO 0 c3 1))) (kn_ c4 (addI .i64 c4 1)) (kn_ c3 (addI .i64 c4 1))))) (k0_ c3 c4 (ltI c4 c1)))
theorem y06{R R':Type}(o:Option R→Option R')(h0:o none=none)(kn_:Int→Int→Option R)(k0_:Int→Int→Bool→Option R):z37 a0 c1 g2 c3 c4 (fun q2a' t8'=>o (kn_ q2a' t8')) (fun c0_ c1_ c2_=>o (k0_ c0_ c1_ c2_))=o (z37 a0 c1 g2 c3 c4 kn_ k0_):=by
 unfold z37
 repeat (first | apply grd_out h0 | apply br_out | rfl)
def z0u(q1g:Nat)(t7:Int)(b0:List Nat):Nat→Int→Int→Option ((Int×Int×Bool))
 | 0,_,_=>none
 | n+1,q2a,t8=>z37 q1g t7 b0  q2a t8  (fun q2a' t8'=>z0u q1g t7 b0 n q2a' t8') (fun c0_ c1_ c2_=>some (c0_,c1_,c2_))
theorem zjz:z0u a0 c1 g2 (a3+1) c4 c5=z37 a0 c1 g2  c4 c5  (fun q2a' t8'=>z0u a0 c1 g2 a3 q2a' t8') (fun c0_ c1_ c2_=>some (c0_,c1_,c2_)):=rfl
def zsc:Bool:=(z0u a0 c1 g2 big c3 c4).isSome
def z9r:Int:=((z0u a0 c1 g2 big c3 c4).getD default).1
def y1i:Int:=((z0u a0 c1 g2 big c3 c4).getD default).2.1
def y2d:Bool:=((z0u a0 c1 g2 big c3 c4).getD default).2.2
def z0y{R:Type}(kn_:Int→Option R)(k0_:Int→Option R)(k1_:Int→Bool→Option R):Option R:=(br (ltI c4 c2) (grd (okIx c4 a0) (br (beqB e1 (gB m3 (ixO 0 c4 1))) (k0_ c4) (kn_ (addI .i64 c4 1)))) (k1_ c4 (ltI c4 c2)))
theorem zld{R R':Type}(o:Option R→Option R')(h0:o none=none)(kn_:Int→Option R)(k0_:Int→Option R)(k1_:Int→Bool→Option R):z0y a0 e1 c2 m3 c4 (fun t8'=>o (kn_ t8')) (fun c0_=>o (k0_ c0_)) (fun c0_ c1_=>o (k1_ c0_ c1_))=o (z0y a0 e1 c2 m3 c4 kn_ k0_ k1_):=by
 unfold z0y
 repeat (first | apply grd_out h0 | apply br_out | rfl)
def z05(sn:Nat)(v:Bool)(t7:Int)(b0:List Bool):Nat→Int→Option ((Int)⊕(Int×Bool))
 | 0,_=>none
 | n+1,t8=>z0y sn v t7 b0  t8  (fun t8'=>z05 sn v t7 b0 n t8') (fun c0_=>some (Sum.inl c0_)) (fun c0_ c1_=>some (Sum.inr (c0_,c1_)))
theorem z9u:z05 a0 e1 c2 m3 (a4+1) c5=z0y a0 e1 c2 m3  c5  (fun t8'=>z05 a0 e1 c2 m3 a4 t8') (fun c0_=>some (Sum.inl c0_)) (fun c0_ c1_=>some (Sum.inr (c0_,c1_))):=rfl
def z82:Bool:=(z05 a0 e1 c2 m3 big c4).isSome
def z7d:Bool:=oL (z05 a0 e1 c2 m3 big c4)
def zas:Int:=((tL (z05 a0 e1 c2 m3 big c4)).getD default)
def zmj:Int:=((tR (z05 a0 e1 c2 m3 big c4)).getD default).1
def zmk:Bool:=((tR (z05 a0 e1 c2 m3 big c4)).getD default).2
def zi9{R:Type}(q25:Int)(q2b q2c:Nat)(q2j:Int)(k_:Int→Option R):Option R:=(grd (zu3 a0 (pF g1 0 (muN a0 1)) a2 (pF g3 0 (muN a2 1)) a4 (pF g5 0 (muN a4 1)) q2j) (br (ltI (z97 a0 (pF g1 0 (muN a0 1)) a2 (pF g3 0 (muN a2 1)) a4 (pF g5 0 (muN a4 1)) q2j) 0) (k_ (Int.negSucc 0)) (grd (zsb a6 (pF g7 0 (muN a6 3)) (z97 a0 (pF g1 0 (muN a0 1)) a2 (pF g3 0 (muN a2 1)) a4 (pF g5 0 (muN a4 1)) q2j)) (br (ltI (zho a6 (pF g7 0 (muN a6 3)) (z97 a0 (pF g1 0 (muN a0 1)) a2 (pF g3 0 (muN a2 1)) a4 (pF g5 0 (muN a4 1)) q2j)) 0) (k_ (Int.negSucc 0)) (k_ (zho a6 (pF g7 0 (muN a6 3)) (z97 a0 (pF g1 0 (muN a0 1)) a2 (pF g3 0 (muN a2 1)) a4 (pF g5 0 (muN a4 1)) q2j)))))))
def z7z:Option (Int):=zi9 a0 g1 a2 g3 a4 g5 a6 g7 c8 a9 a10 c11 (fun c0_=>some c0_)
theorem y5a:Nt1 (fun {R}=>zi9 (R:=R) a0 g1 a2 g3 a4 g5 a6 g7 c8 a9 a10 c11):=by
 intro R R' o h0 k;unfold zi9;repeat (first | apply grd_out h0 | apply br_out | rfl)
def zpo:Bool:=(z7z a0 g1 a2 g3 a4 g5 a6 g7 c8 a9 a10 c11).isSome
def zms:Int:=((z7z a0 g1 a2 g3 a4 g5 a6 g7 c8 a9 a10 c11).getD default)
def zd2{R:Type} (k_:Nat→(List Nat)→Option R):Option R:=(grd (okMk (Int.ofNat a0) (Int.ofNat a0) 4) (grd (zfk a0 (toN (Int.ofNat a0)) g1 0 (rF (muN (toN (Int.ofNat a0)) 1))) (k_ (toN (Int.ofNat a0)) (zaz a0 (toN (Int.ofNat a0)) g1 0 (rF (muN (toN (Int.ofNat a0)) 1))))))
def z47:Option (Nat×(List Nat)):=zd2 a0 g1 (fun c0_ c1_=>some (c0_,c1_))
theorem zz3:Nt2 (fun {R}=>zd2 (R:=R) a0 g1):=by
 intro R R' o h0 k;unfold zd2;repeat (first | apply grd_out h0 | apply br_out | rfl)
def z5i:Bool:=(z47 a0 g1).isSome
def z0o:Nat:=((z47 a0 g1).getD default).1
def z8b:List Nat:=((z47 a0 g1).getD default).2
def z9h{R:Type}(q00:Nat)(q03:List Nat)(q01:Nat)(q05:List Nat)(q02:Nat)(q04:List Nat)(q06:Nat)(q0b:List Nat)(q0g:Int)(q0o q0n q1i:Nat)(q1x:List Nat)(k_:Nat→Option R):Option R:=(grd (zio q1i q0b q1x q06 0 1) (k_ (zg4 q1i q0b q1x q06 0 1)))
def z3x:Option (Nat):=z9h a0 g1 a2 g3 a4 g5 a6 g7 c8 a9 a10 a11 g12 (fun c0_=>some c0_)
theorem zu4:Nt1 (fun {R}=>z9h (R:=R) a0 g1 a2 g3 a4 g5 a6 g7 c8 a9 a10 a11 g12):=by
 intro R R' o h0 k;unfold z9h;repeat (first | apply grd_out h0 | apply br_out | rfl)
def zmu:Bool:=(z3x a0 g1 a2 g3 a4 g5 a6 g7 c8 a9 a10 a11 g12).isSome
def z8h:Nat:=((z3x a0 g1 a2 g3 a4 g5 a6 g7 c8 a9 a10 a11 g12).getD default)
def zkc{R:Type}(q00:Nat)(q03:List Nat)(q01:Nat)(q05:List Nat)(q02:Nat)(q04:List Nat)(q06:Nat)(q0b:List Nat)(q0g:Int)(q0o q0n q1i:Nat)(q1x:List Nat)(k_:Nat→Option R):Option R:=(grd (ztv q1i q0b q06 q1x 0 0) (k_ (zp6 q1i q0b q06 q1x 0 0)))
def z95:Option (Nat):=zkc a0 g1 a2 g3 a4 g5 a6 g7 c8 a9 a10 a11 g12 (fun c0_=>some c0_)
theorem y8m:Nt1 (fun {R}=>zkc (R:=R) a0 g1 a2 g3 a4 g5 a6 g7 c8 a9 a10 a11 g12):=by
 intro R R' o h0 k;unfold zkc;repeat (first | apply grd_out h0 | apply br_out | rfl)
def y2p:Bool:=(z95 a0 g1 a2 g3 a4 g5 a6 g7 c8 a9 a10 a11 g12).isSome
def zij:Nat:=((z95 a0 g1 a2 g3 a4 g5 a6 g7 c8 a9 a10 a11 g12).getD default)
def zig{R:Type}(k_:Int→Nat→Option R):Option R:=(grd (zsc a0 (Int.ofNat a0) g1 0 0) (grd (okIx (z9r a0 (Int.ofNat a0) g1 0 0) a0) (k_ (z9r a0 (Int.ofNat a0) g1 0 0) (gF g1 (ixO 0 (z9r a0 (Int.ofNat a0) g1 0 0) 1)))))
def z6i:Option (Int×Nat):=zig a0 g1 (fun c0_ c1_=>some (c0_,c1_))
theorem y52:Nt2 (fun {R}=>zig (R:=R) a0 g1):=by
 intro R R' o h0 k;unfold zig;repeat (first | apply grd_out h0 | apply br_out | rfl)
def y08:Bool:=(z6i a0 g1).isSome
def zwo:Int:=((z6i a0 g1).getD default).1
def zx2:Nat:=((z6i a0 g1).getD default).2
def z6r{R:Type}(k_:Int→Option R):Option R:=(grd (z82 a0 e2 (Int.ofNat a0) m1 0) (br (z7d a0 e2 (Int.ofNat a0) m1 0) (k_ (zas a0 e2 (Int.ofNat a0) m1 0)) (k_ (Int.negSucc 0))))
def z22:Option (Int):=z6r a0 m1 e2 (fun c0_=>some c0_)
theorem zov:Nt1 (fun {R}=>z6r (R:=R) a0 m1 e2):=by
 intro R R' o h0 k;unfold z6r;repeat (first | apply grd_out h0 | apply br_out | rfl)
def zh3:Bool:=(z22 a0 m1 e2).isSome
def zg9:Int:=((z22 a0 m1 e2).getD default)
def zd8{R:Type}(k_:Bool→Option R):Option R:=(grd (zq7 a0) (k_ (bnot (zn6 a0))))
def z5h:Option (Bool):=zd8 a0 (fun c0_=>some c0_)
theorem y0d:Nt1 (fun {R}=>zd8 (R:=R) a0):=by
 intro R R' o h0 k;unfold zd8;repeat (first | apply grd_out h0 | apply br_out | rfl)
def zsl:Bool:=(z5h a0).isSome
def zr4:Bool:=((z5h a0).getD default)
def znz{R:Type}(k_:Nat→Option R):Option R:=(grd (bnot (nanQ .f64 a0)) (k_ (fint Ieee.Toward.zero a0)))
def za8:Option (Nat):=znz a0 (fun c0_=>some c0_)
theorem yai:Nt1 (fun {R}=>znz (R:=R) a0):=by
 intro R R' o h0 k;unfold znz;repeat (first | apply grd_out h0 | apply br_out | rfl)
def y5j:Bool:=(za8 a0).isSome
def zg5:Nat:=((za8 a0).getD default)
def z23{R:Type}(kn_:Int→Option R)(k0_:Unit→Option R)(k1_:Int→Bool→Option R):Option R:=(br (ltI c4 (Int.ofNat a0)) (grd (okIx c4 a0) (grd (okIx c4 a1) (grd (z4n (fcvV .f32 .f64 (gF g2 (ixO 0 c4 1))) (fcvV .f32 .f64 (gF g3 (ixO 0 c4 1)))) (br (bnot (z48 (fcvV .f32 .f64 (gF g2 (ixO 0 c4 1))) (fcvV .f32 .f64 (gF g3 (ixO 0 c4 1))))) (k0_ ()) (kn_ (addI .i64 c4 1)))))) (k1_ c4 (ltI c4 (Int.ofNat a0))))
theorem zvo{R R':Type}(o:Option R→Option R')(h0:o none=none)(kn_:Int→Option R)(k0_:Unit→Option R)(k1_:Int→Bool→Option R):z23 a0 a1 g2 g3 c4 (fun i'=>o (kn_ i')) (fun _=>o (k0_ ())) (fun c0_ c1_=>o (k1_ c0_ c1_))=o (z23 a0 a1 g2 g3 c4 kn_ k0_ k1_):=by
 unfold z23
 repeat (first | apply grd_out h0 | apply br_out | rfl)
def z19(an bn:Nat)(b0 b1:List Nat):Nat→Int→Option ((Unit)⊕(Int×Bool))
 | 0,_=>none
 | n+1,i=>z23 an bn b0 b1  i  (fun i'=>z19 an bn b0 b1 n i') (fun _=>some (Sum.inl ())) (fun c0_ c1_=>some (Sum.inr (c0_,c1_)))
theorem zgw:z19 a0 a1 g2 g3 (a4+1) c5=z23 a0 a1 g2 g3  c5  (fun i'=>z19 a0 a1 g2 g3 a4 i') (fun _=>some (Sum.inl ())) (fun c0_ c1_=>some (Sum.inr (c0_,c1_))):=rfl
def zop:Bool:=(z19 a0 a1 g2 g3 big c4).isSome
def zmc:Bool:=oL (z19 a0 a1 g2 g3 big c4)
def zvy:Int:=((tR (z19 a0 a1 g2 g3 big c4)).getD default).1
def zwh:Bool:=((tR (z19 a0 a1 g2 g3 big c4)).getD default).2
def z27{R:Type} (kn_:Int→(List Nat)→Option R) (k0_:Int→Bool→(List Nat)→Option R):Option R:=(br (ltI c3 (Int.ofNat a0)) (grd (okIx c3 a0) (grd (zu7 (gF g2 (ixO 0 c3 3)) (gF g2 (Nat.succ (ixO 0 c3 3))) (gF g2 (Nat.succ (Nat.succ (ixO 0 c3 3))))) (grd (okIx c3 a1) (kn_ (addI .i64 c3 1) (sF (sF (sF g4 (ixO 0 c3 3) (gF g2 (ixO 0 c3 3))) (Nat.succ (ixO 0 c3 3)) (gF g2 (Nat.succ (ixO 0 c3 3)))) (Nat.succ (Nat.succ (ixO 0 c3 3))) (gF g2 (Nat.succ (Nat.succ (ixO 0 c3 3))))))))) (k0_ c3 (ltI c3 (Int.ofNat a0)) g4))
theorem zv8{R R':Type}(o:Option R→Option R')(h0:o none=none) (kn_:Int→(List Nat)→Option R) (k0_:Int→Bool→(List Nat)→Option R):z27 a0 a1 g2 c3 g4 (fun i' b1'=>o (kn_ i' b1')) (fun c0_ c1_ c2_=>o (k0_ c0_ c1_ c2_))=o (z27 a0 a1 g2 c3 g4 kn_ k0_):=by
 unfold z27
 repeat (first | apply grd_out h0 | apply br_out | rfl)
def z0p(an q2d:Nat)(b0:List Nat):Nat→Int→(List Nat)→Option ((Int×Bool×(List Nat)))
 | 0,_,_=>none
 | n+1,i,b1=>z27 an q2d b0  i b1  (fun i' b1'=>z0p an q2d b0 n i' b1') (fun c0_ c1_ c2_=>some (c0_,c1_,c2_))
theorem zh6:z0p a0 a1 g2 (a3+1) c4 g5=z27 a0 a1 g2  c4 g5  (fun i' b1'=>z0p a0 a1 g2 a3 i' b1') (fun c0_ c1_ c2_=>some (c0_,c1_,c2_)):=rfl
def zfp:Bool:=(z0p a0 a1 g2 big c3 g4).isSome
def zwc:Int:=((z0p a0 a1 g2 big c3 g4).getD default).1
def zw7:Bool:=((z0p a0 a1 g2 big c3 g4).getD default).2.1
def zax:List Nat:=((z0p a0 a1 g2 big c3 g4).getD default).2.2
def z1o{R:Type}(kn_:Nat→Int→Option R)(k0_:Nat→Int→Bool→Option R):Option R:=(br (leI 1 c2) (kn_ (fop .sub .f64 4607182418800017408 (fop .quo .f64 (fop .mul .f64 a0 a1) (fOI .f64 (mulI .i64 (mulI .i64 2 c2) (addI .i64 (mulI .i64 2 c2) 1))))) (subI .i64 c2 1)) (k0_ a1 c2 (leI 1 c2)))
theorem zrq{R R':Type}(o:Option R→Option R')(h0:o none=none)(kn_:Nat→Int→Option R)(k0_:Nat→Int→Bool→Option R):z1o a0 a1 c2 (fun t7' t8'=>o (kn_ t7' t8')) (fun c0_ c1_ c2_=>o (k0_ c0_ c1_ c2_))=o (z1o a0 a1 c2 kn_ k0_):=by
 unfold z1o
 repeat (first | apply grd_out h0 | apply br_out | rfl)
def z0l(t6:Nat):Nat→Nat→Int→Option ((Nat×Int×Bool))
 | 0,_,_=>none
 | n+1,t7,t8=>z1o t6  t7 t8  (fun t7' t8'=>z0l t6 n t7' t8') (fun c0_ c1_ c2_=>some (c0_,c1_,c2_))
theorem zeh:z0l a0 (a1+1) a2 c3=z1o a0  a2 c3  (fun t7' t8'=>z0l a0 a1 t7' t8') (fun c0_ c1_ c2_=>some (c0_,c1_,c2_)):=rfl
def z1c:Bool:=(z0l a0 big a1 c2).isSome
def z08:Nat:=((z0l a0 big a1 c2).getD default).1
def ztd:Int:=((z0l a0 big a1 c2).getD default).2.1
def ztp:Bool:=((z0l a0 big a1 c2).getD default).2.2
def zd5{R:Type}(k_:Bool→Option R):Option R:=(br (neI (Int.ofNat a0) (Int.ofNat a2)) (k_ Bool.false) (grd (zop a0 a2 g1 g3 0) (br (zmc a0 a2 g1 g3 0) (k_ Bool.false) (k_ Bool.true))))
def z5e:Option (Bool):=zd5 a0 g1 a2 g3 (fun c0_=>some c0_)
theorem zzp:Nt1 (fun {R}=>zd5 (R:=R) a0 g1 a2 g3):=by
 intro R R' o h0 k;unfold zd5;repeat (first | apply grd_out h0 | apply br_out | rfl)
def z98:Bool:=(z5e a0 g1 a2 g3).isSome
def z8f:Bool:=((z5e a0 g1 a2 g3).getD default)
def z54{R:Type}(k_:Bool→Option R):Option R:=(grd (zh3 a0 (pB m1 0 (muN a0 1)) e2) (k_ (leI 0 (zg9 a0 (pB m1 0 (muN a0 1)) e2))))
def z1h:Option (Bool):=z54 a0 m1 e2 (fun c0_=>some c0_)
theorem zli:Nt1 (fun {R}=>z54 (R:=R) a0 m1 e2):=by
 intro R R' o h0 k;unfold z54;repeat (first | apply grd_out h0 | apply br_out | rfl)
def z52:Bool:=(z1h a0 m1 e2).isSome
def z4k:Bool:=((z1h a0 m1 e2).getD default)
def zey{R:Type} (k_:Nat→Nat→Nat→(List Nat)→(List Nat)→(List Nat)→Option R):Option R:=(grd (z5i a0 (pF g1 0 (muN a0 1))) (grd (z5i a2 (pF g3 0 (muN a2 1))) (grd (z5i a4 (pF g5 0 (muN a4 1))) (k_ (z0o a0 (pF g1 0 (muN a0 1))) (z0o a2 (pF g3 0 (muN a2 1))) (z0o a4 (pF g5 0 (muN a4 1))) (z8b a0 (pF g1 0 (muN a0 1))) (z8b a2 (pF g3 0 (muN a2 1))) (z8b a4 (pF g5 0 (muN a4 1)))))))
def z1y:Option (Nat×Nat×Nat×(List Nat)×(List Nat)×(List Nat)):=zey a0 g1 a2 g3 a4 g5 (fun c0_ c1_ c2_ c3_ c4_ c5_=>some (c0_,c1_,c2_,c3_,c4_,c5_))
theorem y18:Nt6 (fun {R}=>zey (R:=R) a0 g1 a2 g3 a4 g5):=by
 intro R R' o h0 k;unfold zey;repeat (first | apply grd_out h0 | apply br_out | rfl)
def zuj:Bool:=(z1y a0 g1 a2 g3 a4 g5).isSome
def zsa:Nat:=((z1y a0 g1 a2 g3 a4 g5).getD default).1
def zst:Nat:=((z1y a0 g1 a2 g3 a4 g5).getD default).2.1
def zsr:Nat:=((z1y a0 g1 a2 g3 a4 g5).getD default).2.2.1
def zsn:List Nat:=((z1y a0 g1 a2 g3 a4 g5).getD default).2.2.2.1
def zsy:List Nat:=((z1y a0 g1 a2 g3 a4 g5).getD default).2.2.2.2.1
def zsg:List Nat:=((z1y a0 g1 a2 g3 a4 g5).getD default).2.2.2.2.2
def zda{R:Type} (k_:Nat→(List Nat)→Option R):Option R:=(grd (okMk (Int.ofNat a0) (Int.ofNat a0) 12) (grd (zfp a0 (toN (Int.ofNat a0)) g1 0 (rF (muN (toN (Int.ofNat a0)) 3))) (k_ (toN (Int.ofNat a0)) (zax a0 (toN (Int.ofNat a0)) g1 0 (rF (muN (toN (Int.ofNat a0)) 3))))))
def z49:Option (Nat×(List Nat)):=zda a0 g1 (fun c0_ c1_=>some (c0_,c1_))
theorem zz8:Nt2 (fun {R}=>zda (R:=R) a0 g1):=by
 intro R R' o h0 k;unfold zda;repeat (first | apply grd_out h0 | apply br_out | rfl)
def zsv:Bool:=(z49 a0 g1).isSome
def zqt:Nat:=((z49 a0 g1).getD default).1
def zr1:List Nat:=((z49 a0 g1).getD default).2
def z6o{R:Type}(k_:Nat→Option R):Option R:=(br (fcmp .neq .f64 (fop .sub .f64 a0 a0) 0) (grd y25 (k_ zqm)) (br (fcmp .geq .f64 a0 4841369599423283200) (k_ 0) (br (fcmp .leq .f64 a0 14064741636278059008) (k_ 0) (grd (f2iB .f64 a0 .i64) (br (fcmp .lss .f64 (fop .sub .f64 a0 (fOI .f64 (f2iV .f64 a0 .i64))) 0) (br (fcmp .geq .f64 (fop .add .f64 (fop .sub .f64 a0 (fOI .f64 (f2iV .f64 a0 .i64))) 4607182418800017408) 4602678819172646912) (br (fcmp .gtr .f64 (fop .sub .f64 (fop .add .f64 (fop .sub .f64 a0 (fOI .f64 (f2iV .f64 a0 .i64))) 4607182418800017408) 4602678819172646912) 4598175219545276416) (grd (z1c (fop .mul .f64 (fop .mul .f64 (fop .sub .f64 4602678819172646912 (fop .sub .f64 (fop .add .f64 (fop .sub .f64 a0 (fOI .f64 (f2iV .f64 a0 .i64))) 4607182418800017408) 4602678819172646912)) 4618760256179416344) (fop .mul .f64 (fop .sub .f64 4602678819172646912 (fop .sub .f64 (fop .add .f64 (fop .sub .f64 a0 (fOI .f64 (f2iV .f64 a0 .i64))) 4607182418800017408) 4602678819172646912)) 4618760256179416344)) 4607182418800017408 8) (br (fcmp .geq .f64 (fop .add .f64 (fop .sub .f64 a0 (fOI .f64 (f2iV .f64 a0 .i64))) 4607182418800017408) 4602678819172646912) (k_ (fneg .f64 (fop .mul .f64 (fop .mul .f64 (fop .sub .f64 4602678819172646912 (fop .sub .f64 (fop .add .f64 (fop .sub .f64 a0 (fOI .f64 (f2iV .f64 a0 .i64))) 4607182418800017408) 4602678819172646912)) 4618760256179416344) (z08 (fop .mul .f64 (fop .mul .f64 (fop .sub .f64 4602678819172646912 (fop .sub .f64 (fop .add .f64 (fop .sub .f64 a0 (fOI .f64 (f2iV .f64 a0 .i64))) 4607182418800017408) 4602678819172646912)) 4618760256179416344) (fop .mul .f64 (fop .sub .f64 4602678819172646912 (fop .sub .f64 (fop .add .f64 (fop .sub .f64 a0 (fOI .f64 (f2iV .f64 a0 .i64))) 4607182418800017408) 4602678819172646912)) 4618760256179416344)) 4607182418800017408 8)))) (k_ (fop .mul .f64 (fop .mul .f64 (fop .sub .f64 4602678819172646912 (fop .sub .f64 (fop .add .f64 (fop .sub .f64 a0 (fOI .f64 (f2iV .f64 a0 .i64))) 4607182418800017408) 4602678819172646912)) 4618760256179416344) (z08 (fop .mul .f64 (fop .mul .f64 (fop .sub .f64 4602678819172646912 (fop .sub .f64 (fop .add .f64 (fop .sub .f64 a0 (fOI .f64 (f2iV .f64 a0 .i64))) 4607182418800017408) 4602678819172646912)) 4618760256179416344) (fop .mul .f64 (fop .sub .f64 4602678819172646912 (fop .sub .f64 (fop .add .f64 (fop .sub .f64 a0 (fOI .f64 (f2iV .f64 a0 .i64))) 4607182418800017408) 4602678819172646912)) 4618760256179416344)) 4607182418800017408 8))))) (grd (z1c (fop .mul .f64 (fop .mul .f64 (fop .sub .f64 (fop .add .f64 (fop .sub .f64 a0 (fOI .f64 (f2iV .f64 a0 .i64))) 4607182418800017408) 4602678819172646912) 4618760256179416344) (fop .mul .f64 (fop .sub .f64 (fop .add .f64 (fop .sub .f64 a0 (fOI .f64 (f2iV .f64 a0 .i64))) 4607182418800017408) 4602678819172646912) 4618760256179416344)) 4607182418800017408 8) (br (fcmp .geq .f64 (fop .add .f64 (fop .sub .f64 a0 (fOI .f64 (f2iV .f64 a0 .i64))) 4607182418800017408) 4602678819172646912) (k_ (fneg .f64 (fop .mul .f64 (fop .mul .f64 (fop .sub .f64 (fop .add .f64 (fop .sub .f64 a0 (fOI .f64 (f2iV .f64 a0 .i64))) 4607182418800017408) 4602678819172646912) 4618760256179416344) (z08 (fop .mul .f64 (fop .mul .f64 (fop .sub .f64 (fop .add .f64 (fop .sub .f64 a0 (fOI .f64 (f2iV .f64 a0 .i64))) 4607182418800017408) 4602678819172646912) 4618760256179416344) (fop .mul .f64 (fop .sub .f64 (fop .add .f64 (fop .sub .f64 a0 (fOI .f64 (f2iV .f64 a0 .i64))) 4607182418800017408) 4602678819172646912) 4618760256179416344)) 4607182418800017408 8)))) (k_ (fop .mul .f64 (fop .mul .f64 (fop .sub .f64 (fop .add .f64 (fop .sub .f64 a0 (fOI .f64 (f2iV .f64 a0 .i64))) 4607182418800017408) 4602678819172646912) 4618760256179416344) (z08 (fop .mul .f64 (fop .mul .f64 (fop .sub .f64 (fop .add .f64 (fop .sub .f64 a0 (fOI .f64 (f2iV .f64 a0 .i64))) 4607182418800017408) 4602678819172646912) 4618760256179416344) (fop .mul .f64 (fop .sub .f64 (fop .add .f64 (fop .sub .f64 a0 (fOI .f64 (f2iV .f64 a0 .i64))) 4607182418800017408) 4602678819172646912) 4618760256179416344)) 4607182418800017408 8)))))) (br (fcmp .gtr .f64 (fop .add .f64 (fop .sub .f64 a0 (fOI .f64 (f2iV .f64 a0 .i64))) 4607182418800017408) 4598175219545276416) (grd (z1c (fop .mul .f64 (fop .mul .f64 (fop .sub .f64 4602678819172646912 (fop .add .f64 (fop .sub .f64 a0 (fOI .f64 (f2iV .f64 a0 .i64))) 4607182418800017408)) 4618760256179416344) (fop .mul .f64 (fop .sub .f64 4602678819172646912 (fop .add .f64 (fop .sub .f64 a0 (fOI .f64 (f2iV .f64 a0 .i64))) 4607182418800017408)) 4618760256179416344)) 4607182418800017408 8) (br (fcmp .geq .f64 (fop .add .f64 (fop .sub .f64 a0 (fOI .f64 (f2iV .f64 a0 .i64))) 4607182418800017408) 4602678819172646912) (k_ (fneg .f64 (fop .mul .f64 (fop .mul .f64 (fop .sub .f64 4602678819172646912 (fop .add .f64 (fop .sub .f64 a0 (fOI .f64 (f2iV .f64 a0 .i64))) 4607182418800017408)) 4618760256179416344) (z08 (fop .mul .f64 (fop .mul .f64 (fop .sub .f64 4602678819172646912 (fop .add .f64 (fop .sub .f64 a0 (fOI .f64 (f2iV .f64 a0 .i64))) 4607182418800017408)) 4618760256179416344) (fop .mul .f64 (fop .sub .f64 4602678819172646912 (fop .add .f64 (fop .sub .f64 a0 (fOI .f64 (f2iV .f64 a0 .i64))) 4607182418800017408)) 4618760256179416344)) 4607182418800017408 8)))) (k_ (fop .mul .f64 (fop .mul .f64 (fop .sub .f64 4602678819172646912 (fop .add .f64 (fop .sub .f64 a0 (fOI .f64 (f2iV .f64 a0 .i64))) 4607182418800017408)) 4618760256179416344) (z08 (fop .mul .f64 (fop .mul .f64 (fop .sub .f64 4602678819172646912 (fop .add .f64 (fop .sub .f64 a0 (fOI .f64 (f2iV .f64 a0 .i64))) 4607182418800017408)) 4618760256179416344) (fop .mul .f64 (fop .sub .f64 4602678819172646912 (fop .add .f64 (fop .sub .f64 a0 (fOI .f64 (f2iV .f64 a0 .i64))) 4607182418800017408)) 4618760256179416344)) 4607182418800017408 8))))) (grd (z1c (fop .mul .f64 (fop .mul .f64 (fop .add .f64 (fop .sub .f64 a0 (fOI .f64 (f2iV .f64 a0 .i64))) 4607182418800017408) 4618760256179416344) (fop .mul .f64 (fop .add .f64 (fop .sub .f64 a0 (fOI .f64 (f2iV .f64 a0 .i64))) 4607182418800017408) 4618760256179416344)) 4607182418800017408 8) (br (fcmp .geq .f64 (fop .add .f64 (fop .sub .f64 a0 (fOI .f64 (f2iV .f64 a0 .i64))) 4607182418800017408) 4602678819172646912) (k_ (fneg .f64 (fop .mul .f64 (fop .mul .f64 (fop .add .f64 (fop .sub .f64 a0 (fOI .f64 (f2iV .f64 a0 .i64))) 4607182418800017408) 4618760256179416344) (z08 (fop .mul .f64 (fop .mul .f64 (fop .add .f64 (fop .sub .f64 a0 (fOI .f64 (f2iV .f64 a0 .i64))) 4607182418800017408) 4618760256179416344) (fop .mul .f64 (fop .add .f64 (fop .sub .f64 a0 (fOI .f64 (f2iV .f64 a0 .i64))) 4607182418800017408) 4618760256179416344)) 4607182418800017408 8)))) (k_ (fop .mul .f64 (fop .mul .f64 (fop .add .f64 (fop .sub .f64 a0 (fOI .f64 (f2iV .f64 a0 .i64))) 4607182418800017408) 4618760256179416344) (z08 (fop .mul .f64 (fop .mul .f64 (fop .add .f64 (fop .sub .f64 a0 (fOI .f64 (f2iV .f64 a0 .i64))) 4607182418800017408) 4618760256179416344) (fop .mul .f64 (fop .add .f64 (fop .sub .f64 a0 (fOI .f64 (f2iV .f64 a0 .i64))) 4607182418800017408) 4618760256179416344)) 4607182418800017408 8))))))) (br (fcmp .geq .f64 (fop .sub .f64 a0 (fOI .f64 (f2iV .f64 a0 .i64))) 4602678819172646912) (br (fcmp .gtr .f64 (fop .sub .f64 (fop .sub .f64 a0 (fOI .f64 (f2iV .f64 a0 .i64))) 4602678819172646912) 4598175219545276416) (grd (z1c (fop .mul .f64 (fop .mul .f64 (fop .sub .f64 4602678819172646912 (fop .sub .f64 (fop .sub .f64 a0 (fOI .f64 (f2iV .f64 a0 .i64))) 4602678819172646912)) 4618760256179416344) (fop .mul .f64 (fop .sub .f64 4602678819172646912 (fop .sub .f64 (fop .sub .f64 a0 (fOI .f64 (f2iV .f64 a0 .i64))) 4602678819172646912)) 4618760256179416344)) 4607182418800017408 8) (br (fcmp .geq .f64 (fop .sub .f64 a0 (fOI .f64 (f2iV .f64 a0 .i64))) 4602678819172646912) (k_ (fneg .f64 (fop .mul .f64 (fop .mul .f64 (fop .sub .f64 4602678819172646912 (fop .sub .f64 (fop .sub .f64 a0 (fOI .f64 (f2iV .f64 a0 .i64))) 4602678819172646912)) 4618760256179416344) (z08 (fop .mul .f64 (fop .mul .f64 (fop .sub .f64 4602678819172646912 (fop .sub .f64 (fop .sub .f64 a0 (fOI .f64 (f2iV .f64 a0 .i64))) 4602678819172646912)) 4618760256179416344) (fop .mul .f64 (fop .sub .f64 4602678819172646912 (fop .sub .f64 (fop .sub .f64 a0 (fOI .f64 (f2iV .f64 a0 .i64))) 4602678819172646912)) 4618760256179416344)) 4607182418800017408 8)))) (k_ (fop .mul .f64 (fop .mul .f64 (fop .sub .f64 4602678819172646912 (fop .sub .f64 (fop .sub .f64 a0 (fOI .f64 (f2iV .f64 a0 .i64))) 4602678819172646912)) 4618760256179416344) (z08 (fop .mul .f64 (fop .mul .f64 (fop .sub .f64 4602678819172646912 (fop .sub .f64 (fop .sub .f64 a0 (fOI .f64 (f2iV .f64 a0 .i64))) 4602678819172646912)) 4618760256179416344) (fop .mul .f64 (fop .sub .f64 4602678819172646912 (fop .sub .f64 (fop .sub .f64 a0 (fOI .f64 (f2iV .f64 a0 .i64))) 4602678819172646912)) 4618760256179416344)) 4607182418800017408 8))))) (grd (z1c (fop .mul .f64 (fop .mul .f64 (fop .sub .f64 (fop .sub .f64 a0 (fOI .f64 (f2iV .f64 a0 .i64))) 4602678819172646912) 4618760256179416344) (fop .mul .f64 (fop .sub .f64 (fop .sub .f64 a0 (fOI .f64 (f2iV .f64 a0 .i64))) 4602678819172646912) 4618760256179416344)) 4607182418800017408 8) (br (fcmp .geq .f64 (fop .sub .f64 a0 (fOI .f64 (f2iV .f64 a0 .i64))) 4602678819172646912) (k_ (fneg .f64 (fop .mul .f64 (fop .mul .f64 (fop .sub .f64 (fop .sub .f64 a0 (fOI .f64 (f2iV .f64 a0 .i64))) 4602678819172646912) 4618760256179416344) (z08 (fop .mul .f64 (fop .mul .f64 (fop .sub .f64 (fop .sub .f64 a0 (fOI .f64 (f2iV .f64 a0 .i64))) 4602678819172646912) 4618760256179416344) (fop .mul .f64 (fop .sub .f64 (fop .sub .f64 a0 (fOI .f64 (f2iV .f64 a0 .i64))) 4602678819172646912) 4618760256179416344)) 4607182418800017408 8)))) (k_ (fop .mul .f64 (fop .mul .f64 (fop .sub .f64 (fop .sub .f64 a0 (fOI .f64 (f2iV .f64 a0 .i64))) 4602678819172646912) 4618760256179416344) (z08 (fop .mul .f64 (fop .mul .f64 (fop .sub .f64 (fop .sub .f64 a0 (fOI .f64 (f2iV .f64 a0 .i64))) 4602678819172646912) 4618760256179416344) (fop .mul .f64 (fop .sub .f64 (fop .sub .f64 a0 (fOI .f64 (f2iV .f64 a0 .i64))) 4602678819172646912) 4618760256179416344)) 4607182418800017408 8)))))) (br (fcmp .gtr .f64 (fop .sub .f64 a0 (fOI .f64 (f2iV .f64 a0 .i64))) 4598175219545276416) (grd (z1c (fop .mul .f64 (fop .mul .f64 (fop .sub .f64 4602678819172646912 (fop .sub .f64 a0 (fOI .f64 (f2iV .f64 a0 .i64)))) 4618760256179416344) (fop .mul .f64 (fop .sub .f64 4602678819172646912 (fop .sub .f64 a0 (fOI .f64 (f2iV .f64 a0 .i64)))) 4618760256179416344)) 4607182418800017408 8) (br (fcmp .geq .f64 (fop .sub .f64 a0 (fOI .f64 (f2iV .f64 a0 .i64))) 4602678819172646912) (k_ (fneg .f64 (fop .mul .f64 (fop .mul .f64 (fop .sub .f64 4602678819172646912 (fop .sub .f64 a0 (fOI .f64 (f2iV .f64 a0 .i64)))) 4618760256179416344) (z08 (fop .mul .f64 (fop .mul .f64 (fop .sub .f64 4602678819172646912 (fop .sub .f64 a0 (fOI .f64 (f2iV .f64 a0 .i64)))) 4618760256179416344) (fop .mul .f64 (fop .sub .f64 4602678819172646912 (fop .sub .f64 a0 (fOI .f64 (f2iV .f64 a0 .i64)))) 4618760256179416344)) 4607182418800017408 8)))) (k_ (fop .mul .f64 (fop .mul .f64 (fop .sub .f64 4602678819172646912 (fop .sub .f64 a0 (fOI .f64 (f2iV .f64 a0 .i64)))) 4618760256179416344) (z08 (fop .mul .f64 (fop .mul .f64 (fop .sub .f64 4602678819172646912 (fop .sub .f64 a0 (fOI .f64 (f2iV .f64 a0 .i64)))) 4618760256179416344) (fop .mul .f64 (fop .sub .f64 4602678819172646912 (fop .sub .f64 a0 (fOI .f64 (f2iV .f64 a0 .i64)))) 4618760256179416344)) 4607182418800017408 8))))) (grd (z1c (fop .mul .f64 (fop .mul .f64 (fop .sub .f64 a0 (fOI .f64 (f2iV .f64 a0 .i64))) 4618760256179416344) (fop .mul .f64 (fop .sub .f64 a0 (fOI .f64 (f2iV .f64 a0 .i64))) 4618760256179416344)) 4607182418800017408 8) (br (fcmp .geq .f64 (fop .sub .f64 a0 (fOI .f64 (f2iV .f64 a0 .i64))) 4602678819172646912) (k_ (fneg .f64 (fop .mul .f64 (fop .mul .f64 (fop .sub .f64 a0 (fOI .f64 (f2iV .f64 a0 .i64))) 4618760256179416344) (z08 (fop .mul .f64 (fop .mul .f64 (fop .sub .f64 a0 (fOI .f64 (f2iV .f64 a0 .i64))) 4618760256179416344) (fop .mul .f64 (fop .sub .f64 a0 (fOI .f64 (f2iV .f64 a0 .i64))) 4618760256179416344)) 4607182418800017408 8)))) (k_ (fop .mul .f64 (fop .mul .f64 (fop .sub .f64 a0 (fOI .f64 (f2iV .f64 a0 .i64))) 4618760256179416344) (z08 (fop .mul .f64 (fop .mul .f64 (fop .sub .f64 a0 (fOI .f64 (f2iV .f64 a0 .i64))) 4618760256179416344) (fop .mul .f64 (fop .sub .f64 a0 (fOI .f64 (f2iV .f64 a0 .i64))) 4618760256179416344)) 4607182418800017408 8))))))))))))
def z28:Option (Nat):=z6o a0 (fun c0_=>some c0_)
theorem zxc:Nt1 (fun {R}=>z6o (R:=R) a0):=by
 intro R R' o h0 k;unfold z6o;repeat (first | apply grd_out h0 | apply br_out | rfl)
def zqz:Bool:=(z28 a0).isSome
def zgu:Nat:=((z28 a0).getD default)
def zdf{R:Type}(k_:Nat→Option R):Option R:=(grd (y5j a0) (br (fcmp .eql .f64 (zg5 a0) 0) (br (fcmp .lss .f64 (fop .sub .f64 a0 0) 0) (k_ (fop .add .f64 (fop .sub .f64 a0 0) 4607182418800017408)) (k_ (fop .sub .f64 a0 0))) (br (fcmp .lss .f64 (fop .sub .f64 a0 (zg5 a0)) 0) (k_ (fop .add .f64 (fop .sub .f64 a0 (zg5 a0)) 4607182418800017408)) (k_ (fop .sub .f64 a0 (zg5 a0))))))
def z5c:Option (Nat):=zdf a0 (fun c0_=>some c0_)
theorem zza:Nt1 (fun {R}=>zdf (R:=R) a0):=by
 intro R R' o h0 k;unfold zdf;repeat (first | apply grd_out h0 | apply br_out | rfl)
def zs6:Bool:=(z5c a0).isSome
def z09:Nat:=((z5c a0).getD default)
def z24{R:Type}(kn_:Int→Option R)(k0_:Unit→Option R)(k1_:Int→Bool→Option R):Option R:=(br (ltI c4 (Int.ofNat a0)) (grd (okIx c4 a0) (grd (okIx c4 a1) (grd (zv6 (gF g2 (ixO 0 c4 3)) (gF g2 (Nat.succ (ixO 0 c4 3))) (gF g2 (Nat.succ (Nat.succ (ixO 0 c4 3)))) (gF g3 (ixO 0 c4 3)) (gF g3 (Nat.succ (ixO 0 c4 3))) (gF g3 (Nat.succ (Nat.succ (ixO 0 c4 3))))) (br (bnot (zs7 (gF g2 (ixO 0 c4 3)) (gF g2 (Nat.succ (ixO 0 c4 3))) (gF g2 (Nat.succ (Nat.succ (ixO 0 c4 3)))) (gF g3 (ixO 0 c4 3)) (gF g3 (Nat.succ (ixO 0 c4 3))) (gF g3 (Nat.succ (Nat.succ (ixO 0 c4 3)))))) (k0_ ()) (kn_ (addI .i64 c4 1)))))) (k1_ c4 (ltI c4 (Int.ofNat a0))))
theorem zu6{R R':Type}(o:Option R→Option R')(h0:o none=none)(kn_:Int→Option R)(k0_:Unit→Option R)(k1_:Int→Bool→Option R):z24 a0 a1 g2 g3 c4 (fun i'=>o (kn_ i')) (fun _=>o (k0_ ())) (fun c0_ c1_=>o (k1_ c0_ c1_))=o (z24 a0 a1 g2 g3 c4 kn_ k0_ k1_):=by
 unfold z24
 repeat (first | apply grd_out h0 | apply br_out | rfl)
def z17(an bn:Nat)(b0 b1:List Nat):Nat→Int→Option ((Unit)⊕(Int×Bool))
 | 0,_=>none
 | n+1,i=>z24 an bn b0 b1  i  (fun i'=>z17 an bn b0 b1 n i') (fun _=>some (Sum.inl ())) (fun c0_ c1_=>some (Sum.inr (c0_,c1_)))
theorem zh1:z17 a0 a1 g2 g3 (a4+1) c5=z24 a0 a1 g2 g3  c5  (fun i'=>z17 a0 a1 g2 g3 a4 i') (fun _=>some (Sum.inl ())) (fun c0_ c1_=>some (Sum.inr (c0_,c1_))):=rfl
def zex:Bool:=(z17 a0 a1 g2 g3 big c4).isSome
def zdr:Bool:=oL (z17 a0 a1 g2 g3 big c4)
def zwk:Int:=((tR (z17 a0 a1 g2 g3 big c4)).getD default).1
def zw1:Bool:=((tR (z17 a0 a1 g2 g3 big c4)).getD default).2
def z4g{R:Type}(kn_:Int→Option R)(k0_:Unit→Option R)(k1_:Int→Bool→Option R):Option R:=(br (ltI c7 c0) (grd (okIx c7 a4) (br (fcmp .geq .f32 (gF g1 (ixO 0 c7 1)) 3204448256) (grd (okIx c7 a4) (br (bnot (fcmp .leq .f32 (gF g1 (ixO 0 c7 1)) 1056964608)) (k0_ ()) (br (ltI 0 c7) (grd (okIx c7 a4) (grd (okIx (subI .i64 c7 1) a4) (br (fcmp .leq .f32 (gF g1 (ixO 0 c7 1)) (gF g1 (ixO 0 (subI .i64 c7 1) 1))) (k0_ ()) (grd (okIx c7 a5) (grd (z12 (gF g2 (ixO 0 c7 1))) (br (bnot (z0v (gF g2 (ixO 0 c7 1)))) (k0_ ()) (grd (okIx c7 a6) (grd (z8l (gF g3 (ixO 0 c7 1))) (br (bnot (z7t (gF g3 (ixO 0 c7 1)))) (k0_ ()) (kn_ (addI .i64 c7 1))))))))))) (grd (okIx c7 a5) (grd (z12 (gF g2 (ixO 0 c7 1))) (br (bnot (z0v (gF g2 (ixO 0 c7 1)))) (k0_ ()) (grd (okIx c7 a6) (grd (z8l (gF g3 (ixO 0 c7 1))) (br (bnot (z7t (gF g3 (ixO 0 c7 1)))) (k0_ ()) (kn_ (addI .i64 c7 1))))))))))) (br (bnot Bool.false) (k0_ ()) (br (ltI 0 c7) (grd (okIx c7 a4) (grd (okIx (subI .i64 c7 1) a4) (br (fcmp .leq .f32 (gF g1 (ixO 0 c7 1)) (gF g1 (ixO 0 (subI .i64 c7 1) 1))) (k0_ ()) (grd (okIx c7 a5) (grd (z12 (gF g2 (ixO 0 c7 1))) (br (bnot (z0v (gF g2 (ixO 0 c7 1)))) (k0_ ()) (grd (okIx c7 a6) (grd (z8l (gF g3 (ixO 0 c7 1))) (br (bnot (z7t (gF g3 (ixO 0 c7 1)))) (k0_ ()) (kn_ (addI .i64 c7 1))))))))))) (grd (okIx c7 a5) (grd (z12 (gF g2 (ixO 0 c7 1))) (br (bnot (z0v (gF g2 (ixO 0 c7 1)))) (k0_ ()) (grd (okIx c7 a6) (grd (z8l (gF g3 (ixO 0 c7 1))) (br (bnot (z7t (gF g3 (ixO 0 c7 1)))) (k0_ ()) (kn_ (addI .i64 c7 1)))))))))))) (k1_ c7 (ltI c7 c0)))
theorem y3o{R R':Type}(o:Option R→Option R')(h0:o none=none)(kn_:Int→Option R)(k0_:Unit→Option R)(k1_:Int→Bool→Option R):z4g c0 g1 g2 g3 a4 a5 a6 c7 (fun t4'=>o (kn_ t4')) (fun _=>o (k0_ ())) (fun c0_ c1_=>o (k1_ c0_ c1_))=o (z4g c0 g1 g2 g3 a4 a5 a6 c7 kn_ k0_ k1_):=by
 unfold z4g
 repeat (first | apply grd_out h0 | apply br_out | rfl)
def z1w(t3:Int)(b0 b1 b2:List Nat)(q1l q1y q1z:Nat):Nat→Int→Option ((Unit)⊕(Int×Bool))
 | 0,_=>none
 | n+1,t4=>z4g t3 b0 b1 b2 q1l q1y q1z  t4  (fun t4'=>z1w t3 b0 b1 b2 q1l q1y q1z n t4') (fun _=>some (Sum.inl ())) (fun c0_ c1_=>some (Sum.inr (c0_,c1_)))
theorem zn3:z1w c0 g1 g2 g3 a4 a5 a6 (a7+1) c8=z4g c0 g1 g2 g3 a4 a5 a6  c8  (fun t4'=>z1w c0 g1 g2 g3 a4 a5 a6 a7 t4') (fun _=>some (Sum.inl ())) (fun c0_ c1_=>some (Sum.inr (c0_,c1_))):=rfl
def zba:Bool:=(z1w c0 g1 g2 g3 a4 a5 a6 big c7).isSome
def za3:Bool:=oL (z1w c0 g1 g2 g3 a4 a5 a6 big c7)
def y63:Int:=((tR (z1w c0 g1 g2 g3 a4 a5 a6 big c7)).getD default).1
def y5b:Bool:=((tR (z1w c0 g1 g2 g3 a4 a5 a6 big c7)).getD default).2
def z0b{R:Type}(kn_:Int→Option R)(k0_:Int→Option R)(k1_:Int→Bool→Option R):Option R:=(br (ltI c3 c1) (grd (okIx c3 a0) (grd (zmq (gF g2 (ixO 0 c3 1))) (br (zm6 (gF g2 (ixO 0 c3 1))) (k0_ c3) (kn_ (addI .i64 c3 1))))) (k1_ c3 (ltI c3 c1)))
theorem za5{R R':Type}(o:Option R→Option R')(h0:o none=none)(kn_:Int→Option R)(k0_:Int→Option R)(k1_:Int→Bool→Option R):z0b a0 c1 g2 c3 (fun t8'=>o (kn_ t8')) (fun c0_=>o (k0_ c0_)) (fun c0_ c1_=>o (k1_ c0_ c1_))=o (z0b a0 c1 g2 c3 kn_ k0_ k1_):=by
 unfold z0b
 repeat (first | apply grd_out h0 | apply br_out | rfl)
def z01(sn:Nat)(t7:Int)(b0:List Nat):Nat→Int→Option ((Int)⊕(Int×Bool))
 | 0,_=>none
 | n+1,t8=>z0b sn t7 b0  t8  (fun t8'=>z01 sn t7 b0 n t8') (fun c0_=>some (Sum.inl c0_)) (fun c0_ c1_=>some (Sum.inr (c0_,c1_)))
theorem z4j:z01 a0 c1 g2 (a3+1) c4=z0b a0 c1 g2  c4  (fun t8'=>z01 a0 c1 g2 a3 t8') (fun c0_=>some (Sum.inl c0_)) (fun c0_ c1_=>some (Sum.inr (c0_,c1_))):=rfl
def z2y:Bool:=(z01 a0 c1 g2 big c3).isSome
def z2s:Bool:=oL (z01 a0 c1 g2 big c3)
def z4x:Int:=((tL (z01 a0 c1 g2 big c3)).getD default)
def zap:Int:=((tR (z01 a0 c1 g2 big c3)).getD default).1
def zaq:Bool:=((tR (z01 a0 c1 g2 big c3)).getD default).2
def z0c{R:Type}(kn_:Int→Option R)(k0_:Int→Option R)(k1_:Int→Bool→Option R):Option R:=(br (ltI c3 c1) (grd (okIx c3 a0) (grd (zr2 (gF g2 (ixO 0 c3 1))) (br (zpa (gF g2 (ixO 0 c3 1))) (k0_ c3) (kn_ (addI .i64 c3 1))))) (k1_ c3 (ltI c3 c1)))
theorem zb0{R R':Type}(o:Option R→Option R')(h0:o none=none)(kn_:Int→Option R)(k0_:Int→Option R)(k1_:Int→Bool→Option R):z0c a0 c1 g2 c3 (fun t8'=>o (kn_ t8')) (fun c0_=>o (k0_ c0_)) (fun c0_ c1_=>o (k1_ c0_ c1_))=o (z0c a0 c1 g2 c3 kn_ k0_ k1_):=by
 unfold z0c
 repeat (first | apply grd_out h0 | apply br_out | rfl)
def z02(sn:Nat)(t7:Int)(b0:List Nat):Nat→Int→Option ((Int)⊕(Int×Bool))
 | 0,_=>none
 | n+1,t8=>z0c sn t7 b0  t8  (fun t8'=>z02 sn t7 b0 n t8') (fun c0_=>some (Sum.inl c0_)) (fun c0_ c1_=>some (Sum.inr (c0_,c1_)))
theorem z4y:z02 a0 c1 g2 (a3+1) c4=z0c a0 c1 g2  c4  (fun t8'=>z02 a0 c1 g2 a3 t8') (fun c0_=>some (Sum.inl c0_)) (fun c0_ c1_=>some (Sum.inr (c0_,c1_))):=rfl
def z3a:Bool:=(z02 a0 c1 g2 big c3).isSome
def z33:Bool:=oL (z02 a0 c1 g2 big c3)
def z5r:Int:=((tL (z02 a0 c1 g2 big c3)).getD default)
def zbj:Int:=((tR (z02 a0 c1 g2 big c3)).getD default).1
def zbo:Bool:=((tR (z02 a0 c1 g2 big c3)).getD default).2
def zie{R:Type}(q25:Int)(q2b q2c:Nat) (k_:Nat→Nat→Nat→Nat→(List Nat)→(List Nat)→(List Nat)→(List Nat)→Option R):Option R:=(grd (zuj a0 (pF g1 0 (muN a0 1)) a2 (pF g3 0 (muN a2 1)) a4 (pF g5 0 (muN a4 1))) (grd (zsv a6 (pF g7 0 (muN a6 3))) (k_ (zsa a0 (pF g1 0 (muN a0 1)) a2 (pF g3 0 (muN a2 1)) a4 (pF g5 0 (muN a4 1))) (zst a0 (pF g1 0 (muN a0 1)) a2 (pF g3 0 (muN a2 1)) a4 (pF g5 0 (muN a4 1))) (zsr a0 (pF g1 0 (muN a0 1)) a2 (pF g3 0 (muN a2 1)) a4 (pF g5 0 (muN a4 1))) (zqt a6 (pF g7 0 (muN a6 3))) (zsn a0 (pF g1 0 (muN a0 1)) a2 (pF g3 0 (muN a2 1)) a4 (pF g5 0 (muN a4 1))) (zsy a0 (pF g1 0 (muN a0 1)) a2 (pF g3 0 (muN a2 1)) a4 (pF g5 0 (muN a4 1))) (zsg a0 (pF g1 0 (muN a0 1)) a2 (pF g3 0 (muN a2 1)) a4 (pF g5 0 (muN a4 1))) (zr1 a6 (pF g7 0 (muN a6 3))))))
def z1v:Option (Nat×Nat×Nat×Nat×(List Nat)×(List Nat)×(List Nat)×(List Nat)):=zie a0 g1 a2 g3 a4 g5 a6 g7 c8 a9 a10 (fun c0_ c1_ c2_ c3_ c4_ c5_ c6_ c7_=>some (c0_,c1_,c2_,c3_,c4_,c5_,c6_,c7_))
theorem y61:Nt8 (fun {R}=>zie (R:=R) a0 g1 a2 g3 a4 g5 a6 g7 c8 a9 a10):=by
 intro R R' o h0 k;unfold zie;repeat (first | apply grd_out h0 | apply br_out | rfl)
def zq9:Bool:=(z1v a0 g1 a2 g3 a4 g5 a6 g7 c8 a9 a10).isSome
def zn4:Nat:=((z1v a0 g1 a2 g3 a4 g5 a6 g7 c8 a9 a10).getD default).1
def zoc:Nat:=((z1v a0 g1 a2 g3 a4 g5 a6 g7 c8 a9 a10).getD default).2.1
def zo7:Nat:=((z1v a0 g1 a2 g3 a4 g5 a6 g7 c8 a9 a10).getD default).2.2.1
def znm:Nat:=((z1v a0 g1 a2 g3 a4 g5 a6 g7 c8 a9 a10).getD default).2.2.2.1
def zmv:List Nat:=((z1v a0 g1 a2 g3 a4 g5 a6 g7 c8 a9 a10).getD default).2.2.2.2.1
def zn5:List Nat:=((z1v a0 g1 a2 g3 a4 g5 a6 g7 c8 a9 a10).getD default).2.2.2.2.2.1
def znh:List Nat:=((z1v a0 g1 a2 g3 a4 g5 a6 g7 c8 a9 a10).getD default).2.2.2.2.2.2.1
def zny:List Nat:=((z1v a0 g1 a2 g3 a4 g5 a6 g7 c8 a9 a10).getD default).2.2.2.2.2.2.2
def zen{R:Type}(k_:Bool→Option R):Option R:=(grd (z98 a0 (pF g1 0 (muN a0 1)) a6 (pF g7 0 (muN a6 1))) (br (bnot (z8f a0 (pF g1 0 (muN a0 1)) a6 (pF g7 0 (muN a6 1)))) (k_ Bool.false) (grd (z98 a2 (pF g3 0 (muN a2 1)) a8 (pF g9 0 (muN a8 1))) (br (bnot (z8f a2 (pF g3 0 (muN a2 1)) a8 (pF g9 0 (muN a8 1)))) (k_ Bool.false) (grd (z98 a4 (pF g5 0 (muN a4 1)) a10 (pF g11 0 (muN a10 1))) (br (bnot (z8f a4 (pF g5 0 (muN a4 1)) a10 (pF g11 0 (muN a10 1)))) (k_ Bool.false) (k_ Bool.true)))))))
def z69:Option (Bool):=zen a0 g1 a2 g3 a4 g5 a6 g7 a8 g9 a10 g11 (fun c0_=>some c0_)
theorem y24:Nt1 (fun {R}=>zen (R:=R) a0 g1 a2 g3 a4 g5 a6 g7 a8 g9 a10 g11):=by
 intro R R' o h0 k;unfold zen;repeat (first | apply grd_out h0 | apply br_out | rfl)
def zuk:Bool:=(z69 a0 g1 a2 g3 a4 g5 a6 g7 a8 g9 a10 g11).isSome
def zso:Bool:=((z69 a0 g1 a2 g3 a4 g5 a6 g7 a8 g9 a10 g11).getD default)
def zd9{R:Type}(k_:Bool→Option R):Option R:=(br (neI (Int.ofNat a0) (Int.ofNat a2)) (k_ Bool.false) (grd (zex a0 a2 g1 g3 0) (br (zdr a0 a2 g1 g3 0) (k_ Bool.false) (k_ Bool.true))))
def z59:Option (Bool):=zd9 a0 g1 a2 g3 (fun c0_=>some c0_)
theorem zzx:Nt1 (fun {R}=>zd9 (R:=R) a0 g1 a2 g3):=by
 intro R R' o h0 k;unfold zd9;repeat (first | apply grd_out h0 | apply br_out | rfl)
def zs9:Bool:=(z59 a0 g1 a2 g3).isSome
def zqy:Bool:=((z59 a0 g1 a2 g3).getD default)
def zon{R:Type}(k_:Bool→Option R):Option R:=(br (ltI (Int.ofNat a0) 2) (k_ Bool.false) (br (ltI 24 (Int.ofNat a0)) (k_ Bool.false) (br (neI (Int.ofNat a2) (Int.ofNat a0)) (k_ Bool.false) (br (neI (Int.ofNat a4) (Int.ofNat a0)) (k_ Bool.false) (grd (zba (Int.ofNat a0) g1 g3 g5 a0 a2 a4 0) (br (za3 (Int.ofNat a0) g1 g3 g5 a0 a2 a4 0) (k_ Bool.false) (k_ Bool.true)))))))
def za0:Option (Bool):=zon a0 g1 a2 g3 a4 g5 (fun c0_=>some c0_)
theorem yae:Nt1 (fun {R}=>zon (R:=R) a0 g1 a2 g3 a4 g5):=by
 intro R R' o h0 k;unfold zon;repeat (first | apply grd_out h0 | apply br_out | rfl)
def y4u:Bool:=(za0 a0 g1 a2 g3 a4 g5).isSome
def y2k:Bool:=((za0 a0 g1 a2 g3 a4 g5).getD default)
def z21{R:Type}(k_:Int→Option R):Option R:=(grd (z2y a0 (Int.ofNat a0) g1 0) (br (z2s a0 (Int.ofNat a0) g1 0) (k_ (z4x a0 (Int.ofNat a0) g1 0)) (k_ (Int.negSucc 0))))
def z0n:Option (Int):=z21 a0 g1 (fun c0_=>some c0_)
theorem zbm:Nt1 (fun {R}=>z21 (R:=R) a0 g1):=by
 intro R R' o h0 k;unfold z21;repeat (first | apply grd_out h0 | apply br_out | rfl)
def z6u:Bool:=(z0n a0 g1).isSome
def z6f:Int:=((z0n a0 g1).getD default)
def z29{R:Type}(k_:Int→Option R):Option R:=(grd (z3a a0 (Int.ofNat a0) g1 0) (br (z33 a0 (Int.ofNat a0) g1 0) (k_ (z5r a0 (Int.ofNat a0) g1 0)) (k_ (Int.negSucc 0))))
def z0r:Option (Int):=z29 a0 g1 (fun c0_=>some c0_)
theorem zcn:Nt1 (fun {R}=>z29 (R:=R) a0 g1):=by
 intro R R' o h0 k;unfold z29;repeat (first | apply grd_out h0 | apply br_out | rfl)
def z78:Bool:=(z0r a0 g1).isSome
def z6z:Int:=((z0r a0 g1).getD default)
def zii{R:Type}(k_:Nat→Option R):Option R:=(grd (zqz (fcvV .f32 .f64 a0)) (grd (zl9 (zgu (fcvV .f32 .f64 a0))) (k_ (zcs (zgu (fcvV .f32 .f64 a0))))))
def z6l:Option (Nat):=zii a0 (fun c0_=>some c0_)
theorem y5x:Nt1 (fun {R}=>zii (R:=R) a0):=by
 intro R R' o h0 k;unfold zii;repeat (first | apply grd_out h0 | apply br_out | rfl)
def z7y:Bool:=(z6l a0).isSome
def z1f:Nat:=((z6l a0).getD default)
def z0d{R:Type}(kn_:Int→Option R)(k0_:Int→Option R)(k1_:Int→Bool→Option R):Option R:=(br (ltI c3 c1) (grd (okIx c3 a0) (grd (zsl (gF g2 (ixO 0 c3 1))) (br (zr4 (gF g2 (ixO 0 c3 1))) (k0_ c3) (kn_ (addI .i64 c3 1))))) (k1_ c3 (ltI c3 c1)))
theorem zb8{R R':Type}(o:Option R→Option R')(h0:o none=none)(kn_:Int→Option R)(k0_:Int→Option R)(k1_:Int→Bool→Option R):z0d a0 c1 g2 c3 (fun t8'=>o (kn_ t8')) (fun c0_=>o (k0_ c0_)) (fun c0_ c1_=>o (k1_ c0_ c1_))=o (z0d a0 c1 g2 c3 kn_ k0_ k1_):=by
 unfold z0d
 repeat (first | apply grd_out h0 | apply br_out | rfl)
def z03(sn:Nat)(t7:Int)(b0:List Nat):Nat→Int→Option ((Int)⊕(Int×Bool))
 | 0,_=>none
 | n+1,t8=>z0d sn t7 b0  t8  (fun t8'=>z03 sn t7 b0 n t8') (fun c0_=>some (Sum.inl c0_)) (fun c0_ c1_=>some (Sum.inr (c0_,c1_)))
theorem z58:z03 a0 c1 g2 (a3+1) c4=z0d a0 c1 g2  c4  (fun t8'=>z03 a0 c1 g2 a3 t8') (fun c0_=>some (Sum.inl c0_)) (fun c0_ c1_=>some (Sum.inr (c0_,c1_))):=rfl
def z3n:Bool:=(z03 a0 c1 g2 big c3).isSome
def z3k:Bool:=oL (z03 a0 c1 g2 big c3)
def z5v:Int:=((tL (z03 a0 c1 g2 big c3)).getD default)
def zch:Int:=((tR (z03 a0 c1 g2 big c3)).getD default).1
def zc8:Bool:=((tR (z03 a0 c1 g2 big c3)).getD default).2
def zih{R:Type}(k_:Bool→Option R):Option R:=(grd (zuk a0 (pF g1 0 (muN a0 1)) a2 (pF g3 0 (muN a2 1)) a4 (pF g5 0 (muN a4 1)) a11 (pF g12 0 (muN a11 1)) a13 (pF g14 0 (muN a13 1)) a15 (pF g16 0 (muN a15 1))) (br (bnot (zso a0 (pF g1 0 (muN a0 1)) a2 (pF g3 0 (muN a2 1)) a4 (pF g5 0 (muN a4 1)) a11 (pF g12 0 (muN a11 1)) a13 (pF g14 0 (muN a13 1)) a15 (pF g16 0 (muN a15 1)))) (k_ Bool.false) (grd (zs9 a6 (pF g7 0 (muN a6 3)) a17 (pF g18 0 (muN a17 3))) (br (bnot (zqy a6 (pF g7 0 (muN a6 3)) a17 (pF g18 0 (muN a17 3)))) (k_ Bool.false) (br (neI c8 c19) (k_ Bool.false) (grd (z4n (fcvV .f32 .f64 a9) (fcvV .f32 .f64 a20)) (br (bnot (z48 (fcvV .f32 .f64 a9) (fcvV .f32 .f64 a20))) (k_ Bool.false) (grd (z4n (fcvV .f32 .f64 a10) (fcvV .f32 .f64 a21)) (br (bnot (z48 (fcvV .f32 .f64 a10) (fcvV .f32 .f64 a21))) (k_ Bool.false) (k_ Bool.true))))))))))
def z7u:Option (Bool):=zih a0 g1 a2 g3 a4 g5 a6 g7 c8 a9 a10 a11 g12 a13 g14 a15 g16 a17 g18 c19 a20 a21 (fun c0_=>some c0_)
theorem y5y:Nt1 (fun {R}=>zih (R:=R) a0 g1 a2 g3 a4 g5 a6 g7 c8 a9 a10 a11 g12 a13 g14 a15 g16 a17 g18 c19 a20 a21):=by
 intro R R' o h0 k;unfold zih;repeat (first | apply grd_out h0 | apply br_out | rfl)
def zpk:Bool:=(z7u a0 g1 a2 g3 a4 g5 a6 g7 c8 a9 a10 a11 g12 a13 g14 a15 g16 a17 g18 c19 a20 a21).isSome
def znu:Bool:=((z7u a0 g1 a2 g3 a4 g5 a6 g7 c8 a9 a10 a11 g12 a13 g14 a15 g16 a17 g18 c19 a20 a21).getD default)
def z2e{R:Type}(k_:Int→Option R):Option R:=(grd (z3n a0 (Int.ofNat a0) g1 0) (br (z3k a0 (Int.ofNat a0) g1 0) (k_ (z5v a0 (Int.ofNat a0) g1 0)) (k_ (Int.negSucc 0))))
def z0t:Option (Int):=z2e a0 g1 (fun c0_=>some c0_)
theorem ze0:Nt1 (fun {R}=>z2e (R:=R) a0 g1):=by
 intro R R' o h0 k;unfold z2e;repeat (first | apply grd_out h0 | apply br_out | rfl)
def z7k:Bool:=(z0t a0 g1).isSome
def z77:Int:=((z0t a0 g1).getD default)
def zoj{R:Type}(k_:Nat→Option R):Option R:=(grd (bnot (nanQ .f64 a0)) (k_ (fint Ieee.Toward.down a0)))
def zae:Option (Nat):=zoj a0 (fun c0_=>some c0_)
theorem ya7:Nt1 (fun {R}=>zoj (R:=R) a0):=by
 intro R R' o h0 k;unfold zoj;repeat (first | apply grd_out h0 | apply br_out | rfl)
def zv0:Bool:=(zae a0).isSome
def z92:Nat:=((zae a0).getD default)
def z53{R:Type}(kn_:Nat→Nat→Option R)(k0_:Nat→Nat→Bool→Option R):Option R:=(br (fcmp .geq .f64 a2 4607182418800017408) (kn_ (fop .sub .f64 4607182418800017408 (fop .quo .f64 (fop .mul .f64 a0 a1) (fop .mul .f64 (fop .mul .f64 4611686018427387904 a2) (fop .add .f64 (fop .mul .f64 4611686018427387904 a2) 4607182418800017408)))) (fop .sub .f64 a2 4607182418800017408)) (k0_ a1 a2 (fcmp .geq .f64 a2 4607182418800017408)))
theorem y6k{R R':Type}(o:Option R→Option R')(h0:o none=none)(kn_:Nat→Nat→Option R)(k0_:Nat→Nat→Bool→Option R):z53 a0 a1 a2 (fun p' k'=>o (kn_ p' k')) (fun c0_ c1_ c2_=>o (k0_ c0_ c1_ c2_))=o (z53 a0 a1 a2 kn_ k0_):=by
 unfold z53
 repeat (first | apply grd_out h0 | apply br_out | rfl)
def z1u(u:Nat):Nat→Nat→Nat→Option ((Nat×Nat×Bool))
 | 0,_,_=>none
 | n+1,p,k=>z53 u  p k  (fun p' k'=>z1u u n p' k') (fun c0_ c1_ c2_=>some (c0_,c1_,c2_))
theorem zp0:z1u a0 (a1+1) a2 a3=z53 a0  a2 a3  (fun p' k'=>z1u a0 a1 p' k') (fun c0_ c1_ c2_=>some (c0_,c1_,c2_)):=rfl
def z9x:Bool:=(z1u a0 big a1 a2).isSome
def z75:Nat:=((z1u a0 big a1 a2).getD default).1
def y8a:Nat:=((z1u a0 big a1 a2).getD default).2.1
def y7p:Bool:=((z1u a0 big a1 a2).getD default).2.2
def z1n{R:Type}(k_:Bool→Option R):Option R:=(grd (z6u a0 (pF g1 0 (muN a0 1))) (k_ (leI 0 (z6f a0 (pF g1 0 (muN a0 1))))))
def z0i:Option (Bool):=z1n a0 g1 (fun c0_=>some c0_)
theorem za2:Nt1 (fun {R}=>z1n (R:=R) a0 g1):=by
 intro R R' o h0 k;unfold z1n;repeat (first | apply grd_out h0 | apply br_out | rfl)
def z5t:Bool:=(z0i a0 g1).isSome
def z5q:Bool:=((z0i a0 g1).getD default)
def z1s{R:Type}(k_:Bool→Option R):Option R:=(grd (z78 a0 (pF g1 0 (muN a0 1))) (k_ (leI 0 (z6z a0 (pF g1 0 (muN a0 1))))))
def z0k:Option (Bool):=z1s a0 g1 (fun c0_=>some c0_)
theorem zb2:Nt1 (fun {R}=>z1s (R:=R) a0 g1):=by
 intro R R' o h0 k;unfold z1s;repeat (first | apply grd_out h0 | apply br_out | rfl)
def z6p:Bool:=(z0k a0 g1).isSome
def z61:Bool:=((z0k a0 g1).getD default)
def z20{R:Type}(k_:Bool→Option R):Option R:=(grd (z7k a0 (pF g1 0 (muN a0 1))) (k_ (leI 0 (z77 a0 (pF g1 0 (muN a0 1))))))
def z0m:Option (Bool):=z20 a0 g1 (fun c0_=>some c0_)
theorem zbu:Nt1 (fun {R}=>z20 (R:=R) a0 g1):=by
 intro R R' o h0 k;unfold z20;repeat (first | apply grd_out h0 | apply br_out | rfl)
def z6s:Bool:=(z0m a0 g1).isSome
def z6k:Bool:=((z0m a0 g1).getD default)
def zqn{R:Type}(k_:Nat→Option R):Option R:=(grd (zs6 a0) (br (fcmp .geq .f64 (z09 a0) 4602678819172646912) (br (fcmp .gtr .f64 (fop .sub .f64 (z09 a0) 4602678819172646912) 4598175219545276416) (grd (z9x (fop .mul .f64 (fop .mul .f64 (fop .sub .f64 4602678819172646912 (fop .sub .f64 (z09 a0) 4602678819172646912)) 4618760256179416344) (fop .mul .f64 (fop .sub .f64 4602678819172646912 (fop .sub .f64 (z09 a0) 4602678819172646912)) 4618760256179416344)) 4607182418800017408 4620693217682128896) (k_ (fneg .f64 (fop .mul .f64 (fop .mul .f64 (fop .sub .f64 4602678819172646912 (fop .sub .f64 (z09 a0) 4602678819172646912)) 4618760256179416344) (z75 (fop .mul .f64 (fop .mul .f64 (fop .sub .f64 4602678819172646912 (fop .sub .f64 (z09 a0) 4602678819172646912)) 4618760256179416344) (fop .mul .f64 (fop .sub .f64 4602678819172646912 (fop .sub .f64 (z09 a0) 4602678819172646912)) 4618760256179416344)) 4607182418800017408 4620693217682128896))))) (grd (z9x (fop .mul .f64 (fop .mul .f64 (fop .sub .f64 (z09 a0) 4602678819172646912) 4618760256179416344) (fop .mul .f64 (fop .sub .f64 (z09 a0) 4602678819172646912) 4618760256179416344)) 4607182418800017408 4620693217682128896) (k_ (fneg .f64 (fop .mul .f64 (fop .mul .f64 (fop .sub .f64 (z09 a0) 4602678819172646912) 4618760256179416344) (z75 (fop .mul .f64 (fop .mul .f64 (fop .sub .f64 (z09 a0) 4602678819172646912) 4618760256179416344) (fop .mul .f64 (fop .sub .f64 (z09 a0) 4602678819172646912) 4618760256179416344)) 4607182418800017408 4620693217682128896)))))) (br (fcmp .gtr .f64 (z09 a0) 4598175219545276416) (grd (z9x (fop .mul .f64 (fop .mul .f64 (fop .sub .f64 4602678819172646912 (z09 a0)) 4618760256179416344) (fop .mul .f64 (fop .sub .f64 4602678819172646912 (z09 a0)) 4618760256179416344)) 4607182418800017408 4620693217682128896) (k_ (fop .mul .f64 (fop .mul .f64 (fop .sub .f64 4602678819172646912 (z09 a0)) 4618760256179416344) (z75 (fop .mul .f64 (fop .mul .f64 (fop .sub .f64 4602678819172646912 (z09 a0)) 4618760256179416344) (fop .mul .f64 (fop .sub .f64 4602678819172646912 (z09 a0)) 4618760256179416344)) 4607182418800017408 4620693217682128896)))) (grd (z9x (fop .mul .f64 (fop .mul .f64 (z09 a0) 4618760256179416344) (fop .mul .f64 (z09 a0) 4618760256179416344)) 4607182418800017408 4620693217682128896) (k_ (fop .mul .f64 (fop .mul .f64 (z09 a0) 4618760256179416344) (z75 (fop .mul .f64 (fop .mul .f64 (z09 a0) 4618760256179416344) (fop .mul .f64 (z09 a0) 4618760256179416344)) 4607182418800017408 4620693217682128896)))))))
def zc3:Option (Nat):=zqn a0 (fun c0_=>some c0_)
theorem ybh:Nt1 (fun {R}=>zqn (R:=R) a0):=by
 intro R R' o h0 k;unfold zqn;repeat (first | apply grd_out h0 | apply br_out | rfl)
def y8t:Bool:=(zc3 a0).isSome
def zua:Nat:=((zc3 a0).getD default)
def zev{R:Type}(k_:Nat→Option R):Option R:=(grd (zv0 (fop .add .f64 (fcvV .f32 .f64 a0) 4602678819172646912)) (grd (fcvB .f64 .f32 (fop .sub .f64 (fcvV .f32 .f64 a0) (z92 (fop .add .f64 (fcvV .f32 .f64 a0) 4602678819172646912)))) (br (fcmp .geq .f32 (fcvV .f64 .f32 (fop .sub .f64 (fcvV .f32 .f64 a0) (z92 (fop .add .f64 (fcvV .f32 .f64 a0) 4602678819172646912)))) 1056964608) (k_ 3204448256) (k_ (fcvV .f64 .f32 (fop .sub .f64 (fcvV .f32 .f64 a0) (z92 (fop .add .f64 (fcvV .f32 .f64 a0) 4602678819172646912))))))))
def z68:Option (Nat):=zev a0 (fun c0_=>some c0_)
theorem y2e:Nt1 (fun {R}=>zev (R:=R) a0):=by
 intro R R' o h0 k;unfold zev;repeat (first | apply grd_out h0 | apply br_out | rfl)
def zu5:Bool:=(z68 a0).isSome
def z10:Nat:=((z68 a0).getD default)
def zif{R:Type}(k_:Nat→Option R):Option R:=(grd (zv0 (fop .add .f64 (fcvV .f32 .f64 a0) 4602678819172646912)) (grd (zl9 (fop .sub .f64 (fcvV .f32 .f64 a0) (z92 (fop .add .f64 (fcvV .f32 .f64 a0) 4602678819172646912)))) (br (fcmp .geq .f32 (zcs (fop .sub .f64 (fcvV .f32 .f64 a0) (z92 (fop .add .f64 (fcvV .f32 .f64 a0) 4602678819172646912)))) 1056964608) (k_ 3204448256) (k_ (zcs (fop .sub .f64 (fcvV .f32 .f64 a0) (z92 (fop .add .f64 (fcvV .f32 .f64 a0) 4602678819172646912))))))))
def z7w:Option (Nat):=zif a0 (fun c0_=>some c0_)
theorem y4z:Nt1 (fun {R}=>zif (R:=R) a0):=by
 intro R R' o h0 k;unfold zif;repeat (first | apply grd_out h0 | apply br_out | rfl)
def zzt:Bool:=(z7w a0).isSome
def z4h:Nat:=((z7w a0).getD default)
def z4f{R:Type}(kn_:Nat→Int→Option R)(k0_:Unit→Option R)(k1_:Nat→Int→Bool→Option R):Option R:=(br (ltI c5 c0) (grd (okIx c5 a2) (br (bnot (fcmp .gtr .f32 (gF g1 (ixO 0 c5 3)) a4)) (k0_ ()) (br (bnot (fcmp .lss .f32 (gF g1 (ixO 0 c5 3)) a3)) (k0_ ()) (grd (zbf (gF g1 (Nat.succ (ixO 0 c5 3)))) (br (bnot (zad (gF g1 (Nat.succ (ixO 0 c5 3))))) (k0_ ()) (grd (z12 (gF g1 (Nat.succ (Nat.succ (ixO 0 c5 3))))) (br (bnot (z0v (gF g1 (Nat.succ (Nat.succ (ixO 0 c5 3)))))) (k0_ ()) (kn_ (gF g1 (ixO 0 c5 3)) (addI .i64 c5 1))))))))) (k1_ a4 c5 (ltI c5 c0)))
theorem y3k{R R':Type}(o:Option R→Option R')(h0:o none=none)(kn_:Nat→Int→Option R)(k0_:Unit→Option R)(k1_:Nat→Int→Bool→Option R):z4f c0 g1 a2 a3 a4 c5 (fun t4' t58'=>o (kn_ t4' t58')) (fun _=>o (k0_ ())) (fun c0_ c1_ c2_=>o (k1_ c0_ c1_ c2_))=o (z4f c0 g1 a2 a3 a4 c5 kn_ k0_ k1_):=by
 unfold z4f
 repeat (first | apply grd_out h0 | apply br_out | rfl)
def z14(t57:Int)(b3:List Nat)(q0r q0z:Nat):Nat→Nat→Int→Option ((Unit)⊕(Nat×Int×Bool))
 | 0,_,_=>none
 | n+1,t4,t58=>z4f t57 b3 q0r q0z  t4 t58  (fun t4' t58'=>z14 t57 b3 q0r q0z n t4' t58') (fun _=>some (Sum.inl ())) (fun c0_ c1_ c2_=>some (Sum.inr (c0_,c1_,c2_)))
theorem zol:z14 c0 g1 a2 a3 (a4+1) a5 c6=z4f c0 g1 a2 a3  a5 c6  (fun t4' t58'=>z14 c0 g1 a2 a3 a4 t4' t58') (fun _=>some (Sum.inl ())) (fun c0_ c1_ c2_=>some (Sum.inr (c0_,c1_,c2_))):=rfl
def zh7:Bool:=(z14 c0 g1 a2 a3 big a4 c5).isSome
def zf1:Bool:=oL (z14 c0 g1 a2 a3 big a4 c5)
def y58:Nat:=((tR (z14 c0 g1 a2 a3 big a4 c5)).getD default).1
def y6h:Int:=((tR (z14 c0 g1 a2 a3 big a4 c5)).getD default).2.1
def y5f:Bool:=((tR (z14 c0 g1 a2 a3 big a4 c5)).getD default).2.2
def zbc{R:Type}(k_:Bool→Option R):Option R:=(grd (z5t a0 (pF g1 0 (muN a0 1))) (k_ (bnot (z5q a0 (pF g1 0 (muN a0 1))))))
def z1r:Option (Bool):=zbc a0 g1 (fun c0_=>some c0_)
theorem zxr:Nt1 (fun {R}=>zbc (R:=R) a0 g1):=by
 intro R R' o h0 k;unfold zbc;repeat (first | apply grd_out h0 | apply br_out | rfl)
def z8c:Bool:=(z1r a0 g1).isSome
def z7l:Bool:=((z1r a0 g1).getD default)
def znn{R:Type}(k_:Bool→Option R):Option R:=(grd (y4u a0 (pF g1 0 (muN a0 1)) a2 (pF g3 0 (muN a2 1)) a4 (pF g5 0 (muN a4 1))) (br (bnot (y2k a0 (pF g1 0 (muN a0 1)) a2 (pF g3 0 (muN a2 1)) a4 (pF g5 0 (muN a4 1)))) (k_ Bool.false) (br (ltI (Int.ofNat a6) 2) (k_ Bool.false) (br (ltI 12 (Int.ofNat a6)) (k_ Bool.false) (grd (zty c8 1 6) (br (bnot (zs4 c8 1 6)) (k_ Bool.false) (grd (z8l a9) (br (bnot (z7t a9)) (k_ Bool.false) (grd (z12 a10) (br (bnot (z0v a10)) (k_ Bool.false) (grd (zh7 (Int.ofNat a6) g7 a6 a10 a9 0) (br (zf1 (Int.ofNat a6) g7 a6 a10 a9 0) (k_ Bool.false) (k_ Bool.true)))))))))))))
def z9y:Option (Bool):=znn a0 g1 a2 g3 a4 g5 a6 g7 c8 a9 a10 (fun c0_=>some c0_)
theorem y94:Nt1 (fun {R}=>znn (R:=R) a0 g1 a2 g3 a4 g5 a6 g7 c8 a9 a10):=by
 intro R R' o h0 k;unfold znn;repeat (first | apply grd_out h0 | apply br_out | rfl)
def zuc:Bool:=(z9y a0 g1 a2 g3 a4 g5 a6 g7 c8 a9 a10).isSome
def zru:Bool:=((z9y a0 g1 a2 g3 a4 g5 a6 g7 c8 a9 a10).getD default)
def zfb{R:Type}(k_:Bool→Option R):Option R:=(grd (z6p a0 (pF g1 0 (muN a0 1))) (k_ (bnot (z61 a0 (pF g1 0 (muN a0 1))))))
def z4v:Option (Bool):=zfb a0 g1 (fun c0_=>some c0_)
theorem y2b:Nt1 (fun {R}=>zfb (R:=R) a0 g1):=by
 intro R R' o h0 k;unfold zfb;repeat (first | apply grd_out h0 | apply br_out | rfl)
def zkn:Bool:=(z4v a0 g1).isSome
def ziu:Bool:=((z4v a0 g1).getD default)
def zgx{R:Type}(k_:Bool→Option R):Option R:=(grd (z6s a0 (pF g1 0 (muN a0 1))) (k_ (bnot (z6k a0 (pF g1 0 (muN a0 1))))))
def z70:Option (Bool):=zgx a0 g1 (fun c0_=>some c0_)
theorem y4i:Nt1 (fun {R}=>zgx (R:=R) a0 g1):=by
 intro R R' o h0 k;unfold zgx;repeat (first | apply grd_out h0 | apply br_out | rfl)
def zwv:Bool:=(z70 a0 g1).isSome
def zvm:Bool:=((z70 a0 g1).getD default)
def zeu{R:Type}(k_:Nat→Option R):Option R:=(grd (z2p a0) (br (bnot (z2c a0)) (grd y25 (grd (fcvB .f64 .f32 zqm) (k_ (fcvV .f64 .f32 zqm)))) (grd (y2u (fcvV .f32 .f64 a0)) (br (zzj (fcvV .f32 .f64 a0)) (k_ 0) (grd (y8t (fcvV .f32 .f64 a0)) (grd (fcvB .f64 .f32 (zua (fcvV .f32 .f64 a0))) (k_ (fcvV .f64 .f32 (zua (fcvV .f32 .f64 a0))))))))))
def z6d:Option (Nat):=zeu a0 (fun c0_=>some c0_)
theorem y0t:Nt1 (fun {R}=>zeu (R:=R) a0):=by
 intro R R' o h0 k;unfold zeu;repeat (first | apply grd_out h0 | apply br_out | rfl)
def z4o:Bool:=(z6d a0).isSome
def z1i:Nat:=((z6d a0).getD default)
def zde{R:Type}(k_:Nat→Nat→Bool→Option R):Option R:=(grd (zkn 2 (pF [a0,a1] 0 (muN 2 1))) (br (bnot (ziu 2 (pF [a0,a1] 0 (muN 2 1)))) (k_ 0 0 Bool.false) (k_ a0 a1 Bool.true)))
def z36:Option (Nat×Nat×Bool):=zde a0 a1 (fun c0_ c1_ c2_=>some (c0_,c1_,c2_))
theorem y0b:Nt3 (fun {R}=>zde (R:=R) a0 a1):=by
 intro R R' o h0 k;unfold zde;repeat (first | apply grd_out h0 | apply br_out | rfl)
def zj2:Bool:=(z36 a0 a1).isSome
def zhv:Nat:=((z36 a0 a1).getD default).1
def zhj:Nat:=((z36 a0 a1).getD default).2.1
def zhh:Bool:=((z36 a0 a1).getD default).2.2
def zd1{R:Type}(k_:Bool→Option R):Option R:=(grd (zuc a0 (pF g1 0 (muN a0 1)) a2 (pF g3 0 (muN a2 1)) a4 (pF g5 0 (muN a4 1)) a6 (pF g7 0 (muN a6 3)) c8 a9 a10) (br (zru a0 (pF g1 0 (muN a0 1)) a2 (pF g3 0 (muN a2 1)) a4 (pF g5 0 (muN a4 1)) a6 (pF g7 0 (muN a6 3)) c8 a9 a10) (grd (zty c11 0 (subI .i64 (Int.ofNat a6) 1)) (k_ (zs4 c11 0 (subI .i64 (Int.ofNat a6) 1)))) (k_ Bool.false)))
def z5f:Option (Bool):=zd1 a0 g1 a2 g3 a4 g5 a6 g7 c8 a9 a10 c11 (fun c0_=>some c0_)
theorem zzm:Nt1 (fun {R}=>zd1 (R:=R) a0 g1 a2 g3 a4 g5 a6 g7 c8 a9 a10 c11):=by
 intro R R' o h0 k;unfold zd1;repeat (first | apply grd_out h0 | apply br_out | rfl)
def zsz:Bool:=(z5f a0 g1 a2 g3 a4 g5 a6 g7 c8 a9 a10 c11).isSome
def zqx:Bool:=((z5f a0 g1 a2 g3 a4 g5 a6 g7 c8 a9 a10 c11).getD default)
def z8u{R:Type}(q00:Nat)(q03:List Nat)(q01:Nat)(q05:List Nat)(q02:Nat)(q04:List Nat)(q06:Nat)(q0b:List Nat)(q0g:Int)(q0o q0n:Nat)(i:Int)(q1j:Nat)(k_:Nat→Option R):Option R:=(grd (okIx i q06) (grd (z4o q1j) (k_ (fop .quo .f32 (fop .quo .f32 (fop .mul .f32 (fOI .f32 q0g) (fop .sub .f32 q0n (gF q0b (ixO 0 i 3)))) (fop .mul .f32 1073741824 (gF q0b (ixO 0 i 3)))) (fop .add .f32 (fop .quo .f32 (fop .mul .f32 (fOI .f32 q0g) (fop .sub .f32 q0n (gF q0b (ixO 0 i 3)))) (fop .mul .f32 1073741824 (gF q0b (ixO 0 i 3)))) (z1i q1j))))))
def z3h:Option (Nat):=z8u a0 g1 a2 g3 a4 g5 a6 g7 c8 a9 a10 c11 a12 (fun c0_=>some c0_)
theorem ztl:Nt1 (fun {R}=>z8u (R:=R) a0 g1 a2 g3 a4 g5 a6 g7 c8 a9 a10 c11 a12):=by
 intro R R' o h0 k;unfold z8u;repeat (first | apply grd_out h0 | apply br_out | rfl)
def zm8:Bool:=(z3h a0 g1 a2 g3 a4 g5 a6 g7 c8 a9 a10 c11 a12).isSome
def zc1:Nat:=((z3h a0 g1 a2 g3 a4 g5 a6 g7 c8 a9 a10 c11 a12).getD default)
def z0a{R:Type}(kn_:Int→Option R)(k0_:Int→Option R)(k1_:Int→Bool→Option R):Option R:=(br (ltI c4 c1) (grd (okIx c4 a0) (br (fcmp .gtr .f32 (gF g2 (ixO 0 c4 1)) a3) (k0_ c4) (kn_ (addI .i64 c4 1)))) (k1_ c4 (ltI c4 c1)))
theorem z9w{R R':Type}(o:Option R→Option R')(h0:o none=none)(kn_:Int→Option R)(k0_:Int→Option R)(k1_:Int→Bool→Option R):z0a a0 c1 g2 a3 c4 (fun t8'=>o (kn_ t8')) (fun c0_=>o (k0_ c0_)) (fun c0_ c1_=>o (k1_ c0_ c1_))=o (z0a a0 c1 g2 a3 c4 kn_ k0_ k1_):=by
 unfold z0a
 repeat (first | apply grd_out h0 | apply br_out | rfl)
def z00(sn:Nat)(t7:Int)(b0:List Nat)(b4:Nat):Nat→Int→Option ((Int)⊕(Int×Bool))
 | 0,_=>none
 | n+1,t8=>z0a sn t7 b0 b4  t8  (fun t8'=>z00 sn t7 b0 b4 n t8') (fun c0_=>some (Sum.inl c0_)) (fun c0_ c1_=>some (Sum.inr (c0_,c1_)))
theorem z4e:z00 a0 c1 g2 a3 (a4+1) c5=z0a a0 c1 g2 a3  c5  (fun t8'=>z00 a0 c1 g2 a3 a4 t8') (fun c0_=>some (Sum.inl c0_)) (fun c0_ c1_=>some (Sum.inr (c0_,c1_))):=rfl
def z2t:Bool:=(z00 a0 c1 g2 a3 big c4).isSome
def z2i:Bool:=oL (z00 a0 c1 g2 a3 big c4)
def z07:Int:=((tL (z00 a0 c1 g2 a3 big c4)).getD default)
def zaa:Int:=((tR (z00 a0 c1 g2 a3 big c4)).getD default).1
def zac:Bool:=((tR (z00 a0 c1 g2 a3 big c4)).getD default).2
def z38{R:Type}(kn_:Int→Option R)(k0_:Int→Bool→Option R):Option R:=(br (leI 0 c3) (grd (okIx c3 a2) (br (fcmp .gtr .f32 (gF g1 (ixO 0 c3 1)) a0) (kn_ (subI .i64 c3 1)) (k0_ c3 (fcmp .gtr .f32 (gF g1 (ixO 0 c3 1)) a0)))) (k0_ c3 Bool.false))
theorem y03{R R':Type}(o:Option R→Option R')(h0:o none=none)(kn_:Int→Option R)(k0_:Int→Bool→Option R):z38 a0 g1 a2 c3 (fun t10'=>o (kn_ t10')) (fun c0_ c1_=>o (k0_ c0_ c1_))=o (z38 a0 g1 a2 c3 kn_ k0_):=by
 unfold z38
 repeat (first | apply grd_out h0 | apply br_out | rfl)
def z1j(t8:Nat)(b0:List Nat)(q1l:Nat):Nat→Int→Option ((Int×Bool))
 | 0,_=>none
 | n+1,t10=>z38 t8 b0 q1l  t10  (fun t10'=>z1j t8 b0 q1l n t10') (fun c0_ c1_=>some (c0_,c1_))
theorem zk5:z1j a0 g1 a2 (a3+1) c4=z38 a0 g1 a2  c4  (fun t10'=>z1j a0 g1 a2 a3 t10') (fun c0_ c1_=>some (c0_,c1_)):=rfl
def zs8:Bool:=(z1j a0 g1 a2 big c3).isSome
def zo6:Int:=((z1j a0 g1 a2 big c3).getD default).1
def y0v:Bool:=((z1j a0 g1 a2 big c3).getD default).2
def zk8{R:Type}(k_:Bool→Option R):Option R:=(grd (zsz a0 (pF g1 0 (muN a0 1)) a2 (pF g3 0 (muN a2 1)) a4 (pF g5 0 (muN a4 1)) a6 (pF g7 0 (muN a6 3)) c8 a9 a10 c11) (br (zqx a0 (pF g1 0 (muN a0 1)) a2 (pF g3 0 (muN a2 1)) a4 (pF g5 0 (muN a4 1)) a6 (pF g7 0 (muN a6 3)) c8 a9 a10 c11) (grd (zbf a12) (br (zad a12) (grd (zbf a13) (br (zad a13) (grd (z12 a14) (br (z0v a14) (grd (zwx a0 (pF g1 0 (muN a0 1)) a2 (pF g3 0 (muN a2 1)) a4 (pF g5 0 (muN a4 1)) a6 (pF g7 0 (muN a6 3)) c8 a9 a10 c11 a14) (k_ (zu2 a0 (pF g1 0 (muN a0 1)) a2 (pF g3 0 (muN a2 1)) a4 (pF g5 0 (muN a4 1)) a6 (pF g7 0 (muN a6 3)) c8 a9 a10 c11 a14))) (k_ Bool.false))) (k_ Bool.false))) (k_ Bool.false))) (k_ Bool.false)))
def z93:Option (Bool):=zk8 a0 g1 a2 g3 a4 g5 a6 g7 c8 a9 a10 c11 a12 a13 a14 (fun c0_=>some c0_)
theorem y8i:Nt1 (fun {R}=>zk8 (R:=R) a0 g1 a2 g3 a4 g5 a6 g7 c8 a9 a10 c11 a12 a13 a14):=by
 intro R R' o h0 k;unfold zk8;repeat (first | apply grd_out h0 | apply br_out | rfl)
def y2w:Bool:=(z93 a0 g1 a2 g3 a4 g5 a6 g7 c8 a9 a10 c11 a12 a13 a14).isSome
def zym:Bool:=((z93 a0 g1 a2 g3 a4 g5 a6 g7 c8 a9 a10 c11 a12 a13 a14).getD default)
def z5w{R:Type}(q13:Nat)(q1e:List Nat)(q14:Nat)(q1d:List Nat)(x1:Nat)(k_:Int→Int→Nat→Nat→Nat→Option R):Option R:=(grd (zu5 x1) (grd (z2t a0 (Int.ofNat a0) g1 (z10 x1) 0) (br (z2i a0 (Int.ofNat a0) g1 (z10 x1) 0) (br (eqI (z07 a0 (Int.ofNat a0) g1 (z10 x1) 0) 0) (grd (okIx (subI .i64 (Int.ofNat a0) 1) a0) (grd (okIx 0 a0) (k_ (subI .i64 (Int.ofNat a0) 1) 0 (fop .sub .f32 (gF g1 (ixO 0 (subI .i64 (Int.ofNat a0) 1) 1)) 1065353216) (gF g1 (ixO 0 0 1)) (z10 x1)))) (br (ltI (z07 a0 (Int.ofNat a0) g1 (z10 x1) 0) 0) (grd (okIx (subI .i64 (Int.ofNat a0) 1) a0) (grd (okIx 0 a0) (k_ (subI .i64 (Int.ofNat a0) 1) 0 (gF g1 (ixO 0 (subI .i64 (Int.ofNat a0) 1) 1)) (fop .add .f32 (gF g1 (ixO 0 0 1)) 1065353216) (z10 x1)))) (grd (okIx (subI .i64 (z07 a0 (Int.ofNat a0) g1 (z10 x1) 0) 1) a0) (grd (okIx (z07 a0 (Int.ofNat a0) g1 (z10 x1) 0) a0) (k_ (subI .i64 (z07 a0 (Int.ofNat a0) g1 (z10 x1) 0) 1) (z07 a0 (Int.ofNat a0) g1 (z10 x1) 0) (gF g1 (ixO 0 (subI .i64 (z07 a0 (Int.ofNat a0) g1 (z10 x1) 0) 1) 1)) (gF g1 (ixO 0 (z07 a0 (Int.ofNat a0) g1 (z10 x1) 0) 1)) (z10 x1)))))) (grd (okIx (subI .i64 (Int.ofNat a0) 1) a0) (grd (okIx 0 a0) (k_ (subI .i64 (Int.ofNat a0) 1) 0 (gF g1 (ixO 0 (subI .i64 (Int.ofNat a0) 1) 1)) (fop .add .f32 (gF g1 (ixO 0 0 1)) 1065353216) (z10 x1)))))))
def z0x:Option (Int×Int×Nat×Nat×Nat):=z5w a0 g1 a2 g3 a4 g5 a6 (fun c0_ c1_ c2_ c3_ c4_=>some (c0_,c1_,c2_,c3_,c4_))
theorem zrn:Nt5 (fun {R}=>z5w (R:=R) a0 g1 a2 g3 a4 g5 a6):=by
 intro R R' o h0 k;unfold z5w;repeat (first | apply grd_out h0 | apply br_out | rfl)
def zk0:Bool:=(z0x a0 g1 a2 g3 a4 g5 a6).isSome
def z2n:Int:=((z0x a0 g1 a2 g3 a4 g5 a6).getD default).1
def z2k:Int:=((z0x a0 g1 a2 g3 a4 g5 a6).getD default).2.1
def z3r:Nat:=((z0x a0 g1 a2 g3 a4 g5 a6).getD default).2.2.1
def z7e:Nat:=((z0x a0 g1 a2 g3 a4 g5 a6).getD default).2.2.2.1
def zay:Nat:=((z0x a0 g1 a2 g3 a4 g5 a6).getD default).2.2.2.2
def zbh:=(fop .add .f32 (gF g0 (ixO 0 0 1)) 1065353216)
def z06:=(zo6 (z4h a2) g1 a0 (subI .i64 (Int.ofNat a0) 1))
def z8p:=(gF g1 (ixO 0 (subI .i64 (Int.ofNat a0) 1) 1))
def zbb:=(fcmp .lss .f32 (z4h a1) (gF g0 (ixO 0 0 1)))
def zbs:=(okIx (z06 a0 g1 a2) a0)
def zbx:=(fop .sub .f32 (z8p a0 g1) 1065353216)
def z5m:=(gF g1 (ixO 0 (z06 a0 g1 a2) 1))
def z8m:=(eqI (addI .i64 (z06 a0 g1 a2) 1) 0)
def z6y:=(gF g1 (ixO 0 (addI .i64 (z06 a0 g1 a2) 1) 1))
def z8o:=(fop .sub .f32 (z5m a0 g1 a2) 1065353216)
def z4q:=(fop .sub .f32 (z4h a2) (z5m a0 g1 a2))
def z6c:=(fop .sub .f32 (gF g1 (ixO 0 0 1)) (zbx a0 g1))
def z66:=(fop .sub .f32 (zbh g1) (z8p a0 g1))
def z9z:=(fop .sub .f32 (z4h a2) (z8o a0 g1 a2))
def z64:=(fop .sub .f32 (zbh g1) (z5m a0 g1 a2))
def z6a:=(fop .sub .f32 (gF g1 (ixO 0 0 1)) (z8o a0 g1 a2))
def z2b:=(fop .sub .f32 (z6y a0 g1 a2) (z5m a0 g1 a2))
def z67:=(fop .sub .f32 (z6y a0 g1 a2) (z8o a0 g1 a2))
def z2a:=(fop .sub .f32 (fop .add .f32 (z6y a0 g1 a2) 1065353216) (z5m a0 g1 a2))
def zdl{R:Type}(q13:Nat)(q1e:List Nat)(q14:Nat)(q1d:List Nat)(x1:Nat)(k_:Int→Int→Nat→Nat→Option R):Option R:=(grd (zzt x1) (grd (zs8 (z4h x1) g1 a0 (subI .i64 (Int.ofNat a0) 1)) (br (ltI (z06 a0 g1 x1) 0) (grd (okIx (subI .i64 (Int.ofNat a0) 1) a0) (grd (okIx 0 a0) (br (zbb g1 x1) (br (fcmp .eql .f32 (z6c a0 g1) 0) (k_ (subI .i64 (Int.ofNat a0) 1) 0 0 (z6c a0 g1)) (k_ (subI .i64 (Int.ofNat a0) 1) 0 (fop .quo .f32 (fop .sub .f32 (z4h x1) (zbx a0 g1)) (z6c a0 g1)) (z6c a0 g1))) (br (fcmp .eql .f32 (z66 a0 g1) 0) (k_ (subI .i64 (Int.ofNat a0) 1) 0 0 (z66 a0 g1)) (k_ (subI .i64 (Int.ofNat a0) 1) 0 (fop .quo .f32 (fop .sub .f32 (z4h x1) (z8p a0 g1)) (z66 a0 g1)) (z66 a0 g1)))))) (br (eqI (addI .i64 (z06 a0 g1 x1) 1) (Int.ofNat a0)) (grd (zbs a0 g1 x1) (grd (okIx 0 a0) (br (zbb g1 x1) (br (fcmp .eql .f32 (z6a a0 g1 x1) 0) (k_ (z06 a0 g1 x1) 0 0 (z6a a0 g1 x1)) (k_ (z06 a0 g1 x1) 0 (fop .quo .f32 (z9z a0 g1 x1) (z6a a0 g1 x1)) (z6a a0 g1 x1))) (br (fcmp .eql .f32 (z64 a0 g1 x1) 0) (k_ (z06 a0 g1 x1) 0 0 (z64 a0 g1 x1)) (k_ (z06 a0 g1 x1) 0 (fop .quo .f32 (z4q a0 g1 x1) (z64 a0 g1 x1)) (z64 a0 g1 x1)))))) (grd (zbs a0 g1 x1) (grd (okIx (addI .i64 (z06 a0 g1 x1) 1) a0) (br (z8m a0 g1 x1) (br (fcmp .lss .f32 (z4h x1) (z6y a0 g1 x1)) (br (fcmp .eql .f32 (z67 a0 g1 x1) 0) (k_ (z06 a0 g1 x1) (addI .i64 (z06 a0 g1 x1) 1) 0 (z67 a0 g1 x1)) (k_ (z06 a0 g1 x1) (addI .i64 (z06 a0 g1 x1) 1) (fop .quo .f32 (z9z a0 g1 x1) (z67 a0 g1 x1)) (z67 a0 g1 x1))) (br (z8m a0 g1 x1) (br (fcmp .eql .f32 (z2a a0 g1 x1) 0) (k_ (z06 a0 g1 x1) (addI .i64 (z06 a0 g1 x1) 1) 0 (z2a a0 g1 x1)) (k_ (z06 a0 g1 x1) (addI .i64 (z06 a0 g1 x1) 1) (fop .quo .f32 (z4q a0 g1 x1) (z2a a0 g1 x1)) (z2a a0 g1 x1))) (br (fcmp .eql .f32 (z2b a0 g1 x1) 0) (k_ (z06 a0 g1 x1) (addI .i64 (z06 a0 g1 x1) 1) 0 (z2b a0 g1 x1)) (k_ (z06 a0 g1 x1) (addI .i64 (z06 a0 g1 x1) 1) (fop .quo .f32 (z4q a0 g1 x1) (z2b a0 g1 x1)) (z2b a0 g1 x1))))) (br (z8m a0 g1 x1) (br (fcmp .eql .f32 (z2a a0 g1 x1) 0) (k_ (z06 a0 g1 x1) (addI .i64 (z06 a0 g1 x1) 1) 0 (z2a a0 g1 x1)) (k_ (z06 a0 g1 x1) (addI .i64 (z06 a0 g1 x1) 1) (fop .quo .f32 (z4q a0 g1 x1) (z2a a0 g1 x1)) (z2a a0 g1 x1))) (br (fcmp .eql .f32 (z2b a0 g1 x1) 0) (k_ (z06 a0 g1 x1) (addI .i64 (z06 a0 g1 x1) 1) 0 (z2b a0 g1 x1)) (k_ (z06 a0 g1 x1) (addI .i64 (z06 a0 g1 x1) 1) (fop .quo .f32 (z4q a0 g1 x1) (z2b a0 g1 x1)) (z2b a0 g1 x1)))))))))))
def z3c:Option (Int×Int×Nat×Nat):=zdl a0 g1 a2 g3 a4 g5 a6 (fun c0_ c1_ c2_ c3_=>some (c0_,c1_,c2_,c3_))
theorem y53:Nt4 (fun {R}=>zdl (R:=R) a0 g1 a2 g3 a4 g5 a6):=by
 intro R R' o h0 k;unfold zdl;repeat (first | apply grd_out h0 | apply br_out | rfl)
def zzz:Bool:=(z3c a0 g1 a2 g3 a4 g5 a6).isSome
def zb9:Int:=((z3c a0 g1 a2 g3 a4 g5 a6).getD default).1
def zo2:Int:=((z3c a0 g1 a2 g3 a4 g5 a6).getD default).2.1
def zwt:Nat:=((z3c a0 g1 a2 g3 a4 g5 a6).getD default).2.2.1
def yau:Nat:=((z3c a0 g1 a2 g3 a4 g5 a6).getD default).2.2.2
def z1q{R:Type}(kn_:Int→Option R)(k0_:Unit→Option R)(k1_:Int→Bool→Option R):Option R:=(br (ltI c4 c1) (grd (okIx c4 a0) (grd (zo5 (gF g2 (ixO 0 c4 1)) 3204448256 1056964608) (br (bnot (zlx (gF g2 (ixO 0 c4 1)) 3204448256 1056964608)) (k0_ ()) (br (ltI 0 c4) (grd (okIx (subI .i64 c4 1) a3) (br (fcmp .geq .f32 (gF g2 (ixO 0 (subI .i64 c4 1) 1)) (gF g2 (ixO 0 c4 1))) (k0_ ()) (kn_ (addI .i64 c4 1)))) (kn_ (addI .i64 c4 1)))))) (k1_ c4 (ltI c4 c1)))
theorem zrk{R R':Type}(o:Option R→Option R')(h0:o none=none)(kn_:Int→Option R)(k0_:Unit→Option R)(k1_:Int→Bool→Option R):z1q a0 c1 g2 a3 c4 (fun t44'=>o (kn_ t44')) (fun _=>o (k0_ ())) (fun c0_ c1_=>o (k1_ c0_ c1_))=o (z1q a0 c1 g2 a3 c4 kn_ k0_ k1_):=by
 unfold z1q
 repeat (first | apply grd_out h0 | apply br_out | rfl)
def z0s(q2z:Nat)(t43:Int)(b0:List Nat)(q1l:Nat):Nat→Int→Option ((Unit)⊕(Int×Bool))
 | 0,_=>none
 | n+1,t44=>z1q q2z t43 b0 q1l  t44  (fun t44'=>z0s q2z t43 b0 q1l n t44') (fun _=>some (Sum.inl ())) (fun c0_ c1_=>some (Sum.inr (c0_,c1_)))
theorem zei:z0s a0 c1 g2 a3 (a4+1) c5=z1q a0 c1 g2 a3  c5  (fun t44'=>z0s a0 c1 g2 a3 a4 t44') (fun _=>some (Sum.inl ())) (fun c0_ c1_=>some (Sum.inr (c0_,c1_))):=rfl
def z89:Bool:=(z0s a0 c1 g2 a3 big c4).isSome
def z7h:Bool:=oL (z0s a0 c1 g2 a3 big c4)
def ztn:Int:=((tR (z0s a0 c1 g2 a3 big c4)).getD default).1
def zte:Bool:=((tR (z0s a0 c1 g2 a3 big c4)).getD default).2
def zai{R:Type}(k_:Bool→Option R):Option R:=(br (ltI (Int.ofNat a0) 2) (k_ Bool.false) (br (ltI 24 (Int.ofNat a0)) (k_ Bool.false) (br (neI (Int.ofNat a2) (Int.ofNat a0)) (k_ Bool.false) (br (neI (Int.ofNat a4) (Int.ofNat a0)) (k_ Bool.false) (grd (zkn a2 (pF g3 0 (muN a2 1))) (br (bnot (ziu a2 (pF g3 0 (muN a2 1)))) (k_ Bool.false) (grd (zwv a4 (pF g5 0 (muN a4 1))) (br (bnot (zvm a4 (pF g5 0 (muN a4 1)))) (k_ Bool.false) (grd (z89 a0 (Int.ofNat a0) g1 a0 0) (br (z7h a0 (Int.ofNat a0) g1 a0 0) (k_ Bool.false) (k_ Bool.true)))))))))))
def z4a:Option (Bool):=zai a0 g1 a2 g3 a4 g5 (fun c0_=>some c0_)
theorem zw9:Nt1 (fun {R}=>zai (R:=R) a0 g1 a2 g3 a4 g5):=by
 intro R R' o h0 k;unfold zai;repeat (first | apply grd_out h0 | apply br_out | rfl)
def zoz:Bool:=(z4a a0 g1 a2 g3 a4 g5).isSome
def znx:Bool:=((z4a a0 g1 a2 g3 a4 g5).getD default)
def zd7{R:Type}(k_:Nat→Option R):Option R:=(grd (zk0 a0 (pF g1 0 (muN a0 1)) a2 (pF g3 0 (muN a2 1)) a4 (pF g5 0 (muN a4 1)) a8) (br (fcmp .neq .f32 (z3r a0 (pF g1 0 (muN a0 1)) a2 (pF g3 0 (muN a2 1)) a4 (pF g5 0 (muN a4 1)) a8) (z7e a0 (pF g1 0 (muN a0 1)) a2 (pF g3 0 (muN a2 1)) a4 (pF g5 0 (muN a4 1)) a8)) (grd (okIx (z2n a0 (pF g1 0 (muN a0 1)) a2 (pF g3 0 (muN a2 1)) a4 (pF g5 0 (muN a4 1)) a8) a6) (grd (okIx (z2k a0 (pF g1 0 (muN a0 1)) a2 (pF g3 0 (muN a2 1)) a4 (pF g5 0 (muN a4 1)) a8) a6) (grd (ztt (gF g7 (ixO 0 (z2n a0 (pF g1 0 (muN a0 1)) a2 (pF g3 0 (muN a2 1)) a4 (pF g5 0 (muN a4 1)) a8) 1)) (gF g7 (ixO 0 (z2k a0 (pF g1 0 (muN a0 1)) a2 (pF g3 0 (muN a2 1)) a4 (pF g5 0 (muN a4 1)) a8) 1)) (fop .quo .f32 (fop .sub .f32 (zay a0 (pF g1 0 (muN a0 1)) a2 (pF g3 0 (muN a2 1)) a4 (pF g5 0 (muN a4 1)) a8) (z3r a0 (pF g1 0 (muN a0 1)) a2 (pF g3 0 (muN a2 1)) a4 (pF g5 0 (muN a4 1)) a8)) (fop .sub .f32 (z7e a0 (pF g1 0 (muN a0 1)) a2 (pF g3 0 (muN a2 1)) a4 (pF g5 0 (muN a4 1)) a8) (z3r a0 (pF g1 0 (muN a0 1)) a2 (pF g3 0 (muN a2 1)) a4 (pF g5 0 (muN a4 1)) a8)))) (k_ (zrw (gF g7 (ixO 0 (z2n a0 (pF g1 0 (muN a0 1)) a2 (pF g3 0 (muN a2 1)) a4 (pF g5 0 (muN a4 1)) a8) 1)) (gF g7 (ixO 0 (z2k a0 (pF g1 0 (muN a0 1)) a2 (pF g3 0 (muN a2 1)) a4 (pF g5 0 (muN a4 1)) a8) 1)) (fop .quo .f32 (fop .sub .f32 (zay a0 (pF g1 0 (muN a0 1)) a2 (pF g3 0 (muN a2 1)) a4 (pF g5 0 (muN a4 1)) a8) (z3r a0 (pF g1 0 (muN a0 1)) a2 (pF g3 0 (muN a2 1)) a4 (pF g5 0 (muN a4 1)) a8)) (fop .sub .f32 (z7e a0 (pF g1 0 (muN a0 1)) a2 (pF g3 0 (muN a2 1)) a4 (pF g5 0 (muN a4 1)) a8) (z3r a0 (pF g1 0 (muN a0 1)) a2 (pF g3 0 (muN a2 1)) a4 (pF g5 0 (muN a4 1)) a8)))))))) (grd (okIx (z2n a0 (pF g1 0 (muN a0 1)) a2 (pF g3 0 (muN a2 1)) a4 (pF g5 0 (muN a4 1)) a8) a6) (grd (okIx (z2k a0 (pF g1 0 (muN a0 1)) a2 (pF g3 0 (muN a2 1)) a4 (pF g5 0 (muN a4 1)) a8) a6) (grd (ztt (gF g7 (ixO 0 (z2n a0 (pF g1 0 (muN a0 1)) a2 (pF g3 0 (muN a2 1)) a4 (pF g5 0 (muN a4 1)) a8) 1)) (gF g7 (ixO 0 (z2k a0 (pF g1 0 (muN a0 1)) a2 (pF g3 0 (muN a2 1)) a4 (pF g5 0 (muN a4 1)) a8) 1)) 0) (k_ (zrw (gF g7 (ixO 0 (z2n a0 (pF g1 0 (muN a0 1)) a2 (pF g3 0 (muN a2 1)) a4 (pF g5 0 (muN a4 1)) a8) 1)) (gF g7 (ixO 0 (z2k a0 (pF g1 0 (muN a0 1)) a2 (pF g3 0 (muN a2 1)) a4 (pF g5 0 (muN a4 1)) a8) 1)) 0)))))))
def z5g:Option (Nat):=zd7 a0 g1 a2 g3 a4 g5 a6 g7 a8 (fun c0_=>some c0_)
theorem zyu:Nt1 (fun {R}=>zd7 (R:=R) a0 g1 a2 g3 a4 g5 a6 g7 a8):=by
 intro R R' o h0 k;unfold zd7;repeat (first | apply grd_out h0 | apply br_out | rfl)
def zjk:Bool:=(z5g a0 g1 a2 g3 a4 g5 a6 g7 a8).isSome
def z8d:Nat:=((z5g a0 g1 a2 g3 a4 g5 a6 g7 a8).getD default)
def zmr{R:Type}(k_:Nat→Option R):Option R:=(grd (zzz a0 (pF g1 0 (muN a0 1)) a2 (pF g3 0 (muN a2 1)) a4 (pF g5 0 (muN a4 1)) a8) (grd (okIx (zb9 a0 (pF g1 0 (muN a0 1)) a2 (pF g3 0 (muN a2 1)) a4 (pF g5 0 (muN a4 1)) a8) a6) (grd (okIx (zo2 a0 (pF g1 0 (muN a0 1)) a2 (pF g3 0 (muN a2 1)) a4 (pF g5 0 (muN a4 1)) a8) a6) (grd (okIx (zb9 a0 (pF g1 0 (muN a0 1)) a2 (pF g3 0 (muN a2 1)) a4 (pF g5 0 (muN a4 1)) a8) a6) (k_ (fop .add .f32 (gF g7 (ixO 0 (zb9 a0 (pF g1 0 (muN a0 1)) a2 (pF g3 0 (muN a2 1)) a4 (pF g5 0 (muN a4 1)) a8) 1)) (fop .mul .f32 (zwt a0 (pF g1 0 (muN a0 1)) a2 (pF g3 0 (muN a2 1)) a4 (pF g5 0 (muN a4 1)) a8) (fop .sub .f32 (gF g7 (ixO 0 (zo2 a0 (pF g1 0 (muN a0 1)) a2 (pF g3 0 (muN a2 1)) a4 (pF g5 0 (muN a4 1)) a8) 1)) (gF g7 (ixO 0 (zb9 a0 (pF g1 0 (muN a0 1)) a2 (pF g3 0 (muN a2 1)) a4 (pF g5 0 (muN a4 1)) a8) 1))))))))))
def za7:Option (Nat):=zmr a0 g1 a2 g3 a4 g5 a6 g7 a8 (fun c0_=>some c0_)
theorem ya5:Nt1 (fun {R}=>zmr (R:=R) a0 g1 a2 g3 a4 g5 a6 g7 a8):=by
 intro R R' o h0 k;unfold zmr;repeat (first | apply grd_out h0 | apply br_out | rfl)
def zv1:Bool:=(za7 a0 g1 a2 g3 a4 g5 a6 g7 a8).isSome
def zri:Nat:=((za7 a0 g1 a2 g3 a4 g5 a6 g7 a8).getD default)
def zak{R:Type}(q0g:Int)(q0o q0n:Nat)(i:Int)(q1j q0l:Nat)(k_:Nat→Nat→Option R):Option R:=(grd (okIx i a6) (grd (zjk a0 (pF g1 0 (muN a0 1)) a2 (pF g3 0 (muN a2 1)) a4 (pF g5 0 (muN a4 1)) a2 (pF g3 0 (muN a2 1)) (fop .sub .f32 (fop .sub .f32 q1j (gF g7 (Nat.succ (Nat.succ (ixO 0 i 3))))) q0l)) (grd (zjk a0 (pF g1 0 (muN a0 1)) a2 (pF g3 0 (muN a2 1)) a4 (pF g5 0 (muN a4 1)) a4 (pF g5 0 (muN a4 1)) (fop .sub .f32 (fop .sub .f32 q1j (gF g7 (Nat.succ (Nat.succ (ixO 0 i 3))))) q0l)) (grd (z4o q1j) (grd (z4o (fop .add .f32 q1j 1048576000)) (k_ (fop .add .f32 (fop .mul .f32 (z8d a0 (pF g1 0 (muN a0 1)) a2 (pF g3 0 (muN a2 1)) a4 (pF g5 0 (muN a4 1)) a2 (pF g3 0 (muN a2 1)) (fop .sub .f32 (fop .sub .f32 q1j (gF g7 (Nat.succ (Nat.succ (ixO 0 i 3))))) q0l)) (z1i (fop .add .f32 q1j 1048576000))) (fop .mul .f32 (z8d a0 (pF g1 0 (muN a0 1)) a2 (pF g3 0 (muN a2 1)) a4 (pF g5 0 (muN a4 1)) a4 (pF g5 0 (muN a4 1)) (fop .sub .f32 (fop .sub .f32 q1j (gF g7 (Nat.succ (Nat.succ (ixO 0 i 3))))) q0l)) (z1i q1j))) (fop .sub .f32 (fop .mul .f32 (z8d a0 (pF g1 0 (muN a0 1)) a2 (pF g3 0 (muN a2 1)) a4 (pF g5 0 (muN a4 1)) a2 (pF g3 0 (muN a2 1)) (fop .sub .f32 (fop .sub .f32 q1j (gF g7 (Nat.succ (Nat.succ (ixO 0 i 3))))) q0l)) (z1i q1j)) (fop .mul .f32 (z8d a0 (pF g1 0 (muN a0 1)) a2 (pF g3 0 (muN a2 1)) a4 (pF g5 0 (muN a4 1)) a4 (pF g5 0 (muN a4 1)) (fop .sub .f32 (fop .sub .f32 q1j (gF g7 (Nat.succ (Nat.succ (ixO 0 i 3))))) q0l)) (z1i (fop .add .f32 q1j 1048576000))))))))))
def z2d:Option (Nat×Nat):=zak a0 g1 a2 g3 a4 g5 a6 g7 c8 a9 a10 c11 a12 a13 (fun c0_ c1_=>some (c0_,c1_))
theorem zw3:Nt2 (fun {R}=>zak (R:=R) a0 g1 a2 g3 a4 g5 a6 g7 c8 a9 a10 c11 a12 a13):=by
 intro R R' o h0 k;unfold zak;repeat (first | apply grd_out h0 | apply br_out | rfl)
def zgi:Bool:=(z2d a0 g1 a2 g3 a4 g5 a6 g7 c8 a9 a10 c11 a12 a13).isSome
def zfa:Nat:=((z2d a0 g1 a2 g3 a4 g5 a6 g7 c8 a9 a10 c11 a12 a13).getD default).1
def zfh:Nat:=((z2d a0 g1 a2 g3 a4 g5 a6 g7 c8 a9 a10 c11 a12 a13).getD default).2
def zi4{R:Type}(k_:Nat→Option R):Option R:=(grd (zv1 a0 (pF g1 0 (muN a0 1)) a2 (pF g3 0 (muN a2 1)) a4 (pF g5 0 (muN a4 1)) a2 (pF g3 0 (muN a2 1)) a6) (k_ (zri a0 (pF g1 0 (muN a0 1)) a2 (pF g3 0 (muN a2 1)) a4 (pF g5 0 (muN a4 1)) a2 (pF g3 0 (muN a2 1)) a6)))
def z7v:Option (Nat):=zi4 a0 g1 a2 g3 a4 g5 a6 (fun c0_=>some c0_)
theorem y55:Nt1 (fun {R}=>zi4 (R:=R) a0 g1 a2 g3 a4 g5 a6):=by
 intro R R' o h0 k;unfold zi4;repeat (first | apply grd_out h0 | apply br_out | rfl)
def zz0:Bool:=(z7v a0 g1 a2 g3 a4 g5 a6).isSome
def znf:Nat:=((z7v a0 g1 a2 g3 a4 g5 a6).getD default)
def zi2{R:Type}(k_:Nat→Option R):Option R:=(grd (zv1 a0 (pF g1 0 (muN a0 1)) a2 (pF g3 0 (muN a2 1)) a4 (pF g5 0 (muN a4 1)) a4 (pF g5 0 (muN a4 1)) a6) (k_ (zri a0 (pF g1 0 (muN a0 1)) a2 (pF g3 0 (muN a2 1)) a4 (pF g5 0 (muN a4 1)) a4 (pF g5 0 (muN a4 1)) a6)))
def z7r:Option (Nat):=zi2 a0 g1 a2 g3 a4 g5 a6 (fun c0_=>some c0_)
theorem y5l:Nt1 (fun {R}=>zi2 (R:=R) a0 g1 a2 g3 a4 g5 a6):=by
 intro R R' o h0 k;unfold zi2;repeat (first | apply grd_out h0 | apply br_out | rfl)
def zyp:Bool:=(z7r a0 g1 a2 g3 a4 g5 a6).isSome
def zo3:Nat:=((z7r a0 g1 a2 g3 a4 g5 a6).getD default)
def zah{R:Type}(k_:Nat→Nat→Option R):Option R:=(grd (zgi a0 (pF g1 0 (muN a0 1)) a2 (pF g3 0 (muN a2 1)) a4 (pF g5 0 (muN a4 1)) a6 (pF g7 0 (muN a6 3)) c8 a9 a10 c11 a12 a13) (grd (z4o a12) (grd (z4o (fop .add .f32 a12 1048576000)) (grd (zme a0 (pF g1 0 (muN a0 1)) a2 (pF g3 0 (muN a2 1)) a4 (pF g5 0 (muN a4 1)) a6 (pF g7 0 (muN a6 3)) c8 a9 a10 c11) (grd (zm8 a0 (pF g1 0 (muN a0 1)) a2 (pF g3 0 (muN a2 1)) a4 (pF g5 0 (muN a4 1)) a6 (pF g7 0 (muN a6 3)) c8 a9 a10 c11 a12) (k_ (fop .quo .f32 (fop .mul .f32 (zbz a0 (pF g1 0 (muN a0 1)) a2 (pF g3 0 (muN a2 1)) a4 (pF g5 0 (muN a4 1)) a6 (pF g7 0 (muN a6 3)) c8 a9 a10 c11) (zfa a0 (pF g1 0 (muN a0 1)) a2 (pF g3 0 (muN a2 1)) a4 (pF g5 0 (muN a4 1)) a6 (pF g7 0 (muN a6 3)) c8 a9 a10 c11 a12 a13)) (fop .mul .f32 (fop .mul .f32 (fop .mul .f32 1082130432 (zc1 a0 (pF g1 0 (muN a0 1)) a2 (pF g3 0 (muN a2 1)) a4 (pF g5 0 (muN a4 1)) a6 (pF g7 0 (muN a6 3)) c8 a9 a10 c11 a12)) (z1i a12)) (z1i a12))) (fop .quo .f32 (fop .mul .f32 (zbz a0 (pF g1 0 (muN a0 1)) a2 (pF g3 0 (muN a2 1)) a4 (pF g5 0 (muN a4 1)) a6 (pF g7 0 (muN a6 3)) c8 a9 a10 c11) (zfh a0 (pF g1 0 (muN a0 1)) a2 (pF g3 0 (muN a2 1)) a4 (pF g5 0 (muN a4 1)) a6 (pF g7 0 (muN a6 3)) c8 a9 a10 c11 a12 a13)) (fop .mul .f32 (fop .mul .f32 (fop .mul .f32 1082130432 (zc1 a0 (pF g1 0 (muN a0 1)) a2 (pF g3 0 (muN a2 1)) a4 (pF g5 0 (muN a4 1)) a6 (pF g7 0 (muN a6 3)) c8 a9 a10 c11 a12)) (z1i a12)) (z1i (fop .add .f32 a12 1048576000))))))))))
def z35:Option (Nat×Nat):=zah a0 g1 a2 g3 a4 g5 a6 g7 c8 a9 a10 c11 a12 a13 (fun c0_ c1_=>some (c0_,c1_))
theorem zvz:Nt2 (fun {R}=>zah (R:=R) a0 g1 a2 g3 a4 g5 a6 g7 c8 a9 a10 c11 a12 a13):=by
 intro R R' o h0 k;unfold zah;repeat (first | apply grd_out h0 | apply br_out | rfl)
def zgg:Bool:=(z35 a0 g1 a2 g3 a4 g5 a6 g7 c8 a9 a10 c11 a12 a13).isSome
def zez:Nat:=((z35 a0 g1 a2 g3 a4 g5 a6 g7 c8 a9 a10 c11 a12 a13).getD default).1
def zff:Nat:=((z35 a0 g1 a2 g3 a4 g5 a6 g7 c8 a9 a10 c11 a12 a13).getD default).2
def zf8{R:Type}(q0g:Int)(q0o q0n:Nat)(i:Int)(q1j q0l:Nat)(k_:Nat→Nat→Option R):Option R:=(grd (okIx i a6) (grd (zz0 a0 (pF g1 0 (muN a0 1)) a2 (pF g3 0 (muN a2 1)) a4 (pF g5 0 (muN a4 1)) (fop .sub .f32 (fop .sub .f32 q1j (gF g7 (Nat.succ (Nat.succ (ixO 0 i 3))))) q0l)) (grd (zyp a0 (pF g1 0 (muN a0 1)) a2 (pF g3 0 (muN a2 1)) a4 (pF g5 0 (muN a4 1)) (fop .sub .f32 (fop .sub .f32 q1j (gF g7 (Nat.succ (Nat.succ (ixO 0 i 3))))) q0l)) (grd (z7y q1j) (grd (z7y (fop .add .f32 q1j 1048576000)) (k_ (fop .add .f32 (fop .mul .f32 (znf a0 (pF g1 0 (muN a0 1)) a2 (pF g3 0 (muN a2 1)) a4 (pF g5 0 (muN a4 1)) (fop .sub .f32 (fop .sub .f32 q1j (gF g7 (Nat.succ (Nat.succ (ixO 0 i 3))))) q0l)) (z1f (fop .add .f32 q1j 1048576000))) (fop .mul .f32 (zo3 a0 (pF g1 0 (muN a0 1)) a2 (pF g3 0 (muN a2 1)) a4 (pF g5 0 (muN a4 1)) (fop .sub .f32 (fop .sub .f32 q1j (gF g7 (Nat.succ (Nat.succ (ixO 0 i 3))))) q0l)) (z1f q1j))) (fop .sub .f32 (fop .mul .f32 (znf a0 (pF g1 0 (muN a0 1)) a2 (pF g3 0 (muN a2 1)) a4 (pF g5 0 (muN a4 1)) (fop .sub .f32 (fop .sub .f32 q1j (gF g7 (Nat.succ (Nat.succ (ixO 0 i 3))))) q0l)) (z1f q1j)) (fop .mul .f32 (zo3 a0 (pF g1 0 (muN a0 1)) a2 (pF g3 0 (muN a2 1)) a4 (pF g5 0 (muN a4 1)) (fop .sub .f32 (fop .sub .f32 q1j (gF g7 (Nat.succ (Nat.succ (ixO 0 i 3))))) q0l)) (z1f (fop .add .f32 q1j 1048576000))))))))))
def z4u:Option (Nat×Nat):=zf8 a0 g1 a2 g3 a4 g5 a6 g7 c8 a9 a10 c11 a12 a13 (fun c0_ c1_=>some (c0_,c1_))
theorem y1b:Nt2 (fun {R}=>zf8 (R:=R) a0 g1 a2 g3 a4 g5 a6 g7 c8 a9 a10 c11 a12 a13):=by
 intro R R' o h0 k;unfold zf8;repeat (first | apply grd_out h0 | apply br_out | rfl)
def zvl:Bool:=(z4u a0 g1 a2 g3 a4 g5 a6 g7 c8 a9 a10 c11 a12 a13).isSome
def zjc:Nat:=((z4u a0 g1 a2 g3 a4 g5 a6 g7 c8 a9 a10 c11 a12 a13).getD default).1
def zis:Nat:=((z4u a0 g1 a2 g3 a4 g5 a6 g7 c8 a9 a10 c11 a12 a13).getD default).2
def z26{R:Type}(kn_:Nat→Int→Option R)(k0_:Unit→Option R)(k1_:Nat→Int→Bool→Option R):Option R:=(br (ltI c5 c1) (grd (okIx c5 a0) (br (fcmp .gtr .f32 (gF g2 (ixO 0 c5 3)) a4) (br (bnot (fcmp .lss .f32 (gF g2 (ixO 0 c5 3)) a3)) (k0_ ()) (grd (z8c 1 (pF [(gF g2 (Nat.succ (ixO 0 c5 3)))] 0 (muN 1 1))) (br (bnot (z7l 1 (pF [(gF g2 (Nat.succ (ixO 0 c5 3)))] 0 (muN 1 1)))) (k0_ ()) (grd (z2p (gF g2 (Nat.succ (Nat.succ (ixO 0 c5 3))))) (br (bnot (z2c (gF g2 (Nat.succ (Nat.succ (ixO 0 c5 3)))))) (k0_ ()) (kn_ (gF g2 (ixO 0 c5 3)) (addI .i64 c5 1))))))) (br (bnot Bool.false) (k0_ ()) (grd (z8c 1 (pF [(gF g2 (Nat.succ (ixO 0 c5 3)))] 0 (muN 1 1))) (br (bnot (z7l 1 (pF [(gF g2 (Nat.succ (ixO 0 c5 3)))] 0 (muN 1 1)))) (k0_ ()) (grd (z2p (gF g2 (Nat.succ (Nat.succ (ixO 0 c5 3))))) (br (bnot (z2c (gF g2 (Nat.succ (Nat.succ (ixO 0 c5 3)))))) (k0_ ()) (kn_ (gF g2 (ixO 0 c5 3)) (addI .i64 c5 1))))))))) (k1_ a4 c5 (ltI c5 c1)))
theorem zuv{R R':Type}(o:Option R→Option R')(h0:o none=none)(kn_:Nat→Int→Option R)(k0_:Unit→Option R)(k1_:Nat→Int→Bool→Option R):z26 a0 c1 g2 a3 a4 c5 (fun t4' t45'=>o (kn_ t4' t45')) (fun _=>o (k0_ ())) (fun c0_ c1_ c2_=>o (k1_ c0_ c1_ c2_))=o (z26 a0 c1 g2 a3 a4 c5 kn_ k0_ k1_):=by
 unfold z26
 repeat (first | apply grd_out h0 | apply br_out | rfl)
def z0h(q2x:Nat)(t44:Int)(b3:List Nat)(q0z:Nat):Nat→Nat→Int→Option ((Unit)⊕(Nat×Int×Bool))
 | 0,_,_=>none
 | n+1,t4,t45=>z26 q2x t44 b3 q0z  t4 t45  (fun t4' t45'=>z0h q2x t44 b3 q0z n t4' t45') (fun _=>some (Sum.inl ())) (fun c0_ c1_ c2_=>some (Sum.inr (c0_,c1_,c2_)))
theorem zha:z0h a0 c1 g2 a3 (a4+1) a5 c6=z26 a0 c1 g2 a3  a5 c6  (fun t4' t45'=>z0h a0 c1 g2 a3 a4 t4' t45') (fun _=>some (Sum.inl ())) (fun c0_ c1_ c2_=>some (Sum.inr (c0_,c1_,c2_))):=rfl
def z9i:Bool:=(z0h a0 c1 g2 a3 big a4 c5).isSome
def z8w:Bool:=oL (z0h a0 c1 g2 a3 big a4 c5)
def zvw:Nat:=((tR (z0h a0 c1 g2 a3 big a4 c5)).getD default).1
def zw2:Int:=((tR (z0h a0 c1 g2 a3 big a4 c5)).getD default).2.1
def zvq:Bool:=((tR (z0h a0 c1 g2 a3 big a4 c5)).getD default).2.2
def zcu{R:Type}(k_:Bool→Option R):Option R:=(grd (zoz a0 (pF g1 0 (muN a0 1)) a2 (pF g3 0 (muN a2 1)) a4 (pF g5 0 (muN a4 1))) (br (bnot (znx a0 (pF g1 0 (muN a0 1)) a2 (pF g3 0 (muN a2 1)) a4 (pF g5 0 (muN a4 1)))) (k_ Bool.false) (grd (z91 c8 1 6) (br (bnot (z45 c8 1 6)) (k_ Bool.false) (br (ltI (Int.ofNat a6) 2) (k_ Bool.false) (br (ltI 12 (Int.ofNat a6)) (k_ Bool.false) (grd (zq7 a9) (br (bnot (zn6 a9)) (k_ Bool.false) (grd (z2p a10) (br (bnot (z2c a10)) (k_ Bool.false) (grd (z9i a6 (Int.ofNat a6) g7 a10 a9 0) (br (z8w a6 (Int.ofNat a6) g7 a10 a9 0) (k_ Bool.false) (k_ Bool.true)))))))))))))
def z5j:Option (Bool):=zcu a0 g1 a2 g3 a4 g5 a6 g7 c8 a9 a10 (fun c0_=>some c0_)
theorem zyr:Nt1 (fun {R}=>zcu (R:=R) a0 g1 a2 g3 a4 g5 a6 g7 c8 a9 a10):=by
 intro R R' o h0 k;unfold zcu;repeat (first | apply grd_out h0 | apply br_out | rfl)
def zdd:Bool:=(z5j a0 g1 a2 g3 a4 g5 a6 g7 c8 a9 a10).isSome
def z8e:Bool:=((z5j a0 g1 a2 g3 a4 g5 a6 g7 c8 a9 a10).getD default)
def zi3{R:Type}(k_:Nat→Nat→Nat→Nat→Option R):Option R:=(grd (zvl a0 (pF g1 0 (muN a0 1)) a2 (pF g3 0 (muN a2 1)) a4 (pF g5 0 (muN a4 1)) a6 (pF g7 0 (muN a6 3)) c8 a9 a10 c11 a12 a13) (grd (z7y a12) (grd (z7y (fop .add .f32 a12 1048576000)) (grd (y2m a0 (pF g1 0 (muN a0 1)) a2 (pF g3 0 (muN a2 1)) a4 (pF g5 0 (muN a4 1)) a6 (pF g7 0 (muN a6 3)) c8 a9 a10 c11 (z1f a12)) (grd (zqp a0 (pF g1 0 (muN a0 1)) a2 (pF g3 0 (muN a2 1)) a4 (pF g5 0 (muN a4 1)) a6 (pF g7 0 (muN a6 3)) c8 a9 a10 c11) (k_ (fop .quo .f32 (fop .mul .f32 (zgj a0 (pF g1 0 (muN a0 1)) a2 (pF g3 0 (muN a2 1)) a4 (pF g5 0 (muN a4 1)) a6 (pF g7 0 (muN a6 3)) c8 a9 a10 c11) (zjc a0 (pF g1 0 (muN a0 1)) a2 (pF g3 0 (muN a2 1)) a4 (pF g5 0 (muN a4 1)) a6 (pF g7 0 (muN a6 3)) c8 a9 a10 c11 a12 a13)) (fop .mul .f32 (fop .mul .f32 (fop .mul .f32 1082130432 (zpj a0 (pF g1 0 (muN a0 1)) a2 (pF g3 0 (muN a2 1)) a4 (pF g5 0 (muN a4 1)) a6 (pF g7 0 (muN a6 3)) c8 a9 a10 c11 (z1f a12))) (z1f a12)) (z1f a12))) (fop .quo .f32 (fop .mul .f32 (zgj a0 (pF g1 0 (muN a0 1)) a2 (pF g3 0 (muN a2 1)) a4 (pF g5 0 (muN a4 1)) a6 (pF g7 0 (muN a6 3)) c8 a9 a10 c11) (zis a0 (pF g1 0 (muN a0 1)) a2 (pF g3 0 (muN a2 1)) a4 (pF g5 0 (muN a4 1)) a6 (pF g7 0 (muN a6 3)) c8 a9 a10 c11 a12 a13)) (fop .mul .f32 (fop .mul .f32 (fop .mul .f32 1082130432 (zpj a0 (pF g1 0 (muN a0 1)) a2 (pF g3 0 (muN a2 1)) a4 (pF g5 0 (muN a4 1)) a6 (pF g7 0 (muN a6 3)) c8 a9 a10 c11 (z1f a12))) (z1f a12)) (z1f (fop .add .f32 a12 1048576000)))) (zjc a0 (pF g1 0 (muN a0 1)) a2 (pF g3 0 (muN a2 1)) a4 (pF g5 0 (muN a4 1)) a6 (pF g7 0 (muN a6 3)) c8 a9 a10 c11 a12 a13) (zis a0 (pF g1 0 (muN a0 1)) a2 (pF g3 0 (muN a2 1)) a4 (pF g5 0 (muN a4 1)) a6 (pF g7 0 (muN a6 3)) c8 a9 a10 c11 a12 a13)))))))
def z44:Option (Nat×Nat×Nat×Nat):=zi3 a0 g1 a2 g3 a4 g5 a6 g7 c8 a9 a10 c11 a12 a13 (fun c0_ c1_ c2_ c3_=>some (c0_,c1_,c2_,c3_))
theorem y6f:Nt4 (fun {R}=>zi3 (R:=R) a0 g1 a2 g3 a4 g5 a6 g7 c8 a9 a10 c11 a12 a13):=by
 intro R R' o h0 k;unfold zi3;repeat (first | apply grd_out h0 | apply br_out | rfl)
def zpd:Bool:=(z44 a0 g1 a2 g3 a4 g5 a6 g7 c8 a9 a10 c11 a12 a13).isSome
def zod:Nat:=((z44 a0 g1 a2 g3 a4 g5 a6 g7 c8 a9 a10 c11 a12 a13).getD default).1
def zmw:Nat:=((z44 a0 g1 a2 g3 a4 g5 a6 g7 c8 a9 a10 c11 a12 a13).getD default).2.1
def zx0:Nat:=((z44 a0 g1 a2 g3 a4 g5 a6 g7 c8 a9 a10 c11 a12 a13).getD default).2.2.1
def zww:Nat:=((z44 a0 g1 a2 g3 a4 g5 a6 g7 c8 a9 a10 c11 a12 a13).getD default).2.2.2
def z9f{R:Type}(k_:Nat→Option R):Option R:=(grd (zgg a0 (pF g1 0 (muN a0 1)) a2 (pF g3 0 (muN a2 1)) a4 (pF g5 0 (muN a4 1)) a6 (pF g7 0 (muN a6 3)) c8 a9 a10 c11 a12 a15) (grd (z4o a12) (grd (z4o (fop .add .f32 a12 1048576000)) (grd (okIx c11 a6) (k_ (fop .sub .f32 (fop .mul .f32 (z1i a12) (fop .add .f32 1065353216 (zez a0 (pF g1 0 (muN a0 1)) a2 (pF g3 0 (muN a2 1)) a4 (pF g5 0 (muN a4 1)) a6 (pF g7 0 (muN a6 3)) c8 a9 a10 c11 a12 a15))) (fop .mul .f32 (fop .mul .f32 (fop .quo .f32 a13 (fop .mul .f32 a14 (gF g7 (ixO 0 c11 3)))) (z1i (fop .add .f32 a12 1048576000))) (fop .sub .f32 1065353216 (zff a0 (pF g1 0 (muN a0 1)) a2 (pF g3 0 (muN a2 1)) a4 (pF g5 0 (muN a4 1)) a6 (pF g7 0 (muN a6 3)) c8 a9 a10 c11 a12 a15)))))))))
def z2v:Option (Nat):=z9f a0 g1 a2 g3 a4 g5 a6 g7 c8 a9 a10 c11 a12 a13 a14 a15 (fun c0_=>some c0_)
theorem zv4:Nt1 (fun {R}=>z9f (R:=R) a0 g1 a2 g3 a4 g5 a6 g7 c8 a9 a10 c11 a12 a13 a14 a15):=by
 intro R R' o h0 k;unfold z9f;repeat (first | apply grd_out h0 | apply br_out | rfl)
def zo1:Bool:=(z2v a0 g1 a2 g3 a4 g5 a6 g7 c8 a9 a10 c11 a12 a13 a14 a15).isSome
def z8q:Nat:=((z2v a0 g1 a2 g3 a4 g5 a6 g7 c8 a9 a10 c11 a12 a13 a14 a15).getD default)
def zik{R:Type}(k_:Bool→Option R):Option R:=(grd (zdd a0 (pF g1 0 (muN a0 1)) a2 (pF g3 0 (muN a2 1)) a4 (pF g5 0 (muN a4 1)) a6 (pF g7 0 (muN a6 3)) c8 a9 a10) (br (z8e a0 (pF g1 0 (muN a0 1)) a2 (pF g3 0 (muN a2 1)) a4 (pF g5 0 (muN a4 1)) a6 (pF g7 0 (muN a6 3)) c8 a9 a10) (grd (zk4 a0 (pF g1 0 (muN a0 1)) a2 (pF g3 0 (muN a2 1)) a4 (pF g5 0 (muN a4 1)) a6 (pF g7 0 (muN a6 3)) c8 a9 a10 c11) (br (zim a0 (pF g1 0 (muN a0 1)) a2 (pF g3 0 (muN a2 1)) a4 (pF g5 0 (muN a4 1)) a6 (pF g7 0 (muN a6 3)) c8 a9 a10 c11) (grd (z8c 2 (pF [a12,a13] 0 (muN 2 1))) (br (z7l 2 (pF [a12,a13] 0 (muN 2 1))) (grd (z2p a14) (br (z2c a14) (grd (okIx c11 a6) (grd (z2p (fop .sub .f32 (fop .sub .f32 981668463 (gF g7 (Nat.succ (Nat.succ (ixO 0 c11 3))))) a14)) (k_ (z2c (fop .sub .f32 (fop .sub .f32 981668463 (gF g7 (Nat.succ (Nat.succ (ixO 0 c11 3))))) a14))))) (k_ Bool.false))) (k_ Bool.false))) (k_ Bool.false))) (k_ Bool.false)))
def z81:Option (Bool):=zik a0 g1 a2 g3 a4 g5 a6 g7 c8 a9 a10 c11 a12 a13 a14 (fun c0_=>some c0_)
theorem y5s:Nt1 (fun {R}=>zik (R:=R) a0 g1 a2 g3 a4 g5 a6 g7 c8 a9 a10 c11 a12 a13 a14):=by
 intro R R' o h0 k;unfold zik;repeat (first | apply grd_out h0 | apply br_out | rfl)
def zpt:Bool:=(z81 a0 g1 a2 g3 a4 g5 a6 g7 c8 a9 a10 c11 a12 a13 a14).isSome
def zni:Bool:=((z81 a0 g1 a2 g3 a4 g5 a6 g7 c8 a9 a10 c11 a12 a13 a14).getD default)
def zcy{R:Type}(k_:Nat→Option R):Option R:=(grd (zpd a0 (pF g1 0 (muN a0 1)) a2 (pF g3 0 (muN a2 1)) a4 (pF g5 0 (muN a4 1)) a6 (pF g7 0 (muN a6 3)) c8 a9 a10 c11 a12 a15) (grd (z7y a12) (grd (z7y (fop .add .f32 a12 1048576000)) (grd (okIx c11 a6) (k_ (fop .sub .f32 (fop .mul .f32 (z1f a12) (fop .add .f32 1065353216 (zod a0 (pF g1 0 (muN a0 1)) a2 (pF g3 0 (muN a2 1)) a4 (pF g5 0 (muN a4 1)) a6 (pF g7 0 (muN a6 3)) c8 a9 a10 c11 a12 a15))) (fop .mul .f32 (fop .mul .f32 (fop .quo .f32 a13 (fop .mul .f32 a14 (gF g7 (ixO 0 c11 3)))) (z1f (fop .add .f32 a12 1048576000))) (fop .sub .f32 1065353216 (zmw a0 (pF g1 0 (muN a0 1)) a2 (pF g3 0 (muN a2 1)) a4 (pF g5 0 (muN a4 1)) a6 (pF g7 0 (muN a6 3)) c8 a9 a10 c11 a12 a15)))))))))
def z39:Option (Nat):=zcy a0 g1 a2 g3 a4 g5 a6 g7 c8 a9 a10 c11 a12 a13 a14 a15 (fun c0_=>some c0_)
theorem zz1:Nt1 (fun {R}=>zcy (R:=R) a0 g1 a2 g3 a4 g5 a6 g7 c8 a9 a10 c11 a12 a13 a14 a15):=by
 intro R R' o h0 k;unfold zcy;repeat (first | apply grd_out h0 | apply br_out | rfl)
def zsq:Bool:=(z39 a0 g1 a2 g3 a4 g5 a6 g7 c8 a9 a10 c11 a12 a13 a14 a15).isSome
def zbi:Nat:=((z39 a0 g1 a2 g3 a4 g5 a6 g7 c8 a9 a10 c11 a12 a13 a14 a15).getD default)
end
section
variable {a0:Nat} {c0:Int} {a1:Nat} {c1:Int} {e1:Bool} {g1:List Nat} {m1:List Bool} {a2:Nat} {c2:Int} {e2:Bool} {g2:List Nat} {a3:Nat} {c3:Int} {e3:Bool} {g3:List Nat} {m3:List Bool} {a4:Nat} {c4:Int} {e4:Bool} {g4:List Nat} {a5:Nat} {c5:Int} {g5:List Nat} {a6:Nat} {c6:Int} {e6:Bool} {a7:Nat} {c7:Int} {g7:List Nat} {a8:Nat} {c8:Int} {a9:Nat} {g9:List Nat} {a10:Nat} {a11:Nat} {c11:Int} {e11:Bool} {g11:List Nat} {a12:Nat} {c12:Int} {e12:Bool} {g12:List Nat} {a13:Nat} {e13:Bool} {a14:Nat} {g14:List Nat} {a15:Nat} {e15:Bool} {a16:Nat} {g16:List Nat} {a17:Nat} {g18:List Nat} {c19:Int} {a20:Nat} {a21:Nat} {e22:Bool}
theorem of1{α1:Type} [Inhabited (α1)] {x:Option (α1)} {r:α1} (h:x=some r):x.isSome=true∧(x.getD default)=r:=by
 subst h;exact⟨rfl,rfl⟩
theorem ol1{β α1:Type} [Inhabited (α1)] {x:Option ((α1)⊕β)} {r:α1} (h:x=some (.inl r)):x.isSome=true∧oL x=true∧((tL x).getD default)=r:=by
 subst h;exact⟨rfl,rfl,rfl⟩
theorem of2{α1 α2:Type} [Inhabited (α1×α2)] {x:Option (α1×α2)} {r:α1×α2} (h:x=some r):x.isSome=true∧(x.getD default).1=r.1∧(x.getD default).2=r.2:=by
 subst h;exact⟨rfl,rfl,rfl⟩
theorem or2{β α1 α2:Type} [Inhabited (α1×α2)] {x:Option (β⊕(α1×α2))} {r:α1×α2} (h:x=some (.inr r)):x.isSome=true∧oL x=false∧((tR x).getD default).1=r.1∧((tR x).getD default).2=r.2:=by
 subst h;exact⟨rfl,rfl,rfl,rfl⟩
theorem of3{α1 α2 α3:Type} [Inhabited (α1×α2×α3)] {x:Option (α1×α2×α3)} {r:α1×α2×α3} (h:x=some r):x.isSome=true∧(x.getD default).1=r.1∧(x.getD default).2.1=r.2.1∧(x.getD default).2.2=r.2.2:=by
 subst h;exact⟨rfl,rfl,rfl,rfl⟩
theorem or3{β α1 α2 α3:Type} [Inhabited (α1×α2×α3)] {x:Option (β⊕(α1×α2×α3))} {r:α1×α2×α3} (h:x=some (.inr r)):x.isSome=true∧oL x=false∧((tR x).getD default).1=r.1∧((tR x).getD default).2.1=r.2.1∧((tR x).getD default).2.2=r.2.2:=by
 subst h;exact⟨rfl,rfl,rfl,rfl,rfl⟩
theorem of4{α1 α2 α3 α4:Type} [Inhabited (α1×α2×α3×α4)] {x:Option (α1×α2×α3×α4)} {r:α1×α2×α3×α4} (h:x=some r):x.isSome=true∧(x.getD default).1=r.1∧(x.getD default).2.1=r.2.1∧(x.getD default).2.2.1=r.2.2.1∧(x.getD default).2.2.2=r.2.2.2:=by
 subst h;exact⟨rfl,rfl,rfl,rfl,rfl⟩
theorem or4{β α1 α2 α3 α4:Type} [Inhabited (α1×α2×α3×α4)] {x:Option (β⊕(α1×α2×α3×α4))} {r:α1×α2×α3×α4} (h:x=some (.inr r)):x.isSome=true∧oL x=false∧((tR x).getD default).1=r.1∧((tR x).getD default).2.1=r.2.1∧((tR x).getD default).2.2.1=r.2.2.1∧((tR x).getD default).2.2.2=r.2.2.2:=by
 subst h;exact⟨rfl,rfl,rfl,rfl,rfl,rfl⟩
theorem of5{α1 α2 α3 α4 α5:Type} [Inhabited (α1×α2×α3×α4×α5)] {x:Option (α1×α2×α3×α4×α5)} {r:α1×α2×α3×α4×α5} (h:x=some r):x.isSome=true∧(x.getD default).1=r.1∧(x.getD default).2.1=r.2.1∧(x.getD default).2.2.1=r.2.2.1∧(x.getD default).2.2.2.1=r.2.2.2.1∧(x.getD default).2.2.2.2=r.2.2.2.2:=by
 subst h;exact⟨rfl,rfl,rfl,rfl,rfl,rfl⟩
theorem of6{α1 α2 α3 α4 α5 α6:Type} [Inhabited (α1×α2×α3×α4×α5×α6)] {x:Option (α1×α2×α3×α4×α5×α6)} {r:α1×α2×α3×α4×α5×α6} (h:x=some r):x.isSome=true∧(x.getD default).1=r.1∧(x.getD default).2.1=r.2.1∧(x.getD default).2.2.1=r.2.2.1∧(x.getD default).2.2.2.1=r.2.2.2.1∧(x.getD default).2.2.2.2.1=r.2.2.2.2.1∧(x.getD default).2.2.2.2.2=r.2.2.2.2.2:=by
 subst h;exact⟨rfl,rfl,rfl,rfl,rfl,rfl,rfl⟩
theorem or6{β α1 α2 α3 α4 α5 α6:Type} [Inhabited (α1×α2×α3×α4×α5×α6)] {x:Option (β⊕(α1×α2×α3×α4×α5×α6))} {r:α1×α2×α3×α4×α5×α6} (h:x=some (.inr r)):x.isSome=true∧oL x=false∧((tR x).getD default).1=r.1∧((tR x).getD default).2.1=r.2.1∧((tR x).getD default).2.2.1=r.2.2.1∧((tR x).getD default).2.2.2.1=r.2.2.2.1∧((tR x).getD default).2.2.2.2.1=r.2.2.2.2.1∧((tR x).getD default).2.2.2.2.2=r.2.2.2.2.2:=by
 subst h;exact⟨rfl,rfl,rfl,rfl,rfl,rfl,rfl,rfl⟩
theorem of8{α1 α2 α3 α4 α5 α6 α7 α8:Type} [Inhabited (α1×α2×α3×α4×α5×α6×α7×α8)] {x:Option (α1×α2×α3×α4×α5×α6×α7×α8)} {r:α1×α2×α3×α4×α5×α6×α7×α8} (h:x=some r):x.isSome=true∧(x.getD default).1=r.1∧(x.getD default).2.1=r.2.1∧(x.getD default).2.2.1=r.2.2.1∧(x.getD default).2.2.2.1=r.2.2.2.1∧(x.getD default).2.2.2.2.1=r.2.2.2.2.1∧(x.getD default).2.2.2.2.2.1=r.2.2.2.2.2.1∧(x.getD default).2.2.2.2.2.2.1=r.2.2.2.2.2.2.1∧(x.getD default).2.2.2.2.2.2.2=r.2.2.2.2.2.2.2:=by
 subst h;exact⟨rfl,rfl,rfl,rfl,rfl,rfl,rfl,rfl,rfl⟩
theorem ol0{α β:Type} {x:Option (α⊕β)} {r:α} (h:x=some (.inl r)):x.isSome=true∧oL x=true:=by
 subst h;exact⟨rfl,rfl⟩
theorem z5a(h:z65 a0 a1=some e2):z4n a0 a1=true∧z48 a0 a1=e2:=of1 h
theorem zq5(h:z94 c0 c1 c2=some e3):z91 c0 c1 c2=true∧z45 c0 c1 c2=e3:=of1 h
theorem z3s(h:z8n a0=some e1):z2p a0=true∧z2c a0=e1:=of1 h
theorem y2i(h:zab c0 c1 c2=some e3):zty c0 c1 c2=true∧zs4 c0 c1 c2=e3:=of1 h
theorem y68(h:z5d a0 g1 c2=some c3):zsb a0 g1 c2=true∧zho a0 g1 c2=c3:=of1 h
theorem z1l(h:z80 a0=some e1):z12 a0=true∧z0v a0=e1:=of1 h
theorem zhx(h:z5b a0 g1 c2=some c3):zcv a0 g1 c2=true∧z1b a0 g1 c2=c3:=of1 h
theorem zui(h:z6w a0 a1 a2=some e3):zo5 a0 a1 a2=true∧zlx a0 a1 a2=e3:=of1 h
theorem zx9(h:z3g a0 g1 a2 g3 a4 g5 a6 g7 c8 a9 a10 c11=some a12):zme a0 g1 a2 g3 a4 g5 a6 g7 c8 a9 a10 c11=true∧zbz a0 g1 a2 g3 a4 g5 a6 g7 c8 a9 a10 c11=a12:=of1 h
theorem ycd(h:z96 a0 g1 a2 g3 a4 g5 a6 g7 c8 a9 a10 c11 a12=some a13):y2m a0 g1 a2 g3 a4 g5 a6 g7 c8 a9 a10 c11 a12=true∧zpj a0 g1 a2 g3 a4 g5 a6 g7 c8 a9 a10 c11 a12=a13:=of1 h
theorem y3y(h:z4l a0 g1 a2 g3 a4 g5 a6 g7 c8 a9 a10 c11=some a12):zqp a0 g1 a2 g3 a4 g5 a6 g7 c8 a9 a10 c11=true∧zgj a0 g1 a2 g3 a4 g5 a6 g7 c8 a9 a10 c11=a12:=of1 h
theorem y8w(h:zfc=some a0):y25=true∧zqm=a0:=of1 h
theorem ye7(h:ze1 a0 a1 a2=some a3):ztt a0 a1 a2=true∧zrw a0 a1 a2=a3:=of1 h
theorem zt5(h:z63 a0=some a1):zl9 a0=true∧zcs a0=a1:=of1 h
theorem yf1(h:zg1 a0=some a1):ybe a0=true∧y8u a0=a1:=of1 h
theorem zmx{r:Nat×Bool}(h:z6g a0=some r):zi8 a0=true∧z8t a0=r.1∧zh0 a0=r.2:=of2 h
theorem y8j(h:z6b a0 g1 a2 g3 a4 g5 c6=some c7):zu3 a0 g1 a2 g3 a4 g5 c6=true∧z97 a0 g1 a2 g3 a4 g5 c6=c7:=of1 h
theorem zsk{r:Nat×Bool}(h:z4m a0=some r):zkk a0=true∧zit a0=r.1∧zjl a0=r.2:=of2 h
theorem zel(h:z71 a0=some e1):zbf a0=true∧zad a0=e1:=of1 h
theorem zwz(h:z7s a0=some e1):zq7 a0=true∧zn6 a0=e1:=of1 h
theorem zzw(h:z3y a0=some e1):zmq a0=true∧zm6 a0=e1:=of1 h
theorem y87(h:z6e a0 a1 a2 a3 a4 a5=some e6):zv6 a0 a1 a2 a3 a4 a5=true∧zs7 a0 a1 a2 a3 a4 a5=e6:=of1 h
theorem zv2(h:z6x a0=some e1):z8l a0=true∧z7t a0=e1:=of1 h
theorem y9i(h:z6v a0 g1 a2 g3 a4 g5 a6 g7 c8 a9 a10 c11 a12=some e13):zwx a0 g1 a2 g3 a4 g5 a6 g7 c8 a9 a10 c11 a12=true∧zu2 a0 g1 a2 g3 a4 g5 a6 g7 c8 a9 a10 c11 a12=e13:=of1 h
theorem ybw{r:Nat×Nat×Bool}(h:z60 a0 a1=some r):zry a0 a1=true∧zi6 a0 a1=r.1∧zi5 a0 a1=r.2.1∧zib a0 a1=r.2.2:=of3 h
theorem y39(h:z4p a0=some e1):zr2 a0=true∧zpa a0=e1:=of1 h
theorem zvr(h:z31 a0 g1 a2 g3 a4 g5 a6 g7 c8 a9 a10 c11=some e12):zk4 a0 g1 a2 g3 a4 g5 a6 g7 c8 a9 a10 c11=true∧zim a0 g1 a2 g3 a4 g5 a6 g7 c8 a9 a10 c11=e12:=of1 h
theorem ydd(h:z8y a0=some e1):y2j a0=true∧zz7 a0=e1:=of1 h
theorem ycl(h:z90 a0=some e1):y2u a0=true∧zzj a0=e1:=of1 h
theorem zy7 {r:Int×Bool×(List Nat)} (hm:a5=big) (h:z16 a0 a1 g2 a5 c3 g4=some r):zfk a0 a1 g2 c3 g4=true∧zvv a0 a1 g2 c3 g4=r.1∧zwj a0 a1 g2 c3 g4=r.2.1∧zaz a0 a1 g2 c3 g4=r.2.2:=by
 subst hm;exact of3 h
theorem zth{r:Nat×Int×Bool}(hm:a6=big)(h:z0f a0 g1 g2 a3 a6 a4 c5=some r):zio a0 g1 g2 a3 a4 c5=true∧zg4 a0 g1 g2 a3 a4 c5=r.1∧zrh a0 g1 g2 a3 a4 c5=r.2.1∧zrg a0 g1 g2 a3 a4 c5=r.2.2:=by
 subst hm;exact of3 h
theorem y51{r:Nat×Int×Bool}(hm:a6=big)(h:z11 a0 g1 a2 g3 a6 a4 c5=some r):ztv a0 g1 a2 g3 a4 c5=true∧zp6 a0 g1 a2 g3 a4 c5=r.1∧y4d a0 g1 a2 g3 a4 c5=r.2.1∧y32 a0 g1 a2 g3 a4 c5=r.2.2:=by
 subst hm;exact of3 h
theorem y4j{r:Int×Int×Bool}(hm:a5=big)(h:z0u a0 c1 g2 a5 c3 c4=some r):zsc a0 c1 g2 c3 c4=true∧z9r a0 c1 g2 c3 c4=r.1∧y1i a0 c1 g2 c3 c4=r.2.1∧y2d a0 c1 g2 c3 c4=r.2.2:=by
 subst hm;exact of3 h
theorem zo8(hm:a5=big) (h:z05 a0 e1 c2 m3 a5 c4=some (Sum.inl c6)):z82 a0 e1 c2 m3 c4=true∧z7d a0 e1 c2 m3 c4=true∧zas a0 e1 c2 m3 c4=c6:=by
 subst hm;exact ol1 h
theorem zo9{r:Int×Bool}(hm:a5=big) (h:z05 a0 e1 c2 m3 a5 c4=some (Sum.inr r)):z82 a0 e1 c2 m3 c4=true∧z7d a0 e1 c2 m3 c4=false∧zmj a0 e1 c2 m3 c4=r.1∧zmk a0 e1 c2 m3 c4=r.2:=by
 subst hm;exact or2 h
theorem ybr(h:z7z a0 g1 a2 g3 a4 g5 a6 g7 c8 a9 a10 c11=some c12):zpo a0 g1 a2 g3 a4 g5 a6 g7 c8 a9 a10 c11=true∧zms a0 g1 a2 g3 a4 g5 a6 g7 c8 a9 a10 c11=c12:=of1 h
theorem zbk {r:Nat×(List Nat)} (h:z47 a0 g1=some r):z5i a0 g1=true∧z0o a0 g1=r.1∧z8b a0 g1=r.2:=of2 h
theorem y01(h:z3x a0 g1 a2 g3 a4 g5 a6 g7 c8 a9 a10 a11 g12=some a13):zmu a0 g1 a2 g3 a4 g5 a6 g7 c8 a9 a10 a11 g12=true∧z8h a0 g1 a2 g3 a4 g5 a6 g7 c8 a9 a10 a11 g12=a13:=of1 h
theorem ydf(h:z95 a0 g1 a2 g3 a4 g5 a6 g7 c8 a9 a10 a11 g12=some a13):y2p a0 g1 a2 g3 a4 g5 a6 g7 c8 a9 a10 a11 g12=true∧zij a0 g1 a2 g3 a4 g5 a6 g7 c8 a9 a10 a11 g12=a13:=of1 h
theorem ybi{r:Int×Nat}(h:z6i a0 g1=some r):y08 a0 g1=true∧zwo a0 g1=r.1∧zx2 a0 g1=r.2:=of2 h
theorem zrf(h:z22 a0 m1 e2=some c3):zh3 a0 m1 e2=true∧zg9 a0 m1 e2=c3:=of1 h
theorem y5r(h:z5h a0=some e1):zsl a0=true∧zr4 a0=e1:=of1 h
theorem ye1(h:za8 a0=some a1):y5j a0=true∧zg5 a0=a1:=of1 h
theorem zy5{r:Int×Bool}(hm:a5=big) (h:z19 a0 a1 g2 g3 a5 c4=some (Sum.inr r)):zop a0 a1 g2 g3 c4=true∧zmc a0 a1 g2 g3 c4=false∧zvy a0 a1 g2 g3 c4=r.1∧zwh a0 a1 g2 g3 c4=r.2:=by
 subst hm;exact or2 h
theorem zxj {r:Int×Bool×(List Nat)} (hm:a5=big) (h:z0p a0 a1 g2 a5 c3 g4=some r):zfp a0 a1 g2 c3 g4=true∧zwc a0 a1 g2 c3 g4=r.1∧zw7 a0 a1 g2 c3 g4=r.2.1∧zax a0 a1 g2 c3 g4=r.2.2:=by
 subst hm;exact of3 h
theorem zux{r:Nat×Int×Bool}(hm:a3=big)(h:z0l a0 a3 a1 c2=some r):z1c a0 a1 c2=true∧z08 a0 a1 c2=r.1∧ztd a0 a1 c2=r.2.1∧ztp a0 a1 c2=r.2.2:=by
 subst hm;exact of3 h
theorem zby(h:z5e a0 g1 a2 g3=some e4):z98 a0 g1 a2 g3=true∧z8f a0 g1 a2 g3=e4:=of1 h
theorem zos(h:z1h a0 m1 e2=some e3):z52 a0 m1 e2=true∧z4k a0 m1 e2=e3:=of1 h
theorem y7y {r:Nat×Nat×Nat×(List Nat)×(List Nat)×(List Nat)} (h:z1y a0 g1 a2 g3 a4 g5=some r):zuj a0 g1 a2 g3 a4 g5=true∧zsa a0 g1 a2 g3 a4 g5=r.1∧zst a0 g1 a2 g3 a4 g5=r.2.1∧zsr a0 g1 a2 g3 a4 g5=r.2.2.1∧zsn a0 g1 a2 g3 a4 g5=r.2.2.2.1∧zsy a0 g1 a2 g3 a4 g5=r.2.2.2.2.1∧zsg a0 g1 a2 g3 a4 g5=r.2.2.2.2.2:=of6 h
theorem y6e {r:Nat×(List Nat)} (h:z49 a0 g1=some r):zsv a0 g1=true∧zqt a0 g1=r.1∧zr1 a0 g1=r.2:=of2 h
theorem y4k(h:z28 a0=some a1):zqz a0=true∧zgu a0=a1:=of1 h
theorem y60(h:z5c a0=some a1):zs6 a0=true∧z09 a0=a1:=of1 h
theorem zx4{r:Int×Bool}(hm:a5=big) (h:z17 a0 a1 g2 g3 a5 c4=some (Sum.inr r)):zex a0 a1 g2 g3 c4=true∧zdr a0 a1 g2 g3 c4=false∧zwk a0 a1 g2 g3 c4=r.1∧zw1 a0 a1 g2 g3 c4=r.2:=by
 subst hm;exact or2 h
theorem y8o{r:Unit}(hm:a8=big) (h:z1w c0 g1 g2 g3 a4 a5 a6 a8 c7=some (Sum.inl r)):zba c0 g1 g2 g3 a4 a5 a6 c7=true∧za3 c0 g1 g2 g3 a4 a5 a6 c7=true:=by
 subst hm;exact ol0 h
theorem y7t{r:Int×Bool}(hm:a8=big) (h:z1w c0 g1 g2 g3 a4 a5 a6 a8 c7=some (Sum.inr r)):zba c0 g1 g2 g3 a4 a5 a6 c7=true∧za3 c0 g1 g2 g3 a4 a5 a6 c7=false∧y63 c0 g1 g2 g3 a4 a5 a6 c7=r.1∧y5b c0 g1 g2 g3 a4 a5 a6 c7=r.2:=by
 subst hm;exact or2 h
theorem zau(hm:a4=big) (h:z01 a0 c1 g2 a4 c3=some (Sum.inl c5)):z2y a0 c1 g2 c3=true∧z2s a0 c1 g2 c3=true∧z4x a0 c1 g2 c3=c5:=by
 subst hm;exact ol1 h
theorem zb1{r:Int×Bool}(hm:a4=big) (h:z01 a0 c1 g2 a4 c3=some (Sum.inr r)):z2y a0 c1 g2 c3=true∧z2s a0 c1 g2 c3=false∧zap a0 c1 g2 c3=r.1∧zaq a0 c1 g2 c3=r.2:=by
 subst hm;exact or2 h
theorem zce(hm:a4=big) (h:z02 a0 c1 g2 a4 c3=some (Sum.inl c5)):z3a a0 c1 g2 c3=true∧z33 a0 c1 g2 c3=true∧z5r a0 c1 g2 c3=c5:=by
 subst hm;exact ol1 h
theorem zc9{r:Int×Bool}(hm:a4=big) (h:z02 a0 c1 g2 a4 c3=some (Sum.inr r)):z3a a0 c1 g2 c3=true∧z33 a0 c1 g2 c3=false∧zbj a0 c1 g2 c3=r.1∧zbo a0 c1 g2 c3=r.2:=by
 subst hm;exact or2 h
theorem yap {r:Nat×Nat×Nat×Nat×(List Nat)×(List Nat)×(List Nat)×(List Nat)} (h:z1v a0 g1 a2 g3 a4 g5 a6 g7 c8 a9 a10=some r):zq9 a0 g1 a2 g3 a4 g5 a6 g7 c8 a9 a10=true∧zn4 a0 g1 a2 g3 a4 g5 a6 g7 c8 a9 a10=r.1∧zoc a0 g1 a2 g3 a4 g5 a6 g7 c8 a9 a10=r.2.1∧zo7 a0 g1 a2 g3 a4 g5 a6 g7 c8 a9 a10=r.2.2.1∧znm a0 g1 a2 g3 a4 g5 a6 g7 c8 a9 a10=r.2.2.2.1∧zmv a0 g1 a2 g3 a4 g5 a6 g7 c8 a9 a10=r.2.2.2.2.1∧zn5 a0 g1 a2 g3 a4 g5 a6 g7 c8 a9 a10=r.2.2.2.2.2.1∧znh a0 g1 a2 g3 a4 g5 a6 g7 c8 a9 a10=r.2.2.2.2.2.2.1∧zny a0 g1 a2 g3 a4 g5 a6 g7 c8 a9 a10=r.2.2.2.2.2.2.2:=of8 h
theorem y7c(h:z69 a0 g1 a2 g3 a4 g5 a6 g7 a8 g9 a10 g11=some e12):zuk a0 g1 a2 g3 a4 g5 a6 g7 a8 g9 a10 g11=true∧zso a0 g1 a2 g3 a4 g5 a6 g7 a8 g9 a10 g11=e12:=of1 h
theorem y6d(h:z59 a0 g1 a2 g3=some e4):zs9 a0 g1 a2 g3=true∧zqy a0 g1 a2 g3=e4:=of1 h
theorem ye5(h:za0 a0 g1 a2 g3 a4 g5=some e6):y4u a0 g1 a2 g3 a4 g5=true∧y2k a0 g1 a2 g3 a4 g5=e6:=of1 h
theorem zdz(h:z0n a0 g1=some c2):z6u a0 g1=true∧z6f a0 g1=c2:=of1 h
theorem zf9(h:z0r a0 g1=some c2):z78 a0 g1=true∧z6z a0 g1=c2:=of1 h
theorem z8i(h:z6l a0=some a1):z7y a0=true∧z1f a0=a1:=of1 h
theorem zcr(hm:a4=big) (h:z03 a0 c1 g2 a4 c3=some (Sum.inl c5)):z3n a0 c1 g2 c3=true∧z3k a0 c1 g2 c3=true∧z5v a0 c1 g2 c3=c5:=by
 subst hm;exact ol1 h
theorem zcp{r:Int×Bool}(hm:a4=big) (h:z03 a0 c1 g2 a4 c3=some (Sum.inr r)):z3n a0 c1 g2 c3=true∧z3k a0 c1 g2 c3=false∧zch a0 c1 g2 c3=r.1∧zc8 a0 c1 g2 c3=r.2:=by
 subst hm;exact or2 h
theorem ybl(h:z7u a0 g1 a2 g3 a4 g5 a6 g7 c8 a9 a10 a11 g12 a13 g14 a15 g16 a17 g18 c19 a20 a21=some e22):zpk a0 g1 a2 g3 a4 g5 a6 g7 c8 a9 a10 a11 g12 a13 g14 a15 g16 a17 g18 c19 a20 a21=true∧znu a0 g1 a2 g3 a4 g5 a6 g7 c8 a9 a10 a11 g12 a13 g14 a15 g16 a17 g18 c19 a20 a21=e22:=of1 h
theorem zg8(h:z0t a0 g1=some c2):z7k a0 g1=true∧z77 a0 g1=c2:=of1 h
theorem y2v(h:zae a0=some a1):zv0 a0=true∧z92 a0=a1:=of1 h
theorem yad{r:Nat×Nat×Bool}(hm:a3=big)(h:z1u a0 a3 a1 a2=some r):z9x a0 a1 a2=true∧z75 a0 a1 a2=r.1∧y8a a0 a1 a2=r.2.1∧y7p a0 a1 a2=r.2.2:=by
 subst hm;exact of3 h
theorem zbg(h:z0i a0 g1=some e2):z5t a0 g1=true∧z5q a0 g1=e2:=of1 h
theorem zcq(h:z0k a0 g1=some e2):z6p a0 g1=true∧z61 a0 g1=e2:=of1 h
theorem ze5(h:z0m a0 g1=some e2):z6s a0 g1=true∧z6k a0 g1=e2:=of1 h
theorem yeh(h:zc3 a0=some a1):y8t a0=true∧zua a0=a1:=of1 h
theorem y7e(h:z68 a0=some a1):zu5 a0=true∧z10 a0=a1:=of1 h
theorem yb6(h:z7w a0=some a1):zzt a0=true∧z4h a0=a1:=of1 h
theorem y84{r:Unit}(hm:a6=big) (h:z14 c0 g1 a2 a3 a6 a4 c5=some (Sum.inl r)):zh7 c0 g1 a2 a3 a4 c5=true∧zf1 c0 g1 a2 a3 a4 c5=true:=by
 subst hm;exact ol0 h
theorem y7x{r:Nat×Int×Bool}(hm:a6=big) (h:z14 c0 g1 a2 a3 a6 a4 c5=some (Sum.inr r)):zh7 c0 g1 a2 a3 a4 c5=true∧zf1 c0 g1 a2 a3 a4 c5=false∧y58 c0 g1 a2 a3 a4 c5=r.1∧y6h c0 g1 a2 a3 a4 c5=r.2.1∧y5f c0 g1 a2 a3 a4 c5=r.2.2:=by
 subst hm;exact or3 h
theorem zgt(h:z1r a0 g1=some e2):z8c a0 g1=true∧z7l a0 g1=e2:=of1 h
theorem y2t(h:z9y a0 g1 a2 g3 a4 g5 a6 g7 c8 a9 a10=some e11):zuc a0 g1 a2 g3 a4 g5 a6 g7 c8 a9 a10=true∧zru a0 g1 a2 g3 a4 g5 a6 g7 c8 a9 a10=e11:=of1 h
theorem zsh(h:z4v a0 g1=some e2):zkn a0 g1=true∧ziu a0 g1=e2:=of1 h
theorem y9w(h:z70 a0 g1=some e2):zwv a0 g1=true∧zvm a0 g1=e2:=of1 h
theorem z72(h:z6d a0=some a1):z4o a0=true∧z1i a0=a1:=of1 h
theorem y4v{r:Nat×Nat×Bool}(h:z36 a0 a1=some r):zj2 a0 a1=true∧zhv a0 a1=r.1∧zhj a0 a1=r.2.1∧zhh a0 a1=r.2.2:=of3 h
theorem y59(h:z5f a0 g1 a2 g3 a4 g5 a6 g7 c8 a9 a10 c11=some e12):zsz a0 g1 a2 g3 a4 g5 a6 g7 c8 a9 a10 c11=true∧zqx a0 g1 a2 g3 a4 g5 a6 g7 c8 a9 a10 c11=e12:=of1 h
theorem zxy(h:z3h a0 g1 a2 g3 a4 g5 a6 g7 c8 a9 a10 c11 a12=some a13):zm8 a0 g1 a2 g3 a4 g5 a6 g7 c8 a9 a10 c11 a12=true∧zc1 a0 g1 a2 g3 a4 g5 a6 g7 c8 a9 a10 c11 a12=a13:=of1 h
theorem zal(hm:a5=big) (h:z00 a0 c1 g2 a3 a5 c4=some (Sum.inl c6)):z2t a0 c1 g2 a3 c4=true∧z2i a0 c1 g2 a3 c4=true∧z07 a0 c1 g2 a3 c4=c6:=by
 subst hm;exact ol1 h
theorem zar{r:Int×Bool}(hm:a5=big) (h:z00 a0 c1 g2 a3 a5 c4=some (Sum.inr r)):z2t a0 c1 g2 a3 c4=true∧z2i a0 c1 g2 a3 c4=false∧zaa a0 c1 g2 a3 c4=r.1∧zac a0 c1 g2 a3 c4=r.2:=by
 subst hm;exact or2 h
theorem zp5{r:Int×Bool}(hm:a4=big)(h:z1j a0 g1 a2 a4 c3=some r):zs8 a0 g1 a2 c3=true∧zo6 a0 g1 a2 c3=r.1∧y0v a0 g1 a2 c3=r.2:=by
 subst hm;exact of2 h
theorem ych(h:z93 a0 g1 a2 g3 a4 g5 a6 g7 c8 a9 a10 c11 a12 a13 a14=some e15):y2w a0 g1 a2 g3 a4 g5 a6 g7 c8 a9 a10 c11 a12 a13 a14=true∧zym a0 g1 a2 g3 a4 g5 a6 g7 c8 a9 a10 c11 a12 a13 a14=e15:=of1 h
theorem zw0{r:Int×Int×Nat×Nat×Nat}(h:z0x a0 g1 a2 g3 a4 g5 a6=some r):zk0 a0 g1 a2 g3 a4 g5 a6=true∧z2n a0 g1 a2 g3 a4 g5 a6=r.1∧z2k a0 g1 a2 g3 a4 g5 a6=r.2.1∧z3r a0 g1 a2 g3 a4 g5 a6=r.2.2.1∧z7e a0 g1 a2 g3 a4 g5 a6=r.2.2.2.1∧zay a0 g1 a2 g3 a4 g5 a6=r.2.2.2.2:=of5 h
theorem yas{r:Int×Int×Nat×Nat}(h:z3c a0 g1 a2 g3 a4 g5 a6=some r):zzz a0 g1 a2 g3 a4 g5 a6=true∧zb9 a0 g1 a2 g3 a4 g5 a6=r.1∧zo2 a0 g1 a2 g3 a4 g5 a6=r.2.1∧zwt a0 g1 a2 g3 a4 g5 a6=r.2.2.1∧yau a0 g1 a2 g3 a4 g5 a6=r.2.2.2:=of4 h
theorem zve{r:Unit}(hm:a5=big) (h:z0s a0 c1 g2 a3 a5 c4=some (Sum.inl r)):z89 a0 c1 g2 a3 c4=true∧z7h a0 c1 g2 a3 c4=true:=by
 subst hm;exact ol0 h
theorem zup{r:Int×Bool}(hm:a5=big) (h:z0s a0 c1 g2 a3 a5 c4=some (Sum.inr r)):z89 a0 c1 g2 a3 c4=true∧z7h a0 c1 g2 a3 c4=false∧ztn a0 c1 g2 a3 c4=r.1∧zte a0 c1 g2 a3 c4=r.2:=by
 subst hm;exact or2 h
theorem y2f(h:z4a a0 g1 a2 g3 a4 g5=some e6):zoz a0 g1 a2 g3 a4 g5=true∧znx a0 g1 a2 g3 a4 g5=e6:=of1 h
theorem zqw(h:z5g a0 g1 a2 g3 a4 g5 a6 g7 a8=some a9):zjk a0 g1 a2 g3 a4 g5 a6 g7 a8=true∧z8d a0 g1 a2 g3 a4 g5 a6 g7 a8=a9:=of1 h
theorem y2s(h:za7 a0 g1 a2 g3 a4 g5 a6 g7 a8=some a9):zv1 a0 g1 a2 g3 a4 g5 a6 g7 a8=true∧zri a0 g1 a2 g3 a4 g5 a6 g7 a8=a9:=of1 h
theorem zob{r:Nat×Nat}(h:z2d a0 g1 a2 g3 a4 g5 a6 g7 c8 a9 a10 c11 a12 a13=some r):zgi a0 g1 a2 g3 a4 g5 a6 g7 c8 a9 a10 c11 a12 a13=true∧zfa a0 g1 a2 g3 a4 g5 a6 g7 c8 a9 a10 c11 a12 a13=r.1∧zfh a0 g1 a2 g3 a4 g5 a6 g7 c8 a9 a10 c11 a12 a13=r.2:=of2 h
theorem ybp(h:z7v a0 g1 a2 g3 a4 g5 a6=some a7):zz0 a0 g1 a2 g3 a4 g5 a6=true∧znf a0 g1 a2 g3 a4 g5 a6=a7:=of1 h
theorem yay(h:z7r a0 g1 a2 g3 a4 g5 a6=some a7):zyp a0 g1 a2 g3 a4 g5 a6=true∧zo3 a0 g1 a2 g3 a4 g5 a6=a7:=of1 h
theorem znc{r:Nat×Nat}(h:z35 a0 g1 a2 g3 a4 g5 a6 g7 c8 a9 a10 c11 a12 a13=some r):zgg a0 g1 a2 g3 a4 g5 a6 g7 c8 a9 a10 c11 a12 a13=true∧zez a0 g1 a2 g3 a4 g5 a6 g7 c8 a9 a10 c11 a12 a13=r.1∧zff a0 g1 a2 g3 a4 g5 a6 g7 c8 a9 a10 c11 a12 a13=r.2:=of2 h
theorem y7o{r:Nat×Nat}(h:z4u a0 g1 a2 g3 a4 g5 a6 g7 c8 a9 a10 c11 a12 a13=some r):zvl a0 g1 a2 g3 a4 g5 a6 g7 c8 a9 a10 c11 a12 a13=true∧zjc a0 g1 a2 g3 a4 g5 a6 g7 c8 a9 a10 c11 a12 a13=r.1∧zis a0 g1 a2 g3 a4 g5 a6 g7 c8 a9 a10 c11 a12 a13=r.2:=of2 h
theorem zy8{r:Unit}(hm:a6=big) (h:z0h a0 c1 g2 a3 a6 a4 c5=some (Sum.inl r)):z9i a0 c1 g2 a3 a4 c5=true∧z8w a0 c1 g2 a3 a4 c5=true:=by
 subst hm;exact ol0 h
theorem zx7{r:Nat×Int×Bool}(hm:a6=big) (h:z0h a0 c1 g2 a3 a6 a4 c5=some (Sum.inr r)):z9i a0 c1 g2 a3 a4 c5=true∧z8w a0 c1 g2 a3 a4 c5=false∧zvw a0 c1 g2 a3 a4 c5=r.1∧zw2 a0 c1 g2 a3 a4 c5=r.2.1∧zvq a0 c1 g2 a3 a4 c5=r.2.2:=by
 subst hm;exact or3 h
theorem zqu(h:z5j a0 g1 a2 g3 a4 g5 a6 g7 c8 a9 a10=some e11):zdd a0 g1 a2 g3 a4 g5 a6 g7 c8 a9 a10=true∧z8e a0 g1 a2 g3 a4 g5 a6 g7 c8 a9 a10=e11:=of1 h
theorem zwq{r:Nat×Nat×Nat×Nat}(h:z44 a0 g1 a2 g3 a4 g5 a6 g7 c8 a9 a10 c11 a12 a13=some r):zpd a0 g1 a2 g3 a4 g5 a6 g7 c8 a9 a10 c11 a12 a13=true∧zod a0 g1 a2 g3 a4 g5 a6 g7 c8 a9 a10 c11 a12 a13=r.1∧zmw a0 g1 a2 g3 a4 g5 a6 g7 c8 a9 a10 c11 a12 a13=r.2.1∧zx0 a0 g1 a2 g3 a4 g5 a6 g7 c8 a9 a10 c11 a12 a13=r.2.2.1∧zww a0 g1 a2 g3 a4 g5 a6 g7 c8 a9 a10 c11 a12 a13=r.2.2.2:=of4 h
theorem y07(h:z2v a0 g1 a2 g3 a4 g5 a6 g7 c8 a9 a10 c11 a12 a13 a14 a15=some a16):zo1 a0 g1 a2 g3 a4 g5 a6 g7 c8 a9 a10 c11 a12 a13 a14 a15=true∧z8q a0 g1 a2 g3 a4 g5 a6 g7 c8 a9 a10 c11 a12 a13 a14 a15=a16:=of1 h
theorem zwn(h:z81 a0 g1 a2 g3 a4 g5 a6 g7 c8 a9 a10 c11 a12 a13 a14=some e15):zpt a0 g1 a2 g3 a4 g5 a6 g7 c8 a9 a10 c11 a12 a13 a14=true∧zni a0 g1 a2 g3 a4 g5 a6 g7 c8 a9 a10 c11 a12 a13 a14=e15:=of1 h
theorem y5h(h:z39 a0 g1 a2 g3 a4 g5 a6 g7 c8 a9 a10 c11 a12 a13 a14 a15=some a16):zsq a0 g1 a2 g3 a4 g5 a6 g7 c8 a9 a10 c11 a12 a13 a14 a15=true∧zbi a0 g1 a2 g3 a4 g5 a6 g7 c8 a9 a10 c11 a12 a13 a14 a15=a16:=of1 h
end
end Go.Rf
