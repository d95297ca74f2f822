import Derived.Test.YtijjhfailnmeoaaGreatB
set_option linter.unusedVariables false
set_option linter.unusedSimpArgs false
set_option linter.unusedSectionVars false
set_option maxRecDepth 100000
set_option maxHeartbeats 4000000
namespace Go.Rf
open Go
noncomputable section
variable (a0:Nat) (c0:Int) (g0:List Nat) (a1:Nat) (c1:Int) (e1:Bool) (g1:List Nat) (m1:List Bool) (a2:Nat) (c2:Int) (e2:Bool) (g2:List Nat) (a3:Nat) (c3:Int) (g3:List Nat) (m3:List Bool) (a4:Nat) (c4:Int) (g4:List Nat) (a5:Nat) (c5:Int) (g5:List Nat) (a6:Nat) (c6:Int) (a7:Nat) (c7:Int) (g7:List Nat) (a8:Nat) (c8:Int) (a9:Nat) (g9:List Nat) (a10:Nat) (a11:Nat) (c11:Int) (g11:List Nat) (a12:Nat) (g12:List Nat) (a13:Nat) (a14:Nat) (g14:List Nat) (a15:Nat) (g16:List Nat) (a17:Nat) (g18:List Nat) (c19:Int) (a20:Nat) (a21:Nat)
abbrev Nt1{A1:Type} (T:{R:Type}→(A1→Option R)→Option R):Prop:=∀ {R R':Type} (o:Option R→Option R'),o none=none→∀ k:A1→Option R,T (fun c1=>o (k c1))=o (T k)
abbrev Nt2{A1 A2:Type} (T:{R:Type}→(A1→A2→Option R)→Option R):Prop:=∀ {R R':Type} (o:Option R→Option R'),o none=none→∀ k:A1→A2→Option R,T (fun c1 c2=>o (k c1 c2))=o (T k)
abbrev Nt3{A1 A2 A3:Type} (T:{R:Type}→(A1→A2→A3→Option R)→Option R):Prop:=∀ {R R':Type} (o:Option R→Option R'),o none=none→∀ k:A1→A2→A3→Option R,T (fun c1 c2 c3=>o (k c1 c2 c3))=o (T k)
abbrev Nt4{A1 A2 A3 A4:Type} (T:{R:Type}→(A1→A2→A3→A4→Option R)→Option R):Prop:=∀ {R R':Type} (o:Option R→Option R'),o none=none→∀ k:A1→A2→A3→A4→Option R,T (fun c1 c2 c3 c4=>o (k c1 c2 c3 c4))=o (T k)
abbrev Nt5{A1 A2 A3 A4 A5:Type} (T:{R:Type}→(A1→A2→A3→A4→A5→Option R)→Option R):Prop:=∀ {R R':Type} (o:Option R→Option R'),o none=none→∀ k:A1→A2→A3→A4→A5→Option R,T (fun c1 c2 c3 c4 c5=>o (k c1 c2 c3 c4 c5))=o (T k)
abbrev Nt6{A1 A2 A3 A4 A5 A6:Type} (T:{R:Type}→(A1→A2→A3→A4→A5→A6→Option R)→Option R):Prop:=∀ {R R':Type} (o:Option R→Option R'),o none=none→∀ k:A1→A2→A3→A4→A5→A6→Option R,T (fun c1 c2 c3 c4 c5 c6=>o (k c1 c2 c3 c4 c5 c6))=o (T k)
abbrev Nt8{A1 A2 A3 A4 A5 A6 A7 A8:Type} (T:{R:Type}→(A1→A2→A3→A4→A5→A6→A7→A8→Option R)→Option R):Prop:=∀ {R R':Type} (o:Option R→Option R'),o none=none→∀ k:A1→A2→A3→A4→A5→A6→A7→A8→Option R,T (fun c1 c2 c3 c4 c5 c6 c7 c8=>o (k c1 c2 c3 c4 c5 c6 c7 c8))=o (T k)
def zem{R:Type}(k_:Bool→Option R):Option R:=(br (fcmp .neq .f64 a0 a0) (br (fcmp .neq .f64 a0 a0) (k_ (fcmp .neq .f64 a1 a1)) (k_ Bool.false)) (br (fcmp .neq .f64 a1 a1) (br (fcmp .neq .f64 a0 a0) (k_ (fcmp .neq .f64 a1 a1)) (k_ Bool.false)) (br (fcmp .eql .f64 a0 0) (br (fcmp .eql .f64 a1 0) (k_ (beqB (fcmp .gtr .f64 (fop .quo .f64 4607182418800017408 a0) 0) (fcmp .gtr .f64 (fop .quo .f64 4607182418800017408 a1) 0))) (k_ (fcmp .eql .f64 a0 a1))) (k_ (fcmp .eql .f64 a0 a1)))))
def z5y:Option (Bool):=zem a0 a1 (fun c0_=>some c0_)
theorem y02:Nt1 (fun {R}=>zem (R:=R) a0 a1):=by
 intro R R' o h0 k;unfold zem;repeat (first | apply grd_out h0 | apply br_out | rfl)
def z4i:Bool:=(z5y a0 a1).isSome
def z3w:Bool:=((z5y a0 a1).getD default)
def zjh{R:Type}(k_:Bool→Option R):Option R:=(br (leI c1 c0) (k_ (leI c0 c2)) (k_ Bool.false))
def z8j:Option (Bool):=zjh c0 c1 c2 (fun c0_=>some c0_)
theorem y4w:Nt1 (fun {R}=>zjh (R:=R) c0 c1 c2):=by
 intro R R' o h0 k;unfold zjh;repeat (first | apply grd_out h0 | apply br_out | rfl)
def z8d:Bool:=(z8j c0 c1 c2).isSome
def z3v:Bool:=((z8j c0 c1 c2).getD default)
def znd{R:Type}(k_:Bool→Option R):Option R:=(k_ (fcmp .eql .f32 (fop .sub .f32 a0 a0) 0))
def z89:Option (Bool):=znd a0 (fun c0_=>some c0_)
theorem y1w:Nt1 (fun {R}=>znd (R:=R) a0):=by
 intro R R' o h0 k;unfold znd;repeat (first | apply grd_out h0 | apply br_out | rfl)
def z2k:Bool:=(z89 a0).isSome
def z25:Bool:=((z89 a0).getD default)
def zmm{R:Type}(k_:Bool→Option R):Option R:=(br (leI c1 c0) (k_ (leI c0 c2)) (k_ Bool.false))
def z9p:Option (Bool):=zmm c0 c1 c2 (fun c0_=>some c0_)
theorem y6t:Nt1 (fun {R}=>zmm (R:=R) c0 c1 c2):=by
 intro R R' o h0 k;unfold zmm;repeat (first | apply grd_out h0 | apply br_out | rfl)
def ztm:Bool:=(z9p c0 c1 c2).isSome
def zqd:Bool:=((z9p c0 c1 c2).getD default)
def zco{R:Type}(a:List Nat)(q2j:Int)(k_:Int→Option R):Option R:=(br (ltI (subI .i64 q2j (Int.ofNat a0)) 0) (k_ (Int.negSucc 0)) (k_ (subI .i64 q2j (Int.ofNat a0))))
def z54:Option (Int):=zco a0 g1 c2 (fun c0_=>some c0_)
theorem zyc:Nt1 (fun {R}=>zco (R:=R) a0 g1 c2):=by
 intro R R' o h0 k;unfold zco;repeat (first | apply grd_out h0 | apply br_out | rfl)
def zrk:Bool:=(z54 a0 g1 c2).isSome
def zgh:Int:=((z54 a0 g1 c2).getD default)
def zkb{R:Type}(k_:Bool→Option R):Option R:=(k_ (fcmp .eql .f32 (fop .sub .f32 a0 a0) 0))
def z7f:Option (Bool):=zkb a0 (fun c0_=>some c0_)
theorem y0a:Nt1 (fun {R}=>zkb (R:=R) a0):=by
 intro R R' o h0 k;unfold zkb;repeat (first | apply grd_out h0 | apply br_out | rfl)
def z0w:Bool:=(z7f a0).isSome
def z0r:Bool:=((z7f a0).getD default)
def zc6{R:Type}(a:List Nat)(q2j:Int)(k_:Int→Option R):Option R:=(br (ltI (subI .i64 q2j (Int.ofNat a0)) 0) (k_ (Int.negSucc 0)) (k_ (subI .i64 q2j (Int.ofNat a0))))
def z55:Option (Int):=zc6 a0 g1 c2 (fun c0_=>some c0_)
theorem zxe:Nt1 (fun {R}=>zc6 (R:=R) a0 g1 c2):=by
 intro R R' o h0 k;unfold zc6;repeat (first | apply grd_out h0 | apply br_out | rfl)
def zcj:Bool:=(z55 a0 g1 c2).isSome
def z15:Int:=((z55 a0 g1 c2).getD default)
def zkf{R:Type}(q2p q2s q2r:Nat)(k_:Unit→Option R):Option R:=(k_ ())
def zkw:Option (Unit):=zkf a0 a1 a2 (fun _=>some ())
theorem zzo:Nt1 (fun {R}=>zkf (R:=R) a0 a1 a2):=by
 intro R R' o h0 k;unfold zkf;repeat (first | apply grd_out h0 | apply br_out | rfl)
def ztc:Bool:=(zkw a0 a1 a2).isSome
def zg5{R:Type}(k_:Bool→Option R):Option R:=(br (fcmp .geq .f32 a0 a1) (k_ (fcmp .leq .f32 a0 a2)) (k_ Bool.false))
def z6m:Option (Bool):=zg5 a0 a1 a2 (fun c0_=>some c0_)
theorem y1y:Nt1 (fun {R}=>zg5 (R:=R) a0 a1 a2):=by
 intro R R' o h0 k;unfold zg5;repeat (first | apply grd_out h0 | apply br_out | rfl)
def zmh:Bool:=(z6m a0 a1 a2).isSome
def zka:Bool:=((z6m a0 a1 a2).getD default)
def z83{R:Type}(q00:Nat)(q03:List Nat)(q02:Nat)(q04:List Nat)(q01:Nat)(q05:List Nat)(q06:Nat)(q07:List Nat)(q0b:Int)(q0j q0i:Nat)(i:Int)(k_:Nat→Option R):Option R:=(grd (okIx i q06) (grd (okIx i q06) (k_ (fop .quo .f32 (fop .mul .f32 (fOI .f32 q0b) (gF q07 (Nat.succ (ixO 0 i 3)))) (fop .mul .f32 1086918619 (gF q07 (ixO 0 i 3)))))))
def z3a:Option (Nat):=z83 a0 g1 a2 g3 a4 g5 a6 g7 c8 a9 a10 c11 (fun c0_=>some c0_)
theorem zrt:Nt1 (fun {R}=>z83 (R:=R) a0 g1 a2 g3 a4 g5 a6 g7 c8 a9 a10 c11):=by
 intro R R' o h0 k;unfold z83;repeat (first | apply grd_out h0 | apply br_out | rfl)
def zle:Bool:=(z3a a0 g1 a2 g3 a4 g5 a6 g7 c8 a9 a10 c11).isSome
def zbn:Nat:=((z3a a0 g1 a2 g3 a4 g5 a6 g7 c8 a9 a10 c11).getD default)
def zjg{R:Type}(q00:Nat)(q03:List Nat)(q02:Nat)(q04:List Nat)(q01:Nat)(q05:List Nat)(q06:Nat)(q07:List Nat)(q0b:Int)(q0j q0i:Nat)(i:Int)(q3o:Nat)(k_:Nat→Option R):Option R:=(grd (okIx i q06) (k_ (fop .quo .f32 (fop .quo .f32 (fop .mul .f32 (fOI .f32 q0b) (fop .sub .f32 q0i (gF q07 (ixO 0 i 3)))) (fop .mul .f32 1073741824 (gF q07 (ixO 0 i 3)))) (fop .add .f32 (fop .quo .f32 (fop .mul .f32 (fOI .f32 q0b) (fop .sub .f32 q0i (gF q07 (ixO 0 i 3)))) (fop .mul .f32 1073741824 (gF q07 (ixO 0 i 3)))) q3o))))
def z8h:Option (Nat):=zjg a0 g1 a2 g3 a4 g5 a6 g7 c8 a9 a10 c11 a12 (fun c0_=>some c0_)
theorem y62:Nt1 (fun {R}=>zjg (R:=R) a0 g1 a2 g3 a4 g5 a6 g7 c8 a9 a10 c11 a12):=by
 intro R R' o h0 k;unfold zjg;repeat (first | apply grd_out h0 | apply br_out | rfl)
def y0z:Bool:=(z8h a0 g1 a2 g3 a4 g5 a6 g7 c8 a9 a10 c11 a12).isSome
def zp6:Nat:=((z8h a0 g1 a2 g3 a4 g5 a6 g7 c8 a9 a10 c11 a12).getD default)
def zas{R:Type}(q00:Nat)(q03:List Nat)(q02:Nat)(q04:List Nat)(q01:Nat)(q05:List Nat)(q06:Nat)(q07:List Nat)(q0b:Int)(q0j q0i:Nat)(i:Int)(k_:Nat→Option R):Option R:=(grd (okIx i q06) (k_ (fop .quo .f32 (fop .mul .f32 (fOI .f32 q0b) (gF q07 (Nat.succ (ixO 0 i 3)))) (fop .mul .f32 1086918619 (gF q07 (ixO 0 i 3))))))
def z4n:Option (Nat):=zas a0 g1 a2 g3 a4 g5 a6 g7 c8 a9 a10 c11 (fun c0_=>some c0_)
theorem zwh:Nt1 (fun {R}=>zas (R:=R) a0 g1 a2 g3 a4 g5 a6 g7 c8 a9 a10 c11):=by
 intro R R' o h0 k;unfold zas;repeat (first | apply grd_out h0 | apply br_out | rfl)
def zpp:Bool:=(z4n a0 g1 a2 g3 a4 g5 a6 g7 c8 a9 a10 c11).isSome
def zfi:Nat:=((z4n a0 g1 a2 g3 a4 g5 a6 g7 c8 a9 a10 c11).getD default)
def zrw{R:Type}  (k_:Nat→Option R):Option R:=(grd (okU .f64 9221120237041090561) (k_ (cnI .f64 9221120237041090561)))
def zeb  : Option (Nat):=zrw (fun c0_=>some c0_)
theorem y9l  : Nt1 (fun {R}=>zrw (R:=R)):=by
 intro R R' o h0 k;unfold zrw;repeat (first | apply grd_out h0 | apply br_out | rfl)
def zyq  : Bool:=(zeb).isSome
def zpf  : Nat:=((zeb).getD default)
def zsz{R:Type}(k_:Nat→Option R):Option R:=(k_ (fop .add .f32 a0 (fop .mul .f32 a2 (fop .sub .f32 a1 a0))))
def zdb:Option (Nat):=zsz a0 a1 a2 (fun c0_=>some c0_)
theorem y77:Nt1 (fun {R}=>zsz (R:=R) a0 a1 a2):=by
 intro R R' o h0 k;unfold zsz;repeat (first | apply grd_out h0 | apply br_out | rfl)
def zse:Bool:=(zdb a0 a1 a2).isSome
def zqq:Nat:=((zdb a0 a1 a2).getD default)
def zey{R:Type}(k_:Nat→Option R):Option R:=(grd (fcvB .f64 .f32 a0) (k_ (fcvV .f64 .f32 a0)))
def z5z:Option (Nat):=zey a0 (fun c0_=>some c0_)
theorem zyx:Nt1 (fun {R}=>zey (R:=R) a0):=by
 intro R R' o h0 k;unfold zey;repeat (first | apply grd_out h0 | apply br_out | rfl)
def zkv:Bool:=(z5z a0).isSome
def zca:Nat:=((z5z a0).getD default)
def zs6{R:Type}(k_:Nat→Option R):Option R:=(grd (bnot (nanQ .f64 a0)) (grd (okU .f64 (bitI .andNot .u64 (Int.ofNat a0) 9223372036854775808)) (k_ (cnI .f64 (bitI .andNot .u64 (Int.ofNat a0) 9223372036854775808)))))
def zdy:Option (Nat):=zs6 a0 (fun c0_=>some c0_)
theorem ya2:Nt1 (fun {R}=>zs6 (R:=R) a0):=by
 intro R R' o h0 k;unfold zs6;repeat (first | apply grd_out h0 | apply br_out | rfl)
def y8u:Bool:=(zdy a0).isSome
def y6n:Nat:=((zdy a0).getD default)
def zhm{R:Type}(k_:Nat→Bool→Option R):Option R:=(grd (z2k a0) (br (bnot (z25 a0)) (k_ 0 Bool.false) (k_ a0 Bool.true)))
def z6b:Option (Nat×Bool):=zhm a0 (fun c0_ c1_=>some (c0_,c1_))
theorem y44:Nt2 (fun {R}=>zhm (R:=R) a0):=by
 intro R R' o h0 k;unfold zhm;repeat (first | apply grd_out h0 | apply br_out | rfl)
def zhk:Bool:=(z6b a0).isSome
def zgb:Nat:=((z6b a0).getD default).1
def zg3:Bool:=((z6b a0).getD default).2
def zf5{R:Type}(k_:Int→Option R):Option R:=(grd (zcj a0 (pF g1 0 (muN a0 1)) c6) (br (ltI (z15 a0 (pF g1 0 (muN a0 1)) c6) 0) (k_ (Int.negSucc 0)) (grd (zcj a2 (pF g3 0 (muN a2 1)) (z15 a0 (pF g1 0 (muN a0 1)) c6)) (br (ltI (z15 a2 (pF g3 0 (muN a2 1)) (z15 a0 (pF g1 0 (muN a0 1)) c6)) 0) (k_ (Int.negSucc 0)) (grd (zcj a4 (pF g5 0 (muN a4 1)) (z15 a2 (pF g3 0 (muN a2 1)) (z15 a0 (pF g1 0 (muN a0 1)) c6))) (br (ltI (z15 a4 (pF g5 0 (muN a4 1)) (z15 a2 (pF g3 0 (muN a2 1)) (z15 a0 (pF g1 0 (muN a0 1)) c6))) 0) (k_ (Int.negSucc 0)) (k_ (z15 a4 (pF g5 0 (muN a4 1)) (z15 a2 (pF g3 0 (muN a2 1)) (z15 a0 (pF g1 0 (muN a0 1)) c6))))))))))
def z62:Option (Int):=zf5 a0 g1 a2 g3 a4 g5 c6 (fun c0_=>some c0_)
theorem zzl:Nt1 (fun {R}=>zf5 (R:=R) a0 g1 a2 g3 a4 g5 c6):=by
 intro R R' o h0 k;unfold zf5;repeat (first | apply grd_out h0 | apply br_out | rfl)
def zsf:Bool:=(z62 a0 g1 a2 g3 a4 g5 c6).isSome
def z8k:Int:=((z62 a0 g1 a2 g3 a4 g5 c6).getD default)
def zet{R:Type}(k_:Nat→Bool→Option R):Option R:=(grd (z0w a0) (br (bnot (z0r a0)) (k_ 0 Bool.false) (k_ a0 Bool.true)))
def z4l:Option (Nat×Bool):=zet a0 (fun c0_ c1_=>some (c0_,c1_))
theorem zzh:Nt2 (fun {R}=>zet (R:=R) a0):=by
 intro R R' o h0 k;unfold zet;repeat (first | apply grd_out h0 | apply br_out | rfl)
def zjy:Bool:=(z4l a0).isSome
def zid:Nat:=((z4l a0).getD default).1
def zi1:Bool:=((z4l a0).getD default).2
def zgc{R:Type}(k_:Bool→Option R):Option R:=(grd (z0w a0) (br (z0r a0) (k_ (fcmp .gtr .f32 a0 0)) (k_ Bool.false)))
def z6q:Option (Bool):=zgc a0 (fun c0_=>some c0_)
theorem y1n:Nt1 (fun {R}=>zgc (R:=R) a0):=by
 intro R R' o h0 k;unfold zgc;repeat (first | apply grd_out h0 | apply br_out | rfl)
def zai:Bool:=(z6q a0).isSome
def z9d:Bool:=((z6q a0).getD default)
def zhc{R:Type}(k_:Bool→Option R):Option R:=(grd (z2k a0) (br (z25 a0) (k_ (fcmp .geq .f32 a0 0)) (k_ Bool.false)))
def z7l:Option (Bool):=zhc a0 (fun c0_=>some c0_)
theorem y3o:Nt1 (fun {R}=>zhc (R:=R) a0):=by
 intro R R' o h0 k;unfold zhc;repeat (first | apply grd_out h0 | apply br_out | rfl)
def zoq:Bool:=(z7l a0).isSome
def zni:Bool:=((z7l a0).getD default)
def z8v{R:Type}(k_:Bool→Option R):Option R:=(grd (z2k a0) (br (bnot (z25 a0)) (k_ Bool.true) (k_ (fcmp .leq .f32 a0 0))))
def z3k:Option (Bool):=z8v a0 (fun c0_=>some c0_)
theorem zu4:Nt1 (fun {R}=>z8v (R:=R) a0):=by
 intro R R' o h0 k;unfold z8v;repeat (first | apply grd_out h0 | apply br_out | rfl)
def zn5:Bool:=(z3k a0).isSome
def zli:Bool:=((z3k a0).getD default)
def zen{R:Type}(k_:Bool→Option R):Option R:=(grd (z4i (fcvV .f32 .f64 a0) (fcvV .f32 .f64 a3)) (br (bnot (z3w (fcvV .f32 .f64 a0) (fcvV .f32 .f64 a3))) (k_ Bool.false) (grd (z4i (fcvV .f32 .f64 a1) (fcvV .f32 .f64 a4)) (br (bnot (z3w (fcvV .f32 .f64 a1) (fcvV .f32 .f64 a4))) (k_ Bool.false) (grd (z4i (fcvV .f32 .f64 a2) (fcvV .f32 .f64 a5)) (br (bnot (z3w (fcvV .f32 .f64 a2) (fcvV .f32 .f64 a5))) (k_ Bool.false) (k_ Bool.true)))))))
def z5v:Option (Bool):=zen a0 a1 a2 a3 a4 a5 (fun c0_=>some c0_)
theorem y03:Nt1 (fun {R}=>zen (R:=R) a0 a1 a2 a3 a4 a5):=by
 intro R R' o h0 k;unfold zen;repeat (first | apply grd_out h0 | apply br_out | rfl)
def zsr:Bool:=(z5v a0 a1 a2 a3 a4 a5).isSome
def zr0:Bool:=((z5v a0 a1 a2 a3 a4 a5).getD default)
def zfz{R:Type}(k_:Bool→Option R):Option R:=(grd (z0w a0) (br (z0r a0) (k_ (fcmp .geq .f32 a0 0)) (k_ Bool.false)))
def z6r:Option (Bool):=zfz a0 (fun c0_=>some c0_)
theorem y20:Nt1 (fun {R}=>zfz (R:=R) a0):=by
 intro R R' o h0 k;unfold zfz;repeat (first | apply grd_out h0 | apply br_out | rfl)
def z8b:Bool:=(z6r a0).isSome
def z7m:Bool:=((z6r a0).getD default)
def zge{R:Type}(q00:Nat)(q03:List Nat)(q02:Nat)(q04:List Nat)(q01:Nat)(q05:List Nat)(q06:Nat)(q07:List Nat)(q0b:Int)(q0j q0i:Nat)(i:Int)(q0k:Nat)(k_:Bool→Option R):Option R:=(grd (okIx i q06) (grd (z0w (fop .sub .f32 (fop .sub .f32 981668463 (gF q07 (Nat.succ (Nat.succ (ixO 0 i 3))))) q0k)) (br (z0r (fop .sub .f32 (fop .sub .f32 981668463 (gF q07 (Nat.succ (Nat.succ (ixO 0 i 3))))) q0k)) (grd (okIx i q06) (grd (z0w (fop .sub .f32 (fop .sub .f32 1048508891 (gF q07 (Nat.succ (Nat.succ (ixO 0 i 3))))) q0k)) (k_ (z0r (fop .sub .f32 (fop .sub .f32 1048508891 (gF q07 (Nat.succ (Nat.succ (ixO 0 i 3))))) q0k))))) (k_ Bool.false))))
def z6l:Option (Bool):=zge a0 g1 a2 g3 a4 g5 a6 g7 c8 a9 a10 c11 a12 (fun c0_=>some c0_)
theorem y1f:Nt1 (fun {R}=>zge (R:=R) a0 g1 a2 g3 a4 g5 a6 g7 c8 a9 a10 c11 a12):=by
 intro R R' o h0 k;unfold zge;repeat (first | apply grd_out h0 | apply br_out | rfl)
def zva:Bool:=(z6l a0 g1 a2 g3 a4 g5 a6 g7 c8 a9 a10 c11 a12).isSome
def zu7:Bool:=((z6l a0 g1 a2 g3 a4 g5 a6 g7 c8 a9 a10 c11 a12).getD default)
def zji{R:Type}(k_:Nat→Nat→Bool→Option R):Option R:=(grd (z0w a0) (br (bnot (z0r a0)) (k_ 0 0 Bool.false) (grd (z0w a1) (br (bnot (z0r a1)) (k_ 0 0 Bool.false) (k_ a0 a1 Bool.true)))))
def z5o:Option (Nat×Nat×Bool):=zji a0 a1 (fun c0_ c1_ c2_=>some (c0_,c1_,c2_))
theorem y6j:Nt3 (fun {R}=>zji (R:=R) a0 a1):=by
 intro R R' o h0 k;unfold zji;repeat (first | apply grd_out h0 | apply br_out | rfl)
def zqn:Bool:=(z5o a0 a1).isSome
def zhf:Nat:=((z5o a0 a1).getD default).1
def zhi:Nat:=((z5o a0 a1).getD default).2.1
def zhh:Bool:=((z5o a0 a1).getD default).2.2
def zam{R:Type}(k_:Bool→Option R):Option R:=(grd (z2k a0) (k_ (bnot (z25 a0))))
def z4f:Option (Bool):=zam a0 (fun c0_=>some c0_)
theorem zvz:Nt1 (fun {R}=>zam (R:=R) a0):=by
 intro R R' o h0 k;unfold zam;repeat (first | apply grd_out h0 | apply br_out | rfl)
def zpn:Bool:=(z4f a0).isSome
def znx:Bool:=((z4f a0).getD default)
def z7p{R:Type}(q00:Nat)(q03:List Nat)(q02:Nat)(q04:List Nat)(q01:Nat)(q05:List Nat)(q06:Nat)(q07:List Nat)(q0b:Int)(q0j q0i:Nat)(i:Int)(k_:Bool→Option R):Option R:=(grd (z8d i 0 (subI .i64 (Int.ofNat q06) 1)) (k_ (z3v i 0 (subI .i64 (Int.ofNat q06) 1))))
def z2s:Option (Bool):=z7p a0 g1 a2 g3 a4 g5 a6 g7 c8 a9 a10 c11 (fun c0_=>some c0_)
theorem zq7:Nt1 (fun {R}=>z7p (R:=R) a0 g1 a2 g3 a4 g5 a6 g7 c8 a9 a10 c11):=by
 intro R R' o h0 k;unfold z7p;repeat (first | apply grd_out h0 | apply br_out | rfl)
def zj7:Bool:=(z2s a0 g1 a2 g3 a4 g5 a6 g7 c8 a9 a10 c11).isSome
def zhr:Bool:=((z2s a0 g1 a2 g3 a4 g5 a6 g7 c8 a9 a10 c11).getD default)
def zjl{R:Type}(k_:Bool→Option R):Option R:=(grd (zmh a0 981668463 1048508891) (k_ (zka a0 981668463 1048508891)))
def z8e:Option (Bool):=zjl a0 (fun c0_=>some c0_)
theorem y5b:Nt1 (fun {R}=>zjl (R:=R) a0):=by
 intro R R' o h0 k;unfold zjl;repeat (first | apply grd_out h0 | apply br_out | rfl)
def y0s:Bool:=(z8e a0).isSome
def zyd:Bool:=((z8e a0).getD default)
def zjj{R:Type}(k_:Bool→Option R):Option R:=(grd (y8u a0) (k_ (fcmp .geq .f64 (y6n a0) 4841369599423283200)))
def z8g:Option (Bool):=zjj a0 (fun c0_=>some c0_)
theorem y4v:Nt1 (fun {R}=>zjj (R:=R) a0):=by
 intro R R' o h0 k;unfold zjj;repeat (first | apply grd_out h0 | apply br_out | rfl)
def y0w:Bool:=(z8g a0).isSome
def zxr:Bool:=((z8g a0).getD default)
def z1x{R:Type} (kn_:Int→(List Nat)→Option R) (k0_:Int→Bool→(List Nat)→Option R):Option R:=(br (ltI c3 (Int.ofNat a0)) (grd (okIx c3 a0) (grd (okIx c3 a1) (kn_ (addI .i64 c3 1) (sF g4 (ixO 0 c3 1) (gF g2 (ixO 0 c3 1)))))) (k0_ c3 (ltI c3 (Int.ofNat a0)) g4))
theorem zsq{R R':Type}(o:Option R→Option R')(h0:o none=none) (kn_:Int→(List Nat)→Option R) (k0_:Int→Bool→(List Nat)→Option R):z1x a0 a1 g2 c3 g4 (fun i' b1'=>o (kn_ i' b1')) (fun c0_ c1_ c2_=>o (k0_ c0_ c1_ c2_))=o (z1x a0 a1 g2 c3 g4 kn_ k0_):=by
 unfold z1x
 repeat (first | apply grd_out h0 | apply br_out | rfl)
def z13(an q2e:Nat)(b0:List Nat):Nat→Int→(List Nat)→Option ((Int×Bool×(List Nat)))
 | 0,_,_=>none
 | n+1,i,b1=>z1x an q2e b0  i b1  (fun i' b1'=>z13 an q2e b0 n i' b1') (fun c0_ c1_ c2_=>some (c0_,c1_,c2_))
theorem zg8:z13 a0 a1 g2 (a3+1) c4 g5=z1x a0 a1 g2  c4 g5  (fun i' b1'=>z13 a0 a1 g2 a3 i' b1') (fun c0_ c1_ c2_=>some (c0_,c1_,c2_)):=rfl
def ze5:Bool:=(z13 a0 a1 g2 big c3 g4).isSome
def zv0:Int:=((z13 a0 a1 g2 big c3 g4).getD default).1
def zuq:Bool:=((z13 a0 a1 g2 big c3 g4).getD default).2.1
def za7:List Nat:=((z13 a0 a1 g2 big c3 g4).getD default).2.2
def z19{R:Type}(kn_:Nat→Int→Option R)(k0_:Nat→Int→Bool→Option R):Option R:=(br (ltI c5 (Int.ofNat a0)) (grd (okIx (subI .i64 c5 1) a0) (grd (okIx c5 a0) (grd (okIx c5 a3) (grd (okIx (subI .i64 c5 1) a3) (kn_ (fop .add .f32 a4 (fop .mul .f32 (fop .sub .f32 (gF g1 (ixO 0 c5 3)) (gF g1 (ixO 0 (subI .i64 c5 1) 3))) (fop .quo .f32 (fop .add .f32 (gF g2 (ixO 0 (subI .i64 c5 1) 1)) (gF g2 (ixO 0 c5 1))) 1073741824))) (addI .i64 c5 1)))))) (k0_ a4 c5 (ltI c5 (Int.ofNat a0))))
theorem zpt{R R':Type}(o:Option R→Option R')(h0:o none=none)(kn_:Nat→Int→Option R)(k0_:Nat→Int→Bool→Option R):z19 a0 g1 g2 a3 a4 c5 (fun all' i'=>o (kn_ all' i')) (fun c0_ c1_ c2_=>o (k0_ c0_ c1_ c2_))=o (z19 a0 g1 g2 a3 a4 c5 kn_ k0_):=by
 unfold z19
 repeat (first | apply grd_out h0 | apply br_out | rfl)
def z0d(q2a:Nat)(b3 b4:List Nat)(q2t:Nat):Nat→Nat→Int→Option ((Nat×Int×Bool))
 | 0,_,_=>none
 | n+1,all,i=>z19 q2a b3 b4 q2t  all i  (fun all' i'=>z0d q2a b3 b4 q2t n all' i') (fun c0_ c1_ c2_=>some (c0_,c1_,c2_))
theorem zd6:z0d a0 g1 g2 a3 (a4+1) a5 c6=z19 a0 g1 g2 a3  a5 c6  (fun all' i'=>z0d a0 g1 g2 a3 a4 all' i') (fun c0_ c1_ c2_=>some (c0_,c1_,c2_)):=rfl
def zht:Bool:=(z0d a0 g1 g2 a3 big a4 c5).isSome
def zfd:Nat:=((z0d a0 g1 g2 a3 big a4 c5).getD default).1
def zq3:Int:=((z0d a0 g1 g2 a3 big a4 c5).getD default).2.1
def zq0:Bool:=((z0d a0 g1 g2 a3 big a4 c5).getD default).2.2
def z3m{R:Type}(kn_:Nat→Int→Option R)(k0_:Nat→Int→Bool→Option R):Option R:=(br (ltI (addI .i64 c5 1) (Int.ofNat a0)) (grd (okIx (addI .i64 c5 1) a2) (grd (okIx c5 a2) (grd (okIx c5 a0) (grd (okIx (addI .i64 c5 1) a0) (kn_ (fop .add .f32 a4 (fop .mul .f32 (fop .sub .f32 (gF g1 (ixO 0 (addI .i64 c5 1) 3)) (gF g1 (ixO 0 c5 3))) (fop .mul .f32 1056964608 (fop .add .f32 (gF g3 (ixO 0 c5 1)) (gF g3 (ixO 0 (addI .i64 c5 1) 1)))))) (addI .i64 c5 1)))))) (k0_ a4 c5 (ltI (addI .i64 c5 1) (Int.ofNat a0))))
theorem y0c{R R':Type}(o:Option R→Option R')(h0:o none=none)(kn_:Nat→Int→Option R)(k0_:Nat→Int→Bool→Option R):z3m a0 g1 a2 g3 a4 c5 (fun sum' i'=>o (kn_ sum' i')) (fun c0_ c1_ c2_=>o (k0_ c0_ c1_ c2_))=o (z3m a0 g1 a2 g3 a4 c5 kn_ k0_):=by
 unfold z3m
 repeat (first | apply grd_out h0 | apply br_out | rfl)
def z0x(q2a:Nat)(b3:List Nat)(q0r:Nat)(b5:List Nat):Nat→Nat→Int→Option ((Nat×Int×Bool))
 | 0,_,_=>none
 | n+1,sum,i=>z3m q2a b3 q0r b5  sum i  (fun sum' i'=>z0x q2a b3 q0r b5 n sum' i') (fun c0_ c1_ c2_=>some (c0_,c1_,c2_))
theorem zlh:z0x a0 g1 a2 g3 (a4+1) a5 c6=z3m a0 g1 a2 g3  a5 c6  (fun sum' i'=>z0x a0 g1 a2 g3 a4 sum' i') (fun c0_ c1_ c2_=>some (c0_,c1_,c2_)):=rfl
def zt7:Bool:=(z0x a0 g1 a2 g3 big a4 c5).isSome
def zns:Nat:=((z0x a0 g1 a2 g3 big a4 c5).getD default).1
def y21:Int:=((z0x a0 g1 a2 g3 big a4 c5).getD default).2.1
def y1g:Bool:=((z0x a0 g1 a2 g3 big a4 c5).getD default).2.2
def z0u{R:Type}(kn_:Int→Option R)(k0_:Int→Option R)(k1_:Int→Bool→Option R):Option R:=(br (ltI c4 c2) (grd (okIx c4 a0) (br (beqB e1 (gB m3 (ixO 0 c4 1))) (k0_ c4) (kn_ (addI .i64 c4 1)))) (k1_ c4 (ltI c4 c2)))
theorem zke{R R':Type}(o:Option R→Option R')(h0:o none=none)(kn_:Int→Option R)(k0_:Int→Option R)(k1_:Int→Bool→Option R):z0u a0 e1 c2 m3 c4 (fun t8'=>o (kn_ t8')) (fun c0_=>o (k0_ c0_)) (fun c0_ c1_=>o (k1_ c0_ c1_))=o (z0u a0 e1 c2 m3 c4 kn_ k0_ k1_):=by
 unfold z0u
 repeat (first | apply grd_out h0 | apply br_out | rfl)
def z04(sn:Nat)(v:Bool)(t7:Int)(b0:List Bool):Nat→Int→Option ((Int)⊕(Int×Bool))
 | 0,_=>none
 | n+1,t8=>z0u sn v t7 b0  t8  (fun t8'=>z04 sn v t7 b0 n t8') (fun c0_=>some (Sum.inl c0_)) (fun c0_ c1_=>some (Sum.inr (c0_,c1_)))
theorem z95:z04 a0 e1 c2 m3 (a4+1) c5=z0u a0 e1 c2 m3  c5  (fun t8'=>z04 a0 e1 c2 m3 a4 t8') (fun c0_=>some (Sum.inl c0_)) (fun c0_ c1_=>some (Sum.inr (c0_,c1_))):=rfl
def z7c:Bool:=(z04 a0 e1 c2 m3 big c4).isSome
def z72:Bool:=oL (z04 a0 e1 c2 m3 big c4)
def za3:Int:=((tL (z04 a0 e1 c2 m3 big c4)).getD default)
def zll:Int:=((tR (z04 a0 e1 c2 m3 big c4)).getD default).1
def zlp:Bool:=((tR (z04 a0 e1 c2 m3 big c4)).getD default).2
def zhb{R:Type}(q27:Int)(q2c q2d:Nat)(q2j:Int)(k_:Int→Option R):Option R:=(grd (zsf a0 (pF g1 0 (muN a0 1)) a2 (pF g3 0 (muN a2 1)) a4 (pF g5 0 (muN a4 1)) q2j) (br (ltI (z8k a0 (pF g1 0 (muN a0 1)) a2 (pF g3 0 (muN a2 1)) a4 (pF g5 0 (muN a4 1)) q2j) 0) (k_ (Int.negSucc 0)) (grd (zrk a6 (pF g7 0 (muN a6 3)) (z8k a0 (pF g1 0 (muN a0 1)) a2 (pF g3 0 (muN a2 1)) a4 (pF g5 0 (muN a4 1)) q2j)) (br (ltI (zgh a6 (pF g7 0 (muN a6 3)) (z8k a0 (pF g1 0 (muN a0 1)) a2 (pF g3 0 (muN a2 1)) a4 (pF g5 0 (muN a4 1)) q2j)) 0) (k_ (Int.negSucc 0)) (k_ (zgh a6 (pF g7 0 (muN a6 3)) (z8k a0 (pF g1 0 (muN a0 1)) a2 (pF g3 0 (muN a2 1)) a4 (pF g5 0 (muN a4 1)) q2j)))))))
def z7i:Option (Int):=zhb a0 g1 a2 g3 a4 g5 a6 g7 c8 a9 a10 c11 (fun c0_=>some c0_)
theorem y47:Nt1 (fun {R}=>zhb (R:=R) a0 g1 a2 g3 a4 g5 a6 g7 c8 a9 a10 c11):=by
 intro R R' o h0 k;unfold zhb;repeat (first | apply grd_out h0 | apply br_out | rfl)
def zou:Bool:=(z7i a0 g1 a2 g3 a4 g5 a6 g7 c8 a9 a10 c11).isSome
def zn2:Int:=((z7i a0 g1 a2 g3 a4 g5 a6 g7 c8 a9 a10 c11).getD default)
def zcd{R:Type} (k_:Nat→(List Nat)→Option R):Option R:=(grd (okMk (Int.ofNat a0) (Int.ofNat a0) 4) (grd (ze5 a0 (toN (Int.ofNat a0)) g1 0 (rF (muN (toN (Int.ofNat a0)) 1))) (k_ (toN (Int.ofNat a0)) (za7 a0 (toN (Int.ofNat a0)) g1 0 (rF (muN (toN (Int.ofNat a0)) 1))))))
def z3z:Option (Nat×(List Nat)):=zcd a0 g1 (fun c0_ c1_=>some (c0_,c1_))
theorem zyg:Nt2 (fun {R}=>zcd (R:=R) a0 g1):=by
 intro R R' o h0 k;unfold zcd;repeat (first | apply grd_out h0 | apply br_out | rfl)
def zc5:Bool:=(z3z a0 g1).isSome
def zb1:Nat:=((z3z a0 g1).getD default).1
def zan:List Nat:=((z3z a0 g1).getD default).2
def z8m{R:Type}(q00:Nat)(q03:List Nat)(q02:Nat)(q04:List Nat)(q01:Nat)(q05:List Nat)(q06:Nat)(q07:List Nat)(q0b:Int)(q0j q0i q1t:Nat)(q26:List Nat)(k_:Nat→Option R):Option R:=(grd (zht q1t q07 q26 q06 0 1) (k_ (zfd q1t q07 q26 q06 0 1)))
def z3o:Option (Nat):=z8m a0 g1 a2 g3 a4 g5 a6 g7 c8 a9 a10 a11 g12 (fun c0_=>some c0_)
theorem zt0:Nt1 (fun {R}=>z8m (R:=R) a0 g1 a2 g3 a4 g5 a6 g7 c8 a9 a10 a11 g12):=by
 intro R R' o h0 k;unfold z8m;repeat (first | apply grd_out h0 | apply br_out | rfl)
def zmi:Bool:=(z3o a0 g1 a2 g3 a4 g5 a6 g7 c8 a9 a10 a11 g12).isSome
def z84:Nat:=((z3o a0 g1 a2 g3 a4 g5 a6 g7 c8 a9 a10 a11 g12).getD default)
def zjm{R:Type}(q00:Nat)(q03:List Nat)(q02:Nat)(q04:List Nat)(q01:Nat)(q05:List Nat)(q06:Nat)(q07:List Nat)(q0b:Int)(q0j q0i q1t:Nat)(q26:List Nat)(k_:Nat→Option R):Option R:=(grd (zt7 q1t q07 q06 q26 0 0) (k_ (zns q1t q07 q06 q26 0 0)))
def z8i:Option (Nat):=zjm a0 g1 a2 g3 a4 g5 a6 g7 c8 a9 a10 a11 g12 (fun c0_=>some c0_)
theorem y5l:Nt1 (fun {R}=>zjm (R:=R) a0 g1 a2 g3 a4 g5 a6 g7 c8 a9 a10 a11 g12):=by
 intro R R' o h0 k;unfold zjm;repeat (first | apply grd_out h0 | apply br_out | rfl)
def y0q:Bool:=(z8i a0 g1 a2 g3 a4 g5 a6 g7 c8 a9 a10 a11 g12).isSome
def zh7:Nat:=((z8i a0 g1 a2 g3 a4 g5 a6 g7 c8 a9 a10 a11 g12).getD default)
def z6g{R:Type}(k_:Int→Option R):Option R:=(grd (z7c a0 e2 (Int.ofNat a0) m1 0) (br (z72 a0 e2 (Int.ofNat a0) m1 0) (k_ (za3 a0 e2 (Int.ofNat a0) m1 0)) (k_ (Int.negSucc 0))))
def z1y:Option (Int):=z6g a0 m1 e2 (fun c0_=>some c0_)
theorem znn:Nt1 (fun {R}=>z6g (R:=R) a0 m1 e2):=by
 intro R R' o h0 k;unfold z6g;repeat (first | apply grd_out h0 | apply br_out | rfl)
def zgd:Bool:=(z1y a0 m1 e2).isSome
def zf6:Int:=((z1y a0 m1 e2).getD default)
def zcc{R:Type}(k_:Bool→Option R):Option R:=(grd (zoq a0) (k_ (bnot (zni a0))))
def z51:Option (Bool):=zcc a0 (fun c0_=>some c0_)
theorem zx3:Nt1 (fun {R}=>zcc (R:=R) a0):=by
 intro R R' o h0 k;unfold zcc;repeat (first | apply grd_out h0 | apply br_out | rfl)
def zrn:Bool:=(z51 a0).isSome
def zpl:Bool:=((z51 a0).getD default)
def znf{R:Type}(k_:Nat→Option R):Option R:=(grd (bnot (nanQ .f64 a0)) (k_ (fint Ieee.Toward.zero a0)))
def z9i:Option (Nat):=znf a0 (fun c0_=>some c0_)
theorem y6u:Nt1 (fun {R}=>znf (R:=R) a0):=by
 intro R R' o h0 k;unfold znf;repeat (first | apply grd_out h0 | apply br_out | rfl)
def y46:Bool:=(z9i a0).isSome
def zf9:Nat:=((z9i a0).getD default)
def z21{R:Type}(kn_:Int→Option R)(k0_:Unit→Option R)(k1_:Int→Bool→Option R):Option R:=(br (ltI c4 (Int.ofNat a0)) (grd (okIx c4 a0) (grd (okIx c4 a1) (grd (z4i (fcvV .f32 .f64 (gF g2 (ixO 0 c4 1))) (fcvV .f32 .f64 (gF g3 (ixO 0 c4 1)))) (br (bnot (z3w (fcvV .f32 .f64 (gF g2 (ixO 0 c4 1))) (fcvV .f32 .f64 (gF g3 (ixO 0 c4 1))))) (k0_ ()) (kn_ (addI .i64 c4 1)))))) (k1_ c4 (ltI c4 (Int.ofNat a0))))
theorem ztj{R R':Type}(o:Option R→Option R')(h0:o none=none)(kn_:Int→Option R)(k0_:Unit→Option R)(k1_:Int→Bool→Option R):z21 a0 a1 g2 g3 c4 (fun i'=>o (kn_ i')) (fun _=>o (k0_ ())) (fun c0_ c1_=>o (k1_ c0_ c1_))=o (z21 a0 a1 g2 g3 c4 kn_ k0_ k1_):=by
 unfold z21
 repeat (first | apply grd_out h0 | apply br_out | rfl)
def z14(an bn:Nat)(b0 b1:List Nat):Nat→Int→Option ((Unit)⊕(Int×Bool))
 | 0,_=>none
 | n+1,i=>z21 an bn b0 b1  i  (fun i'=>z14 an bn b0 b1 n i') (fun _=>some (Sum.inl ())) (fun c0_ c1_=>some (Sum.inr (c0_,c1_)))
theorem zg6:z14 a0 a1 g2 g3 (a4+1) c5=z21 a0 a1 g2 g3  c5  (fun i'=>z14 a0 a1 g2 g3 a4 i') (fun _=>some (Sum.inl ())) (fun c0_ c1_=>some (Sum.inr (c0_,c1_))):=rfl
def zm6:Bool:=(z14 a0 a1 g2 g3 big c4).isSome
def zla:Bool:=oL (z14 a0 a1 g2 g3 big c4)
def zuu:Int:=((tR (z14 a0 a1 g2 g3 big c4)).getD default).1
def zuh:Bool:=((tR (z14 a0 a1 g2 g3 big c4)).getD default).2
def z22{R:Type} (kn_:Int→(List Nat)→Option R) (k0_:Int→Bool→(List Nat)→Option R):Option R:=(br (ltI c3 (Int.ofNat a0)) (grd (okIx c3 a0) (grd (ztc (gF g2 (ixO 0 c3 3)) (gF g2 (Nat.succ (ixO 0 c3 3))) (gF g2 (Nat.succ (Nat.succ (ixO 0 c3 3))))) (grd (okIx c3 a1) (kn_ (addI .i64 c3 1) (sF (sF (sF g4 (ixO 0 c3 3) (gF g2 (ixO 0 c3 3))) (Nat.succ (ixO 0 c3 3)) (gF g2 (Nat.succ (ixO 0 c3 3)))) (Nat.succ (Nat.succ (ixO 0 c3 3))) (gF g2 (Nat.succ (Nat.succ (ixO 0 c3 3))))))))) (k0_ c3 (ltI c3 (Int.ofNat a0)) g4))
theorem zsn{R R':Type}(o:Option R→Option R')(h0:o none=none) (kn_:Int→(List Nat)→Option R) (k0_:Int→Bool→(List Nat)→Option R):z22 a0 a1 g2 c3 g4 (fun i' b1'=>o (kn_ i' b1')) (fun c0_ c1_ c2_=>o (k0_ c0_ c1_ c2_))=o (z22 a0 a1 g2 c3 g4 kn_ k0_):=by
 unfold z22
 repeat (first | apply grd_out h0 | apply br_out | rfl)
def z0m(an q2e:Nat)(b0:List Nat):Nat→Int→(List Nat)→Option ((Int×Bool×(List Nat)))
 | 0,_,_=>none
 | n+1,i,b1=>z22 an q2e b0  i b1  (fun i' b1'=>z0m an q2e b0 n i' b1') (fun c0_ c1_ c2_=>some (c0_,c1_,c2_))
theorem zg4:z0m a0 a1 g2 (a3+1) c4 g5=z22 a0 a1 g2  c4 g5  (fun i' b1'=>z0m a0 a1 g2 a3 i' b1') (fun c0_ c1_ c2_=>some (c0_,c1_,c2_)):=rfl
def zev:Bool:=(z0m a0 a1 g2 big c3 g4).isSome
def zv1:Int:=((z0m a0 a1 g2 big c3 g4).getD default).1
def zuk:Bool:=((z0m a0 a1 g2 big c3 g4).getD default).2.1
def za4:List Nat:=((z0m a0 a1 g2 big c3 g4).getD default).2.2
def z1k{R:Type}(kn_:Nat→Int→Option R)(k0_:Nat→Int→Bool→Option R):Option R:=(br (leI 1 c2) (kn_ (fop .sub .f64 4607182418800017408 (fop .quo .f64 (fop .mul .f64 a0 a1) (fOI .f64 (mulI .i64 (mulI .i64 2 c2) (addI .i64 (mulI .i64 2 c2) 1))))) (subI .i64 c2 1)) (k0_ a1 c2 (leI 1 c2)))
theorem zqv{R R':Type}(o:Option R→Option R')(h0:o none=none)(kn_:Nat→Int→Option R)(k0_:Nat→Int→Bool→Option R):z1k a0 a1 c2 (fun t7' t8'=>o (kn_ t7' t8')) (fun c0_ c1_ c2_=>o (k0_ c0_ c1_ c2_))=o (z1k a0 a1 c2 kn_ k0_):=by
 unfold z1k
 repeat (first | apply grd_out h0 | apply br_out | rfl)
def z0j(t6:Nat):Nat→Nat→Int→Option ((Nat×Int×Bool))
 | 0,_,_=>none
 | n+1,t7,t8=>z1k t6  t7 t8  (fun t7' t8'=>z0j t6 n t7' t8') (fun c0_ c1_ c2_=>some (c0_,c1_,c2_))
theorem zdo:z0j a0 (a1+1) a2 c3=z1k a0  a2 c3  (fun t7' t8'=>z0j a0 a1 t7' t8') (fun c0_ c1_ c2_=>some (c0_,c1_,c2_)):=rfl
def z17:Bool:=(z0j a0 big a1 c2).isSome
def z07:Nat:=((z0j a0 big a1 c2).getD default).1
def zs1:Int:=((z0j a0 big a1 c2).getD default).2.1
def zrv:Bool:=((z0j a0 big a1 c2).getD default).2.2
def zc2{R:Type}(k_:Bool→Option R):Option R:=(br (neI (Int.ofNat a0) (Int.ofNat a2)) (k_ Bool.false) (grd (zm6 a0 a2 g1 g3 0) (br (zla a0 a2 g1 g3 0) (k_ Bool.false) (k_ Bool.true))))
def z5a:Option (Bool):=zc2 a0 g1 a2 g3 (fun c0_=>some c0_)
theorem zwy:Nt1 (fun {R}=>zc2 (R:=R) a0 g1 a2 g3):=by
 intro R R' o h0 k;unfold zc2;repeat (first | apply grd_out h0 | apply br_out | rfl)
def zcm:Bool:=(z5a a0 g1 a2 g3).isSome
def zaj:Bool:=((z5a a0 g1 a2 g3).getD default)
def z4r{R:Type}(k_:Bool→Option R):Option R:=(grd (zgd a0 (pB m1 0 (muN a0 1)) e2) (k_ (leI 0 (zf6 a0 (pB m1 0 (muN a0 1)) e2))))
def z1c:Option (Bool):=z4r a0 m1 e2 (fun c0_=>some c0_)
theorem zky:Nt1 (fun {R}=>z4r (R:=R) a0 m1 e2):=by
 intro R R' o h0 k;unfold z4r;repeat (first | apply grd_out h0 | apply br_out | rfl)
def z4v:Bool:=(z1c a0 m1 e2).isSome
def z4c:Bool:=((z1c a0 m1 e2).getD default)
def zf2{R:Type} (k_:Nat→Nat→Nat→(List Nat)→(List Nat)→(List Nat)→Option R):Option R:=(grd (zc5 a0 (pF g1 0 (muN a0 1))) (grd (zc5 a2 (pF g3 0 (muN a2 1))) (grd (zc5 a4 (pF g5 0 (muN a4 1))) (k_ (zb1 a0 (pF g1 0 (muN a0 1))) (zb1 a2 (pF g3 0 (muN a2 1))) (zb1 a4 (pF g5 0 (muN a4 1))) (zan a0 (pF g1 0 (muN a0 1))) (zan a2 (pF g3 0 (muN a2 1))) (zan a4 (pF g5 0 (muN a4 1)))))))
def z1t:Option (Nat×Nat×Nat×(List Nat)×(List Nat)×(List Nat)):=zf2 a0 g1 a2 g3 a4 g5 (fun c0_ c1_ c2_ c3_ c4_ c5_=>some (c0_,c1_,c2_,c3_,c4_,c5_))
theorem y01:Nt6 (fun {R}=>zf2 (R:=R) a0 g1 a2 g3 a4 g5):=by
 intro R R' o h0 k;unfold zf2;repeat (first | apply grd_out h0 | apply br_out | rfl)
def zsj:Bool:=(z1t a0 g1 a2 g3 a4 g5).isSome
def zre:Nat:=((z1t a0 g1 a2 g3 a4 g5).getD default).1
def zrg:Nat:=((z1t a0 g1 a2 g3 a4 g5).getD default).2.1
def zqw:Nat:=((z1t a0 g1 a2 g3 a4 g5).getD default).2.2.1
def zrs:List Nat:=((z1t a0 g1 a2 g3 a4 g5).getD default).2.2.2.1
def zrr:List Nat:=((z1t a0 g1 a2 g3 a4 g5).getD default).2.2.2.2.1
def zr7:List Nat:=((z1t a0 g1 a2 g3 a4 g5).getD default).2.2.2.2.2
def zbz{R:Type} (k_:Nat→(List Nat)→Option R):Option R:=(grd (okMk (Int.ofNat a0) (Int.ofNat a0) 12) (grd (zev a0 (toN (Int.ofNat a0)) g1 0 (rF (muN (toN (Int.ofNat a0)) 3))) (k_ (toN (Int.ofNat a0)) (za4 a0 (toN (Int.ofNat a0)) g1 0 (rF (muN (toN (Int.ofNat a0)) 3))))))
def z41:Option (Nat×(List Nat)):=zbz a0 g1 (fun c0_ c1_=>some (c0_,c1_))
theorem zwx:Nt2 (fun {R}=>zbz (R:=R) a0 g1):=by
 intro R R' o h0 k;unfold zbz;repeat (first | apply grd_out h0 | apply br_out | rfl)
def zqz:Bool:=(z41 a0 g1).isSome
def zph:Nat:=((z41 a0 g1).getD default).1
def zpi:List Nat:=((z41 a0 g1).getD default).2
def z6a{R:Type}(k_:Nat→Option R):Option R:=(br (fcmp .neq .f64 (fop .sub .f64 a0 a0) 0) (grd zyq (k_ zpf)) (br (fcmp .geq .f64 a0 4841369599423283200) (k_ 0) (br (fcmp .leq .f64 a0 14064741636278059008) (k_ 0) (grd (f2iB .f64 a0 .i64) (br (fcmp .lss .f64 (fop .sub .f64 a0 (fOI .f64 (f2iV .f64 a0 .i64))) 0) (br (fcmp .geq .f64 (fop .add .f64 (fop .sub .f64 a0 (fOI .f64 (f2iV .f64 a0 .i64))) 4607182418800017408) 4602678819172646912) (br (fcmp .gtr .f64 (fop .sub .f64 (fop .add .f64 (fop .sub .f64 a0 (fOI .f64 (f2iV .f64 a0 .i64))) 4607182418800017408) 4602678819172646912) 4598175219545276416) (grd (z17 (fop .mul .f64 (fop .mul .f64 (fop .sub .f64 4602678819172646912 (fop .sub .f64 (fop .add .f64 (fop .sub .f64 a0 (fOI .f64 (f2iV .f64 a0 .i64))) 4607182418800017408) 4602678819172646912)) 4618760256179416344) (fop .mul .f64 (fop .sub .f64 4602678819172646912 (fop .sub .f64 (fop .add .f64 (fop .sub .f64 a0 (fOI .f64 (f2iV .f64 a0 .i64))) 4607182418800017408) 4602678819172646912)) 4618760256179416344)) 4607182418800017408 8) (br (fcmp .geq .f64 (fop .add .f64 (fop .sub .f64 a0 (fOI .f64 (f2iV .f64 a0 .i64))) 4607182418800017408) 4602678819172646912) (k_ (fneg .f64 (fop .mul .f64 (fop .mul .f64 (fop .sub .f64 4602678819172646912 (fop .sub .f64 (fop .add .f64 (fop .sub .f64 a0 (fOI .f64 (f2iV .f64 a0 .i64))) 4607182418800017408) 4602678819172646912)) 4618760256179416344) (z07 (fop .mul .f64 (fop .mul .f64 (fop .sub .f64 4602678819172646912 (fop .sub .f64 (fop .add .f64 (fop .sub .f64 a0 (fOI .f64 (f2iV .f64 a0 .i64))) 4607182418800017408) 4602678819172646912)) 4618760256179416344) (fop .mul .f64 (fop .sub .f64 4602678819172646912 (fop .sub .f64 (fop .add .f64 (fop .sub .f64 a0 (fOI .f64 (f2iV .f64 a0 .i64))) 4607182418800017408) 4602678819172646912)) 4618760256179416344)) 4607182418800017408 8)))) (k_ (fop .mul .f64 (fop .mul .f64 (fop .sub .f64 4602678819172646912 (fop .sub .f64 (fop .add .f64 (fop .sub .f64 a0 (fOI .f64 (f2iV .f64 a0 .i64))) 4607182418800017408) 4602678819172646912)) 4618760256179416344) (z07 (fop .mul .f64 (fop .mul .f64 (fop .sub .f64 4602678819172646912 (fop .sub .f64 (fop .add .f64 (fop .sub .f64 a0 (fOI .f64 (f2iV .f64 a0 .i64))) 4607182418800017408) 4602678819172646912)) 4618760256179416344) (fop .mul .f64 (fop .sub .f64 4602678819172646912 (fop .sub .f64 (fop .add .f64 (fop .sub .f64 a0 (fOI .f64 (f2iV .f64 a0 .i64))) 4607182418800017408) 4602678819172646912)) 4618760256179416344)) 4607182418800017408 8))))) (grd (z17 (fop .mul .f64 (fop .mul .f64 (fop .sub .f64 (fop .add .f64 (fop .sub .f64 a0 (fOI .f64 (f2iV .f64 a0 .i64))) 4607182418800017408) 4602678819172646912) 4618760256179416344) (fop .mul .f64 (fop .sub .f64 (fop .add .f64 (fop .sub .f64 a0 (fOI .f64 (f2iV .f64 a0 .i64))) 4607182418800017408) 4602678819172646912) 4618760256179416344)) 4607182418800017408 8) (br (fcmp .geq .f64 (fop .add .f64 (fop .sub .f64 a0 (fOI .f64 (f2iV .f64 a0 .i64))) 4607182418800017408) 4602678819172646912) (k_ (fneg .f64 (fop .mul .f64 (fop .mul .f64 (fop .sub .f64 (fop .add .f64 (fop .sub .f64 a0 (fOI .f64 (f2iV .f64 a0 .i64))) 4607182418800017408) 4602678819172646912) 4618760256179416344) (z07 (fop .mul .f64 (fop .mul .f64 (fop .sub .f64 (fop .add .f64 (fop .sub .f64 a0 (fOI .f64 (f2iV .f64 a0 .i64))) 4607182418800017408) 4602678819172646912) 4618760256179416344) (fop .mul .f64 (fop .sub .f64 (fop .add .f64 (fop .sub .f64 a0 (fOI .f64 (f2iV .f64 a0 .i64))) 4607182418800017408) 4602678819172646912) 4618760256179416344)) 4607182418800017408 8)))) (k_ (fop .mul .f64 (fop .mul .f64 (fop .sub .f64 (fop .add .f64 (fop .sub .f64 a0 (fOI .f64 (f2iV .f64 a0 .i64))) 4607182418800017408) 4602678819172646912) 4618760256179416344) (z07 (fop .mul .f64 (fop .mul .f64 (fop .sub .f64 (fop .add .f64 (fop .sub .f64 a0 (fOI .f64 (f2iV .f64 a0 .i64))) 4607182418800017408) 4602678819172646912) 4618760256179416344) (fop .mul .f64 (fop .sub .f64 (fop .add .f64 (fop .sub .f64 a0 (fOI .f64 (f2iV .f64 a0 .i64))) 4607182418800017408) 4602678819172646912) 4618760256179416344)) 4607182418800017408 8)))))) (br (fcmp .gtr .f64 (fop .add .f64 (fop .sub .f64 a0 (fOI .f64 (f2iV .f64 a0 .i64))) 4607182418800017408) 4598175219545276416) (grd (z17 (fop .mul .f64 (fop .mul .f64 (fop .sub .f64 4602678819172646912 (fop .add .f64 (fop .sub .f64 a0 (fOI .f64 (f2iV .f64 a0 .i64))) 4607182418800017408)) 4618760256179416344) (fop .mul .f64 (fop .sub .f64 4602678819172646912 (fop .add .f64 (fop .sub .f64 a0 (fOI .f64 (f2iV .f64 a0 .i64))) 4607182418800017408)) 4618760256179416344)) 4607182418800017408 8) (br (fcmp .geq .f64 (fop .add .f64 (fop .sub .f64 a0 (fOI .f64 (f2iV .f64 a0 .i64))) 4607182418800017408) 4602678819172646912) (k_ (fneg .f64 (fop .mul .f64 (fop .mul .f64 (fop .sub .f64 4602678819172646912 (fop .add .f64 (fop .sub .f64 a0 (fOI .f64 (f2iV .f64 a0 .i64))) 4607182418800017408)) 4618760256179416344) (z07 (fop .mul .f64 (fop .mul .f64 (fop .sub .f64 4602678819172646912 (fop .add .f64 (fop .sub .f64 a0 (fOI .f64 (f2iV .f64 a0 .i64))) 4607182418800017408)) 4618760256179416344) (fop .mul .f64 (fop .sub .f64 4602678819172646912 (fop .add .f64 (fop .sub .f64 a0 (fOI .f64 (f2iV .f64 a0 .i64))) 4607182418800017408)) 4618760256179416344)) 4607182418800017408 8)))) (k_ (fop .mul .f64 (fop .mul .f64 (fop .sub .f64 4602678819172646912 (fop .add .f64 (fop .sub .f64 a0 (fOI .f64 (f2iV .f64 a0 .i64))) 4607182418800017408)) 4618760256179416344) (z07 (fop .mul .f64 (fop .mul .f64 (fop .sub .f64 4602678819172646912 (fop .add .f64 (fop .sub .f64 a0 (fOI .f64 (f2iV .f64 a0 .i64))) 4607182418800017408)) 4618760256179416344) (fop .mul .f64 (fop .sub .f64 4602678819172646912 (fop .add .f64 (fop .sub .f64 a0 (fOI .f64 (f2iV .f64 a0 .i64))) 4607182418800017408)) 4618760256179416344)) 4607182418800017408 8))))) (grd (z17 (fop .mul .f64 (fop .mul .f64 (fop .add .f64 (fop .sub .f64 a0 (fOI .f64 (f2iV .f64 a0 .i64))) 4607182418800017408) 4618760256179416344) (fop .mul .f64 (fop .add .f64 (fop .sub .f64 a0 (fOI .f64 (f2iV .f64 a0 .i64))) 4607182418800017408) 4618760256179416344)) 4607182418800017408 8) (br (fcmp .geq .f64 (fop .add .f64 (fop .sub .f64 a0 (fOI .f64 (f2iV .f64 a0 .i64))) 4607182418800017408) 4602678819172646912) (k_ (fneg .f64 (fop .mul .f64 (fop .mul .f64 (fop .add .f64 (fop .sub .f64 a0 (fOI .f64 (f2iV .f64 a0 .i64))) 4607182418800017408) 4618760256179416344) (z07 (fop .mul .f64 (fop .mul .f64 (fop .add .f64 (fop .sub .f64 a0 (fOI .f64 (f2iV .f64 a0 .i64))) 4607182418800017408) 4618760256179416344) (fop .mul .f64 (fop .add .f64 (fop .sub .f64 a0 (fOI .f64 (f2iV .f64 a0 .i64))) 4607182418800017408) 4618760256179416344)) 4607182418800017408 8)))) (k_ (fop .mul .f64 (fop .mul .f64 (fop .add .f64 (fop .sub .f64 a0 (fOI .f64 (f2iV .f64 a0 .i64))) 4607182418800017408) 4618760256179416344) (z07 (fop .mul .f64 (fop .mul .f64 (fop .add .f64 (fop .sub .f64 a0 (fOI .f64 (f2iV .f64 a0 .i64))) 4607182418800017408) 4618760256179416344) (fop .mul .f64 (fop .add .f64 (fop .sub .f64 a0 (fOI .f64 (f2iV .f64 a0 .i64))) 4607182418800017408) 4618760256179416344)) 4607182418800017408 8))))))) (br (fcmp .geq .f64 (fop .sub .f64 a0 (fOI .f64 (f2iV .f64 a0 .i64))) 4602678819172646912) (br (fcmp .gtr .f64 (fop .sub .f64 (fop .sub .f64 a0 (fOI .f64 (f2iV .f64 a0 .i64))) 4602678819172646912) 4598175219545276416) (grd (z17 (fop .mul .f64 (fop .mul .f64 (fop .sub .f64 4602678819172646912 (fop .sub .f64 (fop .sub .f64 a0 (fOI .f64 (f2iV .f64 a0 .i64))) 4602678819172646912)) 4618760256179416344) (fop .mul .f64 (fop .sub .f64 4602678819172646912 (fop .sub .f64 (fop .sub .f64 a0 (fOI .f64 (f2iV .f64 a0 .i64))) 4602678819172646912)) 4618760256179416344)) 4607182418800017408 8) (br (fcmp .geq .f64 (fop .sub .f64 a0 (fOI .f64 (f2iV .f64 a0 .i64))) 4602678819172646912) (k_ (fneg .f64 (fop .mul .f64 (fop .mul .f64 (fop .sub .f64 4602678819172646912 (fop .sub .f64 (fop .sub .f64 a0 (fOI .f64 (f2iV .f64 a0 .i64))) 4602678819172646912)) 4618760256179416344) (z07 (fop .mul .f64 (fop .mul .f64 (fop .sub .f64 4602678819172646912 (fop .sub .f64 (fop .sub .f64 a0 (fOI .f64 (f2iV .f64 a0 .i64))) 4602678819172646912)) 4618760256179416344) (fop .mul .f64 (fop .sub .f64 4602678819172646912 (fop .sub .f64 (fop .sub .f64 a0 (fOI .f64 (f2iV .f64 a0 .i64))) 4602678819172646912)) 4618760256179416344)) 4607182418800017408 8)))) (k_ (fop .mul .f64 (fop .mul .f64 (fop .sub .f64 4602678819172646912 (fop .sub .f64 (fop .sub .f64 a0 (fOI .f64 (f2iV .f64 a0 .i64))) 4602678819172646912)) 4618760256179416344) (z07 (fop .mul .f64 (fop .mul .f64 (fop .sub .f64 4602678819172646912 (fop .sub .f64 (fop .sub .f64 a0 (fOI .f64 (f2iV .f64 a0 .i64))) 4602678819172646912)) 4618760256179416344) (fop .mul .f64 (fop .sub .f64 4602678819172646912 (fop .sub .f64 (fop .sub .f64 a0 (fOI .f64 (f2iV .f64 a0 .i64))) 4602678819172646912)) 4618760256179416344)) 4607182418800017408 8))))) (grd (z17 (fop .mul .f64 (fop .mul .f64 (fop .sub .f64 (fop .sub .f64 a0 (fOI .f64 (f2iV .f64 a0 .i64))) 4602678819172646912) 4618760256179416344) (fop .mul .f64 (fop .sub .f64 (fop .sub .f64 a0 (fOI .f64 (f2iV .f64 a0 .i64))) 4602678819172646912) 4618760256179416344)) 4607182418800017408 8) (br (fcmp .geq .f64 (fop .sub .f64 a0 (fOI .f64 (f2iV .f64 a0 .i64))) 4602678819172646912) (k_ (fneg .f64 (fop .mul .f64 (fop .mul .f64 (fop .sub .f64 (fop .sub .f64 a0 (fOI .f64 (f2iV .f64 a0 .i64))) 4602678819172646912) 4618760256179416344) (z07 (fop .mul .f64 (fop .mul .f64 (fop .sub .f64 (fop .sub .f64 a0 (fOI .f64 (f2iV .f64 a0 .i64))) 4602678819172646912) 4618760256179416344) (fop .mul .f64 (fop .sub .f64 (fop .sub .f64 a0 (fOI .f64 (f2iV .f64 a0 .i64))) 4602678819172646912) 4618760256179416344)) 4607182418800017408 8)))) (k_ (fop .mul .f64 (fop .mul .f64 (fop .sub .f64 (fop .sub .f64 a0 (fOI .f64 (f2iV .f64 a0 .i64))) 4602678819172646912) 4618760256179416344) (z07 (fop .mul .f64 (fop .mul .f64 (fop .sub .f64 (fop .sub .f64 a0 (fOI .f64 (f2iV .f64 a0 .i64))) 4602678819172646912) 4618760256179416344) (fop .mul .f64 (fop .sub .f64 (fop .sub .f64 a0 (fOI .f64 (f2iV .f64 a0 .i64))) 4602678819172646912) 4618760256179416344)) 4607182418800017408 8)))))) (br (fcmp .gtr .f64 (fop .sub .f64 a0 (fOI .f64 (f2iV .f64 a0 .i64))) 4598175219545276416) (grd (z17 (fop .mul .f64 (fop .mul .f64 (fop .sub .f64 4602678819172646912 (fop .sub .f64 a0 (fOI .f64 (f2iV .f64 a0 .i64)))) 4618760256179416344) (fop .mul .f64 (fop .sub .f64 4602678819172646912 (fop .sub .f64 a0 (fOI .f64 (f2iV .f64 a0 .i64)))) 4618760256179416344)) 4607182418800017408 8) (br (fcmp .geq .f64 (fop .sub .f64 a0 (fOI .f64 (f2iV .f64 a0 .i64))) 4602678819172646912) (k_ (fneg .f64 (fop .mul .f64 (fop .mul .f64 (fop .sub .f64 4602678819172646912 (fop .sub .f64 a0 (fOI .f64 (f2iV .f64 a0 .i64)))) 4618760256179416344) (z07 (fop .mul .f64 (fop .mul .f64 (fop .sub .f64 4602678819172646912 (fop .sub .f64 a0 (fOI .f64 (f2iV .f64 a0 .i64)))) 4618760256179416344) (fop .mul .f64 (fop .sub .f64 4602678819172646912 (fop .sub .f64 a0 (fOI .f64 (f2iV .f64 a0 .i64)))) 4618760256179416344)) 4607182418800017408 8)))) (k_ (fop .mul .f64 (fop .mul .f64 (fop .sub .f64 4602678819172646912 (fop .sub .f64 a0 (fOI .f64 (f2iV .f64 a0 .i64)))) 4618760256179416344) (z07 (fop .mul .f64 (fop .mul .f64 (fop .sub .f64 4602678819172646912 (fop .sub .f64 a0 (fOI .f64 (f2iV .f64 a0 .i64)))) 4618760256179416344) (fop .mul .f64 (fop .sub .f64 4602678819172646912 (fop .sub .f64 a0 (fOI .f64 (f2iV .f64 a0 .i64)))) 4618760256179416344)) 4607182418800017408 8))))) (grd (z17 (fop .mul .f64 (fop .mul .f64 (fop .sub .f64 a0 (fOI .f64 (f2iV .f64 a0 .i64))) 4618760256179416344) (fop .mul .f64 (fop .sub .f64 a0 (fOI .f64 (f2iV .f64 a0 .i64))) 4618760256179416344)) 4607182418800017408 8) (br (fcmp .geq .f64 (fop .sub .f64 a0 (fOI .f64 (f2iV .f64 a0 .i64))) 4602678819172646912) (k_ (fneg .f64 (fop .mul .f64 (fop .mul .f64 (fop .sub .f64 a0 (fOI .f64 (f2iV .f64 a0 .i64))) 4618760256179416344) (z07 (fop .mul .f64 (fop .mul .f64 (fop .sub .f64 a0 (fOI .f64 (f2iV .f64 a0 .i64))) 4618760256179416344) (fop .mul .f64 (fop .sub .f64 a0 (fOI .f64 (f2iV .f64 a0 .i64))) 4618760256179416344)) 4607182418800017408 8)))) (k_ (fop .mul .f64 (fop .mul .f64 (fop .sub .f64 a0 (fOI .f64 (f2iV .f64 a0 .i64))) 4618760256179416344) (z07 (fop .mul .f64 (fop .mul .f64 (fop .sub .f64 a0 (fOI .f64 (f2iV .f64 a0 .i64))) 4618760256179416344) (fop .mul .f64 (fop .sub .f64 a0 (fOI .f64 (f2iV .f64 a0 .i64))) 4618760256179416344)) 4607182418800017408 8))))))))))))
def z23:Option (Nat):=z6a a0 (fun c0_=>some c0_)
theorem zvp:Nt1 (fun {R}=>z6a (R:=R) a0):=by
 intro R R' o h0 k;unfold z6a;repeat (first | apply grd_out h0 | apply br_out | rfl)
def zpq:Bool:=(z23 a0).isSome
def zfr:Nat:=((z23 a0).getD default)
def zc7{R:Type}(k_:Nat→Option R):Option R:=(grd (y46 a0) (br (fcmp .eql .f64 (zf9 a0) 0) (br (fcmp .lss .f64 (fop .sub .f64 a0 0) 0) (k_ (fop .add .f64 (fop .sub .f64 a0 0) 4607182418800017408)) (k_ (fop .sub .f64 a0 0))) (br (fcmp .lss .f64 (fop .sub .f64 a0 (zf9 a0)) 0) (k_ (fop .add .f64 (fop .sub .f64 a0 (zf9 a0)) 4607182418800017408)) (k_ (fop .sub .f64 a0 (zf9 a0))))))
def z57:Option (Nat):=zc7 a0 (fun c0_=>some c0_)
theorem zws:Nt1 (fun {R}=>zc7 (R:=R) a0):=by
 intro R R' o h0 k;unfold zc7;repeat (first | apply grd_out h0 | apply br_out | rfl)
def zrh:Bool:=(z57 a0).isSome
def z08:Nat:=((z57 a0).getD default)
def z1z{R:Type}(kn_:Int→Option R)(k0_:Unit→Option R)(k1_:Int→Bool→Option R):Option R:=(br (ltI c4 (Int.ofNat a0)) (grd (okIx c4 a0) (grd (okIx c4 a1) (grd (zsr (gF g2 (ixO 0 c4 3)) (gF g2 (Nat.succ (ixO 0 c4 3))) (gF g2 (Nat.succ (Nat.succ (ixO 0 c4 3)))) (gF g3 (ixO 0 c4 3)) (gF g3 (Nat.succ (ixO 0 c4 3))) (gF g3 (Nat.succ (Nat.succ (ixO 0 c4 3))))) (br (bnot (zr0 (gF g2 (ixO 0 c4 3)) (gF g2 (Nat.succ (ixO 0 c4 3))) (gF g2 (Nat.succ (Nat.succ (ixO 0 c4 3)))) (gF g3 (ixO 0 c4 3)) (gF g3 (Nat.succ (ixO 0 c4 3))) (gF g3 (Nat.succ (Nat.succ (ixO 0 c4 3)))))) (k0_ ()) (kn_ (addI .i64 c4 1)))))) (k1_ c4 (ltI c4 (Int.ofNat a0))))
theorem zt6{R R':Type}(o:Option R→Option R')(h0:o none=none)(kn_:Int→Option R)(k0_:Unit→Option R)(k1_:Int→Bool→Option R):z1z a0 a1 g2 g3 c4 (fun i'=>o (kn_ i')) (fun _=>o (k0_ ())) (fun c0_ c1_=>o (k1_ c0_ c1_))=o (z1z a0 a1 g2 g3 c4 kn_ k0_ k1_):=by
 unfold z1z
 repeat (first | apply grd_out h0 | apply br_out | rfl)
def z11(an bn:Nat)(b0 b1:List Nat):Nat→Int→Option ((Unit)⊕(Int×Bool))
 | 0,_=>none
 | n+1,i=>z1z an bn b0 b1  i  (fun i'=>z11 an bn b0 b1 n i') (fun _=>some (Sum.inl ())) (fun c0_ c1_=>some (Sum.inr (c0_,c1_)))
theorem zg2:z11 a0 a1 g2 g3 (a4+1) c5=z1z a0 a1 g2 g3  c5  (fun i'=>z11 a0 a1 g2 g3 a4 i') (fun _=>some (Sum.inl ())) (fun c0_ c1_=>some (Sum.inr (c0_,c1_))):=rfl
def ze6:Bool:=(z11 a0 a1 g2 g3 big c4).isSome
def zd3:Bool:=oL (z11 a0 a1 g2 g3 big c4)
def zue:Int:=((tR (z11 a0 a1 g2 g3 big c4)).getD default).1
def zud:Bool:=((tR (z11 a0 a1 g2 g3 big c4)).getD default).2
def z48{R:Type}(kn_:Int→Option R)(k0_:Unit→Option R)(k1_:Int→Bool→Option R):Option R:=(br (ltI c7 c0) (grd (okIx c7 a4) (br (fcmp .geq .f32 (gF g1 (ixO 0 c7 1)) 3204448256) (grd (okIx c7 a4) (br (bnot (fcmp .leq .f32 (gF g1 (ixO 0 c7 1)) 1056964608)) (k0_ ()) (br (ltI 0 c7) (grd (okIx c7 a4) (grd (okIx (subI .i64 c7 1) a4) (br (fcmp .leq .f32 (gF g1 (ixO 0 c7 1)) (gF g1 (ixO 0 (subI .i64 c7 1) 1))) (k0_ ()) (grd (okIx c7 a5) (grd (z0w (gF g2 (ixO 0 c7 1))) (br (bnot (z0r (gF g2 (ixO 0 c7 1)))) (k0_ ()) (grd (okIx c7 a6) (grd (z8b (gF g3 (ixO 0 c7 1))) (br (bnot (z7m (gF g3 (ixO 0 c7 1)))) (k0_ ()) (kn_ (addI .i64 c7 1))))))))))) (grd (okIx c7 a5) (grd (z0w (gF g2 (ixO 0 c7 1))) (br (bnot (z0r (gF g2 (ixO 0 c7 1)))) (k0_ ()) (grd (okIx c7 a6) (grd (z8b (gF g3 (ixO 0 c7 1))) (br (bnot (z7m (gF g3 (ixO 0 c7 1)))) (k0_ ()) (kn_ (addI .i64 c7 1))))))))))) (br (bnot Bool.false) (k0_ ()) (br (ltI 0 c7) (grd (okIx c7 a4) (grd (okIx (subI .i64 c7 1) a4) (br (fcmp .leq .f32 (gF g1 (ixO 0 c7 1)) (gF g1 (ixO 0 (subI .i64 c7 1) 1))) (k0_ ()) (grd (okIx c7 a5) (grd (z0w (gF g2 (ixO 0 c7 1))) (br (bnot (z0r (gF g2 (ixO 0 c7 1)))) (k0_ ()) (grd (okIx c7 a6) (grd (z8b (gF g3 (ixO 0 c7 1))) (br (bnot (z7m (gF g3 (ixO 0 c7 1)))) (k0_ ()) (kn_ (addI .i64 c7 1))))))))))) (grd (okIx c7 a5) (grd (z0w (gF g2 (ixO 0 c7 1))) (br (bnot (z0r (gF g2 (ixO 0 c7 1)))) (k0_ ()) (grd (okIx c7 a6) (grd (z8b (gF g3 (ixO 0 c7 1))) (br (bnot (z7m (gF g3 (ixO 0 c7 1)))) (k0_ ()) (kn_ (addI .i64 c7 1)))))))))))) (k1_ c7 (ltI c7 c0)))
theorem y28{R R':Type}(o:Option R→Option R')(h0:o none=none)(kn_:Int→Option R)(k0_:Unit→Option R)(k1_:Int→Bool→Option R):z48 c0 g1 g2 g3 a4 a5 a6 c7 (fun t4'=>o (kn_ t4')) (fun _=>o (k0_ ())) (fun c0_ c1_=>o (k1_ c0_ c1_))=o (z48 c0 g1 g2 g3 a4 a5 a6 c7 kn_ k0_ k1_):=by
 unfold z48
 repeat (first | apply grd_out h0 | apply br_out | rfl)
def z1p(t3:Int)(b0 b1 b2:List Nat)(q1r q24 q23:Nat):Nat→Int→Option ((Unit)⊕(Int×Bool))
 | 0,_=>none
 | n+1,t4=>z48 t3 b0 b1 b2 q1r q24 q23  t4  (fun t4'=>z1p t3 b0 b1 b2 q1r q24 q23 n t4') (fun _=>some (Sum.inl ())) (fun c0_ c1_=>some (Sum.inr (c0_,c1_)))
theorem zmn:z1p c0 g1 g2 g3 a4 a5 a6 (a7+1) c8=z48 c0 g1 g2 g3 a4 a5 a6  c8  (fun t4'=>z1p c0 g1 g2 g3 a4 a5 a6 a7 t4') (fun _=>some (Sum.inl ())) (fun c0_ c1_=>some (Sum.inr (c0_,c1_))):=rfl
def zal:Bool:=(z1p c0 g1 g2 g3 a4 a5 a6 big c7).isSome
def z9a:Bool:=oL (z1p c0 g1 g2 g3 a4 a5 a6 big c7)
def y3i:Int:=((tR (z1p c0 g1 g2 g3 a4 a5 a6 big c7)).getD default).1
def y4d:Bool:=((tR (z1p c0 g1 g2 g3 a4 a5 a6 big c7)).getD default).2
def z0a{R:Type}(kn_:Int→Option R)(k0_:Int→Option R)(k1_:Int→Bool→Option R):Option R:=(br (ltI c3 c1) (grd (okIx c3 a0) (grd (zn5 (gF g2 (ixO 0 c3 1))) (br (zli (gF g2 (ixO 0 c3 1))) (k0_ c3) (kn_ (addI .i64 c3 1))))) (k1_ c3 (ltI c3 c1)))
theorem z9c{R R':Type}(o:Option R→Option R')(h0:o none=none)(kn_:Int→Option R)(k0_:Int→Option R)(k1_:Int→Bool→Option R):z0a a0 c1 g2 c3 (fun t8'=>o (kn_ t8')) (fun c0_=>o (k0_ c0_)) (fun c0_ c1_=>o (k1_ c0_ c1_))=o (z0a a0 c1 g2 c3 kn_ k0_ k1_):=by
 unfold z0a
 repeat (first | apply grd_out h0 | apply br_out | rfl)
def z01(sn:Nat)(t7:Int)(b0:List Nat):Nat→Int→Option ((Int)⊕(Int×Bool))
 | 0,_=>none
 | n+1,t8=>z0a sn t7 b0  t8  (fun t8'=>z01 sn t7 b0 n t8') (fun c0_=>some (Sum.inl c0_)) (fun c0_ c1_=>some (Sum.inr (c0_,c1_)))
theorem z4b:z01 a0 c1 g2 (a3+1) c4=z0a a0 c1 g2  c4  (fun t8'=>z01 a0 c1 g2 a3 t8') (fun c0_=>some (Sum.inl c0_)) (fun c0_ c1_=>some (Sum.inr (c0_,c1_))):=rfl
def z2q:Bool:=(z01 a0 c1 g2 big c3).isSome
def z2o:Bool:=oL (z01 a0 c1 g2 big c3)
def z4p:Int:=((tL (z01 a0 c1 g2 big c3)).getD default)
def z9w:Int:=((tR (z01 a0 c1 g2 big c3)).getD default).1
def z9z:Bool:=((tR (z01 a0 c1 g2 big c3)).getD default).2
def z0b{R:Type}(kn_:Int→Option R)(k0_:Int→Option R)(k1_:Int→Bool→Option R):Option R:=(br (ltI c3 c1) (grd (okIx c3 a0) (grd (zpn (gF g2 (ixO 0 c3 1))) (br (znx (gF g2 (ixO 0 c3 1))) (k0_ c3) (kn_ (addI .i64 c3 1))))) (k1_ c3 (ltI c3 c1)))
theorem zaa{R R':Type}(o:Option R→Option R')(h0:o none=none)(kn_:Int→Option R)(k0_:Int→Option R)(k1_:Int→Bool→Option R):z0b a0 c1 g2 c3 (fun t8'=>o (kn_ t8')) (fun c0_=>o (k0_ c0_)) (fun c0_ c1_=>o (k1_ c0_ c1_))=o (z0b a0 c1 g2 c3 kn_ k0_ k1_):=by
 unfold z0b
 repeat (first | apply grd_out h0 | apply br_out | rfl)
def z02(sn:Nat)(t7:Int)(b0:List Nat):Nat→Int→Option ((Int)⊕(Int×Bool))
 | 0,_=>none
 | n+1,t8=>z0b sn t7 b0  t8  (fun t8'=>z02 sn t7 b0 n t8') (fun c0_=>some (Sum.inl c0_)) (fun c0_ c1_=>some (Sum.inr (c0_,c1_)))
theorem z4q:z02 a0 c1 g2 (a3+1) c4=z0b a0 c1 g2  c4  (fun t8'=>z02 a0 c1 g2 a3 t8') (fun c0_=>some (Sum.inl c0_)) (fun c0_ c1_=>some (Sum.inr (c0_,c1_))):=rfl
def z35:Bool:=(z02 a0 c1 g2 big c3).isSome
def z2x:Bool:=oL (z02 a0 c1 g2 big c3)
def z5i:Int:=((tL (z02 a0 c1 g2 big c3)).getD default)
def zay:Int:=((tR (z02 a0 c1 g2 big c3)).getD default).1
def zat:Bool:=((tR (z02 a0 c1 g2 big c3)).getD default).2
def zh9{R:Type}(q27:Int)(q2c q2d:Nat) (k_:Nat→Nat→Nat→Nat→(List Nat)→(List Nat)→(List Nat)→(List Nat)→Option R):Option R:=(grd (zsj a0 (pF g1 0 (muN a0 1)) a2 (pF g3 0 (muN a2 1)) a4 (pF g5 0 (muN a4 1))) (grd (zqz a6 (pF g7 0 (muN a6 3))) (k_ (zre a0 (pF g1 0 (muN a0 1)) a2 (pF g3 0 (muN a2 1)) a4 (pF g5 0 (muN a4 1))) (zrg a0 (pF g1 0 (muN a0 1)) a2 (pF g3 0 (muN a2 1)) a4 (pF g5 0 (muN a4 1))) (zqw a0 (pF g1 0 (muN a0 1)) a2 (pF g3 0 (muN a2 1)) a4 (pF g5 0 (muN a4 1))) (zph a6 (pF g7 0 (muN a6 3))) (zrs a0 (pF g1 0 (muN a0 1)) a2 (pF g3 0 (muN a2 1)) a4 (pF g5 0 (muN a4 1))) (zrr a0 (pF g1 0 (muN a0 1)) a2 (pF g3 0 (muN a2 1)) a4 (pF g5 0 (muN a4 1))) (zr7 a0 (pF g1 0 (muN a0 1)) a2 (pF g3 0 (muN a2 1)) a4 (pF g5 0 (muN a4 1))) (zpi a6 (pF g7 0 (muN a6 3))))))
def z1r:Option (Nat×Nat×Nat×Nat×(List Nat)×(List Nat)×(List Nat)×(List Nat)):=zh9 a0 g1 a2 g3 a4 g5 a6 g7 c8 a9 a10 (fun c0_ c1_ c2_ c3_ c4_ c5_ c6_ c7_=>some (c0_,c1_,c2_,c3_,c4_,c5_,c6_,c7_))
theorem y41:Nt8 (fun {R}=>zh9 (R:=R) a0 g1 a2 g3 a4 g5 a6 g7 c8 a9 a10):=by
 intro R R' o h0 k;unfold zh9;repeat (first | apply grd_out h0 | apply br_out | rfl)
def zoz:Bool:=(z1r a0 g1 a2 g3 a4 g5 a6 g7 c8 a9 a10).isSome
def zmv:Nat:=((z1r a0 g1 a2 g3 a4 g5 a6 g7 c8 a9 a10).getD default).1
def zm1:Nat:=((z1r a0 g1 a2 g3 a4 g5 a6 g7 c8 a9 a10).getD default).2.1
def znj:Nat:=((z1r a0 g1 a2 g3 a4 g5 a6 g7 c8 a9 a10).getD default).2.2.1
def znm:Nat:=((z1r a0 g1 a2 g3 a4 g5 a6 g7 c8 a9 a10).getD default).2.2.2.1
def zmu:List Nat:=((z1r a0 g1 a2 g3 a4 g5 a6 g7 c8 a9 a10).getD default).2.2.2.2.1
def zm3:List Nat:=((z1r a0 g1 a2 g3 a4 g5 a6 g7 c8 a9 a10).getD default).2.2.2.2.2.1
def zmo:List Nat:=((z1r a0 g1 a2 g3 a4 g5 a6 g7 c8 a9 a10).getD default).2.2.2.2.2.2.1
def zlv:List Nat:=((z1r a0 g1 a2 g3 a4 g5 a6 g7 c8 a9 a10).getD default).2.2.2.2.2.2.2
def zec{R:Type}(k_:Bool→Option R):Option R:=(grd (zcm a0 (pF g1 0 (muN a0 1)) a6 (pF g7 0 (muN a6 1))) (br (bnot (zaj a0 (pF g1 0 (muN a0 1)) a6 (pF g7 0 (muN a6 1)))) (k_ Bool.false) (grd (zcm a2 (pF g3 0 (muN a2 1)) a8 (pF g9 0 (muN a8 1))) (br (bnot (zaj a2 (pF g3 0 (muN a2 1)) a8 (pF g9 0 (muN a8 1)))) (k_ Bool.false) (grd (zcm a4 (pF g5 0 (muN a4 1)) a10 (pF g11 0 (muN a10 1))) (br (bnot (zaj a4 (pF g5 0 (muN a4 1)) a10 (pF g11 0 (muN a10 1)))) (k_ Bool.false) (k_ Bool.true)))))))
def z5t:Option (Bool):=zec a0 g1 a2 g3 a4 g5 a6 g7 a8 g9 a10 g11 (fun c0_=>some c0_)
theorem zyv:Nt1 (fun {R}=>zec (R:=R) a0 g1 a2 g3 a4 g5 a6 g7 a8 g9 a10 g11):=by
 intro R R' o h0 k;unfold zec;repeat (first | apply grd_out h0 | apply br_out | rfl)
def zsu:Bool:=(z5t a0 g1 a2 g3 a4 g5 a6 g7 a8 g9 a10 g11).isSome
def zr5:Bool:=((z5t a0 g1 a2 g3 a4 g5 a6 g7 a8 g9 a10 g11).getD default)
def zcp{R:Type}(k_:Bool→Option R):Option R:=(br (neI (Int.ofNat a0) (Int.ofNat a2)) (k_ Bool.false) (grd (ze6 a0 a2 g1 g3 0) (br (zd3 a0 a2 g1 g3 0) (k_ Bool.false) (k_ Bool.true))))
def z56:Option (Bool):=zcp a0 g1 a2 g3 (fun c0_=>some c0_)
theorem zy0:Nt1 (fun {R}=>zcp (R:=R) a0 g1 a2 g3):=by
 intro R R' o h0 k;unfold zcp;repeat (first | apply grd_out h0 | apply br_out | rfl)
def zrq:Bool:=(z56 a0 g1 a2 g3).isSome
def zpr:Bool:=((z56 a0 g1 a2 g3).getD default)
def zn8{R:Type}(k_:Bool→Option R):Option R:=(br (ltI (Int.ofNat a0) 2) (k_ Bool.false) (br (ltI 24 (Int.ofNat a0)) (k_ Bool.false) (br (neI (Int.ofNat a2) (Int.ofNat a0)) (k_ Bool.false) (br (neI (Int.ofNat a4) (Int.ofNat a0)) (k_ Bool.false) (grd (zal (Int.ofNat a0) g1 g3 g5 a0 a2 a4 0) (br (z9a (Int.ofNat a0) g1 g3 g5 a0 a2 a4 0) (k_ Bool.false) (k_ Bool.true)))))))
def z9n:Option (Bool):=zn8 a0 g1 a2 g3 a4 g5 (fun c0_=>some c0_)
theorem y76:Nt1 (fun {R}=>zn8 (R:=R) a0 g1 a2 g3 a4 g5):=by
 intro R R' o h0 k;unfold zn8;repeat (first | apply grd_out h0 | apply br_out | rfl)
def y4h:Bool:=(z9n a0 g1 a2 g3 a4 g5).isSome
def y0o:Bool:=((z9n a0 g1 a2 g3 a4 g5).getD default)
def z1w{R:Type}(k_:Int→Option R):Option R:=(grd (z2q a0 (Int.ofNat a0) g1 0) (br (z2o a0 (Int.ofNat a0) g1 0) (k_ (z4p a0 (Int.ofNat a0) g1 0)) (k_ (Int.negSucc 0))))
def z0k:Option (Int):=z1w a0 g1 (fun c0_=>some c0_)
theorem zb5:Nt1 (fun {R}=>z1w (R:=R) a0 g1):=by
 intro R R' o h0 k;unfold z1w;repeat (first | apply grd_out h0 | apply br_out | rfl)
def z6j:Bool:=(z0k a0 g1).isSome
def z6c:Int:=((z0k a0 g1).getD default)
def z24{R:Type}(k_:Int→Option R):Option R:=(grd (z35 a0 (Int.ofNat a0) g1 0) (br (z2x a0 (Int.ofNat a0) g1 0) (k_ (z5i a0 (Int.ofNat a0) g1 0)) (k_ (Int.negSucc 0))))
def z0o:Option (Int):=z24 a0 g1 (fun c0_=>some c0_)
theorem zbv:Nt1 (fun {R}=>z24 (R:=R) a0 g1):=by
 intro R R' o h0 k;unfold z24;repeat (first | apply grd_out h0 | apply br_out | rfl)
def z6z:Bool:=(z0o a0 g1).isSome
def z6o:Int:=((z0o a0 g1).getD default)
def zhj{R:Type}(k_:Nat→Option R):Option R:=(grd (zpq (fcvV .f32 .f64 a0)) (grd (zkv (zfr (fcvV .f32 .f64 a0))) (k_ (zca (zfr (fcvV .f32 .f64 a0))))))
def z67:Option (Nat):=zhj a0 (fun c0_=>some c0_)
theorem y3d:Nt1 (fun {R}=>zhj (R:=R) a0):=by
 intro R R' o h0 k;unfold zhj;repeat (first | apply grd_out h0 | apply br_out | rfl)
def z7g:Bool:=(z67 a0).isSome
def z1a:Nat:=((z67 a0).getD default)
def z0c{R:Type}(kn_:Int→Option R)(k0_:Int→Option R)(k1_:Int→Bool→Option R):Option R:=(br (ltI c3 c1) (grd (okIx c3 a0) (grd (zrn (gF g2 (ixO 0 c3 1))) (br (zpl (gF g2 (ixO 0 c3 1))) (k0_ c3) (kn_ (addI .i64 c3 1))))) (k1_ c3 (ltI c3 c1)))
theorem zaw{R R':Type}(o:Option R→Option R')(h0:o none=none)(kn_:Int→Option R)(k0_:Int→Option R)(k1_:Int→Bool→Option R):z0c a0 c1 g2 c3 (fun t8'=>o (kn_ t8')) (fun c0_=>o (k0_ c0_)) (fun c0_ c1_=>o (k1_ c0_ c1_))=o (z0c a0 c1 g2 c3 kn_ k0_ k1_):=by
 unfold z0c
 repeat (first | apply grd_out h0 | apply br_out | rfl)
def z03(sn:Nat)(t7:Int)(b0:List Nat):Nat→Int→Option ((Int)⊕(Int×Bool))
 | 0,_=>none
 | n+1,t8=>z0c sn t7 b0  t8  (fun t8'=>z03 sn t7 b0 n t8') (fun c0_=>some (Sum.inl c0_)) (fun c0_ c1_=>some (Sum.inr (c0_,c1_)))
theorem z50:z03 a0 c1 g2 (a3+1) c4=z0c a0 c1 g2  c4  (fun t8'=>z03 a0 c1 g2 a3 t8') (fun c0_=>some (Sum.inl c0_)) (fun c0_ c1_=>some (Sum.inr (c0_,c1_))):=rfl
def z3g:Bool:=(z03 a0 c1 g2 big c3).isSome
def z39:Bool:=oL (z03 a0 c1 g2 big c3)
def z5m:Int:=((tL (z03 a0 c1 g2 big c3)).getD default)
def zbg:Int:=((tR (z03 a0 c1 g2 big c3)).getD default).1
def zbq:Bool:=((tR (z03 a0 c1 g2 big c3)).getD default).2
def zhl{R:Type}(k_:Bool→Option R):Option R:=(grd (zsu a0 (pF g1 0 (muN a0 1)) a2 (pF g3 0 (muN a2 1)) a4 (pF g5 0 (muN a4 1)) a11 (pF g12 0 (muN a11 1)) a13 (pF g14 0 (muN a13 1)) a15 (pF g16 0 (muN a15 1))) (br (bnot (zr5 a0 (pF g1 0 (muN a0 1)) a2 (pF g3 0 (muN a2 1)) a4 (pF g5 0 (muN a4 1)) a11 (pF g12 0 (muN a11 1)) a13 (pF g14 0 (muN a13 1)) a15 (pF g16 0 (muN a15 1)))) (k_ Bool.false) (grd (zrq a6 (pF g7 0 (muN a6 3)) a17 (pF g18 0 (muN a17 3))) (br (bnot (zpr a6 (pF g7 0 (muN a6 3)) a17 (pF g18 0 (muN a17 3)))) (k_ Bool.false) (br (neI c8 c19) (k_ Bool.false) (grd (z4i (fcvV .f32 .f64 a9) (fcvV .f32 .f64 a20)) (br (bnot (z3w (fcvV .f32 .f64 a9) (fcvV .f32 .f64 a20))) (k_ Bool.false) (grd (z4i (fcvV .f32 .f64 a10) (fcvV .f32 .f64 a21)) (br (bnot (z3w (fcvV .f32 .f64 a10) (fcvV .f32 .f64 a21))) (k_ Bool.false) (k_ Bool.true))))))))))
def z7n:Option (Bool):=zhl a0 g1 a2 g3 a4 g5 a6 g7 c8 a9 a10 a11 g12 a13 g14 a15 g16 a17 g18 c19 a20 a21 (fun c0_=>some c0_)
theorem y3l:Nt1 (fun {R}=>zhl (R:=R) a0 g1 a2 g3 a4 g5 a6 g7 c8 a9 a10 a11 g12 a13 g14 a15 g16 a17 g18 c19 a20 a21):=by
 intro R R' o h0 k;unfold zhl;repeat (first | apply grd_out h0 | apply br_out | rfl)
def zop:Bool:=(z7n a0 g1 a2 g3 a4 g5 a6 g7 c8 a9 a10 a11 g12 a13 g14 a15 g16 a17 g18 c19 a20 a21).isSome
def zlw:Bool:=((z7n a0 g1 a2 g3 a4 g5 a6 g7 c8 a9 a10 a11 g12 a13 g14 a15 g16 a17 g18 c19 a20 a21).getD default)
def z2c{R:Type}(k_:Int→Option R):Option R:=(grd (z3g a0 (Int.ofNat a0) g1 0) (br (z39 a0 (Int.ofNat a0) g1 0) (k_ (z5m a0 (Int.ofNat a0) g1 0)) (k_ (Int.negSucc 0))))
def z0q:Option (Int):=z2c a0 g1 (fun c0_=>some c0_)
theorem zcv:Nt1 (fun {R}=>z2c (R:=R) a0 g1):=by
 intro R R' o h0 k;unfold z2c;repeat (first | apply grd_out h0 | apply br_out | rfl)
def z7a:Bool:=(z0q a0 g1).isSome
def z6x:Int:=((z0q a0 g1).getD default)
def zn6{R:Type}(k_:Nat→Option R):Option R:=(grd (bnot (nanQ .f64 a0)) (k_ (fint Ieee.Toward.down a0)))
def z9f:Option (Nat):=zn6 a0 (fun c0_=>some c0_)
theorem y70:Nt1 (fun {R}=>zn6 (R:=R) a0):=by
 intro R R' o h0 k;unfold zn6;repeat (first | apply grd_out h0 | apply br_out | rfl)
def ztp:Bool:=(z9f a0).isSome
def z8c:Nat:=((z9f a0).getD default)
def z4s{R:Type}(kn_:Nat→Nat→Option R)(k0_:Nat→Nat→Bool→Option R):Option R:=(br (fcmp .geq .f64 a2 4607182418800017408) (kn_ (fop .sub .f64 4607182418800017408 (fop .quo .f64 (fop .mul .f64 a0 a1) (fop .mul .f64 (fop .mul .f64 4611686018427387904 a2) (fop .add .f64 (fop .mul .f64 4611686018427387904 a2) 4607182418800017408)))) (fop .sub .f64 a2 4607182418800017408)) (k0_ a1 a2 (fcmp .geq .f64 a2 4607182418800017408)))
theorem y3j{R R':Type}(o:Option R→Option R')(h0:o none=none)(kn_:Nat→Nat→Option R)(k0_:Nat→Nat→Bool→Option R):z4s a0 a1 a2 (fun p' k'=>o (kn_ p' k')) (fun c0_ c1_ c2_=>o (k0_ c0_ c1_ c2_))=o (z4s a0 a1 a2 kn_ k0_):=by
 unfold z4s
 repeat (first | apply grd_out h0 | apply br_out | rfl)
def z1q(u:Nat):Nat→Nat→Nat→Option ((Nat×Nat×Bool))
 | 0,_,_=>none
 | n+1,p,k=>z4s u  p k  (fun p' k'=>z1q u n p' k') (fun c0_ c1_ c2_=>some (c0_,c1_,c2_))
theorem znu:z1q a0 (a1+1) a2 a3=z4s a0  a2 a3  (fun p' k'=>z1q a0 a1 p' k') (fun c0_ c1_ c2_=>some (c0_,c1_,c2_)):=rfl
def z96:Bool:=(z1q a0 big a1 a2).isSome
def z6s:Nat:=((z1q a0 big a1 a2).getD default).1
def y6h:Nat:=((z1q a0 big a1 a2).getD default).2.1
def y53:Bool:=((z1q a0 big a1 a2).getD default).2.2
def z1h{R:Type}(k_:Bool→Option R):Option R:=(grd (z6j a0 (pF g1 0 (muN a0 1))) (k_ (leI 0 (z6c a0 (pF g1 0 (muN a0 1))))))
def z0g:Option (Bool):=z1h a0 g1 (fun c0_=>some c0_)
theorem z9l:Nt1 (fun {R}=>z1h (R:=R) a0 g1):=by
 intro R R' o h0 k;unfold z1h;repeat (first | apply grd_out h0 | apply br_out | rfl)
def z5j:Bool:=(z0g a0 g1).isSome
def z5g:Bool:=((z0g a0 g1).getD default)
def z1o{R:Type}(k_:Bool→Option R):Option R:=(grd (z6z a0 (pF g1 0 (muN a0 1))) (k_ (leI 0 (z6o a0 (pF g1 0 (muN a0 1))))))
def z0i:Option (Bool):=z1o a0 g1 (fun c0_=>some c0_)
theorem zad:Nt1 (fun {R}=>z1o (R:=R) a0 g1):=by
 intro R R' o h0 k;unfold z1o;repeat (first | apply grd_out h0 | apply br_out | rfl)
def z6d:Bool:=(z0i a0 g1).isSome
def z5p:Bool:=((z0i a0 g1).getD default)
def z1u{R:Type}(k_:Bool→Option R):Option R:=(grd (z7a a0 (pF g1 0 (muN a0 1))) (k_ (leI 0 (z6x a0 (pF g1 0 (muN a0 1))))))
def z0l:Option (Bool):=z1u a0 g1 (fun c0_=>some c0_)
theorem zaq:Nt1 (fun {R}=>z1u (R:=R) a0 g1):=by
 intro R R' o h0 k;unfold z1u;repeat (first | apply grd_out h0 | apply br_out | rfl)
def z6h:Bool:=(z0l a0 g1).isSome
def z64:Bool:=((z0l a0 g1).getD default)
def zpe{R:Type}(k_:Nat→Option R):Option R:=(grd (zrh a0) (br (fcmp .geq .f64 (z08 a0) 4602678819172646912) (br (fcmp .gtr .f64 (fop .sub .f64 (z08 a0) 4602678819172646912) 4598175219545276416) (grd (z96 (fop .mul .f64 (fop .mul .f64 (fop .sub .f64 4602678819172646912 (fop .sub .f64 (z08 a0) 4602678819172646912)) 4618760256179416344) (fop .mul .f64 (fop .sub .f64 4602678819172646912 (fop .sub .f64 (z08 a0) 4602678819172646912)) 4618760256179416344)) 4607182418800017408 4620693217682128896) (k_ (fneg .f64 (fop .mul .f64 (fop .mul .f64 (fop .sub .f64 4602678819172646912 (fop .sub .f64 (z08 a0) 4602678819172646912)) 4618760256179416344) (z6s (fop .mul .f64 (fop .mul .f64 (fop .sub .f64 4602678819172646912 (fop .sub .f64 (z08 a0) 4602678819172646912)) 4618760256179416344) (fop .mul .f64 (fop .sub .f64 4602678819172646912 (fop .sub .f64 (z08 a0) 4602678819172646912)) 4618760256179416344)) 4607182418800017408 4620693217682128896))))) (grd (z96 (fop .mul .f64 (fop .mul .f64 (fop .sub .f64 (z08 a0) 4602678819172646912) 4618760256179416344) (fop .mul .f64 (fop .sub .f64 (z08 a0) 4602678819172646912) 4618760256179416344)) 4607182418800017408 4620693217682128896) (k_ (fneg .f64 (fop .mul .f64 (fop .mul .f64 (fop .sub .f64 (z08 a0) 4602678819172646912) 4618760256179416344) (z6s (fop .mul .f64 (fop .mul .f64 (fop .sub .f64 (z08 a0) 4602678819172646912) 4618760256179416344) (fop .mul .f64 (fop .sub .f64 (z08 a0) 4602678819172646912) 4618760256179416344)) 4607182418800017408 4620693217682128896)))))) (br (fcmp .gtr .f64 (z08 a0) 4598175219545276416) (grd (z96 (fop .mul .f64 (fop .mul .f64 (fop .sub .f64 4602678819172646912 (z08 a0)) 4618760256179416344) (fop .mul .f64 (fop .sub .f64 4602678819172646912 (z08 a0)) 4618760256179416344)) 4607182418800017408 4620693217682128896) (k_ (fop .mul .f64 (fop .mul .f64 (fop .sub .f64 4602678819172646912 (z08 a0)) 4618760256179416344) (z6s (fop .mul .f64 (fop .mul .f64 (fop .sub .f64 4602678819172646912 (z08 a0)) 4618760256179416344) (fop .mul .f64 (fop .sub .f64 4602678819172646912 (z08 a0)) 4618760256179416344)) 4607182418800017408 4620693217682128896)))) (grd (z96 (fop .mul .f64 (fop .mul .f64 (z08 a0) 4618760256179416344) (fop .mul .f64 (z08 a0) 4618760256179416344)) 4607182418800017408 4620693217682128896) (k_ (fop .mul .f64 (fop .mul .f64 (z08 a0) 4618760256179416344) (z6s (fop .mul .f64 (fop .mul .f64 (z08 a0) 4618760256179416344) (fop .mul .f64 (z08 a0) 4618760256179416344)) 4607182418800017408 4620693217682128896)))))))
def zba:Option (Nat):=zpe a0 (fun c0_=>some c0_)
theorem y91:Nt1 (fun {R}=>zpe (R:=R) a0):=by
 intro R R' o h0 k;unfold zpe;repeat (first | apply grd_out h0 | apply br_out | rfl)
def y6m:Bool:=(zba a0).isSome
def ztn:Nat:=((zba a0).getD default)
def zf4{R:Type}(k_:Nat→Option R):Option R:=(grd (ztp (fop .add .f64 (fcvV .f32 .f64 a0) 4602678819172646912)) (grd (fcvB .f64 .f32 (fop .sub .f64 (fcvV .f32 .f64 a0) (z8c (fop .add .f64 (fcvV .f32 .f64 a0) 4602678819172646912)))) (br (fcmp .geq .f32 (fcvV .f64 .f32 (fop .sub .f64 (fcvV .f32 .f64 a0) (z8c (fop .add .f64 (fcvV .f32 .f64 a0) 4602678819172646912)))) 1056964608) (k_ 3204448256) (k_ (fcvV .f64 .f32 (fop .sub .f64 (fcvV .f32 .f64 a0) (z8c (fop .add .f64 (fcvV .f32 .f64 a0) 4602678819172646912))))))))
def z5w:Option (Nat):=zf4 a0 (fun c0_=>some c0_)
theorem zza:Nt1 (fun {R}=>zf4 (R:=R) a0):=by
 intro R R' o h0 k;unfold zf4;repeat (first | apply grd_out h0 | apply br_out | rfl)
def ztz:Bool:=(z5w a0).isSome
def z0y:Nat:=((z5w a0).getD default)
def zha{R:Type}(k_:Nat→Option R):Option R:=(grd (ztp (fop .add .f64 (fcvV .f32 .f64 a0) 4602678819172646912)) (grd (zkv (fop .sub .f64 (fcvV .f32 .f64 a0) (z8c (fop .add .f64 (fcvV .f32 .f64 a0) 4602678819172646912)))) (br (fcmp .geq .f32 (zca (fop .sub .f64 (fcvV .f32 .f64 a0) (z8c (fop .add .f64 (fcvV .f32 .f64 a0) 4602678819172646912)))) 1056964608) (k_ 3204448256) (k_ (zca (fop .sub .f64 (fcvV .f32 .f64 a0) (z8c (fop .add .f64 (fcvV .f32 .f64 a0) 4602678819172646912))))))))
def z7d:Option (Nat):=zha a0 (fun c0_=>some c0_)
theorem y2u:Nt1 (fun {R}=>zha (R:=R) a0):=by
 intro R R' o h0 k;unfold zha;repeat (first | apply grd_out h0 | apply br_out | rfl)
def zye:Bool:=(z7d a0).isSome
def z47:Nat:=((z7d a0).getD default)
def z49{R:Type}(kn_:Nat→Int→Option R)(k0_:Unit→Option R)(k1_:Nat→Int→Bool→Option R):Option R:=(br (ltI c5 c0) (grd (okIx c5 a2) (br (bnot (fcmp .gtr .f32 (gF g1 (ixO 0 c5 3)) a4)) (k0_ ()) (br (bnot (fcmp .lss .f32 (gF g1 (ixO 0 c5 3)) a3)) (k0_ ()) (grd (zai (gF g1 (Nat.succ (ixO 0 c5 3)))) (br (bnot (z9d (gF g1 (Nat.succ (ixO 0 c5 3))))) (k0_ ()) (grd (z0w (gF g1 (Nat.succ (Nat.succ (ixO 0 c5 3))))) (br (bnot (z0r (gF g1 (Nat.succ (Nat.succ (ixO 0 c5 3)))))) (k0_ ()) (kn_ (gF g1 (ixO 0 c5 3)) (addI .i64 c5 1))))))))) (k1_ a4 c5 (ltI c5 c0)))
theorem y2e{R R':Type}(o:Option R→Option R')(h0:o none=none)(kn_:Nat→Int→Option R)(k0_:Unit→Option R)(k1_:Nat→Int→Bool→Option R):z49 c0 g1 a2 a3 a4 c5 (fun t4' t58'=>o (kn_ t4' t58')) (fun _=>o (k0_ ())) (fun c0_ c1_ c2_=>o (k1_ c0_ c1_ c2_))=o (z49 c0 g1 a2 a3 a4 c5 kn_ k0_ k1_):=by
 unfold z49
 repeat (first | apply grd_out h0 | apply br_out | rfl)
def z0z(t57:Int)(b3:List Nat)(q0r q18:Nat):Nat→Nat→Int→Option ((Unit)⊕(Nat×Int×Bool))
 | 0,_,_=>none
 | n+1,t4,t58=>z49 t57 b3 q0r q18  t4 t58  (fun t4' t58'=>z0z t57 b3 q0r q18 n t4' t58') (fun _=>some (Sum.inl ())) (fun c0_ c1_ c2_=>some (Sum.inr (c0_,c1_,c2_)))
theorem zmy:z0z c0 g1 a2 a3 (a4+1) a5 c6=z49 c0 g1 a2 a3  a5 c6  (fun t4' t58'=>z0z c0 g1 a2 a3 a4 t4' t58') (fun _=>some (Sum.inl ())) (fun c0_ c1_ c2_=>some (Sum.inr (c0_,c1_,c2_))):=rfl
def zgf:Bool:=(z0z c0 g1 a2 a3 big a4 c5).isSome
def zee:Bool:=oL (z0z c0 g1 a2 a3 big a4 c5)
def y3p:Nat:=((tR (z0z c0 g1 a2 a3 big a4 c5)).getD default).1
def y31:Int:=((tR (z0z c0 g1 a2 a3 big a4 c5)).getD default).2.1
def y32:Bool:=((tR (z0z c0 g1 a2 a3 big a4 c5)).getD default).2.2
def zar{R:Type}(k_:Bool→Option R):Option R:=(grd (z5j a0 (pF g1 0 (muN a0 1))) (k_ (bnot (z5g a0 (pF g1 0 (muN a0 1))))))
def z1m:Option (Bool):=zar a0 g1 (fun c0_=>some c0_)
theorem zvt:Nt1 (fun {R}=>zar (R:=R) a0 g1):=by
 intro R R' o h0 k;unfold zar;repeat (first | apply grd_out h0 | apply br_out | rfl)
def z7v:Bool:=(z1m a0 g1).isSome
def z78:Bool:=((z1m a0 g1).getD default)
def zmx{R:Type}(k_:Bool→Option R):Option R:=(grd (y4h a0 (pF g1 0 (muN a0 1)) a2 (pF g3 0 (muN a2 1)) a4 (pF g5 0 (muN a4 1))) (br (bnot (y0o a0 (pF g1 0 (muN a0 1)) a2 (pF g3 0 (muN a2 1)) a4 (pF g5 0 (muN a4 1)))) (k_ Bool.false) (br (ltI (Int.ofNat a6) 2) (k_ Bool.false) (br (ltI 12 (Int.ofNat a6)) (k_ Bool.false) (grd (ztm c8 1 6) (br (bnot (zqd c8 1 6)) (k_ Bool.false) (grd (z8b a9) (br (bnot (z7m a9)) (k_ Bool.false) (grd (z0w a10) (br (bnot (z0r a10)) (k_ Bool.false) (grd (zgf (Int.ofNat a6) g7 a6 a10 a9 0) (br (zee (Int.ofNat a6) g7 a6 a10 a9 0) (k_ Bool.false) (k_ Bool.true)))))))))))))
def z9g:Option (Bool):=zmx a0 g1 a2 g3 a4 g5 a6 g7 c8 a9 a10 (fun c0_=>some c0_)
theorem y84:Nt1 (fun {R}=>zmx (R:=R) a0 g1 a2 g3 a4 g5 a6 g7 c8 a9 a10):=by
 intro R R' o h0 k;unfold zmx;repeat (first | apply grd_out h0 | apply br_out | rfl)
def zt1:Bool:=(z9g a0 g1 a2 g3 a4 g5 a6 g7 c8 a9 a10).isSome
def zqr:Bool:=((z9g a0 g1 a2 g3 a4 g5 a6 g7 c8 a9 a10).getD default)
def zef{R:Type}(k_:Bool→Option R):Option R:=(grd (z6d a0 (pF g1 0 (muN a0 1))) (k_ (bnot (z5p a0 (pF g1 0 (muN a0 1))))))
def z4d:Option (Bool):=zef a0 g1 (fun c0_=>some c0_)
theorem zzq:Nt1 (fun {R}=>zef (R:=R) a0 g1):=by
 intro R R' o h0 k;unfold zef;repeat (first | apply grd_out h0 | apply br_out | rfl)
def zk8:Bool:=(z4d a0 g1).isSome
def zif:Bool:=((z4d a0 g1).getD default)
def zg7{R:Type}(k_:Bool→Option R):Option R:=(grd (z6h a0 (pF g1 0 (muN a0 1))) (k_ (bnot (z64 a0 (pF g1 0 (muN a0 1))))))
def z6n:Option (Bool):=zg7 a0 g1 (fun c0_=>some c0_)
theorem y15:Nt1 (fun {R}=>zg7 (R:=R) a0 g1):=by
 intro R R' o h0 k;unfold zg7;repeat (first | apply grd_out h0 | apply br_out | rfl)
def zvg:Bool:=(z6n a0 g1).isSome
def ztx:Bool:=((z6n a0 g1).getD default)
def ze2{R:Type}(k_:Nat→Option R):Option R:=(grd (z2k a0) (br (bnot (z25 a0)) (grd zyq (grd (fcvB .f64 .f32 zpf) (k_ (fcvV .f64 .f32 zpf)))) (grd (y0w (fcvV .f32 .f64 a0)) (br (zxr (fcvV .f32 .f64 a0)) (k_ 0) (grd (y6m (fcvV .f32 .f64 a0)) (grd (fcvB .f64 .f32 (ztn (fcvV .f32 .f64 a0))) (k_ (fcvV .f64 .f32 (ztn (fcvV .f32 .f64 a0))))))))))
def z5s:Option (Nat):=ze2 a0 (fun c0_=>some c0_)
theorem zyw:Nt1 (fun {R}=>ze2 (R:=R) a0):=by
 intro R R' o h0 k;unfold ze2;repeat (first | apply grd_out h0 | apply br_out | rfl)
def z4m:Bool:=(z5s a0).isSome
def z1d:Nat:=((z5s a0).getD default)
def zch{R:Type}(k_:Nat→Nat→Bool→Option R):Option R:=(grd (zk8 2 (pF [a0,a1] 0 (muN 2 1))) (br (bnot (zif 2 (pF [a0,a1] 0 (muN 2 1)))) (k_ 0 0 Bool.false) (k_ a0 a1 Bool.true)))
def z2z:Option (Nat×Nat×Bool):=zch a0 a1 (fun c0_ c1_ c2_=>some (c0_,c1_,c2_))
theorem zxw:Nt3 (fun {R}=>zch (R:=R) a0 a1):=by
 intro R R' o h0 k;unfold zch;repeat (first | apply grd_out h0 | apply br_out | rfl)
def zis:Bool:=(z2z a0 a1).isSome
def zgy:Nat:=((z2z a0 a1).getD default).1
def zgk:Nat:=((z2z a0 a1).getD default).2.1
def zh2:Bool:=((z2z a0 a1).getD default).2.2
def zci{R:Type}(k_:Bool→Option R):Option R:=(grd (zt1 a0 (pF g1 0 (muN a0 1)) a2 (pF g3 0 (muN a2 1)) a4 (pF g5 0 (muN a4 1)) a6 (pF g7 0 (muN a6 3)) c8 a9 a10) (br (zqr a0 (pF g1 0 (muN a0 1)) a2 (pF g3 0 (muN a2 1)) a4 (pF g5 0 (muN a4 1)) a6 (pF g7 0 (muN a6 3)) c8 a9 a10) (grd (ztm c11 0 (subI .i64 (Int.ofNat a6) 1)) (k_ (zqd c11 0 (subI .i64 (Int.ofNat a6) 1)))) (k_ Bool.false)))
def z5b:Option (Bool):=zci a0 g1 a2 g3 a4 g5 a6 g7 c8 a9 a10 c11 (fun c0_=>some c0_)
theorem zyh:Nt1 (fun {R}=>zci (R:=R) a0 g1 a2 g3 a4 g5 a6 g7 c8 a9 a10 c11):=by
 intro R R' o h0 k;unfold zci;repeat (first | apply grd_out h0 | apply br_out | rfl)
def zr2:Bool:=(z5b a0 g1 a2 g3 a4 g5 a6 g7 c8 a9 a10 c11).isSome
def zpj:Bool:=((z5b a0 g1 a2 g3 a4 g5 a6 g7 c8 a9 a10 c11).getD default)
def z88{R:Type}(q00:Nat)(q03:List Nat)(q02:Nat)(q04:List Nat)(q01:Nat)(q05:List Nat)(q06:Nat)(q07:List Nat)(q0b:Int)(q0j q0i:Nat)(i:Int)(q1q:Nat)(k_:Nat→Option R):Option R:=(grd (okIx i q06) (grd (z4m q1q) (k_ (fop .quo .f32 (fop .quo .f32 (fop .mul .f32 (fOI .f32 q0b) (fop .sub .f32 q0i (gF q07 (ixO 0 i 3)))) (fop .mul .f32 1073741824 (gF q07 (ixO 0 i 3)))) (fop .add .f32 (fop .quo .f32 (fop .mul .f32 (fOI .f32 q0b) (fop .sub .f32 q0i (gF q07 (ixO 0 i 3)))) (fop .mul .f32 1073741824 (gF q07 (ixO 0 i 3)))) (z1d q1q))))))
def z32:Option (Nat):=z88 a0 g1 a2 g3 a4 g5 a6 g7 c8 a9 a10 c11 a12 (fun c0_=>some c0_)
theorem zs3:Nt1 (fun {R}=>z88 (R:=R) a0 g1 a2 g3 a4 g5 a6 g7 c8 a9 a10 c11 a12):=by
 intro R R' o h0 k;unfold z88;repeat (first | apply grd_out h0 | apply br_out | rfl)
def zlb:Bool:=(z32 a0 g1 a2 g3 a4 g5 a6 g7 c8 a9 a10 c11 a12).isSome
def zbm:Nat:=((z32 a0 g1 a2 g3 a4 g5 a6 g7 c8 a9 a10 c11 a12).getD default)
def z09{R:Type}(kn_:Int→Option R)(k0_:Int→Option R)(k1_:Int→Bool→Option R):Option R:=(br (ltI c4 c1) (grd (okIx c4 a0) (br (fcmp .gtr .f32 (gF g2 (ixO 0 c4 1)) a3) (k0_ c4) (kn_ (addI .i64 c4 1)))) (k1_ c4 (ltI c4 c1)))
theorem z97{R R':Type}(o:Option R→Option R')(h0:o none=none)(kn_:Int→Option R)(k0_:Int→Option R)(k1_:Int→Bool→Option R):z09 a0 c1 g2 a3 c4 (fun t8'=>o (kn_ t8')) (fun c0_=>o (k0_ c0_)) (fun c0_ c1_=>o (k1_ c0_ c1_))=o (z09 a0 c1 g2 a3 c4 kn_ k0_ k1_):=by
 unfold z09
 repeat (first | apply grd_out h0 | apply br_out | rfl)
def z00(sn:Nat)(t7:Int)(b0:List Nat)(b4:Nat):Nat→Int→Option ((Int)⊕(Int×Bool))
 | 0,_=>none
 | n+1,t8=>z09 sn t7 b0 b4  t8  (fun t8'=>z00 sn t7 b0 b4 n t8') (fun c0_=>some (Sum.inl c0_)) (fun c0_ c1_=>some (Sum.inr (c0_,c1_)))
theorem z46:z00 a0 c1 g2 a3 (a4+1) c5=z09 a0 c1 g2 a3  c5  (fun t8'=>z00 a0 c1 g2 a3 a4 t8') (fun c0_=>some (Sum.inl c0_)) (fun c0_ c1_=>some (Sum.inr (c0_,c1_))):=rfl
def z2i:Bool:=(z00 a0 c1 g2 a3 big c4).isSome
def z2h:Bool:=oL (z00 a0 c1 g2 a3 big c4)
def z06:Int:=((tL (z00 a0 c1 g2 a3 big c4)).getD default)
def z9o:Int:=((tR (z00 a0 c1 g2 a3 big c4)).getD default).1
def z9m:Bool:=((tR (z00 a0 c1 g2 a3 big c4)).getD default).2
def z30{R:Type}(kn_:Int→Option R)(k0_:Int→Bool→Option R):Option R:=(br (leI 0 c3) (grd (okIx c3 a2) (br (fcmp .gtr .f32 (gF g1 (ixO 0 c3 1)) a0) (kn_ (subI .i64 c3 1)) (k0_ c3 (fcmp .gtr .f32 (gF g1 (ixO 0 c3 1)) a0)))) (k0_ c3 Bool.false))
theorem zy7{R R':Type}(o:Option R→Option R')(h0:o none=none)(kn_:Int→Option R)(k0_:Int→Bool→Option R):z30 a0 g1 a2 c3 (fun t10'=>o (kn_ t10')) (fun c0_ c1_=>o (k0_ c0_ c1_))=o (z30 a0 g1 a2 c3 kn_ k0_):=by
 unfold z30
 repeat (first | apply grd_out h0 | apply br_out | rfl)
def z1f(t8:Nat)(b0:List Nat)(q1r:Nat):Nat→Int→Option ((Int×Bool))
 | 0,_=>none
 | n+1,t10=>z30 t8 b0 q1r  t10  (fun t10'=>z1f t8 b0 q1r n t10') (fun c0_ c1_=>some (c0_,c1_))
theorem zja:z1f a0 g1 a2 (a3+1) c4=z30 a0 g1 a2  c4  (fun t10'=>z1f a0 g1 a2 a3 t10') (fun c0_ c1_=>some (c0_,c1_)):=rfl
def zr3:Bool:=(z1f a0 g1 a2 big c3).isSome
def zm4:Int:=((z1f a0 g1 a2 big c3).getD default).1
def y07:Bool:=((z1f a0 g1 a2 big c3).getD default).2
def zjf{R:Type}(k_:Bool→Option R):Option R:=(grd (zr2 a0 (pF g1 0 (muN a0 1)) a2 (pF g3 0 (muN a2 1)) a4 (pF g5 0 (muN a4 1)) a6 (pF g7 0 (muN a6 3)) c8 a9 a10 c11) (br (zpj a0 (pF g1 0 (muN a0 1)) a2 (pF g3 0 (muN a2 1)) a4 (pF g5 0 (muN a4 1)) a6 (pF g7 0 (muN a6 3)) c8 a9 a10 c11) (grd (zai a12) (br (z9d a12) (grd (zai a13) (br (z9d a13) (grd (z0w a14) (br (z0r a14) (grd (zva a0 (pF g1 0 (muN a0 1)) a2 (pF g3 0 (muN a2 1)) a4 (pF g5 0 (muN a4 1)) a6 (pF g7 0 (muN a6 3)) c8 a9 a10 c11 a14) (k_ (zu7 a0 (pF g1 0 (muN a0 1)) a2 (pF g3 0 (muN a2 1)) a4 (pF g5 0 (muN a4 1)) a6 (pF g7 0 (muN a6 3)) c8 a9 a10 c11 a14))) (k_ Bool.false))) (k_ Bool.false))) (k_ Bool.false))) (k_ Bool.false)))
def z8f:Option (Bool):=zjf a0 g1 a2 g3 a4 g5 a6 g7 c8 a9 a10 c11 a12 a13 a14 (fun c0_=>some c0_)
theorem y5j:Nt1 (fun {R}=>zjf (R:=R) a0 g1 a2 g3 a4 g5 a6 g7 c8 a9 a10 c11 a12 a13 a14):=by
 intro R R' o h0 k;unfold zjf;repeat (first | apply grd_out h0 | apply br_out | rfl)
def y0x:Bool:=(z8f a0 g1 a2 g3 a4 g5 a6 g7 c8 a9 a10 c11 a12 a13 a14).isSome
def zy8:Bool:=((z8f a0 g1 a2 g3 a4 g5 a6 g7 c8 a9 a10 c11 a12 a13 a14).getD default)
def z5k{R:Type}(q1a:Nat)(q1l:List Nat)(q19:Nat)(q1m:List Nat)(x1:Nat)(k_:Int→Int→Nat→Nat→Nat→Option R):Option R:=(grd (ztz x1) (grd (z2i a0 (Int.ofNat a0) g1 (z0y x1) 0) (br (z2h a0 (Int.ofNat a0) g1 (z0y x1) 0) (br (eqI (z06 a0 (Int.ofNat a0) g1 (z0y x1) 0) 0) (grd (okIx (subI .i64 (Int.ofNat a0) 1) a0) (grd (okIx 0 a0) (k_ (subI .i64 (Int.ofNat a0) 1) 0 (fop .sub .f32 (gF g1 (ixO 0 (subI .i64 (Int.ofNat a0) 1) 1)) 1065353216) (gF g1 (ixO 0 0 1)) (z0y x1)))) (br (ltI (z06 a0 (Int.ofNat a0) g1 (z0y x1) 0) 0) (grd (okIx (subI .i64 (Int.ofNat a0) 1) a0) (grd (okIx 0 a0) (k_ (subI .i64 (Int.ofNat a0) 1) 0 (gF g1 (ixO 0 (subI .i64 (Int.ofNat a0) 1) 1)) (fop .add .f32 (gF g1 (ixO 0 0 1)) 1065353216) (z0y x1)))) (grd (okIx (subI .i64 (z06 a0 (Int.ofNat a0) g1 (z0y x1) 0) 1) a0) (grd (okIx (z06 a0 (Int.ofNat a0) g1 (z0y x1) 0) a0) (k_ (subI .i64 (z06 a0 (Int.ofNat a0) g1 (z0y x1) 0) 1) (z06 a0 (Int.ofNat a0) g1 (z0y x1) 0) (gF g1 (ixO 0 (subI .i64 (z06 a0 (Int.ofNat a0) g1 (z0y x1) 0) 1) 1)) (gF g1 (ixO 0 (z06 a0 (Int.ofNat a0) g1 (z0y x1) 0) 1)) (z0y x1)))))) (grd (okIx (subI .i64 (Int.ofNat a0) 1) a0) (grd (okIx 0 a0) (k_ (subI .i64 (Int.ofNat a0) 1) 0 (gF g1 (ixO 0 (subI .i64 (Int.ofNat a0) 1) 1)) (fop .add .f32 (gF g1 (ixO 0 0 1)) 1065353216) (z0y x1)))))))
def z0t:Option (Int×Int×Nat×Nat×Nat):=z5k a0 g1 a2 g3 a4 g5 a6 (fun c0_ c1_ c2_ c3_ c4_=>some (c0_,c1_,c2_,c3_,c4_))
theorem zqo:Nt5 (fun {R}=>z5k (R:=R) a0 g1 a2 g3 a4 g5 a6):=by
 intro R R' o h0 k;unfold z5k;repeat (first | apply grd_out h0 | apply br_out | rfl)
def zj6:Bool:=(z0t a0 g1 a2 g3 a4 g5 a6).isSome
def z2f:Int:=((z0t a0 g1 a2 g3 a4 g5 a6).getD default).1
def z2g:Int:=((z0t a0 g1 a2 g3 a4 g5 a6).getD default).2.1
def z3j:Nat:=((z0t a0 g1 a2 g3 a4 g5 a6).getD default).2.2.1
def z73:Nat:=((z0t a0 g1 a2 g3 a4 g5 a6).getD default).2.2.2.1
def zac:Nat:=((z0t a0 g1 a2 g3 a4 g5 a6).getD default).2.2.2.2
def zao:=(fop .add .f32 (gF g0 (ixO 0 0 1)) 1065353216)
def z05:=(zm4 (z47 a2) g1 a0 (subI .i64 (Int.ofNat a0) 1))
def z81:=(gF g1 (ixO 0 (subI .i64 (Int.ofNat a0) 1) 1))
def zb3:=(fcmp .lss .f32 (z47 a1) (gF g0 (ixO 0 0 1)))
def zah:=(okIx (z05 a0 g1 a2) a0)
def zaz:=(fop .sub .f32 (z81 a0 g1) 1065353216)
def z5e:=(gF g1 (ixO 0 (z05 a0 g1 a2) 1))
def z82:=(eqI (addI .i64 (z05 a0 g1 a2) 1) 0)
def z6k:=(gF g1 (ixO 0 (addI .i64 (z05 a0 g1 a2) 1) 1))
def z80:=(fop .sub .f32 (z5e a0 g1 a2) 1065353216)
def z4g:=(fop .sub .f32 (z47 a2) (z5e a0 g1 a2))
def z5u:=(fop .sub .f32 (gF g1 (ixO 0 0 1)) (zaz a0 g1))
def z5x:=(fop .sub .f32 (zao g1) (z81 a0 g1))
def z9b:=(fop .sub .f32 (z47 a2) (z80 a0 g1 a2))
def z5r:=(fop .sub .f32 (zao g1) (z5e a0 g1 a2))
def z61:=(fop .sub .f32 (gF g1 (ixO 0 0 1)) (z80 a0 g1 a2))
def z27:=(fop .sub .f32 (z6k a0 g1 a2) (z5e a0 g1 a2))
def z60:=(fop .sub .f32 (z6k a0 g1 a2) (z80 a0 g1 a2))
def z28:=(fop .sub .f32 (fop .add .f32 (z6k a0 g1 a2) 1065353216) (z5e a0 g1 a2))
def zd5{R:Type}(q1a:Nat)(q1l:List Nat)(q19:Nat)(q1m:List Nat)(x1:Nat)(k_:Int→Int→Nat→Nat→Option R):Option R:=(grd (zye x1) (grd (zr3 (z47 x1) g1 a0 (subI .i64 (Int.ofNat a0) 1)) (br (ltI (z05 a0 g1 x1) 0) (grd (okIx (subI .i64 (Int.ofNat a0) 1) a0) (grd (okIx 0 a0) (br (zb3 g1 x1) (br (fcmp .eql .f32 (z5u a0 g1) 0) (k_ (subI .i64 (Int.ofNat a0) 1) 0 0 (z5u a0 g1)) (k_ (subI .i64 (Int.ofNat a0) 1) 0 (fop .quo .f32 (fop .sub .f32 (z47 x1) (zaz a0 g1)) (z5u a0 g1)) (z5u a0 g1))) (br (fcmp .eql .f32 (z5x a0 g1) 0) (k_ (subI .i64 (Int.ofNat a0) 1) 0 0 (z5x a0 g1)) (k_ (subI .i64 (Int.ofNat a0) 1) 0 (fop .quo .f32 (fop .sub .f32 (z47 x1) (z81 a0 g1)) (z5x a0 g1)) (z5x a0 g1)))))) (br (eqI (addI .i64 (z05 a0 g1 x1) 1) (Int.ofNat a0)) (grd (zah a0 g1 x1) (grd (okIx 0 a0) (br (zb3 g1 x1) (br (fcmp .eql .f32 (z61 a0 g1 x1) 0) (k_ (z05 a0 g1 x1) 0 0 (z61 a0 g1 x1)) (k_ (z05 a0 g1 x1) 0 (fop .quo .f32 (z9b a0 g1 x1) (z61 a0 g1 x1)) (z61 a0 g1 x1))) (br (fcmp .eql .f32 (z5r a0 g1 x1) 0) (k_ (z05 a0 g1 x1) 0 0 (z5r a0 g1 x1)) (k_ (z05 a0 g1 x1) 0 (fop .quo .f32 (z4g a0 g1 x1) (z5r a0 g1 x1)) (z5r a0 g1 x1)))))) (grd (zah a0 g1 x1) (grd (okIx (addI .i64 (z05 a0 g1 x1) 1) a0) (br (z82 a0 g1 x1) (br (fcmp .lss .f32 (z47 x1) (z6k a0 g1 x1)) (br (fcmp .eql .f32 (z60 a0 g1 x1) 0) (k_ (z05 a0 g1 x1) (addI .i64 (z05 a0 g1 x1) 1) 0 (z60 a0 g1 x1)) (k_ (z05 a0 g1 x1) (addI .i64 (z05 a0 g1 x1) 1) (fop .quo .f32 (z9b a0 g1 x1) (z60 a0 g1 x1)) (z60 a0 g1 x1))) (br (z82 a0 g1 x1) (br (fcmp .eql .f32 (z28 a0 g1 x1) 0) (k_ (z05 a0 g1 x1) (addI .i64 (z05 a0 g1 x1) 1) 0 (z28 a0 g1 x1)) (k_ (z05 a0 g1 x1) (addI .i64 (z05 a0 g1 x1) 1) (fop .quo .f32 (z4g a0 g1 x1) (z28 a0 g1 x1)) (z28 a0 g1 x1))) (br (fcmp .eql .f32 (z27 a0 g1 x1) 0) (k_ (z05 a0 g1 x1) (addI .i64 (z05 a0 g1 x1) 1) 0 (z27 a0 g1 x1)) (k_ (z05 a0 g1 x1) (addI .i64 (z05 a0 g1 x1) 1) (fop .quo .f32 (z4g a0 g1 x1) (z27 a0 g1 x1)) (z27 a0 g1 x1))))) (br (z82 a0 g1 x1) (br (fcmp .eql .f32 (z28 a0 g1 x1) 0) (k_ (z05 a0 g1 x1) (addI .i64 (z05 a0 g1 x1) 1) 0 (z28 a0 g1 x1)) (k_ (z05 a0 g1 x1) (addI .i64 (z05 a0 g1 x1) 1) (fop .quo .f32 (z4g a0 g1 x1) (z28 a0 g1 x1)) (z28 a0 g1 x1))) (br (fcmp .eql .f32 (z27 a0 g1 x1) 0) (k_ (z05 a0 g1 x1) (addI .i64 (z05 a0 g1 x1) 1) 0 (z27 a0 g1 x1)) (k_ (z05 a0 g1 x1) (addI .i64 (z05 a0 g1 x1) 1) (fop .quo .f32 (z4g a0 g1 x1) (z27 a0 g1 x1)) (z27 a0 g1 x1)))))))))))
def z37:Option (Int×Int×Nat×Nat):=zd5 a0 g1 a2 g3 a4 g5 a6 (fun c0_ c1_ c2_ c3_=>some (c0_,c1_,c2_,c3_))
theorem y4g:Nt4 (fun {R}=>zd5 (R:=R) a0 g1 a2 g3 a4 g5 a6):=by
 intro R R' o h0 k;unfold zd5;repeat (first | apply grd_out h0 | apply br_out | rfl)
def zwr:Bool:=(z37 a0 g1 a2 g3 a4 g5 a6).isSome
def zak:Int:=((z37 a0 g1 a2 g3 a4 g5 a6).getD default).1
def zlq:Int:=((z37 a0 g1 a2 g3 a4 g5 a6).getD default).2.1
def zvc:Nat:=((z37 a0 g1 a2 g3 a4 g5 a6).getD default).2.2.1
def y8n:Nat:=((z37 a0 g1 a2 g3 a4 g5 a6).getD default).2.2.2
def z1i{R:Type}(kn_:Int→Option R)(k0_:Unit→Option R)(k1_:Int→Bool→Option R):Option R:=(br (ltI c4 c1) (grd (okIx c4 a0) (grd (zmh (gF g2 (ixO 0 c4 1)) 3204448256 1056964608) (br (bnot (zka (gF g2 (ixO 0 c4 1)) 3204448256 1056964608)) (k0_ ()) (br (ltI 0 c4) (grd (okIx (subI .i64 c4 1) a3) (br (fcmp .geq .f32 (gF g2 (ixO 0 (subI .i64 c4 1) 1)) (gF g2 (ixO 0 c4 1))) (k0_ ()) (kn_ (addI .i64 c4 1)))) (kn_ (addI .i64 c4 1)))))) (k1_ c4 (ltI c4 c1)))
theorem zq9{R R':Type}(o:Option R→Option R')(h0:o none=none)(kn_:Int→Option R)(k0_:Unit→Option R)(k1_:Int→Bool→Option R):z1i a0 c1 g2 a3 c4 (fun t44'=>o (kn_ t44')) (fun _=>o (k0_ ())) (fun c0_ c1_=>o (k1_ c0_ c1_))=o (z1i a0 c1 g2 a3 c4 kn_ k0_ k1_):=by
 unfold z1i
 repeat (first | apply grd_out h0 | apply br_out | rfl)
def z0p(q2y:Nat)(t43:Int)(b0:List Nat)(q1r:Nat):Nat→Int→Option ((Unit)⊕(Int×Bool))
 | 0,_=>none
 | n+1,t44=>z1i q2y t43 b0 q1r  t44  (fun t44'=>z0p q2y t43 b0 q1r n t44') (fun _=>some (Sum.inl ())) (fun c0_ c1_=>some (Sum.inr (c0_,c1_)))
theorem zdp:z0p a0 c1 g2 a3 (a4+1) c5=z1i a0 c1 g2 a3  c5  (fun t44'=>z0p a0 c1 g2 a3 a4 t44') (fun _=>some (Sum.inl ())) (fun c0_ c1_=>some (Sum.inr (c0_,c1_))):=rfl
def z7r:Bool:=(z0p a0 c1 g2 a3 big c4).isSome
def z74:Bool:=oL (z0p a0 c1 g2 a3 big c4)
def zru:Int:=((tR (z0p a0 c1 g2 a3 big c4)).getD default).1
def zry:Bool:=((tR (z0p a0 c1 g2 a3 big c4)).getD default).2
def z9u{R:Type}(k_:Bool→Option R):Option R:=(br (ltI (Int.ofNat a0) 2) (k_ Bool.false) (br (ltI 24 (Int.ofNat a0)) (k_ Bool.false) (br (neI (Int.ofNat a2) (Int.ofNat a0)) (k_ Bool.false) (br (neI (Int.ofNat a4) (Int.ofNat a0)) (k_ Bool.false) (grd (zk8 a2 (pF g3 0 (muN a2 1))) (br (bnot (zif a2 (pF g3 0 (muN a2 1)))) (k_ Bool.false) (grd (zvg a4 (pF g5 0 (muN a4 1))) (br (bnot (ztx a4 (pF g5 0 (muN a4 1)))) (k_ Bool.false) (grd (z7r a0 (Int.ofNat a0) g1 a0 0) (br (z74 a0 (Int.ofNat a0) g1 a0 0) (k_ Bool.false) (k_ Bool.true)))))))))))
def z44:Option (Bool):=z9u a0 g1 a2 g3 a4 g5 (fun c0_=>some c0_)
theorem zua:Nt1 (fun {R}=>z9u (R:=R) a0 g1 a2 g3 a4 g5):=by
 intro R R' o h0 k;unfold z9u;repeat (first | apply grd_out h0 | apply br_out | rfl)
def znq:Bool:=(z44 a0 g1 a2 g3 a4 g5).isSome
def zmk:Bool:=((z44 a0 g1 a2 g3 a4 g5).getD default)
def zc1{R:Type}(k_:Nat→Option R):Option R:=(grd (zj6 a0 (pF g1 0 (muN a0 1)) a2 (pF g3 0 (muN a2 1)) a4 (pF g5 0 (muN a4 1)) a8) (br (fcmp .neq .f32 (z3j a0 (pF g1 0 (muN a0 1)) a2 (pF g3 0 (muN a2 1)) a4 (pF g5 0 (muN a4 1)) a8) (z73 a0 (pF g1 0 (muN a0 1)) a2 (pF g3 0 (muN a2 1)) a4 (pF g5 0 (muN a4 1)) a8)) (grd (okIx (z2f a0 (pF g1 0 (muN a0 1)) a2 (pF g3 0 (muN a2 1)) a4 (pF g5 0 (muN a4 1)) a8) a6) (grd (okIx (z2g a0 (pF g1 0 (muN a0 1)) a2 (pF g3 0 (muN a2 1)) a4 (pF g5 0 (muN a4 1)) a8) a6) (grd (zse (gF g7 (ixO 0 (z2f a0 (pF g1 0 (muN a0 1)) a2 (pF g3 0 (muN a2 1)) a4 (pF g5 0 (muN a4 1)) a8) 1)) (gF g7 (ixO 0 (z2g a0 (pF g1 0 (muN a0 1)) a2 (pF g3 0 (muN a2 1)) a4 (pF g5 0 (muN a4 1)) a8) 1)) (fop .quo .f32 (fop .sub .f32 (zac a0 (pF g1 0 (muN a0 1)) a2 (pF g3 0 (muN a2 1)) a4 (pF g5 0 (muN a4 1)) a8) (z3j a0 (pF g1 0 (muN a0 1)) a2 (pF g3 0 (muN a2 1)) a4 (pF g5 0 (muN a4 1)) a8)) (fop .sub .f32 (z73 a0 (pF g1 0 (muN a0 1)) a2 (pF g3 0 (muN a2 1)) a4 (pF g5 0 (muN a4 1)) a8) (z3j a0 (pF g1 0 (muN a0 1)) a2 (pF g3 0 (muN a2 1)) a4 (pF g5 0 (muN a4 1)) a8)))) (k_ (zqq (gF g7 (ixO 0 (z2f a0 (pF g1 0 (muN a0 1)) a2 (pF g3 0 (muN a2 1)) a4 (pF g5 0 (muN a4 1)) a8) 1)) (gF g7 (ixO 0 (z2g a0 (pF g1 0 (muN a0 1)) a2 (pF g3 0 (muN a2 1)) a4 (pF g5 0 (muN a4 1)) a8) 1)) (fop .quo .f32 (fop .sub .f32 (zac a0 (pF g1 0 (muN a0 1)) a2 (pF g3 0 (muN a2 1)) a4 (pF g5 0 (muN a4 1)) a8) (z3j a0 (pF g1 0 (muN a0 1)) a2 (pF g3 0 (muN a2 1)) a4 (pF g5 0 (muN a4 1)) a8)) (fop .sub .f32 (z73 a0 (pF g1 0 (muN a0 1)) a2 (pF g3 0 (muN a2 1)) a4 (pF g5 0 (muN a4 1)) a8) (z3j a0 (pF g1 0 (muN a0 1)) a2 (pF g3 0 (muN a2 1)) a4 (pF g5 0 (muN a4 1)) a8)))))))) (grd (okIx (z2f a0 (pF g1 0 (muN a0 1)) a2 (pF g3 0 (muN a2 1)) a4 (pF g5 0 (muN a4 1)) a8) a6) (grd (okIx (z2g a0 (pF g1 0 (muN a0 1)) a2 (pF g3 0 (muN a2 1)) a4 (pF g5 0 (muN a4 1)) a8) a6) (grd (zse (gF g7 (ixO 0 (z2f a0 (pF g1 0 (muN a0 1)) a2 (pF g3 0 (muN a2 1)) a4 (pF g5 0 (muN a4 1)) a8) 1)) (gF g7 (ixO 0 (z2g a0 (pF g1 0 (muN a0 1)) a2 (pF g3 0 (muN a2 1)) a4 (pF g5 0 (muN a4 1)) a8) 1)) 0) (k_ (zqq (gF g7 (ixO 0 (z2f a0 (pF g1 0 (muN a0 1)) a2 (pF g3 0 (muN a2 1)) a4 (pF g5 0 (muN a4 1)) a8) 1)) (gF g7 (ixO 0 (z2g a0 (pF g1 0 (muN a0 1)) a2 (pF g3 0 (muN a2 1)) a4 (pF g5 0 (muN a4 1)) a8) 1)) 0)))))))
def z52:Option (Nat):=zc1 a0 g1 a2 g3 a4 g5 a6 g7 a8 (fun c0_=>some c0_)
theorem zyf:Nt1 (fun {R}=>zc1 (R:=R) a0 g1 a2 g3 a4 g5 a6 g7 a8):=by
 intro R R' o h0 k;unfold zc1;repeat (first | apply grd_out h0 | apply br_out | rfl)
def zig:Bool:=(z52 a0 g1 a2 g3 a4 g5 a6 g7 a8).isSome
def z7u:Nat:=((z52 a0 g1 a2 g3 a4 g5 a6 g7 a8).getD default)
def zma{R:Type}(k_:Nat→Option R):Option R:=(grd (zwr a0 (pF g1 0 (muN a0 1)) a2 (pF g3 0 (muN a2 1)) a4 (pF g5 0 (muN a4 1)) a8) (grd (okIx (zak a0 (pF g1 0 (muN a0 1)) a2 (pF g3 0 (muN a2 1)) a4 (pF g5 0 (muN a4 1)) a8) a6) (grd (okIx (zlq a0 (pF g1 0 (muN a0 1)) a2 (pF g3 0 (muN a2 1)) a4 (pF g5 0 (muN a4 1)) a8) a6) (grd (okIx (zak a0 (pF g1 0 (muN a0 1)) a2 (pF g3 0 (muN a2 1)) a4 (pF g5 0 (muN a4 1)) a8) a6) (k_ (fop .add .f32 (gF g7 (ixO 0 (zak a0 (pF g1 0 (muN a0 1)) a2 (pF g3 0 (muN a2 1)) a4 (pF g5 0 (muN a4 1)) a8) 1)) (fop .mul .f32 (zvc a0 (pF g1 0 (muN a0 1)) a2 (pF g3 0 (muN a2 1)) a4 (pF g5 0 (muN a4 1)) a8) (fop .sub .f32 (gF g7 (ixO 0 (zlq a0 (pF g1 0 (muN a0 1)) a2 (pF g3 0 (muN a2 1)) a4 (pF g5 0 (muN a4 1)) a8) 1)) (gF g7 (ixO 0 (zak a0 (pF g1 0 (muN a0 1)) a2 (pF g3 0 (muN a2 1)) a4 (pF g5 0 (muN a4 1)) a8) 1))))))))))
def z9j:Option (Nat):=zma a0 g1 a2 g3 a4 g5 a6 g7 a8 (fun c0_=>some c0_)
theorem y7s:Nt1 (fun {R}=>zma (R:=R) a0 g1 a2 g3 a4 g5 a6 g7 a8):=by
 intro R R' o h0 k;unfold zma;repeat (first | apply grd_out h0 | apply br_out | rfl)
def ztr:Bool:=(z9j a0 g1 a2 g3 a4 g5 a6 g7 a8).isSome
def zqg:Nat:=((z9j a0 g1 a2 g3 a4 g5 a6 g7 a8).getD default)
def z9r{R:Type}(q0b:Int)(q0j q0i:Nat)(i:Int)(q1q q0k:Nat)(k_:Nat→Nat→Option R):Option R:=(grd (okIx i a6) (grd (zig a0 (pF g1 0 (muN a0 1)) a2 (pF g3 0 (muN a2 1)) a4 (pF g5 0 (muN a4 1)) a2 (pF g3 0 (muN a2 1)) (fop .sub .f32 (fop .sub .f32 q1q (gF g7 (Nat.succ (Nat.succ (ixO 0 i 3))))) q0k)) (grd (zig a0 (pF g1 0 (muN a0 1)) a2 (pF g3 0 (muN a2 1)) a4 (pF g5 0 (muN a4 1)) a4 (pF g5 0 (muN a4 1)) (fop .sub .f32 (fop .sub .f32 q1q (gF g7 (Nat.succ (Nat.succ (ixO 0 i 3))))) q0k)) (grd (z4m q1q) (grd (z4m (fop .add .f32 q1q 1048576000)) (k_ (fop .add .f32 (fop .mul .f32 (z7u a0 (pF g1 0 (muN a0 1)) a2 (pF g3 0 (muN a2 1)) a4 (pF g5 0 (muN a4 1)) a2 (pF g3 0 (muN a2 1)) (fop .sub .f32 (fop .sub .f32 q1q (gF g7 (Nat.succ (Nat.succ (ixO 0 i 3))))) q0k)) (z1d (fop .add .f32 q1q 1048576000))) (fop .mul .f32 (z7u a0 (pF g1 0 (muN a0 1)) a2 (pF g3 0 (muN a2 1)) a4 (pF g5 0 (muN a4 1)) a4 (pF g5 0 (muN a4 1)) (fop .sub .f32 (fop .sub .f32 q1q (gF g7 (Nat.succ (Nat.succ (ixO 0 i 3))))) q0k)) (z1d q1q))) (fop .sub .f32 (fop .mul .f32 (z7u a0 (pF g1 0 (muN a0 1)) a2 (pF g3 0 (muN a2 1)) a4 (pF g5 0 (muN a4 1)) a2 (pF g3 0 (muN a2 1)) (fop .sub .f32 (fop .sub .f32 q1q (gF g7 (Nat.succ (Nat.succ (ixO 0 i 3))))) q0k)) (z1d q1q)) (fop .mul .f32 (z7u a0 (pF g1 0 (muN a0 1)) a2 (pF g3 0 (muN a2 1)) a4 (pF g5 0 (muN a4 1)) a4 (pF g5 0 (muN a4 1)) (fop .sub .f32 (fop .sub .f32 q1q (gF g7 (Nat.succ (Nat.succ (ixO 0 i 3))))) q0k)) (z1d (fop .add .f32 q1q 1048576000))))))))))
def z2b:Option (Nat×Nat):=z9r a0 g1 a2 g3 a4 g5 a6 g7 c8 a9 a10 c11 a12 a13 (fun c0_ c1_=>some (c0_,c1_))
theorem zun:Nt2 (fun {R}=>z9r (R:=R) a0 g1 a2 g3 a4 g5 a6 g7 c8 a9 a10 c11 a12 a13):=by
 intro R R' o h0 k;unfold z9r;repeat (first | apply grd_out h0 | apply br_out | rfl)
def zfl:Bool:=(z2b a0 g1 a2 g3 a4 g5 a6 g7 c8 a9 a10 c11 a12 a13).isSome
def zed:Nat:=((z2b a0 g1 a2 g3 a4 g5 a6 g7 c8 a9 a10 c11 a12 a13).getD default).1
def zek:Nat:=((z2b a0 g1 a2 g3 a4 g5 a6 g7 c8 a9 a10 c11 a12 a13).getD default).2
def zh8{R:Type}(k_:Nat→Option R):Option R:=(grd (ztr a0 (pF g1 0 (muN a0 1)) a2 (pF g3 0 (muN a2 1)) a4 (pF g5 0 (muN a4 1)) a2 (pF g3 0 (muN a2 1)) a6) (k_ (zqg a0 (pF g1 0 (muN a0 1)) a2 (pF g3 0 (muN a2 1)) a4 (pF g5 0 (muN a4 1)) a2 (pF g3 0 (muN a2 1)) a6)))
def z7k:Option (Nat):=zh8 a0 g1 a2 g3 a4 g5 a6 (fun c0_=>some c0_)
theorem y43:Nt1 (fun {R}=>zh8 (R:=R) a0 g1 a2 g3 a4 g5 a6):=by
 intro R R' o h0 k;unfold zh8;repeat (first | apply grd_out h0 | apply br_out | rfl)
def zx5:Bool:=(z7k a0 g1 a2 g3 a4 g5 a6).isSome
def zm9:Nat:=((z7k a0 g1 a2 g3 a4 g5 a6).getD default)
def zhg{R:Type}(k_:Nat→Option R):Option R:=(grd (ztr a0 (pF g1 0 (muN a0 1)) a2 (pF g3 0 (muN a2 1)) a4 (pF g5 0 (muN a4 1)) a4 (pF g5 0 (muN a4 1)) a6) (k_ (zqg a0 (pF g1 0 (muN a0 1)) a2 (pF g3 0 (muN a2 1)) a4 (pF g5 0 (muN a4 1)) a4 (pF g5 0 (muN a4 1)) a6)))
def z7h:Option (Nat):=zhg a0 g1 a2 g3 a4 g5 a6 (fun c0_=>some c0_)
theorem y2s:Nt1 (fun {R}=>zhg (R:=R) a0 g1 a2 g3 a4 g5 a6):=by
 intro R R' o h0 k;unfold zhg;repeat (first | apply grd_out h0 | apply br_out | rfl)
def zy9:Bool:=(z7h a0 g1 a2 g3 a4 g5 a6).isSome
def znk:Nat:=((z7h a0 g1 a2 g3 a4 g5 a6).getD default)
def z9v{R:Type}(k_:Nat→Nat→Option R):Option R:=(grd (zfl a0 (pF g1 0 (muN a0 1)) a2 (pF g3 0 (muN a2 1)) a4 (pF g5 0 (muN a4 1)) a6 (pF g7 0 (muN a6 3)) c8 a9 a10 c11 a12 a13) (grd (z4m a12) (grd (z4m (fop .add .f32 a12 1048576000)) (grd (zle a0 (pF g1 0 (muN a0 1)) a2 (pF g3 0 (muN a2 1)) a4 (pF g5 0 (muN a4 1)) a6 (pF g7 0 (muN a6 3)) c8 a9 a10 c11) (grd (zlb a0 (pF g1 0 (muN a0 1)) a2 (pF g3 0 (muN a2 1)) a4 (pF g5 0 (muN a4 1)) a6 (pF g7 0 (muN a6 3)) c8 a9 a10 c11 a12) (k_ (fop .quo .f32 (fop .mul .f32 (zbn a0 (pF g1 0 (muN a0 1)) a2 (pF g3 0 (muN a2 1)) a4 (pF g5 0 (muN a4 1)) a6 (pF g7 0 (muN a6 3)) c8 a9 a10 c11) (zed a0 (pF g1 0 (muN a0 1)) a2 (pF g3 0 (muN a2 1)) a4 (pF g5 0 (muN a4 1)) a6 (pF g7 0 (muN a6 3)) c8 a9 a10 c11 a12 a13)) (fop .mul .f32 (fop .mul .f32 (fop .mul .f32 1082130432 (zbm a0 (pF g1 0 (muN a0 1)) a2 (pF g3 0 (muN a2 1)) a4 (pF g5 0 (muN a4 1)) a6 (pF g7 0 (muN a6 3)) c8 a9 a10 c11 a12)) (z1d a12)) (z1d a12))) (fop .quo .f32 (fop .mul .f32 (zbn a0 (pF g1 0 (muN a0 1)) a2 (pF g3 0 (muN a2 1)) a4 (pF g5 0 (muN a4 1)) a6 (pF g7 0 (muN a6 3)) c8 a9 a10 c11) (zek a0 (pF g1 0 (muN a0 1)) a2 (pF g3 0 (muN a2 1)) a4 (pF g5 0 (muN a4 1)) a6 (pF g7 0 (muN a6 3)) c8 a9 a10 c11 a12 a13)) (fop .mul .f32 (fop .mul .f32 (fop .mul .f32 1082130432 (zbm a0 (pF g1 0 (muN a0 1)) a2 (pF g3 0 (muN a2 1)) a4 (pF g5 0 (muN a4 1)) a6 (pF g7 0 (muN a6 3)) c8 a9 a10 c11 a12)) (z1d a12)) (z1d (fop .add .f32 a12 1048576000))))))))))
def z2y:Option (Nat×Nat):=z9v a0 g1 a2 g3 a4 g5 a6 g7 c8 a9 a10 c11 a12 a13 (fun c0_ c1_=>some (c0_,c1_))
theorem zuy:Nt2 (fun {R}=>z9v (R:=R) a0 g1 a2 g3 a4 g5 a6 g7 c8 a9 a10 c11 a12 a13):=by
 intro R R' o h0 k;unfold z9v;repeat (first | apply grd_out h0 | apply br_out | rfl)
def zfy:Bool:=(z2y a0 g1 a2 g3 a4 g5 a6 g7 c8 a9 a10 c11 a12 a13).isSome
def zdr:Nat:=((z2y a0 g1 a2 g3 a4 g5 a6 g7 c8 a9 a10 c11 a12 a13).getD default).1
def zes:Nat:=((z2y a0 g1 a2 g3 a4 g5 a6 g7 c8 a9 a10 c11 a12 a13).getD default).2
def zez{R:Type}(q0b:Int)(q0j q0i:Nat)(i:Int)(q1q q0k:Nat)(k_:Nat→Nat→Option R):Option R:=(grd (okIx i a6) (grd (zx5 a0 (pF g1 0 (muN a0 1)) a2 (pF g3 0 (muN a2 1)) a4 (pF g5 0 (muN a4 1)) (fop .sub .f32 (fop .sub .f32 q1q (gF g7 (Nat.succ (Nat.succ (ixO 0 i 3))))) q0k)) (grd (zy9 a0 (pF g1 0 (muN a0 1)) a2 (pF g3 0 (muN a2 1)) a4 (pF g5 0 (muN a4 1)) (fop .sub .f32 (fop .sub .f32 q1q (gF g7 (Nat.succ (Nat.succ (ixO 0 i 3))))) q0k)) (grd (z7g q1q) (grd (z7g (fop .add .f32 q1q 1048576000)) (k_ (fop .add .f32 (fop .mul .f32 (zm9 a0 (pF g1 0 (muN a0 1)) a2 (pF g3 0 (muN a2 1)) a4 (pF g5 0 (muN a4 1)) (fop .sub .f32 (fop .sub .f32 q1q (gF g7 (Nat.succ (Nat.succ (ixO 0 i 3))))) q0k)) (z1a (fop .add .f32 q1q 1048576000))) (fop .mul .f32 (znk a0 (pF g1 0 (muN a0 1)) a2 (pF g3 0 (muN a2 1)) a4 (pF g5 0 (muN a4 1)) (fop .sub .f32 (fop .sub .f32 q1q (gF g7 (Nat.succ (Nat.succ (ixO 0 i 3))))) q0k)) (z1a q1q))) (fop .sub .f32 (fop .mul .f32 (zm9 a0 (pF g1 0 (muN a0 1)) a2 (pF g3 0 (muN a2 1)) a4 (pF g5 0 (muN a4 1)) (fop .sub .f32 (fop .sub .f32 q1q (gF g7 (Nat.succ (Nat.succ (ixO 0 i 3))))) q0k)) (z1a q1q)) (fop .mul .f32 (znk a0 (pF g1 0 (muN a0 1)) a2 (pF g3 0 (muN a2 1)) a4 (pF g5 0 (muN a4 1)) (fop .sub .f32 (fop .sub .f32 q1q (gF g7 (Nat.succ (Nat.succ (ixO 0 i 3))))) q0k)) (z1a (fop .add .f32 q1q 1048576000))))))))))
def z4k:Option (Nat×Nat):=zez a0 g1 a2 g3 a4 g5 a6 g7 c8 a9 a10 c11 a12 a13 (fun c0_ c1_=>some (c0_,c1_))
theorem zzr:Nt2 (fun {R}=>zez (R:=R) a0 g1 a2 g3 a4 g5 a6 g7 c8 a9 a10 c11 a12 a13):=by
 intro R R' o h0 k;unfold zez;repeat (first | apply grd_out h0 | apply br_out | rfl)
def zsl:Bool:=(z4k a0 g1 a2 g3 a4 g5 a6 g7 c8 a9 a10 c11 a12 a13).isSome
def ziq:Nat:=((z4k a0 g1 a2 g3 a4 g5 a6 g7 c8 a9 a10 c11 a12 a13).getD default).1
def zim:Nat:=((z4k a0 g1 a2 g3 a4 g5 a6 g7 c8 a9 a10 c11 a12 a13).getD default).2
def z20{R:Type}(kn_:Nat→Int→Option R)(k0_:Unit→Option R)(k1_:Nat→Int→Bool→Option R):Option R:=(br (ltI c5 c1) (grd (okIx c5 a0) (br (fcmp .gtr .f32 (gF g2 (ixO 0 c5 3)) a4) (br (bnot (fcmp .lss .f32 (gF g2 (ixO 0 c5 3)) a3)) (k0_ ()) (grd (z7v 1 (pF [(gF g2 (Nat.succ (ixO 0 c5 3)))] 0 (muN 1 1))) (br (bnot (z78 1 (pF [(gF g2 (Nat.succ (ixO 0 c5 3)))] 0 (muN 1 1)))) (k0_ ()) (grd (z2k (gF g2 (Nat.succ (Nat.succ (ixO 0 c5 3))))) (br (bnot (z25 (gF g2 (Nat.succ (Nat.succ (ixO 0 c5 3)))))) (k0_ ()) (kn_ (gF g2 (ixO 0 c5 3)) (addI .i64 c5 1))))))) (br (bnot Bool.false) (k0_ ()) (grd (z7v 1 (pF [(gF g2 (Nat.succ (ixO 0 c5 3)))] 0 (muN 1 1))) (br (bnot (z78 1 (pF [(gF g2 (Nat.succ (ixO 0 c5 3)))] 0 (muN 1 1)))) (k0_ ()) (grd (z2k (gF g2 (Nat.succ (Nat.succ (ixO 0 c5 3))))) (br (bnot (z25 (gF g2 (Nat.succ (Nat.succ (ixO 0 c5 3)))))) (k0_ ()) (kn_ (gF g2 (ixO 0 c5 3)) (addI .i64 c5 1))))))))) (k1_ a4 c5 (ltI c5 c1)))
theorem zto{R R':Type}(o:Option R→Option R')(h0:o none=none)(kn_:Nat→Int→Option R)(k0_:Unit→Option R)(k1_:Nat→Int→Bool→Option R):z20 a0 c1 g2 a3 a4 c5 (fun t4' t45'=>o (kn_ t4' t45')) (fun _=>o (k0_ ())) (fun c0_ c1_ c2_=>o (k1_ c0_ c1_ c2_))=o (z20 a0 c1 g2 a3 a4 c5 kn_ k0_ k1_):=by
 unfold z20
 repeat (first | apply grd_out h0 | apply br_out | rfl)
def z0f(q2w:Nat)(t44:Int)(b3:List Nat)(q18:Nat):Nat→Nat→Int→Option ((Unit)⊕(Nat×Int×Bool))
 | 0,_,_=>none
 | n+1,t4,t45=>z20 q2w t44 b3 q18  t4 t45  (fun t4' t45'=>z0f q2w t44 b3 q18 n t4' t45') (fun _=>some (Sum.inl ())) (fun c0_ c1_ c2_=>some (Sum.inr (c0_,c1_,c2_)))
theorem zga:z0f a0 c1 g2 a3 (a4+1) a5 c6=z20 a0 c1 g2 a3  a5 c6  (fun t4' t45'=>z0f a0 c1 g2 a3 a4 t4' t45') (fun _=>some (Sum.inl ())) (fun c0_ c1_ c2_=>some (Sum.inr (c0_,c1_,c2_))):=rfl
def z91:Bool:=(z0f a0 c1 g2 a3 big a4 c5).isSome
def z85:Bool:=oL (z0f a0 c1 g2 a3 big a4 c5)
def zu9:Nat:=((tR (z0f a0 c1 g2 a3 big a4 c5)).getD default).1
def zuz:Int:=((tR (z0f a0 c1 g2 a3 big a4 c5)).getD default).2.1
def zul:Bool:=((tR (z0f a0 c1 g2 a3 big a4 c5)).getD default).2.2
def zc8{R:Type}(k_:Bool→Option R):Option R:=(grd (znq a0 (pF g1 0 (muN a0 1)) a2 (pF g3 0 (muN a2 1)) a4 (pF g5 0 (muN a4 1))) (br (bnot (zmk a0 (pF g1 0 (muN a0 1)) a2 (pF g3 0 (muN a2 1)) a4 (pF g5 0 (muN a4 1)))) (k_ Bool.false) (grd (z8d c8 1 6) (br (bnot (z3v c8 1 6)) (k_ Bool.false) (br (ltI (Int.ofNat a6) 2) (k_ Bool.false) (br (ltI 12 (Int.ofNat a6)) (k_ Bool.false) (grd (zoq a9) (br (bnot (zni a9)) (k_ Bool.false) (grd (z2k a10) (br (bnot (z25 a10)) (k_ Bool.false) (grd (z91 a6 (Int.ofNat a6) g7 a10 a9 0) (br (z85 a6 (Int.ofNat a6) g7 a10 a9 0) (k_ Bool.false) (k_ Bool.true)))))))))))))
def z53:Option (Bool):=zc8 a0 g1 a2 g3 a4 g5 a6 g7 c8 a9 a10 (fun c0_=>some c0_)
theorem zwv:Nt1 (fun {R}=>zc8 (R:=R) a0 g1 a2 g3 a4 g5 a6 g7 c8 a9 a10):=by
 intro R R' o h0 k;unfold zc8;repeat (first | apply grd_out h0 | apply br_out | rfl)
def zck:Bool:=(z53 a0 g1 a2 g3 a4 g5 a6 g7 c8 a9 a10).isSome
def z7t:Bool:=((z53 a0 g1 a2 g3 a4 g5 a6 g7 c8 a9 a10).getD default)
def zhe{R:Type}(k_:Nat→Nat→Nat→Nat→Option R):Option R:=(grd (zsl a0 (pF g1 0 (muN a0 1)) a2 (pF g3 0 (muN a2 1)) a4 (pF g5 0 (muN a4 1)) a6 (pF g7 0 (muN a6 3)) c8 a9 a10 c11 a12 a13) (grd (z7g a12) (grd (z7g (fop .add .f32 a12 1048576000)) (grd (y0z a0 (pF g1 0 (muN a0 1)) a2 (pF g3 0 (muN a2 1)) a4 (pF g5 0 (muN a4 1)) a6 (pF g7 0 (muN a6 3)) c8 a9 a10 c11 (z1a a12)) (grd (zpp a0 (pF g1 0 (muN a0 1)) a2 (pF g3 0 (muN a2 1)) a4 (pF g5 0 (muN a4 1)) a6 (pF g7 0 (muN a6 3)) c8 a9 a10 c11) (k_ (fop .quo .f32 (fop .mul .f32 (zfi a0 (pF g1 0 (muN a0 1)) a2 (pF g3 0 (muN a2 1)) a4 (pF g5 0 (muN a4 1)) a6 (pF g7 0 (muN a6 3)) c8 a9 a10 c11) (ziq a0 (pF g1 0 (muN a0 1)) a2 (pF g3 0 (muN a2 1)) a4 (pF g5 0 (muN a4 1)) a6 (pF g7 0 (muN a6 3)) c8 a9 a10 c11 a12 a13)) (fop .mul .f32 (fop .mul .f32 (fop .mul .f32 1082130432 (zp6 a0 (pF g1 0 (muN a0 1)) a2 (pF g3 0 (muN a2 1)) a4 (pF g5 0 (muN a4 1)) a6 (pF g7 0 (muN a6 3)) c8 a9 a10 c11 (z1a a12))) (z1a a12)) (z1a a12))) (fop .quo .f32 (fop .mul .f32 (zfi a0 (pF g1 0 (muN a0 1)) a2 (pF g3 0 (muN a2 1)) a4 (pF g5 0 (muN a4 1)) a6 (pF g7 0 (muN a6 3)) c8 a9 a10 c11) (zim a0 (pF g1 0 (muN a0 1)) a2 (pF g3 0 (muN a2 1)) a4 (pF g5 0 (muN a4 1)) a6 (pF g7 0 (muN a6 3)) c8 a9 a10 c11 a12 a13)) (fop .mul .f32 (fop .mul .f32 (fop .mul .f32 1082130432 (zp6 a0 (pF g1 0 (muN a0 1)) a2 (pF g3 0 (muN a2 1)) a4 (pF g5 0 (muN a4 1)) a6 (pF g7 0 (muN a6 3)) c8 a9 a10 c11 (z1a a12))) (z1a a12)) (z1a (fop .add .f32 a12 1048576000)))) (ziq a0 (pF g1 0 (muN a0 1)) a2 (pF g3 0 (muN a2 1)) a4 (pF g5 0 (muN a4 1)) a6 (pF g7 0 (muN a6 3)) c8 a9 a10 c11 a12 a13) (zim a0 (pF g1 0 (muN a0 1)) a2 (pF g3 0 (muN a2 1)) a4 (pF g5 0 (muN a4 1)) a6 (pF g7 0 (muN a6 3)) c8 a9 a10 c11 a12 a13)))))))
def z3u:Option (Nat×Nat×Nat×Nat):=zhe a0 g1 a2 g3 a4 g5 a6 g7 c8 a9 a10 c11 a12 a13 (fun c0_ c1_ c2_ c3_=>some (c0_,c1_,c2_,c3_))
theorem y35:Nt4 (fun {R}=>zhe (R:=R) a0 g1 a2 g3 a4 g5 a6 g7 c8 a9 a10 c11 a12 a13):=by
 intro R R' o h0 k;unfold zhe;repeat (first | apply grd_out h0 | apply br_out | rfl)
def zov:Bool:=(z3u a0 g1 a2 g3 a4 g5 a6 g7 c8 a9 a10 c11 a12 a13).isSome
def zn4:Nat:=((z3u a0 g1 a2 g3 a4 g5 a6 g7 c8 a9 a10 c11 a12 a13).getD default).1
def zm5:Nat:=((z3u a0 g1 a2 g3 a4 g5 a6 g7 c8 a9 a10 c11 a12 a13).getD default).2.1
def zv9:Nat:=((z3u a0 g1 a2 g3 a4 g5 a6 g7 c8 a9 a10 c11 a12 a13).getD default).2.2.1
def zv4:Nat:=((z3u a0 g1 a2 g3 a4 g5 a6 g7 c8 a9 a10 c11 a12 a13).getD default).2.2.2
def z8q{R:Type}(k_:Nat→Option R):Option R:=(grd (zfy a0 (pF g1 0 (muN a0 1)) a2 (pF g3 0 (muN a2 1)) a4 (pF g5 0 (muN a4 1)) a6 (pF g7 0 (muN a6 3)) c8 a9 a10 c11 a12 a15) (grd (z4m a12) (grd (z4m (fop .add .f32 a12 1048576000)) (grd (okIx c11 a6) (k_ (fop .sub .f32 (fop .mul .f32 (z1d a12) (fop .add .f32 1065353216 (zdr a0 (pF g1 0 (muN a0 1)) a2 (pF g3 0 (muN a2 1)) a4 (pF g5 0 (muN a4 1)) a6 (pF g7 0 (muN a6 3)) c8 a9 a10 c11 a12 a15))) (fop .mul .f32 (fop .mul .f32 (fop .quo .f32 a13 (fop .mul .f32 a14 (gF g7 (ixO 0 c11 3)))) (z1d (fop .add .f32 a12 1048576000))) (fop .sub .f32 1065353216 (zes a0 (pF g1 0 (muN a0 1)) a2 (pF g3 0 (muN a2 1)) a4 (pF g5 0 (muN a4 1)) a6 (pF g7 0 (muN a6 3)) c8 a9 a10 c11 a12 a15)))))))))
def z2m:Option (Nat):=z8q a0 g1 a2 g3 a4 g5 a6 g7 c8 a9 a10 c11 a12 a13 a14 a15 (fun c0_=>some c0_)
theorem zst:Nt1 (fun {R}=>z8q (R:=R) a0 g1 a2 g3 a4 g5 a6 g7 c8 a9 a10 c11 a12 a13 a14 a15):=by
 intro R R' o h0 k;unfold z8q;repeat (first | apply grd_out h0 | apply br_out | rfl)
def zly:Bool:=(z2m a0 g1 a2 g3 a4 g5 a6 g7 c8 a9 a10 c11 a12 a13 a14 a15).isSome
def z7x:Nat:=((z2m a0 g1 a2 g3 a4 g5 a6 g7 c8 a9 a10 c11 a12 a13 a14 a15).getD default)
def zhn{R:Type}(k_:Bool→Option R):Option R:=(grd (zck a0 (pF g1 0 (muN a0 1)) a2 (pF g3 0 (muN a2 1)) a4 (pF g5 0 (muN a4 1)) a6 (pF g7 0 (muN a6 3)) c8 a9 a10) (br (z7t a0 (pF g1 0 (muN a0 1)) a2 (pF g3 0 (muN a2 1)) a4 (pF g5 0 (muN a4 1)) a6 (pF g7 0 (muN a6 3)) c8 a9 a10) (grd (zj7 a0 (pF g1 0 (muN a0 1)) a2 (pF g3 0 (muN a2 1)) a4 (pF g5 0 (muN a4 1)) a6 (pF g7 0 (muN a6 3)) c8 a9 a10 c11) (br (zhr a0 (pF g1 0 (muN a0 1)) a2 (pF g3 0 (muN a2 1)) a4 (pF g5 0 (muN a4 1)) a6 (pF g7 0 (muN a6 3)) c8 a9 a10 c11) (grd (z7v 2 (pF [a12,a13] 0 (muN 2 1))) (br (z78 2 (pF [a12,a13] 0 (muN 2 1))) (grd (z2k a14) (br (z25 a14) (grd (okIx c11 a6) (grd (z2k (fop .sub .f32 (fop .sub .f32 981668463 (gF g7 (Nat.succ (Nat.succ (ixO 0 c11 3))))) a14)) (k_ (z25 (fop .sub .f32 (fop .sub .f32 981668463 (gF g7 (Nat.succ (Nat.succ (ixO 0 c11 3))))) a14))))) (k_ Bool.false))) (k_ Bool.false))) (k_ Bool.false))) (k_ Bool.false)))
def z7o:Option (Bool):=zhn a0 g1 a2 g3 a4 g5 a6 g7 c8 a9 a10 c11 a12 a13 a14 (fun c0_=>some c0_)
theorem y38:Nt1 (fun {R}=>zhn (R:=R) a0 g1 a2 g3 a4 g5 a6 g7 c8 a9 a10 c11 a12 a13 a14):=by
 intro R R' o h0 k;unfold zhn;repeat (first | apply grd_out h0 | apply br_out | rfl)
def zo7:Bool:=(z7o a0 g1 a2 g3 a4 g5 a6 g7 c8 a9 a10 c11 a12 a13 a14).isSome
def zmb:Bool:=((z7o a0 g1 a2 g3 a4 g5 a6 g7 c8 a9 a10 c11 a12 a13 a14).getD default)
def zce{R:Type}(k_:Nat→Option R):Option R:=(grd (zov a0 (pF g1 0 (muN a0 1)) a2 (pF g3 0 (muN a2 1)) a4 (pF g5 0 (muN a4 1)) a6 (pF g7 0 (muN a6 3)) c8 a9 a10 c11 a12 a15) (grd (z7g a12) (grd (z7g (fop .add .f32 a12 1048576000)) (grd (okIx c11 a6) (k_ (fop .sub .f32 (fop .mul .f32 (z1a a12) (fop .add .f32 1065353216 (zn4 a0 (pF g1 0 (muN a0 1)) a2 (pF g3 0 (muN a2 1)) a4 (pF g5 0 (muN a4 1)) a6 (pF g7 0 (muN a6 3)) c8 a9 a10 c11 a12 a15))) (fop .mul .f32 (fop .mul .f32 (fop .quo .f32 a13 (fop .mul .f32 a14 (gF g7 (ixO 0 c11 3)))) (z1a (fop .add .f32 a12 1048576000))) (fop .sub .f32 1065353216 (zm5 a0 (pF g1 0 (muN a0 1)) a2 (pF g3 0 (muN a2 1)) a4 (pF g5 0 (muN a4 1)) a6 (pF g7 0 (muN a6 3)) c8 a9 a10 c11 a12 a15)))))))))
def z31:Option (Nat):=zce a0 g1 a2 g3 a4 g5 a6 g7 c8 a9 a10 c11 a12 a13 a14 a15 (fun c0_=>some c0_)
theorem zwt:Nt1 (fun {R}=>zce (R:=R) a0 g1 a2 g3 a4 g5 a6 g7 c8 a9 a10 c11 a12 a13 a14 a15):=by
 intro R R' o h0 k;unfold zce;repeat (first | apply grd_out h0 | apply br_out | rfl)
def zrb:Bool:=(z31 a0 g1 a2 g3 a4 g5 a6 g7 c8 a9 a10 c11 a12 a13 a14 a15).isSome
def zb4:Nat:=((z31 a0 g1 a2 g3 a4 g5 a6 g7 c8 a9 a10 c11 a12 a13 a14 a15).getD default)
def zf3{R:Type}(k_:Nat→Bool→Option R):Option R:=(grd (zo7 a0 (pF g1 0 (muN a0 1)) a2 (pF g3 0 (muN a2 1)) a4 (pF g5 0 (muN a4 1)) a6 (pF g7 0 (muN a6 3)) c8 a9 a10 c11 a13 a14 a15) (br (bnot (zmb a0 (pF g1 0 (muN a0 1)) a2 (pF g3 0 (muN a2 1)) a4 (pF g5 0 (muN a4 1)) a6 (pF g7 0 (muN a6 3)) c8 a9 a10 c11 a13 a14 a15)) (k_ 0 Bool.false) (grd (y0s a12) (br (bnot (zyd a12)) (k_ 0 Bool.false) (grd (zly a0 (pF g1 0 (muN a0 1)) a2 (pF g3 0 (muN a2 1)) a4 (pF g5 0 (muN a4 1)) a6 (pF g7 0 (muN a6 3)) c8 a9 a10 c11 a12 a13 a14 a15) (grd (zhk (z7x a0 (pF g1 0 (muN a0 1)) a2 (pF g3 0 (muN a2 1)) a4 (pF g5 0 (muN a4 1)) a6 (pF g7 0 (muN a6 3)) c8 a9 a10 c11 a12 a13 a14 a15)) (k_ (zgb (z7x a0 (pF g1 0 (muN a0 1)) a2 (pF g3 0 (muN a2 1)) a4 (pF g5 0 (muN a4 1)) a6 (pF g7 0 (muN a6 3)) c8 a9 a10 c11 a12 a13 a14 a15)) (zg3 (z7x a0 (pF g1 0 (muN a0 1)) a2 (pF g3 0 (muN a2 1)) a4 (pF g5 0 (muN a4 1)) a6 (pF g7 0 (muN a6 3)) c8 a9 a10 c11 a12 a13 a14 a15)))))))))
def z4h:Option (Nat×Bool):=zf3 a0 g1 a2 g3 a4 g5 a6 g7 c8 a9 a10 c11 a12 a13 a14 a15 (fun c0_ c1_=>some (c0_,c1_))
theorem zzt:Nt2 (fun {R}=>zf3 (R:=R) a0 g1 a2 g3 a4 g5 a6 g7 c8 a9 a10 c11 a12 a13 a14 a15):=by
 intro R R' o h0 k;unfold zf3;repeat (first | apply grd_out h0 | apply br_out | rfl)
def zsi:Bool:=(z4h a0 g1 a2 g3 a4 g5 a6 g7 c8 a9 a10 c11 a12 a13 a14 a15).isSome
def zrc:Nat:=((z4h a0 g1 a2 g3 a4 g5 a6 g7 c8 a9 a10 c11 a12 a13 a14 a15).getD default).1
def zqx:Bool:=((z4h a0 g1 a2 g3 a4 g5 a6 g7 c8 a9 a10 c11 a12 a13 a14 a15).getD default).2
end
section
variable {a0:Nat} {c0:Int} {a1:Nat} {c1:Int} {e1:Bool} {g1:List Nat} {m1:List Bool} {a2:Nat} {c2:Int} {e2:Bool} {g2:List Nat} {a3:Nat} {c3:Int} {e3:Bool} {g3:List Nat} {m3:List Bool} {a4:Nat} {c4:Int} {e4:Bool} {g4:List Nat} {a5:Nat} {c5:Int} {g5:List Nat} {a6:Nat} {c6:Int} {e6:Bool} {a7:Nat} {c7:Int} {g7:List Nat} {a8:Nat} {c8:Int} {a9:Nat} {g9:List Nat} {a10:Nat} {a11:Nat} {c11:Int} {e11:Bool} {g11:List Nat} {a12:Nat} {c12:Int} {e12:Bool} {g12:List Nat} {a13:Nat} {e13:Bool} {a14:Nat} {g14:List Nat} {a15:Nat} {e15:Bool} {a16:Nat} {g16:List Nat} {a17:Nat} {g18:List Nat} {c19:Int} {a20:Nat} {a21:Nat} {e22:Bool}
theorem of1{α1:Type} [Inhabited (α1)] {x:Option (α1)} {r:α1} (h:x=some r):x.isSome=true∧(x.getD default)=r:=by
 subst h;exact⟨rfl,rfl⟩
theorem ol1{β α1:Type} [Inhabited (α1)] {x:Option ((α1)⊕β)} {r:α1} (h:x=some (.inl r)):x.isSome=true∧oL x=true∧((tL x).getD default)=r:=by
 subst h;exact⟨rfl,rfl,rfl⟩
theorem of2{α1 α2:Type} [Inhabited (α1×α2)] {x:Option (α1×α2)} {r:α1×α2} (h:x=some r):x.isSome=true∧(x.getD default).1=r.1∧(x.getD default).2=r.2:=by
 subst h;exact⟨rfl,rfl,rfl⟩
theorem or2{β α1 α2:Type} [Inhabited (α1×α2)] {x:Option (β⊕(α1×α2))} {r:α1×α2} (h:x=some (.inr r)):x.isSome=true∧oL x=false∧((tR x).getD default).1=r.1∧((tR x).getD default).2=r.2:=by
 subst h;exact⟨rfl,rfl,rfl,rfl⟩
theorem of3{α1 α2 α3:Type} [Inhabited (α1×α2×α3)] {x:Option (α1×α2×α3)} {r:α1×α2×α3} (h:x=some r):x.isSome=true∧(x.getD default).1=r.1∧(x.getD default).2.1=r.2.1∧(x.getD default).2.2=r.2.2:=by
 subst h;exact⟨rfl,rfl,rfl,rfl⟩
theorem or3{β α1 α2 α3:Type} [Inhabited (α1×α2×α3)] {x:Option (β⊕(α1×α2×α3))} {r:α1×α2×α3} (h:x=some (.inr r)):x.isSome=true∧oL x=false∧((tR x).getD default).1=r.1∧((tR x).getD default).2.1=r.2.1∧((tR x).getD default).2.2=r.2.2:=by
 subst h;exact⟨rfl,rfl,rfl,rfl,rfl⟩
theorem of4{α1 α2 α3 α4:Type} [Inhabited (α1×α2×α3×α4)] {x:Option (α1×α2×α3×α4)} {r:α1×α2×α3×α4} (h:x=some r):x.isSome=true∧(x.getD default).1=r.1∧(x.getD default).2.1=r.2.1∧(x.getD default).2.2.1=r.2.2.1∧(x.getD default).2.2.2=r.2.2.2:=by
 subst h;exact⟨rfl,rfl,rfl,rfl,rfl⟩
theorem or4{β α1 α2 α3 α4:Type} [Inhabited (α1×α2×α3×α4)] {x:Option (β⊕(α1×α2×α3×α4))} {r:α1×α2×α3×α4} (h:x=some (.inr r)):x.isSome=true∧oL x=false∧((tR x).getD default).1=r.1∧((tR x).getD default).2.1=r.2.1∧((tR x).getD default).2.2.1=r.2.2.1∧((tR x).getD default).2.2.2=r.2.2.2:=by
 subst h;exact⟨rfl,rfl,rfl,rfl,rfl,rfl⟩
theorem of5{α1 α2 α3 α4 α5:Type} [Inhabited (α1×α2×α3×α4×α5)] {x:Option (α1×α2×α3×α4×α5)} {r:α1×α2×α3×α4×α5} (h:x=some r):x.isSome=true∧(x.getD default).1=r.1∧(x.getD default).2.1=r.2.1∧(x.getD default).2.2.1=r.2.2.1∧(x.getD default).2.2.2.1=r.2.2.2.1∧(x.getD default).2.2.2.2=r.2.2.2.2:=by
 subst h;exact⟨rfl,rfl,rfl,rfl,rfl,rfl⟩
theorem of6{α1 α2 α3 α4 α5 α6:Type} [Inhabited (α1×α2×α3×α4×α5×α6)] {x:Option (α1×α2×α3×α4×α5×α6)} {r:α1×α2×α3×α4×α5×α6} (h:x=some r):x.isSome=true∧(x.getD default).1=r.1∧(x.getD default).2.1=r.2.1∧(x.getD default).2.2.1=r.2.2.1∧(x.getD default).2.2.2.1=r.2.2.2.1∧(x.getD default).2.2.2.2.1=r.2.2.2.2.1∧(x.getD default).2.2.2.2.2=r.2.2.2.2.2:=by
 subst h;exact⟨rfl,rfl,rfl,rfl,rfl,rfl,rfl⟩
theorem or6{β α1 α2 α3 α4 α5 α6:Type} [Inhabited (α1×α2×α3×α4×α5×α6)] {x:Option (β⊕(α1×α2×α3×α4×α5×α6))} {r:α1×α2×α3×α4×α5×α6} (h:x=some (.inr r)):x.isSome=true∧oL x=false∧((tR x).getD default).1=r.1∧((tR x).getD default).2.1=r.2.1∧((tR x).getD default).2.2.1=r.2.2.1∧((tR x).getD default).2.2.2.1=r.2.2.2.1∧((tR x).getD default).2.2.2.2.1=r.2.2.2.2.1∧((tR x).getD default).2.2.2.2.2=r.2.2.2.2.2:=by
 subst h;exact⟨rfl,rfl,rfl,rfl,rfl,rfl,rfl,rfl⟩
theorem of8{α1 α2 α3 α4 α5 α6 α7 α8:Type} [Inhabited (α1×α2×α3×α4×α5×α6×α7×α8)] {x:Option (α1×α2×α3×α4×α5×α6×α7×α8)} {r:α1×α2×α3×α4×α5×α6×α7×α8} (h:x=some r):x.isSome=true∧(x.getD default).1=r.1∧(x.getD default).2.1=r.2.1∧(x.getD default).2.2.1=r.2.2.1∧(x.getD default).2.2.2.1=r.2.2.2.1∧(x.getD default).2.2.2.2.1=r.2.2.2.2.1∧(x.getD default).2.2.2.2.2.1=r.2.2.2.2.2.1∧(x.getD default).2.2.2.2.2.2.1=r.2.2.2.2.2.2.1∧(x.getD default).2.2.2.2.2.2.2=r.2.2.2.2.2.2.2:=by
 subst h;exact⟨rfl,rfl,rfl,rfl,rfl,rfl,rfl,rfl,rfl⟩
theorem ol0{α β:Type} {x:Option (α⊕β)} {r:α} (h:x=some (.inl r)):x.isSome=true∧oL x=true:=by
 subst h;exact⟨rfl,rfl⟩
theorem z58(h:z5y a0 a1=some e2):z4i a0 a1=true∧z3w a0 a1=e2:=of1 h
theorem zod(h:z8j c0 c1 c2=some e3):z8d c0 c1 c2=true∧z3v c0 c1 c2=e3:=of1 h
theorem z3l(h:z89 a0=some e1):z2k a0=true∧z25 a0=e1:=of1 h
theorem y0p(h:z9p c0 c1 c2=some e3):ztm c0 c1 c2=true∧zqd c0 c1 c2=e3:=of1 h
theorem y2x(h:z54 a0 g1 c2=some c3):zrk a0 g1 c2=true∧zgh a0 g1 c2=c3:=of1 h
theorem z1g(h:z7f a0=some e1):z0w a0=true∧z0r a0=e1:=of1 h
theorem zgj(h:z55 a0 g1 c2=some c3):zcj a0 g1 c2=true∧z15 a0 g1 c2=c3:=of1 h
theorem ztl(h:z6m a0 a1 a2=some e3):zmh a0 a1 a2=true∧zka a0 a1 a2=e3:=of1 h
theorem zvq(h:z3a a0 g1 a2 g3 a4 g5 a6 g7 c8 a9 a10 c11=some a12):zle a0 g1 a2 g3 a4 g5 a6 g7 c8 a9 a10 c11=true∧zbn a0 g1 a2 g3 a4 g5 a6 g7 c8 a9 a10 c11=a12:=of1 h
theorem yaf(h:z8h a0 g1 a2 g3 a4 g5 a6 g7 c8 a9 a10 c11 a12=some a13):y0z a0 g1 a2 g3 a4 g5 a6 g7 c8 a9 a10 c11 a12=true∧zp6 a0 g1 a2 g3 a4 g5 a6 g7 c8 a9 a10 c11 a12=a13:=of1 h
theorem y1z(h:z4n a0 g1 a2 g3 a4 g5 a6 g7 c8 a9 a10 c11=some a12):zpp a0 g1 a2 g3 a4 g5 a6 g7 c8 a9 a10 c11=true∧zfi a0 g1 a2 g3 a4 g5 a6 g7 c8 a9 a10 c11=a12:=of1 h
theorem y6o(h:zeb=some a0):zyq=true∧zpf=a0:=of1 h
theorem ybs(h:zdb a0 a1 a2=some a3):zse a0 a1 a2=true∧zqq a0 a1 a2=a3:=of1 h
theorem zqy(h:z5z a0=some a1):zkv a0=true∧zca a0=a1:=of1 h
theorem ych(h:zdy a0=some a1):y8u a0=true∧y6n a0=a1:=of1 h
theorem zm7{r:Nat×Bool}(h:z6b a0=some r):zhk a0=true∧zgb a0=r.1∧zg3 a0=r.2:=of2 h
theorem y6k(h:z62 a0 g1 a2 g3 a4 g5 c6=some c7):zsf a0 g1 a2 g3 a4 g5 c6=true∧z8k a0 g1 a2 g3 a4 g5 c6=c7:=of1 h
theorem zr6{r:Nat×Bool}(h:z4l a0=some r):zjy a0=true∧zid a0=r.1∧zi1 a0=r.2:=of2 h
theorem zeg(h:z6q a0=some e1):zai a0=true∧z9d a0=e1:=of1 h
theorem zv5(h:z7l a0=some e1):zoq a0=true∧zni a0=e1:=of1 h
theorem zxp(h:z3k a0=some e1):zn5 a0=true∧zli a0=e1:=of1 h
theorem y56(h:z5v a0 a1 a2 a3 a4 a5=some e6):zsr a0 a1 a2 a3 a4 a5=true∧zr0 a0 a1 a2 a3 a4 a5=e6:=of1 h
theorem zsx(h:z6r a0=some e1):z8b a0=true∧z7m a0=e1:=of1 h
theorem y71(h:z6l a0 g1 a2 g3 a4 g5 a6 g7 c8 a9 a10 c11 a12=some e13):zva a0 g1 a2 g3 a4 g5 a6 g7 c8 a9 a10 c11 a12=true∧zu7 a0 g1 a2 g3 a4 g5 a6 g7 c8 a9 a10 c11 a12=e13:=of1 h
theorem yac{r:Nat×Nat×Bool}(h:z5o a0 a1=some r):zqn a0 a1=true∧zhf a0 a1=r.1∧zhi a0 a1=r.2.1∧zhh a0 a1=r.2.2:=of3 h
theorem y2h(h:z4f a0=some e1):zpn a0=true∧znx a0=e1:=of1 h
theorem zub(h:z2s a0 g1 a2 g3 a4 g5 a6 g7 c8 a9 a10 c11=some e12):zj7 a0 g1 a2 g3 a4 g5 a6 g7 c8 a9 a10 c11=true∧zhr a0 g1 a2 g3 a4 g5 a6 g7 c8 a9 a10 c11=e12:=of1 h
theorem yau(h:z8e a0=some e1):y0s a0=true∧zyd a0=e1:=of1 h
theorem yay(h:z8g a0=some e1):y0w a0=true∧zxr a0=e1:=of1 h
theorem zvo {r:Int×Bool×(List Nat)} (hm:a5=big) (h:z13 a0 a1 g2 a5 c3 g4=some r):ze5 a0 a1 g2 c3 g4=true∧zv0 a0 a1 g2 c3 g4=r.1∧zuq a0 a1 g2 c3 g4=r.2.1∧za7 a0 a1 g2 c3 g4=r.2.2:=by
 subst hm;exact of3 h
theorem zs0{r:Nat×Int×Bool}(hm:a6=big)(h:z0d a0 g1 g2 a3 a6 a4 c5=some r):zht a0 g1 g2 a3 a4 c5=true∧zfd a0 g1 g2 a3 a4 c5=r.1∧zq3 a0 g1 g2 a3 a4 c5=r.2.1∧zq0 a0 g1 g2 a3 a4 c5=r.2.2:=by
 subst hm;exact of3 h
theorem y2v{r:Nat×Int×Bool}(hm:a6=big)(h:z0x a0 g1 a2 g3 a6 a4 c5=some r):zt7 a0 g1 a2 g3 a4 c5=true∧zns a0 g1 a2 g3 a4 c5=r.1∧y21 a0 g1 a2 g3 a4 c5=r.2.1∧y1g a0 g1 a2 g3 a4 c5=r.2.2:=by
 subst hm;exact of3 h
theorem zmp(hm:a5=big) (h:z04 a0 e1 c2 m3 a5 c4=some (Sum.inl c6)):z7c a0 e1 c2 m3 c4=true∧z72 a0 e1 c2 m3 c4=true∧za3 a0 e1 c2 m3 c4=c6:=by
 subst hm;exact ol1 h
theorem zlr{r:Int×Bool}(hm:a5=big) (h:z04 a0 e1 c2 m3 a5 c4=some (Sum.inr r)):z7c a0 e1 c2 m3 c4=true∧z72 a0 e1 c2 m3 c4=false∧zll a0 e1 c2 m3 c4=r.1∧zlp a0 e1 c2 m3 c4=r.2:=by
 subst hm;exact or2 h
theorem y8k(h:z7i a0 g1 a2 g3 a4 g5 a6 g7 c8 a9 a10 c11=some c12):zou a0 g1 a2 g3 a4 g5 a6 g7 c8 a9 a10 c11=true∧zn2 a0 g1 a2 g3 a4 g5 a6 g7 c8 a9 a10 c11=c12:=of1 h
theorem zgx {r:Nat×(List Nat)} (h:z3z a0 g1=some r):zc5 a0 g1=true∧zb1 a0 g1=r.1∧zan a0 g1=r.2:=of2 h
theorem zyj(h:z3o a0 g1 a2 g3 a4 g5 a6 g7 c8 a9 a10 a11 g12=some a13):zmi a0 g1 a2 g3 a4 g5 a6 g7 c8 a9 a10 a11 g12=true∧z84 a0 g1 a2 g3 a4 g5 a6 g7 c8 a9 a10 a11 g12=a13:=of1 h
theorem yan(h:z8i a0 g1 a2 g3 a4 g5 a6 g7 c8 a9 a10 a11 g12=some a13):y0q a0 g1 a2 g3 a4 g5 a6 g7 c8 a9 a10 a11 g12=true∧zh7 a0 g1 a2 g3 a4 g5 a6 g7 c8 a9 a10 a11 g12=a13:=of1 h
theorem zqu(h:z1y a0 m1 e2=some c3):zgd a0 m1 e2=true∧zf6 a0 m1 e2=c3:=of1 h
theorem y4i(h:z51 a0=some e1):zrn a0=true∧zpl a0=e1:=of1 h
theorem ybm(h:z9i a0=some a1):y46 a0=true∧zf9 a0=a1:=of1 h
theorem zw9{r:Int×Bool}(hm:a5=big) (h:z14 a0 a1 g2 g3 a5 c4=some (Sum.inr r)):zm6 a0 a1 g2 g3 c4=true∧zla a0 a1 g2 g3 c4=false∧zuu a0 a1 g2 g3 c4=r.1∧zuh a0 a1 g2 g3 c4=r.2:=by
 subst hm;exact or2 h
theorem zwk {r:Int×Bool×(List Nat)} (hm:a5=big) (h:z0m a0 a1 g2 a5 c3 g4=some r):zev a0 a1 g2 c3 g4=true∧zv1 a0 a1 g2 c3 g4=r.1∧zuk a0 a1 g2 c3 g4=r.2.1∧za4 a0 a1 g2 c3 g4=r.2.2:=by
 subst hm;exact of3 h
theorem zt5{r:Nat×Int×Bool}(hm:a3=big)(h:z0j a0 a3 a1 c2=some r):z17 a0 a1 c2=true∧z07 a0 a1 c2=r.1∧zs1 a0 a1 c2=r.2.1∧zrv a0 a1 c2=r.2.2:=by
 subst hm;exact of3 h
theorem zgr(h:z5a a0 g1 a2 g3=some e4):zcm a0 g1 a2 g3=true∧zaj a0 g1 a2 g3=e4:=of1 h
theorem znp(h:z1c a0 m1 e2=some e3):z4v a0 m1 e2=true∧z4c a0 m1 e2=e3:=of1 h
theorem y5s {r:Nat×Nat×Nat×(List Nat)×(List Nat)×(List Nat)} (h:z1t a0 g1 a2 g3 a4 g5=some r):zsj a0 g1 a2 g3 a4 g5=true∧zre a0 g1 a2 g3 a4 g5=r.1∧zrg a0 g1 a2 g3 a4 g5=r.2.1∧zqw a0 g1 a2 g3 a4 g5=r.2.2.1∧zrs a0 g1 a2 g3 a4 g5=r.2.2.2.1∧zrr a0 g1 a2 g3 a4 g5=r.2.2.2.2.1∧zr7 a0 g1 a2 g3 a4 g5=r.2.2.2.2.2:=of6 h
theorem y4e {r:Nat×(List Nat)} (h:z41 a0 g1=some r):zqz a0 g1=true∧zph a0 g1=r.1∧zpi a0 g1=r.2:=of2 h
theorem y23(h:z23 a0=some a1):zpq a0=true∧zfr a0=a1:=of1 h
theorem y4f(h:z57 a0=some a1):zrh a0=true∧z08 a0=a1:=of1 h
theorem zvr{r:Int×Bool}(hm:a5=big) (h:z11 a0 a1 g2 g3 a5 c4=some (Sum.inr r)):ze6 a0 a1 g2 g3 c4=true∧zd3 a0 a1 g2 g3 c4=false∧zue a0 a1 g2 g3 c4=r.1∧zud a0 a1 g2 g3 c4=r.2:=by
 subst hm;exact or2 h
theorem y5o{r:Unit}(hm:a8=big) (h:z1p c0 g1 g2 g3 a4 a5 a6 a8 c7=some (Sum.inl r)):zal c0 g1 g2 g3 a4 a5 a6 c7=true∧z9a c0 g1 g2 g3 a4 a5 a6 c7=true:=by
 subst hm;exact ol0 h
theorem y5f{r:Int×Bool}(hm:a8=big) (h:z1p c0 g1 g2 g3 a4 a5 a6 a8 c7=some (Sum.inr r)):zal c0 g1 g2 g3 a4 a5 a6 c7=true∧z9a c0 g1 g2 g3 a4 a5 a6 c7=false∧y3i c0 g1 g2 g3 a4 a5 a6 c7=r.1∧y4d c0 g1 g2 g3 a4 a5 a6 c7=r.2:=by
 subst hm;exact or2 h
theorem za9(hm:a4=big) (h:z01 a0 c1 g2 a4 c3=some (Sum.inl c5)):z2q a0 c1 g2 c3=true∧z2o a0 c1 g2 c3=true∧z4p a0 c1 g2 c3=c5:=by
 subst hm;exact ol1 h
theorem za8{r:Int×Bool}(hm:a4=big) (h:z01 a0 c1 g2 a4 c3=some (Sum.inr r)):z2q a0 c1 g2 c3=true∧z2o a0 c1 g2 c3=false∧z9w a0 c1 g2 c3=r.1∧z9z a0 c1 g2 c3=r.2:=by
 subst hm;exact or2 h
theorem zbi(hm:a4=big) (h:z02 a0 c1 g2 a4 c3=some (Sum.inl c5)):z35 a0 c1 g2 c3=true∧z2x a0 c1 g2 c3=true∧z5i a0 c1 g2 c3=c5:=by
 subst hm;exact ol1 h
theorem zb9{r:Int×Bool}(hm:a4=big) (h:z02 a0 c1 g2 a4 c3=some (Sum.inr r)):z35 a0 c1 g2 c3=true∧z2x a0 c1 g2 c3=false∧zay a0 c1 g2 c3=r.1∧zat a0 c1 g2 c3=r.2:=by
 subst hm;exact or2 h
theorem y8j {r:Nat×Nat×Nat×Nat×(List Nat)×(List Nat)×(List Nat)×(List Nat)} (h:z1r a0 g1 a2 g3 a4 g5 a6 g7 c8 a9 a10=some r):zoz a0 g1 a2 g3 a4 g5 a6 g7 c8 a9 a10=true∧zmv a0 g1 a2 g3 a4 g5 a6 g7 c8 a9 a10=r.1∧zm1 a0 g1 a2 g3 a4 g5 a6 g7 c8 a9 a10=r.2.1∧znj a0 g1 a2 g3 a4 g5 a6 g7 c8 a9 a10=r.2.2.1∧znm a0 g1 a2 g3 a4 g5 a6 g7 c8 a9 a10=r.2.2.2.1∧zmu a0 g1 a2 g3 a4 g5 a6 g7 c8 a9 a10=r.2.2.2.2.1∧zm3 a0 g1 a2 g3 a4 g5 a6 g7 c8 a9 a10=r.2.2.2.2.2.1∧zmo a0 g1 a2 g3 a4 g5 a6 g7 c8 a9 a10=r.2.2.2.2.2.2.1∧zlv a0 g1 a2 g3 a4 g5 a6 g7 c8 a9 a10=r.2.2.2.2.2.2.2:=of8 h
theorem y6f(h:z5t a0 g1 a2 g3 a4 g5 a6 g7 a8 g9 a10 g11=some e12):zsu a0 g1 a2 g3 a4 g5 a6 g7 a8 g9 a10 g11=true∧zr5 a0 g1 a2 g3 a4 g5 a6 g7 a8 g9 a10 g11=e12:=of1 h
theorem y4b(h:z56 a0 g1 a2 g3=some e4):zrq a0 g1 a2 g3=true∧zpr a0 g1 a2 g3=e4:=of1 h
theorem ybo(h:z9n a0 g1 a2 g3 a4 g5=some e6):y4h a0 g1 a2 g3 a4 g5=true∧y0o a0 g1 a2 g3 a4 g5=e6:=of1 h
theorem zct(h:z0k a0 g1=some c2):z6j a0 g1=true∧z6c a0 g1=c2:=of1 h
theorem zea(h:z0o a0 g1=some c2):z6z a0 g1=true∧z6o a0 g1=c2:=of1 h
theorem z87(h:z67 a0=some a1):z7g a0=true∧z1a a0=a1:=of1 h
theorem zbu(hm:a4=big) (h:z03 a0 c1 g2 a4 c3=some (Sum.inl c5)):z3g a0 c1 g2 c3=true∧z39 a0 c1 g2 c3=true∧z5m a0 c1 g2 c3=c5:=by
 subst hm;exact ol1 h
theorem zby{r:Int×Bool}(hm:a4=big) (h:z03 a0 c1 g2 a4 c3=some (Sum.inr r)):z3g a0 c1 g2 c3=true∧z39 a0 c1 g2 c3=false∧zbg a0 c1 g2 c3=r.1∧zbq a0 c1 g2 c3=r.2:=by
 subst hm;exact or2 h
theorem y9b(h:z7n a0 g1 a2 g3 a4 g5 a6 g7 c8 a9 a10 a11 g12 a13 g14 a15 g16 a17 g18 c19 a20 a21=some e22):zop a0 g1 a2 g3 a4 g5 a6 g7 c8 a9 a10 a11 g12 a13 g14 a15 g16 a17 g18 c19 a20 a21=true∧zlw a0 g1 a2 g3 a4 g5 a6 g7 c8 a9 a10 a11 g12 a13 g14 a15 g16 a17 g18 c19 a20 a21=e22:=of1 h
theorem zfa(h:z0q a0 g1=some c2):z7a a0 g1=true∧z6x a0 g1=c2:=of1 h
theorem y12(h:z9f a0=some a1):ztp a0=true∧z8c a0=a1:=of1 h
theorem y7n{r:Nat×Nat×Bool}(hm:a3=big)(h:z1q a0 a3 a1 a2=some r):z96 a0 a1 a2=true∧z6s a0 a1 a2=r.1∧y6h a0 a1 a2=r.2.1∧y53 a0 a1 a2=r.2.2:=by
 subst hm;exact of3 h
theorem zag(h:z0g a0 g1=some e2):z5j a0 g1=true∧z5g a0 g1=e2:=of1 h
theorem zbx(h:z0i a0 g1=some e2):z6d a0 g1=true∧z5p a0 g1=e2:=of1 h
theorem zd9(h:z0l a0 g1=some e2):z6h a0 g1=true∧z64 a0 g1=e2:=of1 h
theorem ybw(h:zba a0=some a1):y6m a0=true∧ztn a0=a1:=of1 h
theorem y5w(h:z5w a0=some a1):ztz a0=true∧z0y a0=a1:=of1 h
theorem y95(h:z7d a0=some a1):zye a0=true∧z47 a0=a1:=of1 h
theorem y54{r:Unit}(hm:a6=big) (h:z0z c0 g1 a2 a3 a6 a4 c5=some (Sum.inl r)):zgf c0 g1 a2 a3 a4 c5=true∧zee c0 g1 a2 a3 a4 c5=true:=by
 subst hm;exact ol0 h
theorem y4z{r:Nat×Int×Bool}(hm:a6=big) (h:z0z c0 g1 a2 a3 a6 a4 c5=some (Sum.inr r)):zgf c0 g1 a2 a3 a4 c5=true∧zee c0 g1 a2 a3 a4 c5=false∧y3p c0 g1 a2 a3 a4 c5=r.1∧y31 c0 g1 a2 a3 a4 c5=r.2.1∧y32 c0 g1 a2 a3 a4 c5=r.2.2:=by
 subst hm;exact or3 h
theorem zft(h:z1m a0 g1=some e2):z7v a0 g1=true∧z78 a0 g1=e2:=of1 h
theorem y0y(h:z9g a0 g1 a2 g3 a4 g5 a6 g7 c8 a9 a10=some e11):zt1 a0 g1 a2 g3 a4 g5 a6 g7 c8 a9 a10=true∧zqr a0 g1 a2 g3 a4 g5 a6 g7 c8 a9 a10=e11:=of1 h
theorem zr9(h:z4d a0 g1=some e2):zk8 a0 g1=true∧zif a0 g1=e2:=of1 h
theorem y7q(h:z6n a0 g1=some e2):zvg a0 g1=true∧ztx a0 g1=e2:=of1 h
theorem z6t(h:z5s a0=some a1):z4m a0=true∧z1d a0=a1:=of1 h
theorem y3h{r:Nat×Nat×Bool}(h:z2z a0 a1=some r):zis a0 a1=true∧zgy a0 a1=r.1∧zgk a0 a1=r.2.1∧zh2 a0 a1=r.2.2:=of3 h
theorem y42(h:z5b a0 g1 a2 g3 a4 g5 a6 g7 c8 a9 a10 c11=some e12):zr2 a0 g1 a2 g3 a4 g5 a6 g7 c8 a9 a10 c11=true∧zpj a0 g1 a2 g3 a4 g5 a6 g7 c8 a9 a10 c11=e12:=of1 h
theorem zwd(h:z32 a0 g1 a2 g3 a4 g5 a6 g7 c8 a9 a10 c11 a12=some a13):zlb a0 g1 a2 g3 a4 g5 a6 g7 c8 a9 a10 c11 a12=true∧zbm a0 g1 a2 g3 a4 g5 a6 g7 c8 a9 a10 c11 a12=a13:=of1 h
theorem z9y(hm:a5=big) (h:z00 a0 c1 g2 a3 a5 c4=some (Sum.inl c6)):z2i a0 c1 g2 a3 c4=true∧z2h a0 c1 g2 a3 c4=true∧z06 a0 c1 g2 a3 c4=c6:=by
 subst hm;exact ol1 h
theorem z9x{r:Int×Bool}(hm:a5=big) (h:z00 a0 c1 g2 a3 a5 c4=some (Sum.inr r)):z2i a0 c1 g2 a3 c4=true∧z2h a0 c1 g2 a3 c4=false∧z9o a0 c1 g2 a3 c4=r.1∧z9m a0 c1 g2 a3 c4=r.2:=by
 subst hm;exact or2 h
theorem znt{r:Int×Bool}(hm:a4=big)(h:z1f a0 g1 a2 a4 c3=some r):zr3 a0 g1 a2 c3=true∧zm4 a0 g1 a2 c3=r.1∧y07 a0 g1 a2 c3=r.2:=by
 subst hm;exact of2 h
theorem y9i(h:z8f a0 g1 a2 g3 a4 g5 a6 g7 c8 a9 a10 c11 a12 a13 a14=some e15):y0x a0 g1 a2 g3 a4 g5 a6 g7 c8 a9 a10 c11 a12 a13 a14=true∧zy8 a0 g1 a2 g3 a4 g5 a6 g7 c8 a9 a10 c11 a12 a13 a14=e15:=of1 h
theorem zuc{r:Int×Int×Nat×Nat×Nat}(h:z0t a0 g1 a2 g3 a4 g5 a6=some r):zj6 a0 g1 a2 g3 a4 g5 a6=true∧z2f a0 g1 a2 g3 a4 g5 a6=r.1∧z2g a0 g1 a2 g3 a4 g5 a6=r.2.1∧z3j a0 g1 a2 g3 a4 g5 a6=r.2.2.1∧z73 a0 g1 a2 g3 a4 g5 a6=r.2.2.2.1∧zac a0 g1 a2 g3 a4 g5 a6=r.2.2.2.2:=of5 h
theorem y8f{r:Int×Int×Nat×Nat}(h:z37 a0 g1 a2 g3 a4 g5 a6=some r):zwr a0 g1 a2 g3 a4 g5 a6=true∧zak a0 g1 a2 g3 a4 g5 a6=r.1∧zlq a0 g1 a2 g3 a4 g5 a6=r.2.1∧zvc a0 g1 a2 g3 a4 g5 a6=r.2.2.1∧y8n a0 g1 a2 g3 a4 g5 a6=r.2.2.2:=of4 h
theorem zt2{r:Unit}(hm:a5=big) (h:z0p a0 c1 g2 a3 a5 c4=some (Sum.inl r)):z7r a0 c1 g2 a3 c4=true∧z74 a0 c1 g2 a3 c4=true:=by
 subst hm;exact ol0 h
theorem ztu{r:Int×Bool}(hm:a5=big) (h:z0p a0 c1 g2 a3 a5 c4=some (Sum.inr r)):z7r a0 c1 g2 a3 c4=true∧z74 a0 c1 g2 a3 c4=false∧zru a0 c1 g2 a3 c4=r.1∧zry a0 c1 g2 a3 c4=r.2:=by
 subst hm;exact or2 h
theorem zzk(h:z44 a0 g1 a2 g3 a4 g5=some e6):znq a0 g1 a2 g3 a4 g5=true∧zmk a0 g1 a2 g3 a4 g5=e6:=of1 h
theorem zpg(h:z52 a0 g1 a2 g3 a4 g5 a6 g7 a8=some a9):zig a0 g1 a2 g3 a4 g5 a6 g7 a8=true∧z7u a0 g1 a2 g3 a4 g5 a6 g7 a8=a9:=of1 h
theorem y0u(h:z9j a0 g1 a2 g3 a4 g5 a6 g7 a8=some a9):ztr a0 g1 a2 g3 a4 g5 a6 g7 a8=true∧zqg a0 g1 a2 g3 a4 g5 a6 g7 a8=a9:=of1 h
theorem zml{r:Nat×Nat}(h:z2b a0 g1 a2 g3 a4 g5 a6 g7 c8 a9 a10 c11 a12 a13=some r):zfl a0 g1 a2 g3 a4 g5 a6 g7 c8 a9 a10 c11 a12 a13=true∧zed a0 g1 a2 g3 a4 g5 a6 g7 c8 a9 a10 c11 a12 a13=r.1∧zek a0 g1 a2 g3 a4 g5 a6 g7 c8 a9 a10 c11 a12 a13=r.2:=of2 h
theorem y8s(h:z7k a0 g1 a2 g3 a4 g5 a6=some a7):zx5 a0 g1 a2 g3 a4 g5 a6=true∧zm9 a0 g1 a2 g3 a4 g5 a6=a7:=of1 h
theorem y8t(h:z7h a0 g1 a2 g3 a4 g5 a6=some a7):zy9 a0 g1 a2 g3 a4 g5 a6=true∧znk a0 g1 a2 g3 a4 g5 a6=a7:=of1 h
theorem znc{r:Nat×Nat}(h:z2y a0 g1 a2 g3 a4 g5 a6 g7 c8 a9 a10 c11 a12 a13=some r):zfy a0 g1 a2 g3 a4 g5 a6 g7 c8 a9 a10 c11 a12 a13=true∧zdr a0 g1 a2 g3 a4 g5 a6 g7 c8 a9 a10 c11 a12 a13=r.1∧zes a0 g1 a2 g3 a4 g5 a6 g7 c8 a9 a10 c11 a12 a13=r.2:=of2 h
theorem y4t{r:Nat×Nat}(h:z4k a0 g1 a2 g3 a4 g5 a6 g7 c8 a9 a10 c11 a12 a13=some r):zsl a0 g1 a2 g3 a4 g5 a6 g7 c8 a9 a10 c11 a12 a13=true∧ziq a0 g1 a2 g3 a4 g5 a6 g7 c8 a9 a10 c11 a12 a13=r.1∧zim a0 g1 a2 g3 a4 g5 a6 g7 c8 a9 a10 c11 a12 a13=r.2:=of2 h
theorem zw4{r:Unit}(hm:a6=big) (h:z0f a0 c1 g2 a3 a6 a4 c5=some (Sum.inl r)):z91 a0 c1 g2 a3 a4 c5=true∧z85 a0 c1 g2 a3 a4 c5=true:=by
 subst hm;exact ol0 h
theorem zw6{r:Nat×Int×Bool}(hm:a6=big) (h:z0f a0 c1 g2 a3 a6 a4 c5=some (Sum.inr r)):z91 a0 c1 g2 a3 a4 c5=true∧z85 a0 c1 g2 a3 a4 c5=false∧zu9 a0 c1 g2 a3 a4 c5=r.1∧zuz a0 c1 g2 a3 a4 c5=r.2.1∧zul a0 c1 g2 a3 a4 c5=r.2.2:=by
 subst hm;exact or3 h
theorem zpm(h:z53 a0 g1 a2 g3 a4 g5 a6 g7 c8 a9 a10=some e11):zck a0 g1 a2 g3 a4 g5 a6 g7 c8 a9 a10=true∧z7t a0 g1 a2 g3 a4 g5 a6 g7 c8 a9 a10=e11:=of1 h
theorem zvh{r:Nat×Nat×Nat×Nat}(h:z3u a0 g1 a2 g3 a4 g5 a6 g7 c8 a9 a10 c11 a12 a13=some r):zov a0 g1 a2 g3 a4 g5 a6 g7 c8 a9 a10 c11 a12 a13=true∧zn4 a0 g1 a2 g3 a4 g5 a6 g7 c8 a9 a10 c11 a12 a13=r.1∧zm5 a0 g1 a2 g3 a4 g5 a6 g7 c8 a9 a10 c11 a12 a13=r.2.1∧zv9 a0 g1 a2 g3 a4 g5 a6 g7 c8 a9 a10 c11 a12 a13=r.2.2.1∧zv4 a0 g1 a2 g3 a4 g5 a6 g7 c8 a9 a10 c11 a12 a13=r.2.2.2:=of4 h
theorem zx4(h:z2m a0 g1 a2 g3 a4 g5 a6 g7 c8 a9 a10 c11 a12 a13 a14 a15=some a16):zly a0 g1 a2 g3 a4 g5 a6 g7 c8 a9 a10 c11 a12 a13 a14 a15=true∧z7x a0 g1 a2 g3 a4 g5 a6 g7 c8 a9 a10 c11 a12 a13 a14 a15=a16:=of1 h
theorem zve(h:z7o a0 g1 a2 g3 a4 g5 a6 g7 c8 a9 a10 c11 a12 a13 a14=some e15):zo7 a0 g1 a2 g3 a4 g5 a6 g7 c8 a9 a10 c11 a12 a13 a14=true∧zmb a0 g1 a2 g3 a4 g5 a6 g7 c8 a9 a10 c11 a12 a13 a14=e15:=of1 h
theorem y3n(h:z31 a0 g1 a2 g3 a4 g5 a6 g7 c8 a9 a10 c11 a12 a13 a14 a15=some a16):zrb a0 g1 a2 g3 a4 g5 a6 g7 c8 a9 a10 c11 a12 a13 a14 a15=true∧zb4 a0 g1 a2 g3 a4 g5 a6 g7 c8 a9 a10 c11 a12 a13 a14 a15=a16:=of1 h
theorem y6g{r:Nat×Bool}(h:z4h a0 g1 a2 g3 a4 g5 a6 g7 c8 a9 a10 c11 a12 a13 a14 a15=some r):zsi a0 g1 a2 g3 a4 g5 a6 g7 c8 a9 a10 c11 a12 a13 a14 a15=true∧zrc a0 g1 a2 g3 a4 g5 a6 g7 c8 a9 a10 c11 a12 a13 a14 a15=r.1∧zqx a0 g1 a2 g3 a4 g5 a6 g7 c8 a9 a10 c11 a12 a13 a14 a15=r.2:=of2 h
end
end Go.Rf
