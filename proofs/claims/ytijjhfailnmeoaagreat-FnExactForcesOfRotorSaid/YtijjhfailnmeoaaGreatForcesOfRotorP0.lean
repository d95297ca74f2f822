import Derived.Test.YtijjhfailnmeoaaGreatB
set_option linter.unusedVariables false
set_option linter.unusedSimpArgs false
set_option linter.unusedSectionVars false
set_option maxRecDepth 100000
set_option maxHeartbeats 4000000
namespace Go.Rf
open Go
noncomputable section
variable (a0:Nat) (c0:Int) (g0:List Nat) (a1:Nat) (c1:Int) (e1:Bool) (g1:List Nat) (m1:List Bool) (a2:Nat) (c2:Int) (e2:Bool) (g2:List Nat) (a3:Nat) (c3:Int) (g3:List Nat) (m3:List Bool) (a4:Nat) (c4:Int) (g4:List Nat) (a5:Nat) (c5:Int) (g5:List Nat) (a6:Nat) (c6:Int) (g6:List Nat) (a7:Nat) (c7:Int) (g7:List Nat) (a8:Nat) (c8:Int) (a9:Nat) (g9:List Nat) (a10:Nat) (a11:Nat) (c11:Int) (g11:List Nat) (a12:Nat) (c12:Int) (g12:List Nat) (a13:Nat) (a14:Nat) (g14:List Nat) (a15:Nat) (a16:Nat) (g16:List Nat) (a17:Nat) (c17:Int) (c18:Int) (g18:List Nat) (c19:Int) (a20:Nat) (a21:Nat)
abbrev Nt1{A1:Type} (T:{R:Type}→(A1→Option R)→Option R):Prop:=∀ {R R':Type} (o:Option R→Option R'),o none=none→∀ k:A1→Option R,T (fun c1=>o (k c1))=o (T k)
abbrev Nt2{A1 A2:Type} (T:{R:Type}→(A1→A2→Option R)→Option R):Prop:=∀ {R R':Type} (o:Option R→Option R'),o none=none→∀ k:A1→A2→Option R,T (fun c1 c2=>o (k c1 c2))=o (T k)
abbrev Nt3{A1 A2 A3:Type} (T:{R:Type}→(A1→A2→A3→Option R)→Option R):Prop:=∀ {R R':Type} (o:Option R→Option R'),o none=none→∀ k:A1→A2→A3→Option R,T (fun c1 c2 c3=>o (k c1 c2 c3))=o (T k)
abbrev Nt4{A1 A2 A3 A4:Type} (T:{R:Type}→(A1→A2→A3→A4→Option R)→Option R):Prop:=∀ {R R':Type} (o:Option R→Option R'),o none=none→∀ k:A1→A2→A3→A4→Option R,T (fun c1 c2 c3 c4=>o (k c1 c2 c3 c4))=o (T k)
abbrev Nt5{A1 A2 A3 A4 A5:Type} (T:{R:Type}→(A1→A2→A3→A4→A5→Option R)→Option R):Prop:=∀ {R R':Type} (o:Option R→Option R'),o none=none→∀ k:A1→A2→A3→A4→A5→Option R,T (fun c1 c2 c3 c4 c5=>o (k c1 c2 c3 c4 c5))=o (T k)
abbrev Nt6{A1 A2 A3 A4 A5 A6:Type} (T:{R:Type}→(A1→A2→A3→A4→A5→A6→Option R)→Option R):Prop:=∀ {R R':Type} (o:Option R→Option R'),o none=none→∀ k:A1→A2→A3→A4→A5→A6→Option R,T (fun c1 c2 c3 c4 c5 c6=>o (k c1 c2 c3 c4 c5 c6))=o (T k)
abbrev Nt8{A1 A2 A3 A4 A5 A6 A7 A8:Type} (T:{R:Type}→(A1→A2→A3→A4→A5→A6→A7→A8→Option R)→Option R):Prop:=∀ {R R':Type} (o:Option R→Option R'),o none=none→∀ k:A1→A2→A3→A4→A5→A6→A7→A8→Option R,T (fun c1 c2 c3 c4 c5 c6 c7 c8=>o (k c1 c2 c3 c4 c5 c6 c7 c8))=o (T k)
def zfq{R:Type}(k_:Bool→Option R):Option R:=(br (fcmp .neq .f64 a0 a0) (br (fcmp .neq .f64 a0 a0) (k_ (fcmp .neq .f64 a1 a1)) (k_ Bool.false)) (br (fcmp .neq .f64 a1 a1) (br (fcmp .neq .f64 a0 a0) (k_ (fcmp .neq .f64 a1 a1)) (k_ Bool.false)) (br (fcmp .eql .f64 a0 0) (br (fcmp .eql .f64 a1 0) (k_ (beqB (fcmp .gtr .f64 (fop .quo .f64 4607182418800017408 a0) 0) (fcmp .gtr .f64 (fop .quo .f64 4607182418800017408 a1) 0))) (k_ (fcmp .eql .f64 a0 a1))) (k_ (fcmp .eql .f64 a0 a1)))))
def z6p:Option (Bool):=zfq a0 a1 (fun c0_=>some c0_)
theorem zzz:Nt1 (fun {R}=>zfq (R:=R) a0 a1):=by
 intro R R' o h0 k;unfold zfq;repeat (first | apply grd_out h0 | apply br_out | rfl)
def z6r:Bool:=(z6p a0 a1).isSome
def z5r:Bool:=((z6p a0 a1).getD default)
def zko{R:Type}(k_:Bool→Option R):Option R:=(br (leI c1 c0) (k_ (leI c0 c2)) (k_ Bool.false))
def z9b:Option (Bool):=zko c0 c1 c2 (fun c0_=>some c0_)
theorem y53:Nt1 (fun {R}=>zko (R:=R) c0 c1 c2):=by
 intro R R' o h0 k;unfold zko;repeat (first | apply grd_out h0 | apply br_out | rfl)
def z9d:Bool:=(z9b c0 c1 c2).isSome
def z4h:Bool:=((z9b c0 c1 c2).getD default)
def znv{R:Type}(k_:Bool→Option R):Option R:=(k_ (fcmp .eql .f32 (fop .sub .f32 a0 a0) 0))
def z8z:Option (Bool):=znv a0 (fun c0_=>some c0_)
theorem y2a:Nt1 (fun {R}=>znv (R:=R) a0):=by
 intro R R' o h0 k;unfold znv;repeat (first | apply grd_out h0 | apply br_out | rfl)
def z38:Bool:=(z8z a0).isSome
def z2l:Bool:=((z8z a0).getD default)
def znp{R:Type}(k_:Bool→Option R):Option R:=(br (leI c1 c0) (k_ (leI c0 c2)) (k_ Bool.false))
def zae:Option (Bool):=znp c0 c1 c2 (fun c0_=>some c0_)
theorem y6y:Nt1 (fun {R}=>znp (R:=R) c0 c1 c2):=by
 intro R R' o h0 k;unfold znp;repeat (first | apply grd_out h0 | apply br_out | rfl)
def zu6:Bool:=(zae c0 c1 c2).isSome
def zqz:Bool:=((zae c0 c1 c2).getD default)
def ze5{R:Type}(a:List Nat)(q2k:Int)(k_:Int→Option R):Option R:=(br (ltI (subI .i64 q2k (Int.ofNat a0)) 0) (k_ (Int.negSucc 0)) (k_ (subI .i64 q2k (Int.ofNat a0))))
def z5t:Option (Int):=ze5 a0 g1 c2 (fun c0_=>some c0_)
theorem zx7:Nt1 (fun {R}=>ze5 (R:=R) a0 g1 c2):=by
 intro R R' o h0 k;unfold ze5;repeat (first | apply grd_out h0 | apply br_out | rfl)
def zrq:Bool:=(z5t a0 g1 c2).isSome
def zi9:Int:=((z5t a0 g1 c2).getD default)
def zl0{R:Type}(k_:Bool→Option R):Option R:=(k_ (fcmp .eql .f32 (fop .sub .f32 a0 a0) 0))
def z8h:Option (Bool):=zl0 a0 (fun c0_=>some c0_)
theorem y0n:Nt1 (fun {R}=>zl0 (R:=R) a0):=by
 intro R R' o h0 k;unfold zl0;repeat (first | apply grd_out h0 | apply br_out | rfl)
def z1c:Bool:=(z8h a0).isSome
def z16:Bool:=((z8h a0).getD default)
def ze3{R:Type}(a:List Nat)(q2k:Int)(k_:Int→Option R):Option R:=(br (ltI (subI .i64 q2k (Int.ofNat a0)) 0) (k_ (Int.negSucc 0)) (k_ (subI .i64 q2k (Int.ofNat a0))))
def z5m:Option (Int):=ze3 a0 g1 c2 (fun c0_=>some c0_)
theorem zxf:Nt1 (fun {R}=>ze3 (R:=R) a0 g1 c2):=by
 intro R R' o h0 k;unfold ze3;repeat (first | apply grd_out h0 | apply br_out | rfl)
def zdy:Bool:=(z5m a0 g1 c2).isSome
def z1d:Int:=((z5m a0 g1 c2).getD default)
def zl3{R:Type}(q2s q2v q2u:Nat)(k_:Unit→Option R):Option R:=(k_ ())
def zlc:Option (Unit):=zl3 a0 a1 a2 (fun _=>some ())
theorem zza:Nt1 (fun {R}=>zl3 (R:=R) a0 a1 a2):=by
 intro R R' o h0 k;unfold zl3;repeat (first | apply grd_out h0 | apply br_out | rfl)
def ztp:Bool:=(zlc a0 a1 a2).isSome
def zhw{R:Type}(k_:Bool→Option R):Option R:=(br (fcmp .geq .f32 a0 a1) (k_ (fcmp .leq .f32 a0 a2)) (k_ Bool.false))
def z7f:Option (Bool):=zhw a0 a1 a2 (fun c0_=>some c0_)
theorem y26:Nt1 (fun {R}=>zhw (R:=R) a0 a1 a2):=by
 intro R R' o h0 k;unfold zhw;repeat (first | apply grd_out h0 | apply br_out | rfl)
def zno:Bool:=(z7f a0 a1 a2).isSome
def zls:Bool:=((z7f a0 a1 a2).getD default)
def z8t{R:Type}(q06:Nat)(q0b:List Nat)(q08:Nat)(q0c:List Nat)(q09:Nat)(q0d:List Nat)(q0f:Nat)(q0i:List Nat)(q0k:Int)(q0o q0n:Nat)(i:Int)(k_:Nat→Option R):Option R:=(grd (okIx i q0f) (grd (okIx i q0f) (k_ (fop .quo .f32 (fop .mul .f32 (fOI .f32 q0k) (gF q0i (Nat.succ (ixO 0 i 3)))) (fop .mul .f32 1086918619 (gF q0i (ixO 0 i 3)))))))
def z3t:Option (Nat):=z8t a0 g1 a2 g3 a4 g5 a6 g7 c8 a9 a10 c11 (fun c0_=>some c0_)
theorem zsx:Nt1 (fun {R}=>z8t (R:=R) a0 g1 a2 g3 a4 g5 a6 g7 c8 a9 a10 c11):=by
 intro R R' o h0 k;unfold z8t;repeat (first | apply grd_out h0 | apply br_out | rfl)
def zmc:Bool:=(z3t a0 g1 a2 g3 a4 g5 a6 g7 c8 a9 a10 c11).isSome
def zde:Nat:=((z3t a0 g1 a2 g3 a4 g5 a6 g7 c8 a9 a10 c11).getD default)
def zkt{R:Type}(q06:Nat)(q0b:List Nat)(q08:Nat)(q0c:List Nat)(q09:Nat)(q0d:List Nat)(q0f:Nat)(q0i:List Nat)(q0k:Int)(q0o q0n:Nat)(i:Int)(q3f:Nat)(k_:Nat→Option R):Option R:=(grd (okIx i q0f) (k_ (fop .quo .f32 (fop .quo .f32 (fop .mul .f32 (fOI .f32 q0k) (fop .sub .f32 q0n (gF q0i (ixO 0 i 3)))) (fop .mul .f32 1073741824 (gF q0i (ixO 0 i 3)))) (fop .add .f32 (fop .quo .f32 (fop .mul .f32 (fOI .f32 q0k) (fop .sub .f32 q0n (gF q0i (ixO 0 i 3)))) (fop .mul .f32 1073741824 (gF q0i (ixO 0 i 3)))) q3f))))
def z99:Option (Nat):=zkt a0 g1 a2 g3 a4 g5 a6 g7 c8 a9 a10 c11 a12 (fun c0_=>some c0_)
theorem y55:Nt1 (fun {R}=>zkt (R:=R) a0 g1 a2 g3 a4 g5 a6 g7 c8 a9 a10 c11 a12):=by
 intro R R' o h0 k;unfold zkt;repeat (first | apply grd_out h0 | apply br_out | rfl)
def y0y:Bool:=(z99 a0 g1 a2 g3 a4 g5 a6 g7 c8 a9 a10 c11 a12).isSome
def zpr:Nat:=((z99 a0 g1 a2 g3 a4 g5 a6 g7 c8 a9 a10 c11 a12).getD default)
def zcr{R:Type}(q06:Nat)(q0b:List Nat)(q08:Nat)(q0c:List Nat)(q09:Nat)(q0d:List Nat)(q0f:Nat)(q0i:List Nat)(q0k:Int)(q0o q0n:Nat)(i:Int)(k_:Nat→Option R):Option R:=(grd (okIx i q0f) (k_ (fop .quo .f32 (fop .mul .f32 (fOI .f32 q0k) (gF q0i (Nat.succ (ixO 0 i 3)))) (fop .mul .f32 1086918619 (gF q0i (ixO 0 i 3))))))
def z4z:Option (Nat):=zcr a0 g1 a2 g3 a4 g5 a6 g7 c8 a9 a10 c11 (fun c0_=>some c0_)
theorem zw9:Nt1 (fun {R}=>zcr (R:=R) a0 g1 a2 g3 a4 g5 a6 g7 c8 a9 a10 c11):=by
 intro R R' o h0 k;unfold zcr;repeat (first | apply grd_out h0 | apply br_out | rfl)
def zqo:Bool:=(z4z a0 g1 a2 g3 a4 g5 a6 g7 c8 a9 a10 c11).isSome
def zh2:Nat:=((z4z a0 g1 a2 g3 a4 g5 a6 g7 c8 a9 a10 c11).getD default)
def zsi{R:Type}  (k_:Nat→Option R):Option R:=(grd (okU .f64 9221120237041090561) (k_ (cnI .f64 9221120237041090561)))
def zga  : Option (Nat):=zsi (fun c0_=>some c0_)
theorem y8y  : Nt1 (fun {R}=>zsi (R:=R)):=by
 intro R R' o h0 k;unfold zsi;repeat (first | apply grd_out h0 | apply br_out | rfl)
def zzn  : Bool:=(zga).isSome
def zqg  : Nat:=((zga).getD default)
def zt8{R:Type}(k_:Nat→Option R):Option R:=(k_ (fop .add .f32 a0 (fop .mul .f32 a2 (fop .sub .f32 a1 a0))))
def zf3:Option (Nat):=zt8 a0 a1 a2 (fun c0_=>some c0_)
theorem y6r:Nt1 (fun {R}=>zt8 (R:=R) a0 a1 a2):=by
 intro R R' o h0 k;unfold zt8;repeat (first | apply grd_out h0 | apply br_out | rfl)
def zts:Bool:=(zf3 a0 a1 a2).isSome
def zrg:Nat:=((zf3 a0 a1 a2).getD default)
def zgm{R:Type}(k_:Nat→Option R):Option R:=(grd (fcvB .f64 .f32 a0) (k_ (fcvV .f64 .f32 a0)))
def z6l:Option (Nat):=zgm a0 (fun c0_=>some c0_)
theorem zzy:Nt1 (fun {R}=>zgm (R:=R) a0):=by
 intro R R' o h0 k;unfold zgm;repeat (first | apply grd_out h0 | apply br_out | rfl)
def zlo:Bool:=(z6l a0).isSome
def ze6:Nat:=((z6l a0).getD default)
def zsp{R:Type}(k_:Nat→Option R):Option R:=(grd (bnot (nanQ .f64 a0)) (grd (okU .f64 (bitI .andNot .u64 (Int.ofNat a0) 9223372036854775808)) (k_ (cnI .f64 (bitI .andNot .u64 (Int.ofNat a0) 9223372036854775808)))))
def zgb:Option (Nat):=zsp a0 (fun c0_=>some c0_)
theorem y8r:Nt1 (fun {R}=>zsp (R:=R) a0):=by
 intro R R' o h0 k;unfold zsp;repeat (first | apply grd_out h0 | apply br_out | rfl)
def y8a:Bool:=(zgb a0).isSome
def y60:Nat:=((zgb a0).getD default)
def ziv{R:Type}(k_:Nat→Bool→Option R):Option R:=(grd (z38 a0) (br (bnot (z2l a0)) (k_ 0 Bool.false) (k_ a0 Bool.true)))
def z74:Option (Nat×Bool):=ziv a0 (fun c0_ c1_=>some (c0_,c1_))
theorem y2n:Nt2 (fun {R}=>ziv (R:=R) a0):=by
 intro R R' o h0 k;unfold ziv;repeat (first | apply grd_out h0 | apply br_out | rfl)
def zyf:Bool:=(z74 a0).isSome
def zvm:Nat:=((z74 a0).getD default).1
def zvu:Bool:=((z74 a0).getD default).2
def zgr{R:Type}(k_:Int→Option R):Option R:=(grd (zdy a0 (pF g1 0 (muN a0 1)) c6) (br (ltI (z1d a0 (pF g1 0 (muN a0 1)) c6) 0) (k_ (Int.negSucc 0)) (grd (zdy a2 (pF g3 0 (muN a2 1)) (z1d a0 (pF g1 0 (muN a0 1)) c6)) (br (ltI (z1d a2 (pF g3 0 (muN a2 1)) (z1d a0 (pF g1 0 (muN a0 1)) c6)) 0) (k_ (Int.negSucc 0)) (grd (zdy a4 (pF g5 0 (muN a4 1)) (z1d a2 (pF g3 0 (muN a2 1)) (z1d a0 (pF g1 0 (muN a0 1)) c6))) (br (ltI (z1d a4 (pF g5 0 (muN a4 1)) (z1d a2 (pF g3 0 (muN a2 1)) (z1d a0 (pF g1 0 (muN a0 1)) c6))) 0) (k_ (Int.negSucc 0)) (k_ (z1d a4 (pF g5 0 (muN a4 1)) (z1d a2 (pF g3 0 (muN a2 1)) (z1d a0 (pF g1 0 (muN a0 1)) c6))))))))))
def z6m:Option (Int):=zgr a0 g1 a2 g3 a4 g5 c6 (fun c0_=>some c0_)
theorem zz1:Nt1 (fun {R}=>zgr (R:=R) a0 g1 a2 g3 a4 g5 c6):=by
 intro R R' o h0 k;unfold zgr;repeat (first | apply grd_out h0 | apply br_out | rfl)
def zum:Bool:=(z6m a0 g1 a2 g3 a4 g5 c6).isSome
def z9f:Int:=((z6m a0 g1 a2 g3 a4 g5 c6).getD default)
def zhr{R:Type}(k_:Bool→Option R):Option R:=(grd (z1c a0) (br (z16 a0) (k_ (fcmp .gtr .f32 a0 0)) (k_ Bool.false)))
def z7c:Option (Bool):=zhr a0 (fun c0_=>some c0_)
theorem y1o:Nt1 (fun {R}=>zhr (R:=R) a0):=by
 intro R R' o h0 k;unfold zhr;repeat (first | apply grd_out h0 | apply br_out | rfl)
def zbx:Bool:=(z7c a0).isSome
def zas:Bool:=((z7c a0).getD default)
def zj1{R:Type}(k_:Bool→Option R):Option R:=(grd (z38 a0) (br (z2l a0) (k_ (fcmp .geq .f32 a0 0)) (k_ Bool.false)))
def z85:Option (Bool):=zj1 a0 (fun c0_=>some c0_)
theorem y3t:Nt1 (fun {R}=>zj1 (R:=R) a0):=by
 intro R R' o h0 k;unfold zj1;repeat (first | apply grd_out h0 | apply br_out | rfl)
def zqd:Bool:=(z85 a0).isSome
def znm:Bool:=((z85 a0).getD default)
def za0{R:Type}(k_:Bool→Option R):Option R:=(grd (z38 a0) (br (bnot (z2l a0)) (k_ Bool.true) (k_ (fcmp .leq .f32 a0 0))))
def z4c:Option (Bool):=za0 a0 (fun c0_=>some c0_)
theorem ztd:Nt1 (fun {R}=>za0 (R:=R) a0):=by
 intro R R' o h0 k;unfold za0;repeat (first | apply grd_out h0 | apply br_out | rfl)
def znu:Bool:=(z4c a0).isSome
def zme:Bool:=((z4c a0).getD default)
def zgo{R:Type}(k_:Bool→Option R):Option R:=(grd (z6r (fcvV .f32 .f64 a0) (fcvV .f32 .f64 a3)) (br (bnot (z5r (fcvV .f32 .f64 a0) (fcvV .f32 .f64 a3))) (k_ Bool.false) (grd (z6r (fcvV .f32 .f64 a1) (fcvV .f32 .f64 a4)) (br (bnot (z5r (fcvV .f32 .f64 a1) (fcvV .f32 .f64 a4))) (k_ Bool.false) (grd (z6r (fcvV .f32 .f64 a2) (fcvV .f32 .f64 a5)) (br (bnot (z5r (fcvV .f32 .f64 a2) (fcvV .f32 .f64 a5))) (k_ Bool.false) (k_ Bool.true)))))))
def z6q:Option (Bool):=zgo a0 a1 a2 a3 a4 a5 (fun c0_=>some c0_)
theorem zz8:Nt1 (fun {R}=>zgo (R:=R) a0 a1 a2 a3 a4 a5):=by
 intro R R' o h0 k;unfold zgo;repeat (first | apply grd_out h0 | apply br_out | rfl)
def zuc:Bool:=(z6q a0 a1 a2 a3 a4 a5).isSome
def zs3:Bool:=((z6q a0 a1 a2 a3 a4 a5).getD default)
def zhy{R:Type}(k_:Bool→Option R):Option R:=(grd (z1c a0) (br (z16 a0) (k_ (fcmp .geq .f32 a0 0)) (k_ Bool.false)))
def z7h:Option (Bool):=zhy a0 (fun c0_=>some c0_)
theorem y2e:Nt1 (fun {R}=>zhy (R:=R) a0):=by
 intro R R' o h0 k;unfold zhy;repeat (first | apply grd_out h0 | apply br_out | rfl)
def z8y:Bool:=(z7h a0).isSome
def z86:Bool:=((z7h a0).getD default)
def zhm{R:Type}(q06:Nat)(q0b:List Nat)(q08:Nat)(q0c:List Nat)(q09:Nat)(q0d:List Nat)(q0f:Nat)(q0i:List Nat)(q0k:Int)(q0o q0n:Nat)(i:Int)(q0m:Nat)(k_:Bool→Option R):Option R:=(grd (okIx i q0f) (grd (z1c (fop .sub .f32 (fop .sub .f32 981668463 (gF q0i (Nat.succ (Nat.succ (ixO 0 i 3))))) q0m)) (br (z16 (fop .sub .f32 (fop .sub .f32 981668463 (gF q0i (Nat.succ (Nat.succ (ixO 0 i 3))))) q0m)) (grd (okIx i q0f) (grd (z1c (fop .sub .f32 (fop .sub .f32 1048508891 (gF q0i (Nat.succ (Nat.succ (ixO 0 i 3))))) q0m)) (k_ (z16 (fop .sub .f32 (fop .sub .f32 1048508891 (gF q0i (Nat.succ (Nat.succ (ixO 0 i 3))))) q0m))))) (k_ Bool.false))))
def z7e:Option (Bool):=zhm a0 g1 a2 g3 a4 g5 a6 g7 c8 a9 a10 c11 a12 (fun c0_=>some c0_)
theorem y1e:Nt1 (fun {R}=>zhm (R:=R) a0 g1 a2 g3 a4 g5 a6 g7 c8 a9 a10 c11 a12):=by
 intro R R' o h0 k;unfold zhm;repeat (first | apply grd_out h0 | apply br_out | rfl)
def zvx:Bool:=(z7e a0 g1 a2 g3 a4 g5 a6 g7 c8 a9 a10 c11 a12).isSome
def ztt:Bool:=((z7e a0 g1 a2 g3 a4 g5 a6 g7 c8 a9 a10 c11 a12).getD default)
def zku{R:Type}(k_:Nat→Nat→Bool→Option R):Option R:=(grd (z1c a0) (br (bnot (z16 a0)) (k_ 0 0 Bool.false) (grd (z1c a1) (br (bnot (z16 a1)) (k_ 0 0 Bool.false) (k_ a0 a1 Bool.true)))))
def z6d:Option (Nat×Nat×Bool):=zku a0 a1 (fun c0_ c1_ c2_=>some (c0_,c1_,c2_))
theorem y4v:Nt3 (fun {R}=>zku (R:=R) a0 a1):=by
 intro R R' o h0 k;unfold zku;repeat (first | apply grd_out h0 | apply br_out | rfl)
def zqx:Bool:=(z6d a0 a1).isSome
def zio:Nat:=((z6d a0 a1).getD default).1
def zj2:Nat:=((z6d a0 a1).getD default).2.1
def zj3:Bool:=((z6d a0 a1).getD default).2.2
def zcc{R:Type}(k_:Bool→Option R):Option R:=(grd (z38 a0) (k_ (bnot (z2l a0))))
def z51:Option (Bool):=zcc a0 (fun c0_=>some c0_)
theorem zx1:Nt1 (fun {R}=>zcc (R:=R) a0):=by
 intro R R' o h0 k;unfold zcc;repeat (first | apply grd_out h0 | apply br_out | rfl)
def zqv:Bool:=(z51 a0).isSome
def zp3:Bool:=((z51 a0).getD default)
def z8i{R:Type}(q06:Nat)(q0b:List Nat)(q08:Nat)(q0c:List Nat)(q09:Nat)(q0d:List Nat)(q0f:Nat)(q0i:List Nat)(q0k:Int)(q0o q0n:Nat)(i:Int)(k_:Bool→Option R):Option R:=(grd (z9d i 0 (subI .i64 (Int.ofNat q0f) 1)) (k_ (z4h i 0 (subI .i64 (Int.ofNat q0f) 1))))
def z3g:Option (Bool):=z8i a0 g1 a2 g3 a4 g5 a6 g7 c8 a9 a10 c11 (fun c0_=>some c0_)
theorem zri:Nt1 (fun {R}=>z8i (R:=R) a0 g1 a2 g3 a4 g5 a6 g7 c8 a9 a10 c11):=by
 intro R R' o h0 k;unfold z8i;repeat (first | apply grd_out h0 | apply br_out | rfl)
def zkl:Bool:=(z3g a0 g1 a2 g3 a4 g5 a6 g7 c8 a9 a10 c11).isSome
def zj7:Bool:=((z3g a0 g1 a2 g3 a4 g5 a6 g7 c8 a9 a10 c11).getD default)
def zkq{R:Type}(k_:Bool→Option R):Option R:=(grd (zno a0 981668463 1048508891) (k_ (zls a0 981668463 1048508891)))
def z9a:Option (Bool):=zkq a0 (fun c0_=>some c0_)
theorem y5u:Nt1 (fun {R}=>zkq (R:=R) a0):=by
 intro R R' o h0 k;unfold zkq;repeat (first | apply grd_out h0 | apply br_out | rfl)
def y13:Bool:=(z9a a0).isSome
def zxh:Bool:=((z9a a0).getD default)
def zkr{R:Type}(k_:Bool→Option R):Option R:=(grd (y8a a0) (k_ (fcmp .geq .f64 (y60 a0) 4841369599423283200)))
def z9e:Option (Bool):=zkr a0 (fun c0_=>some c0_)
theorem y5n:Nt1 (fun {R}=>zkr (R:=R) a0):=by
 intro R R' o h0 k;unfold zkr;repeat (first | apply grd_out h0 | apply br_out | rfl)
def y15:Bool:=(z9e a0).isSome
def zyc:Bool:=((z9e a0).getD default)
def z1v{R:Type}(kn_:Int→Int→Option R)(k0_:Unit→Option R)(k1_:Int→Int→Bool→Option R):Option R:=(br (ltI c3 (Int.ofNat a0)) (grd (okIx c3 a0) (br (fcmp .neq .f32 (gF g1 (ixO 0 c3 1)) (fOI .f32 c2)) (k0_ ()) (kn_ (addI .i64 c2 1) (addI .i64 c3 1)))) (k1_ c2 c3 (ltI c3 (Int.ofNat a0))))
theorem zrb{R R':Type}(o:Option R→Option R')(h0:o none=none)(kn_:Int→Int→Option R)(k0_:Unit→Option R)(k1_:Int→Int→Bool→Option R):z1v a0 g1 c2 c3 (fun k' i'=>o (kn_ k' i')) (fun _=>o (k0_ ())) (fun c0_ c1_ c2_=>o (k1_ c0_ c1_ c2_))=o (z1v a0 g1 c2 c3 kn_ k0_ k1_):=by
 unfold z1v
 repeat (first | apply grd_out h0 | apply br_out | rfl)
def z0k(an:Nat)(b0:List Nat):Nat→Int→Int→Option ((Unit)⊕(Int×Int×Bool))
 | 0,_,_=>none
 | n+1,k,i=>z1v an b0  k i  (fun k' i'=>z0k an b0 n k' i') (fun _=>some (Sum.inl ())) (fun c0_ c1_ c2_=>some (Sum.inr (c0_,c1_,c2_)))
theorem zff:z0k a0 g1 (a2+1) c3 c4=z1v a0 g1  c3 c4  (fun k' i'=>z0k a0 g1 a2 k' i') (fun _=>some (Sum.inl ())) (fun c0_ c1_ c2_=>some (Sum.inr (c0_,c1_,c2_))):=rfl
def zkd:Bool:=(z0k a0 g1 big c2 c3).isSome
def zj6:Bool:=oL (z0k a0 g1 big c2 c3)
def zhx:Int:=((tR (z0k a0 g1 big c2 c3)).getD default).1
def zsl:Int:=((tR (z0k a0 g1 big c2 c3)).getD default).2.1
def zsr:Bool:=((tR (z0k a0 g1 big c2 c3)).getD default).2.2
def z2g{R:Type} (kn_:Int→(List Nat)→Option R) (k0_:Int→Bool→(List Nat)→Option R):Option R:=(br (ltI c3 (Int.ofNat a0)) (grd (okIx c3 a0) (grd (okIx c3 a1) (kn_ (addI .i64 c3 1) (sF g4 (ixO 0 c3 1) (gF g2 (ixO 0 c3 1)))))) (k0_ c3 (ltI c3 (Int.ofNat a0)) g4))
theorem zth{R R':Type}(o:Option R→Option R')(h0:o none=none) (kn_:Int→(List Nat)→Option R) (k0_:Int→Bool→(List Nat)→Option R):z2g a0 a1 g2 c3 g4 (fun i' b1'=>o (kn_ i' b1')) (fun c0_ c1_ c2_=>o (k0_ c0_ c1_ c2_))=o (z2g a0 a1 g2 c3 g4 kn_ k0_):=by
 unfold z2g
 repeat (first | apply grd_out h0 | apply br_out | rfl)
def z19(an q26:Nat)(b0:List Nat):Nat→Int→(List Nat)→Option ((Int×Bool×(List Nat)))
 | 0,_,_=>none
 | n+1,i,b1=>z2g an q26 b0  i b1  (fun i' b1'=>z19 an q26 b0 n i' b1') (fun c0_ c1_ c2_=>some (c0_,c1_,c2_))
theorem zho:z19 a0 a1 g2 (a3+1) c4 g5=z2g a0 a1 g2  c4 g5  (fun i' b1'=>z19 a0 a1 g2 a3 i' b1') (fun c0_ c1_ c2_=>some (c0_,c1_,c2_)):=rfl
def zgn:Bool:=(z19 a0 a1 g2 big c3 g4).isSome
def zv5:Int:=((z19 a0 a1 g2 big c3 g4).getD default).1
def zv7:Bool:=((z19 a0 a1 g2 big c3 g4).getD default).2.1
def zbn:List Nat:=((z19 a0 a1 g2 big c3 g4).getD default).2.2
def z14{R:Type}(kn_:Int→Option R)(k0_:Int→Option R)(k1_:Int→Bool→Option R):Option R:=(br (ltI c4 c2) (grd (okIx c4 a0) (br (beqB e1 (gB m3 (ixO 0 c4 1))) (k0_ c4) (kn_ (addI .i64 c4 1)))) (k1_ c4 (ltI c4 c2)))
theorem zl8{R R':Type}(o:Option R→Option R')(h0:o none=none)(kn_:Int→Option R)(k0_:Int→Option R)(k1_:Int→Bool→Option R):z14 a0 e1 c2 m3 c4 (fun t8'=>o (kn_ t8')) (fun c0_=>o (k0_ c0_)) (fun c0_ c1_=>o (k1_ c0_ c1_))=o (z14 a0 e1 c2 m3 c4 kn_ k0_ k1_):=by
 unfold z14
 repeat (first | apply grd_out h0 | apply br_out | rfl)
def z0a(sn:Nat)(v:Bool)(t7:Int)(b0:List Bool):Nat→Int→Option ((Int)⊕(Int×Bool))
 | 0,_=>none
 | n+1,t8=>z14 sn v t7 b0  t8  (fun t8'=>z0a sn v t7 b0 n t8') (fun c0_=>some (Sum.inl c0_)) (fun c0_ c1_=>some (Sum.inr (c0_,c1_)))
theorem za4:z0a a0 e1 c2 m3 (a4+1) c5=z14 a0 e1 c2 m3  c5  (fun t8'=>z0a a0 e1 c2 m3 a4 t8') (fun c0_=>some (Sum.inl c0_)) (fun c0_ c1_=>some (Sum.inr (c0_,c1_))):=rfl
def z88:Bool:=(z0a a0 e1 c2 m3 big c4).isSome
def z7t:Bool:=oL (z0a a0 e1 c2 m3 big c4)
def zbd:Int:=((tL (z0a a0 e1 c2 m3 big c4)).getD default)
def zmy:Int:=((tR (z0a a0 e1 c2 m3 big c4)).getD default).1
def zmx:Bool:=((tR (z0a a0 e1 c2 m3 big c4)).getD default).2
def ziz{R:Type}(q1u:Int)(q24 q25:Nat)(q2k:Int)(k_:Int→Option R):Option R:=(grd (zum a0 (pF g1 0 (muN a0 1)) a2 (pF g3 0 (muN a2 1)) a4 (pF g5 0 (muN a4 1)) q2k) (br (ltI (z9f a0 (pF g1 0 (muN a0 1)) a2 (pF g3 0 (muN a2 1)) a4 (pF g5 0 (muN a4 1)) q2k) 0) (k_ (Int.negSucc 0)) (grd (zrq a6 (pF g7 0 (muN a6 3)) (z9f a0 (pF g1 0 (muN a0 1)) a2 (pF g3 0 (muN a2 1)) a4 (pF g5 0 (muN a4 1)) q2k)) (br (ltI (zi9 a6 (pF g7 0 (muN a6 3)) (z9f a0 (pF g1 0 (muN a0 1)) a2 (pF g3 0 (muN a2 1)) a4 (pF g5 0 (muN a4 1)) q2k)) 0) (k_ (Int.negSucc 0)) (k_ (zi9 a6 (pF g7 0 (muN a6 3)) (z9f a0 (pF g1 0 (muN a0 1)) a2 (pF g3 0 (muN a2 1)) a4 (pF g5 0 (muN a4 1)) q2k)))))))
def z8g:Option (Int):=ziz a0 g1 a2 g3 a4 g5 a6 g7 c8 a9 a10 c11 (fun c0_=>some c0_)
theorem y2l:Nt1 (fun {R}=>ziz (R:=R) a0 g1 a2 g3 a4 g5 a6 g7 c8 a9 a10 c11):=by
 intro R R' o h0 k;unfold ziz;repeat (first | apply grd_out h0 | apply br_out | rfl)
def zq9:Bool:=(z8g a0 g1 a2 g3 a4 g5 a6 g7 c8 a9 a10 c11).isSome
def zn2:Int:=((z8g a0 g1 a2 g3 a4 g5 a6 g7 c8 a9 a10 c11).getD default)
def zav{R:Type}(k_:Int→Option R):Option R:=(grd (zkd a0 g1 c2 0) (br (zj6 a0 g1 c2 0) (k_ (Int.negSucc 0)) (k_ (zhx a0 g1 c2 0))))
def z4l:Option (Int):=zav a0 g1 c2 (fun c0_=>some c0_)
theorem zvc:Nt1 (fun {R}=>zav (R:=R) a0 g1 c2):=by
 intro R R' o h0 c2;unfold zav;repeat (first | apply grd_out h0 | apply br_out | rfl)
def zhc:Bool:=(z4l a0 g1 c2).isSome
def zg5:Int:=((z4l a0 g1 c2).getD default)
def ze9{R:Type} (k_:Nat→(List Nat)→Option R):Option R:=(grd (okMk (Int.ofNat a0) (Int.ofNat a0) 4) (grd (zgn a0 (toN (Int.ofNat a0)) g1 0 (rF (muN (toN (Int.ofNat a0)) 1))) (k_ (toN (Int.ofNat a0)) (zbn a0 (toN (Int.ofNat a0)) g1 0 (rF (muN (toN (Int.ofNat a0)) 1))))))
def z4j:Option (Nat×(List Nat)):=ze9 a0 g1 (fun c0_ c1_=>some (c0_,c1_))
theorem zx8:Nt2 (fun {R}=>ze9 (R:=R) a0 g1):=by
 intro R R' o h0 k;unfold ze9;repeat (first | apply grd_out h0 | apply br_out | rfl)
def zed:Bool:=(z4j a0 g1).isSome
def zbw:Nat:=((z4j a0 g1).getD default).1
def zc8:List Nat:=((z4j a0 g1).getD default).2
def z76{R:Type}(k_:Int→Option R):Option R:=(grd (z88 a0 e2 (Int.ofNat a0) m1 0) (br (z7t a0 e2 (Int.ofNat a0) m1 0) (k_ (zbd a0 e2 (Int.ofNat a0) m1 0)) (k_ (Int.negSucc 0))))
def z2h:Option (Int):=z76 a0 m1 e2 (fun c0_=>some c0_)
theorem zow:Nt1 (fun {R}=>z76 (R:=R) a0 m1 e2):=by
 intro R R' o h0 k;unfold z76;repeat (first | apply grd_out h0 | apply br_out | rfl)
def zht:Bool:=(z2h a0 m1 e2).isSome
def zgt:Int:=((z2h a0 m1 e2).getD default)
def zec{R:Type}(k_:Bool→Option R):Option R:=(grd (zqd a0) (k_ (bnot (znm a0))))
def z5v:Option (Bool):=zec a0 (fun c0_=>some c0_)
theorem zyq:Nt1 (fun {R}=>zec (R:=R) a0):=by
 intro R R' o h0 k;unfold zec;repeat (first | apply grd_out h0 | apply br_out | rfl)
def zsf:Bool:=(z5v a0).isSome
def zql:Bool:=((z5v a0).getD default)
def zo1{R:Type}(k_:Nat→Option R):Option R:=(grd (bnot (nanQ .f64 a0)) (k_ (fint Ieee.Toward.zero a0)))
def zao:Option (Nat):=zo1 a0 (fun c0_=>some c0_)
theorem y71:Nt1 (fun {R}=>zo1 (R:=R) a0):=by
 intro R R' o h0 k;unfold zo1;repeat (first | apply grd_out h0 | apply br_out | rfl)
def y2p:Bool:=(zao a0).isSome
def zgx:Nat:=((zao a0).getD default)
def z2e{R:Type}(kn_:Int→Option R)(k0_:Unit→Option R)(k1_:Int→Bool→Option R):Option R:=(br (ltI c4 (Int.ofNat a0)) (grd (okIx c4 a0) (grd (okIx c4 a1) (grd (z6r (fcvV .f32 .f64 (gF g2 (ixO 0 c4 1))) (fcvV .f32 .f64 (gF g3 (ixO 0 c4 1)))) (br (bnot (z5r (fcvV .f32 .f64 (gF g2 (ixO 0 c4 1))) (fcvV .f32 .f64 (gF g3 (ixO 0 c4 1))))) (k0_ ()) (kn_ (addI .i64 c4 1)))))) (k1_ c4 (ltI c4 (Int.ofNat a0))))
theorem zt3{R R':Type}(o:Option R→Option R')(h0:o none=none)(kn_:Int→Option R)(k0_:Unit→Option R)(k1_:Int→Bool→Option R):z2e a0 a1 g2 g3 c4 (fun i'=>o (kn_ i')) (fun _=>o (k0_ ())) (fun c0_ c1_=>o (k1_ c0_ c1_))=o (z2e a0 a1 g2 g3 c4 kn_ k0_ k1_):=by
 unfold z2e
 repeat (first | apply grd_out h0 | apply br_out | rfl)
def z1a(an bn:Nat)(b0 b1:List Nat):Nat→Int→Option ((Unit)⊕(Int×Bool))
 | 0,_=>none
 | n+1,i=>z2e an bn b0 b1  i  (fun i'=>z1a an bn b0 b1 n i') (fun _=>some (Sum.inl ())) (fun c0_ c1_=>some (Sum.inr (c0_,c1_)))
theorem zhq:z1a a0 a1 g2 g3 (a4+1) c5=z2e a0 a1 g2 g3  c5  (fun i'=>z1a a0 a1 g2 g3 a4 i') (fun _=>some (Sum.inl ())) (fun c0_ c1_=>some (Sum.inr (c0_,c1_))):=rfl
def zob:Bool:=(z1a a0 a1 g2 g3 big c4).isSome
def zmf:Bool:=oL (z1a a0 a1 g2 g3 big c4)
def zuu:Int:=((tR (z1a a0 a1 g2 g3 big c4)).getD default).1
def zvh:Bool:=((tR (z1a a0 a1 g2 g3 big c4)).getD default).2
def z2c{R:Type} (kn_:Int→(List Nat)→Option R) (k0_:Int→Bool→(List Nat)→Option R):Option R:=(br (ltI c3 (Int.ofNat a0)) (grd (okIx c3 a0) (grd (ztp (gF g2 (ixO 0 c3 3)) (gF g2 (Nat.succ (ixO 0 c3 3))) (gF g2 (Nat.succ (Nat.succ (ixO 0 c3 3))))) (grd (okIx c3 a1) (kn_ (addI .i64 c3 1) (sF (sF (sF g4 (ixO 0 c3 3) (gF g2 (ixO 0 c3 3))) (Nat.succ (ixO 0 c3 3)) (gF g2 (Nat.succ (ixO 0 c3 3)))) (Nat.succ (Nat.succ (ixO 0 c3 3))) (gF g2 (Nat.succ (Nat.succ (ixO 0 c3 3))))))))) (k0_ c3 (ltI c3 (Int.ofNat a0)) g4))
theorem zul{R R':Type}(o:Option R→Option R')(h0:o none=none) (kn_:Int→(List Nat)→Option R) (k0_:Int→Bool→(List Nat)→Option R):z2c a0 a1 g2 c3 g4 (fun i' b1'=>o (kn_ i' b1')) (fun c0_ c1_ c2_=>o (k0_ c0_ c1_ c2_))=o (z2c a0 a1 g2 c3 g4 kn_ k0_):=by
 unfold z2c
 repeat (first | apply grd_out h0 | apply br_out | rfl)
def z0y(an q26:Nat)(b0:List Nat):Nat→Int→(List Nat)→Option ((Int×Bool×(List Nat)))
 | 0,_,_=>none
 | n+1,i,b1=>z2c an q26 b0  i b1  (fun i' b1'=>z0y an q26 b0 n i' b1') (fun c0_ c1_ c2_=>some (c0_,c1_,c2_))
theorem zhu:z0y a0 a1 g2 (a3+1) c4 g5=z2c a0 a1 g2  c4 g5  (fun i' b1'=>z0y a0 a1 g2 a3 i' b1') (fun c0_ c1_ c2_=>some (c0_,c1_,c2_)):=rfl
def zfp:Bool:=(z0y a0 a1 g2 big c3 g4).isSome
def zux:Int:=((z0y a0 a1 g2 big c3 g4).getD default).1
def zva:Bool:=((z0y a0 a1 g2 big c3 g4).getD default).2.1
def zbq:List Nat:=((z0y a0 a1 g2 big c3 g4).getD default).2.2
def z1u{R:Type}(kn_:Nat→Int→Option R)(k0_:Nat→Int→Bool→Option R):Option R:=(br (leI 1 c2) (kn_ (fop .sub .f64 4607182418800017408 (fop .quo .f64 (fop .mul .f64 a0 a1) (fOI .f64 (mulI .i64 (mulI .i64 2 c2) (addI .i64 (mulI .i64 2 c2) 1))))) (subI .i64 c2 1)) (k0_ a1 c2 (leI 1 c2)))
theorem zra{R R':Type}(o:Option R→Option R')(h0:o none=none)(kn_:Nat→Int→Option R)(k0_:Nat→Int→Bool→Option R):z1u a0 a1 c2 (fun t7' t8'=>o (kn_ t7' t8')) (fun c0_ c1_ c2_=>o (k0_ c0_ c1_ c2_))=o (z1u a0 a1 c2 kn_ k0_):=by
 unfold z1u
 repeat (first | apply grd_out h0 | apply br_out | rfl)
def z0v(t6:Nat):Nat→Nat→Int→Option ((Nat×Int×Bool))
 | 0,_,_=>none
 | n+1,t7,t8=>z1u t6  t7 t8  (fun t7' t8'=>z0v t6 n t7' t8') (fun c0_ c1_ c2_=>some (c0_,c1_,c2_))
theorem zfg:z0v a0 (a1+1) a2 c3=z1u a0  a2 c3  (fun t7' t8'=>z0v a0 a1 t7' t8') (fun c0_ c1_ c2_=>some (c0_,c1_,c2_)):=rfl
def z1e:Bool:=(z0v a0 big a1 c2).isSome
def z0d:Nat:=((z0v a0 big a1 c2).getD default).1
def zsu:Int:=((z0v a0 big a1 c2).getD default).2.1
def zsh:Bool:=((z0v a0 big a1 c2).getD default).2.2
def ze2{R:Type}(k_:Bool→Option R):Option R:=(br (neI (Int.ofNat a0) (Int.ofNat a2)) (k_ Bool.false) (grd (zob a0 a2 g1 g3 0) (br (zmf a0 a2 g1 g3 0) (k_ Bool.false) (k_ Bool.true))))
def z5s:Option (Bool):=ze2 a0 g1 a2 g3 (fun c0_=>some c0_)
theorem zyd:Nt1 (fun {R}=>ze2 (R:=R) a0 g1 a2 g3):=by
 intro R R' o h0 k;unfold ze2;repeat (first | apply grd_out h0 | apply br_out | rfl)
def z7l:Bool:=(z5s a0 g1 a2 g3).isSome
def z72:Bool:=((z5s a0 g1 a2 g3).getD default)
def z5c{R:Type}(k_:Bool→Option R):Option R:=(grd (zht a0 (pB m1 0 (muN a0 1)) e2) (k_ (leI 0 (zgt a0 (pB m1 0 (muN a0 1)) e2))))
def z1n:Option (Bool):=z5c a0 m1 e2 (fun c0_=>some c0_)
theorem zl9:Nt1 (fun {R}=>z5c (R:=R) a0 m1 e2):=by
 intro R R' o h0 k;unfold z5c;repeat (first | apply grd_out h0 | apply br_out | rfl)
def z58:Bool:=(z1n a0 m1 e2).isSome
def z4u:Bool:=((z1n a0 m1 e2).getD default)
def zg6{R:Type} (k_:Nat→Nat→Nat→(List Nat)→(List Nat)→(List Nat)→Option R):Option R:=(grd (zed a0 (pF g1 0 (muN a0 1))) (grd (zed a2 (pF g3 0 (muN a2 1))) (grd (zed a4 (pF g5 0 (muN a4 1))) (k_ (zbw a0 (pF g1 0 (muN a0 1))) (zbw a2 (pF g3 0 (muN a2 1))) (zbw a4 (pF g5 0 (muN a4 1))) (zc8 a0 (pF g1 0 (muN a0 1))) (zc8 a2 (pF g3 0 (muN a2 1))) (zc8 a4 (pF g5 0 (muN a4 1)))))))
def z25:Option (Nat×Nat×Nat×(List Nat)×(List Nat)×(List Nat)):=zg6 a0 g1 a2 g3 a4 g5 (fun c0_ c1_ c2_ c3_ c4_ c5_=>some (c0_,c1_,c2_,c3_,c4_,c5_))
theorem y01:Nt6 (fun {R}=>zg6 (R:=R) a0 g1 a2 g3 a4 g5):=by
 intro R R' o h0 k;unfold zg6;repeat (first | apply grd_out h0 | apply br_out | rfl)
def ztq:Bool:=(z25 a0 g1 a2 g3 a4 g5).isSome
def zsc:Nat:=((z25 a0 g1 a2 g3 a4 g5).getD default).1
def zs5:Nat:=((z25 a0 g1 a2 g3 a4 g5).getD default).2.1
def zrt:Nat:=((z25 a0 g1 a2 g3 a4 g5).getD default).2.2.1
def zrv:List Nat:=((z25 a0 g1 a2 g3 a4 g5).getD default).2.2.2.1
def zse:List Nat:=((z25 a0 g1 a2 g3 a4 g5).getD default).2.2.2.2.1
def zs1:List Nat:=((z25 a0 g1 a2 g3 a4 g5).getD default).2.2.2.2.2
def ze0{R:Type} (k_:Nat→(List Nat)→Option R):Option R:=(grd (okMk (Int.ofNat a0) (Int.ofNat a0) 12) (grd (zfp a0 (toN (Int.ofNat a0)) g1 0 (rF (muN (toN (Int.ofNat a0)) 3))) (k_ (toN (Int.ofNat a0)) (zbq a0 (toN (Int.ofNat a0)) g1 0 (rF (muN (toN (Int.ofNat a0)) 3))))))
def z4i:Option (Nat×(List Nat)):=ze0 a0 g1 (fun c0_ c1_=>some (c0_,c1_))
theorem zy8:Nt2 (fun {R}=>ze0 (R:=R) a0 g1):=by
 intro R R' o h0 k;unfold ze0;repeat (first | apply grd_out h0 | apply br_out | rfl)
def zrs:Bool:=(z4i a0 g1).isSome
def zqr:Nat:=((z4i a0 g1).getD default).1
def zqm:List Nat:=((z4i a0 g1).getD default).2
def z6y{R:Type}(k_:Nat→Option R):Option R:=(br (fcmp .neq .f64 (fop .sub .f64 a0 a0) 0) (grd zzn (k_ zqg)) (br (fcmp .geq .f64 a0 4841369599423283200) (k_ 0) (br (fcmp .leq .f64 a0 14064741636278059008) (k_ 0) (grd (f2iB .f64 a0 .i64) (br (fcmp .lss .f64 (fop .sub .f64 a0 (fOI .f64 (f2iV .f64 a0 .i64))) 0) (br (fcmp .geq .f64 (fop .add .f64 (fop .sub .f64 a0 (fOI .f64 (f2iV .f64 a0 .i64))) 4607182418800017408) 4602678819172646912) (br (fcmp .gtr .f64 (fop .sub .f64 (fop .add .f64 (fop .sub .f64 a0 (fOI .f64 (f2iV .f64 a0 .i64))) 4607182418800017408) 4602678819172646912) 4598175219545276416) (grd (z1e (fop .mul .f64 (fop .mul .f64 (fop .sub .f64 4602678819172646912 (fop .sub .f64 (fop .add .f64 (fop .sub .f64 a0 (fOI .f64 (f2iV .f64 a0 .i64))) 4607182418800017408) 4602678819172646912)) 4618760256179416344) (fop .mul .f64 (fop .sub .f64 4602678819172646912 (fop .sub .f64 (fop .add .f64 (fop .sub .f64 a0 (fOI .f64 (f2iV .f64 a0 .i64))) 4607182418800017408) 4602678819172646912)) 4618760256179416344)) 4607182418800017408 8) (br (fcmp .geq .f64 (fop .add .f64 (fop .sub .f64 a0 (fOI .f64 (f2iV .f64 a0 .i64))) 4607182418800017408) 4602678819172646912) (k_ (fneg .f64 (fop .mul .f64 (fop .mul .f64 (fop .sub .f64 4602678819172646912 (fop .sub .f64 (fop .add .f64 (fop .sub .f64 a0 (fOI .f64 (f2iV .f64 a0 .i64))) 4607182418800017408) 4602678819172646912)) 4618760256179416344) (z0d (fop .mul .f64 (fop .mul .f64 (fop .sub .f64 4602678819172646912 (fop .sub .f64 (fop .add .f64 (fop .sub .f64 a0 (fOI .f64 (f2iV .f64 a0 .i64))) 4607182418800017408) 4602678819172646912)) 4618760256179416344) (fop .mul .f64 (fop .sub .f64 4602678819172646912 (fop .sub .f64 (fop .add .f64 (fop .sub .f64 a0 (fOI .f64 (f2iV .f64 a0 .i64))) 4607182418800017408) 4602678819172646912)) 4618760256179416344)) 4607182418800017408 8)))) (k_ (fop .mul .f64 (fop .mul .f64 (fop .sub .f64 4602678819172646912 (fop .sub .f64 (fop .add .f64 (fop .sub .f64 a0 (fOI .f64 (f2iV .f64 a0 .i64))) 4607182418800017408) 4602678819172646912)) 4618760256179416344) (z0d (fop .mul .f64 (fop .mul .f64 (fop .sub .f64 4602678819172646912 (fop .sub .f64 (fop .add .f64 (fop .sub .f64 a0 (fOI .f64 (f2iV .f64 a0 .i64))) 4607182418800017408) 4602678819172646912)) 4618760256179416344) (fop .mul .f64 (fop .sub .f64 4602678819172646912 (fop .sub .f64 (fop .add .f64 (fop .sub .f64 a0 (fOI .f64 (f2iV .f64 a0 .i64))) 4607182418800017408) 4602678819172646912)) 4618760256179416344)) 4607182418800017408 8))))) (grd (z1e (fop .mul .f64 (fop .mul .f64 (fop .sub .f64 (fop .add .f64 (fop .sub .f64 a0 (fOI .f64 (f2iV .f64 a0 .i64))) 4607182418800017408) 4602678819172646912) 4618760256179416344) (fop .mul .f64 (fop .sub .f64 (fop .add .f64 (fop .sub .f64 a0 (fOI .f64 (f2iV .f64 a0 .i64))) 4607182418800017408) 4602678819172646912) 4618760256179416344)) 4607182418800017408 8) (br (fcmp .geq .f64 (fop .add .f64 (fop .sub .f64 a0 (fOI .f64 (f2iV .f64 a0 .i64))) 4607182418800017408) 4602678819172646912) (k_ (fneg .f64 (fop .mul .f64 (fop .mul .f64 (fop .sub .f64 (fop .add .f64 (fop .sub .f64 a0 (fOI .f64 (f2iV .f64 a0 .i64))) 4607182418800017408) 4602678819172646912) 4618760256179416344) (z0d (fop .mul .f64 (fop .mul .f64 (fop .sub .f64 (fop .add .f64 (fop .sub .f64 a0 (fOI .f64 (f2iV .f64 a0 .i64))) 4607182418800017408) 4602678819172646912) 4618760256179416344) (fop .mul .f64 (fop .sub .f64 (fop .add .f64 (fop .sub .f64 a0 (fOI .f64 (f2iV .f64 a0 .i64))) 4607182418800017408) 4602678819172646912) 4618760256179416344)) 4607182418800017408 8)))) (k_ (fop .mul .f64 (fop .mul .f64 (fop .sub .f64 (fop .add .f64 (fop .sub .f64 a0 (fOI .f64 (f2iV .f64 a0 .i64))) 4607182418800017408) 4602678819172646912) 4618760256179416344) (z0d (fop .mul .f64 (fop .mul .f64 (fop .sub .f64 (fop .add .f64 (fop .sub .f64 a0 (fOI .f64 (f2iV .f64 a0 .i64))) 4607182418800017408) 4602678819172646912) 4618760256179416344) (fop .mul .f64 (fop .sub .f64 (fop .add .f64 (fop .sub .f64 a0 (fOI .f64 (f2iV .f64 a0 .i64))) 4607182418800017408) 4602678819172646912) 4618760256179416344)) 4607182418800017408 8)))))) (br (fcmp .gtr .f64 (fop .add .f64 (fop .sub .f64 a0 (fOI .f64 (f2iV .f64 a0 .i64))) 4607182418800017408) 4598175219545276416) (grd (z1e (fop .mul .f64 (fop .mul .f64 (fop .sub .f64 4602678819172646912 (fop .add .f64 (fop .sub .f64 a0 (fOI .f64 (f2iV .f64 a0 .i64))) 4607182418800017408)) 4618760256179416344) (fop .mul .f64 (fop .sub .f64 4602678819172646912 (fop .add .f64 (fop .sub .f64 a0 (fOI .f64 (f2iV .f64 a0 .i64))) 4607182418800017408)) 4618760256179416344)) 4607182418800017408 8) (br (fcmp .geq .f64 (fop .add .f64 (fop .sub .f64 a0 (fOI .f64 (f2iV .f64 a0 .i64))) 4607182418800017408) 4602678819172646912) (k_ (fneg .f64 (fop .mul .f64 (fop .mul .f64 (fop .sub .f64 4602678819172646912 (fop .add .f64 (fop .sub .f64 a0 (fOI .f64 (f2iV .f64 a0 .i64))) 4607182418800017408)) 4618760256179416344) (z0d (fop .mul .f64 (fop .mul .f64 (fop .sub .f64 4602678819172646912 (fop .add .f64 (fop .sub .f64 a0 (fOI .f64 (f2iV .f64 a0 .i64))) 4607182418800017408)) 4618760256179416344) (fop .mul .f64 (fop .sub .f64 4602678819172646912 (fop .add .f64 (fop .sub .f64 a0 (fOI .f64 (f2iV .f64 a0 .i64))) 4607182418800017408)) 4618760256179416344)) 4607182418800017408 8)))) (k_ (fop .mul .f64 (fop .mul .f64 (fop .sub .f64 4602678819172646912 (fop .add .f64 (fop .sub .f64 a0 (fOI .f64 (f2iV .f64 a0 .i64))) 4607182418800017408)) 4618760256179416344) (z0d (fop .mul .f64 (fop .mul .f64 (fop .sub .f64 4602678819172646912 (fop .add .f64 (fop .sub .f64 a0 (fOI .f64 (f2iV .f64 a0 .i64))) 4607182418800017408)) 4618760256179416344) (fop .mul .f64 (fop .sub .f64 4602678819172646912 (fop .add .f64 (fop .sub .f64 a0 (fOI .f64 (f2iV .f64 a0 .i64))) 4607182418800017408)) 4618760256179416344)) 4607182418800017408 8))))) (grd (z1e (fop .mul .f64 (fop .mul .f64 (fop .add .f64 (fop .sub .f64 a0 (fOI .f64 (f2iV .f64 a0 .i64))) 4607182418800017408) 4618760256179416344) (fop .mul .f64 (fop .add .f64 (fop .sub .f64 a0 (fOI .f64 (f2iV .f64 a0 .i64))) 4607182418800017408) 4618760256179416344)) 4607182418800017408 8) (br (fcmp .geq .f64 (fop .add .f64 (fop .sub .f64 a0 (fOI .f64 (f2iV .f64 a0 .i64))) 4607182418800017408) 4602678819172646912) (k_ (fneg .f64 (fop .mul .f64 (fop .mul .f64 (fop .add .f64 (fop .sub .f64 a0 (fOI .f64 (f2iV .f64 a0 .i64))) 4607182418800017408) 4618760256179416344) (z0d (fop .mul .f64 (fop .mul .f64 (fop .add .f64 (fop .sub .f64 a0 (fOI .f64 (f2iV .f64 a0 .i64))) 4607182418800017408) 4618760256179416344) (fop .mul .f64 (fop .add .f64 (fop .sub .f64 a0 (fOI .f64 (f2iV .f64 a0 .i64))) 4607182418800017408) 4618760256179416344)) 4607182418800017408 8)))) (k_ (fop .mul .f64 (fop .mul .f64 (fop .add .f64 (fop .sub .f64 a0 (fOI .f64 (f2iV .f64 a0 .i64))) 4607182418800017408) 4618760256179416344) (z0d (fop .mul .f64 (fop .mul .f64 (fop .add .f64 (fop .sub .f64 a0 (fOI .f64 (f2iV .f64 a0 .i64))) 4607182418800017408) 4618760256179416344) (fop .mul .f64 (fop .add .f64 (fop .sub .f64 a0 (fOI .f64 (f2iV .f64 a0 .i64))) 4607182418800017408) 4618760256179416344)) 4607182418800017408 8))))))) (br (fcmp .geq .f64 (fop .sub .f64 a0 (fOI .f64 (f2iV .f64 a0 .i64))) 4602678819172646912) (br (fcmp .gtr .f64 (fop .sub .f64 (fop .sub .f64 a0 (fOI .f64 (f2iV .f64 a0 .i64))) 4602678819172646912) 4598175219545276416) (grd (z1e (fop .mul .f64 (fop .mul .f64 (fop .sub .f64 4602678819172646912 (fop .sub .f64 (fop .sub .f64 a0 (fOI .f64 (f2iV .f64 a0 .i64))) 4602678819172646912)) 4618760256179416344) (fop .mul .f64 (fop .sub .f64 4602678819172646912 (fop .sub .f64 (fop .sub .f64 a0 (fOI .f64 (f2iV .f64 a0 .i64))) 4602678819172646912)) 4618760256179416344)) 4607182418800017408 8) (br (fcmp .geq .f64 (fop .sub .f64 a0 (fOI .f64 (f2iV .f64 a0 .i64))) 4602678819172646912) (k_ (fneg .f64 (fop .mul .f64 (fop .mul .f64 (fop .sub .f64 4602678819172646912 (fop .sub .f64 (fop .sub .f64 a0 (fOI .f64 (f2iV .f64 a0 .i64))) 4602678819172646912)) 4618760256179416344) (z0d (fop .mul .f64 (fop .mul .f64 (fop .sub .f64 4602678819172646912 (fop .sub .f64 (fop .sub .f64 a0 (fOI .f64 (f2iV .f64 a0 .i64))) 4602678819172646912)) 4618760256179416344) (fop .mul .f64 (fop .sub .f64 4602678819172646912 (fop .sub .f64 (fop .sub .f64 a0 (fOI .f64 (f2iV .f64 a0 .i64))) 4602678819172646912)) 4618760256179416344)) 4607182418800017408 8)))) (k_ (fop .mul .f64 (fop .mul .f64 (fop .sub .f64 4602678819172646912 (fop .sub .f64 (fop .sub .f64 a0 (fOI .f64 (f2iV .f64 a0 .i64))) 4602678819172646912)) 4618760256179416344) (z0d (fop .mul .f64 (fop .mul .f64 (fop .sub .f64 4602678819172646912 (fop .sub .f64 (fop .sub .f64 a0 (fOI .f64 (f2iV .f64 a0 .i64))) 4602678819172646912)) 4618760256179416344) (fop .mul .f64 (fop .sub .f64 4602678819172646912 (fop .sub .f64 (fop .sub .f64 a0 (fOI .f64 (f2iV .f64 a0 .i64))) 4602678819172646912)) 4618760256179416344)) 4607182418800017408 8))))) (grd (z1e (fop .mul .f64 (fop .mul .f64 (fop .sub .f64 (fop .sub .f64 a0 (fOI .f64 (f2iV .f64 a0 .i64))) 4602678819172646912) 4618760256179416344) (fop .mul .f64 (fop .sub .f64 (fop .sub .f64 a0 (fOI .f64 (f2iV .f64 a0 .i64))) 4602678819172646912) 4618760256179416344)) 4607182418800017408 8) (br (fcmp .geq .f64 (fop .sub .f64 a0 (fOI .f64 (f2iV .f64 a0 .i64))) 4602678819172646912) (k_ (fneg .f64 (fop .mul .f64 (fop .mul .f64 (fop .sub .f64 (fop .sub .f64 a0 (fOI .f64 (f2iV .f64 a0 .i64))) 4602678819172646912) 4618760256179416344) (z0d (fop .mul .f64 (fop .mul .f64 (fop .sub .f64 (fop .sub .f64 a0 (fOI .f64 (f2iV .f64 a0 .i64))) 4602678819172646912) 4618760256179416344) (fop .mul .f64 (fop .sub .f64 (fop .sub .f64 a0 (fOI .f64 (f2iV .f64 a0 .i64))) 4602678819172646912) 4618760256179416344)) 4607182418800017408 8)))) (k_ (fop .mul .f64 (fop .mul .f64 (fop .sub .f64 (fop .sub .f64 a0 (fOI .f64 (f2iV .f64 a0 .i64))) 4602678819172646912) 4618760256179416344) (z0d (fop .mul .f64 (fop .mul .f64 (fop .sub .f64 (fop .sub .f64 a0 (fOI .f64 (f2iV .f64 a0 .i64))) 4602678819172646912) 4618760256179416344) (fop .mul .f64 (fop .sub .f64 (fop .sub .f64 a0 (fOI .f64 (f2iV .f64 a0 .i64))) 4602678819172646912) 4618760256179416344)) 4607182418800017408 8)))))) (br (fcmp .gtr .f64 (fop .sub .f64 a0 (fOI .f64 (f2iV .f64 a0 .i64))) 4598175219545276416) (grd (z1e (fop .mul .f64 (fop .mul .f64 (fop .sub .f64 4602678819172646912 (fop .sub .f64 a0 (fOI .f64 (f2iV .f64 a0 .i64)))) 4618760256179416344) (fop .mul .f64 (fop .sub .f64 4602678819172646912 (fop .sub .f64 a0 (fOI .f64 (f2iV .f64 a0 .i64)))) 4618760256179416344)) 4607182418800017408 8) (br (fcmp .geq .f64 (fop .sub .f64 a0 (fOI .f64 (f2iV .f64 a0 .i64))) 4602678819172646912) (k_ (fneg .f64 (fop .mul .f64 (fop .mul .f64 (fop .sub .f64 4602678819172646912 (fop .sub .f64 a0 (fOI .f64 (f2iV .f64 a0 .i64)))) 4618760256179416344) (z0d (fop .mul .f64 (fop .mul .f64 (fop .sub .f64 4602678819172646912 (fop .sub .f64 a0 (fOI .f64 (f2iV .f64 a0 .i64)))) 4618760256179416344) (fop .mul .f64 (fop .sub .f64 4602678819172646912 (fop .sub .f64 a0 (fOI .f64 (f2iV .f64 a0 .i64)))) 4618760256179416344)) 4607182418800017408 8)))) (k_ (fop .mul .f64 (fop .mul .f64 (fop .sub .f64 4602678819172646912 (fop .sub .f64 a0 (fOI .f64 (f2iV .f64 a0 .i64)))) 4618760256179416344) (z0d (fop .mul .f64 (fop .mul .f64 (fop .sub .f64 4602678819172646912 (fop .sub .f64 a0 (fOI .f64 (f2iV .f64 a0 .i64)))) 4618760256179416344) (fop .mul .f64 (fop .sub .f64 4602678819172646912 (fop .sub .f64 a0 (fOI .f64 (f2iV .f64 a0 .i64)))) 4618760256179416344)) 4607182418800017408 8))))) (grd (z1e (fop .mul .f64 (fop .mul .f64 (fop .sub .f64 a0 (fOI .f64 (f2iV .f64 a0 .i64))) 4618760256179416344) (fop .mul .f64 (fop .sub .f64 a0 (fOI .f64 (f2iV .f64 a0 .i64))) 4618760256179416344)) 4607182418800017408 8) (br (fcmp .geq .f64 (fop .sub .f64 a0 (fOI .f64 (f2iV .f64 a0 .i64))) 4602678819172646912) (k_ (fneg .f64 (fop .mul .f64 (fop .mul .f64 (fop .sub .f64 a0 (fOI .f64 (f2iV .f64 a0 .i64))) 4618760256179416344) (z0d (fop .mul .f64 (fop .mul .f64 (fop .sub .f64 a0 (fOI .f64 (f2iV .f64 a0 .i64))) 4618760256179416344) (fop .mul .f64 (fop .sub .f64 a0 (fOI .f64 (f2iV .f64 a0 .i64))) 4618760256179416344)) 4607182418800017408 8)))) (k_ (fop .mul .f64 (fop .mul .f64 (fop .sub .f64 a0 (fOI .f64 (f2iV .f64 a0 .i64))) 4618760256179416344) (z0d (fop .mul .f64 (fop .mul .f64 (fop .sub .f64 a0 (fOI .f64 (f2iV .f64 a0 .i64))) 4618760256179416344) (fop .mul .f64 (fop .sub .f64 a0 (fOI .f64 (f2iV .f64 a0 .i64))) 4618760256179416344)) 4607182418800017408 8))))))))))))
def z2i:Option (Nat):=z6y a0 (fun c0_=>some c0_)
theorem zw8:Nt1 (fun {R}=>z6y (R:=R) a0):=by
 intro R R' o h0 k;unfold z6y;repeat (first | apply grd_out h0 | apply br_out | rfl)
def zqu:Bool:=(z2i a0).isSome
def zhj:Nat:=((z2i a0).getD default)
def zdw{R:Type}(k_:Nat→Option R):Option R:=(grd (y2p a0) (br (fcmp .eql .f64 (zgx a0) 0) (br (fcmp .lss .f64 (fop .sub .f64 a0 0) 0) (k_ (fop .add .f64 (fop .sub .f64 a0 0) 4607182418800017408)) (k_ (fop .sub .f64 a0 0))) (br (fcmp .lss .f64 (fop .sub .f64 a0 (zgx a0)) 0) (k_ (fop .add .f64 (fop .sub .f64 a0 (zgx a0)) 4607182418800017408)) (k_ (fop .sub .f64 a0 (zgx a0))))))
def z5n:Option (Nat):=zdw a0 (fun c0_=>some c0_)
theorem zy9:Nt1 (fun {R}=>zdw (R:=R) a0):=by
 intro R R' o h0 k;unfold zdw;repeat (first | apply grd_out h0 | apply br_out | rfl)
def zs9:Bool:=(z5n a0).isSome
def z0e:Nat:=((z5n a0).getD default)
def z2f{R:Type}(kn_:Int→Option R)(k0_:Unit→Option R)(k1_:Int→Bool→Option R):Option R:=(br (ltI c4 (Int.ofNat a0)) (grd (okIx c4 a0) (grd (okIx c4 a1) (grd (zuc (gF g2 (ixO 0 c4 3)) (gF g2 (Nat.succ (ixO 0 c4 3))) (gF g2 (Nat.succ (Nat.succ (ixO 0 c4 3)))) (gF g3 (ixO 0 c4 3)) (gF g3 (Nat.succ (ixO 0 c4 3))) (gF g3 (Nat.succ (Nat.succ (ixO 0 c4 3))))) (br (bnot (zs3 (gF g2 (ixO 0 c4 3)) (gF g2 (Nat.succ (ixO 0 c4 3))) (gF g2 (Nat.succ (Nat.succ (ixO 0 c4 3)))) (gF g3 (ixO 0 c4 3)) (gF g3 (Nat.succ (ixO 0 c4 3))) (gF g3 (Nat.succ (Nat.succ (ixO 0 c4 3)))))) (k0_ ()) (kn_ (addI .i64 c4 1)))))) (k1_ c4 (ltI c4 (Int.ofNat a0))))
theorem zti{R R':Type}(o:Option R→Option R')(h0:o none=none)(kn_:Int→Option R)(k0_:Unit→Option R)(k1_:Int→Bool→Option R):z2f a0 a1 g2 g3 c4 (fun i'=>o (kn_ i')) (fun _=>o (k0_ ())) (fun c0_ c1_=>o (k1_ c0_ c1_))=o (z2f a0 a1 g2 g3 c4 kn_ k0_ k1_):=by
 unfold z2f
 repeat (first | apply grd_out h0 | apply br_out | rfl)
def z1b(an bn:Nat)(b0 b1:List Nat):Nat→Int→Option ((Unit)⊕(Int×Bool))
 | 0,_=>none
 | n+1,i=>z2f an bn b0 b1  i  (fun i'=>z1b an bn b0 b1 n i') (fun _=>some (Sum.inl ())) (fun c0_ c1_=>some (Sum.inr (c0_,c1_)))
theorem zhv:z1b a0 a1 g2 g3 (a4+1) c5=z2f a0 a1 g2 g3  c5  (fun i'=>z1b a0 a1 g2 g3 a4 i') (fun _=>some (Sum.inl ())) (fun c0_ c1_=>some (Sum.inr (c0_,c1_))):=rfl
def zfw:Bool:=(z1b a0 a1 g2 g3 big c4).isSome
def zek:Bool:=oL (z1b a0 a1 g2 g3 big c4)
def zvd:Int:=((tR (z1b a0 a1 g2 g3 big c4)).getD default).1
def zv3:Bool:=((tR (z1b a0 a1 g2 g3 big c4)).getD default).2
def z4s{R:Type}(kn_:Int→Option R)(k0_:Unit→Option R)(k1_:Int→Bool→Option R):Option R:=(br (ltI c7 c0) (grd (okIx c7 a4) (br (fcmp .geq .f32 (gF g1 (ixO 0 c7 1)) 3204448256) (grd (okIx c7 a4) (br (bnot (fcmp .leq .f32 (gF g1 (ixO 0 c7 1)) 1056964608)) (k0_ ()) (br (ltI 0 c7) (grd (okIx c7 a4) (grd (okIx (subI .i64 c7 1) a4) (br (fcmp .leq .f32 (gF g1 (ixO 0 c7 1)) (gF g1 (ixO 0 (subI .i64 c7 1) 1))) (k0_ ()) (grd (okIx c7 a5) (grd (z1c (gF g2 (ixO 0 c7 1))) (br (bnot (z16 (gF g2 (ixO 0 c7 1)))) (k0_ ()) (grd (okIx c7 a6) (grd (z8y (gF g3 (ixO 0 c7 1))) (br (bnot (z86 (gF g3 (ixO 0 c7 1)))) (k0_ ()) (kn_ (addI .i64 c7 1))))))))))) (grd (okIx c7 a5) (grd (z1c (gF g2 (ixO 0 c7 1))) (br (bnot (z16 (gF g2 (ixO 0 c7 1)))) (k0_ ()) (grd (okIx c7 a6) (grd (z8y (gF g3 (ixO 0 c7 1))) (br (bnot (z86 (gF g3 (ixO 0 c7 1)))) (k0_ ()) (kn_ (addI .i64 c7 1))))))))))) (br (bnot Bool.false) (k0_ ()) (br (ltI 0 c7) (grd (okIx c7 a4) (grd (okIx (subI .i64 c7 1) a4) (br (fcmp .leq .f32 (gF g1 (ixO 0 c7 1)) (gF g1 (ixO 0 (subI .i64 c7 1) 1))) (k0_ ()) (grd (okIx c7 a5) (grd (z1c (gF g2 (ixO 0 c7 1))) (br (bnot (z16 (gF g2 (ixO 0 c7 1)))) (k0_ ()) (grd (okIx c7 a6) (grd (z8y (gF g3 (ixO 0 c7 1))) (br (bnot (z86 (gF g3 (ixO 0 c7 1)))) (k0_ ()) (kn_ (addI .i64 c7 1))))))))))) (grd (okIx c7 a5) (grd (z1c (gF g2 (ixO 0 c7 1))) (br (bnot (z16 (gF g2 (ixO 0 c7 1)))) (k0_ ()) (grd (okIx c7 a6) (grd (z8y (gF g3 (ixO 0 c7 1))) (br (bnot (z86 (gF g3 (ixO 0 c7 1)))) (k0_ ()) (kn_ (addI .i64 c7 1)))))))))))) (k1_ c7 (ltI c7 c0)))
theorem y21{R R':Type}(o:Option R→Option R')(h0:o none=none)(kn_:Int→Option R)(k0_:Unit→Option R)(k1_:Int→Bool→Option R):z4s c0 g1 g2 g3 a4 a5 a6 c7 (fun t4'=>o (kn_ t4')) (fun _=>o (k0_ ())) (fun c0_ c1_=>o (k1_ c0_ c1_))=o (z4s c0 g1 g2 g3 a4 a5 a6 c7 kn_ k0_ k1_):=by
 unfold z4s
 repeat (first | apply grd_out h0 | apply br_out | rfl)
def z21(t3:Int)(b0 b1 b2:List Nat)(q1h q1q q1r:Nat):Nat→Int→Option ((Unit)⊕(Int×Bool))
 | 0,_=>none
 | n+1,t4=>z4s t3 b0 b1 b2 q1h q1q q1r  t4  (fun t4'=>z21 t3 b0 b1 b2 q1h q1q q1r n t4') (fun _=>some (Sum.inl ())) (fun c0_ c1_=>some (Sum.inr (c0_,c1_)))
theorem zom:z21 c0 g1 g2 g3 a4 a5 a6 (a7+1) c8=z4s c0 g1 g2 g3 a4 a5 a6  c8  (fun t4'=>z21 c0 g1 g2 g3 a4 a5 a6 a7 t4') (fun _=>some (Sum.inl ())) (fun c0_ c1_=>some (Sum.inr (c0_,c1_))):=rfl
def zce:Bool:=(z21 c0 g1 g2 g3 a4 a5 a6 big c7).isSome
def zag:Bool:=oL (z21 c0 g1 g2 g3 a4 a5 a6 big c7)
def y37:Int:=((tR (z21 c0 g1 g2 g3 a4 a5 a6 big c7)).getD default).1
def y3n:Bool:=((tR (z21 c0 g1 g2 g3 a4 a5 a6 big c7)).getD default).2
def z0g{R:Type}(kn_:Int→Option R)(k0_:Int→Option R)(k1_:Int→Bool→Option R):Option R:=(br (ltI c3 c1) (grd (okIx c3 a0) (grd (znu (gF g2 (ixO 0 c3 1))) (br (zme (gF g2 (ixO 0 c3 1))) (k0_ c3) (kn_ (addI .i64 c3 1))))) (k1_ c3 (ltI c3 c1)))
theorem zan{R R':Type}(o:Option R→Option R')(h0:o none=none)(kn_:Int→Option R)(k0_:Int→Option R)(k1_:Int→Bool→Option R):z0g a0 c1 g2 c3 (fun t8'=>o (kn_ t8')) (fun c0_=>o (k0_ c0_)) (fun c0_ c1_=>o (k1_ c0_ c1_))=o (z0g a0 c1 g2 c3 kn_ k0_ k1_):=by
 unfold z0g
 repeat (first | apply grd_out h0 | apply br_out | rfl)
def z01(sn:Nat)(t7:Int)(b0:List Nat):Nat→Int→Option ((Int)⊕(Int×Bool))
 | 0,_=>none
 | n+1,t8=>z0g sn t7 b0  t8  (fun t8'=>z01 sn t7 b0 n t8') (fun c0_=>some (Sum.inl c0_)) (fun c0_ c1_=>some (Sum.inr (c0_,c1_)))
theorem z4t:z01 a0 c1 g2 (a3+1) c4=z0g a0 c1 g2  c4  (fun t8'=>z01 a0 c1 g2 a3 t8') (fun c0_=>some (Sum.inl c0_)) (fun c0_ c1_=>some (Sum.inr (c0_,c1_))):=rfl
def z3a:Bool:=(z01 a0 c1 g2 big c3).isSome
def z32:Bool:=oL (z01 a0 c1 g2 big c3)
def z56:Int:=((tL (z01 a0 c1 g2 big c3)).getD default)
def zba:Int:=((tR (z01 a0 c1 g2 big c3)).getD default).1
def zbc:Bool:=((tR (z01 a0 c1 g2 big c3)).getD default).2
def z0i{R:Type}(kn_:Int→Option R)(k0_:Int→Option R)(k1_:Int→Bool→Option R):Option R:=(br (ltI c3 c1) (grd (okIx c3 a0) (grd (zqv (gF g2 (ixO 0 c3 1))) (br (zp3 (gF g2 (ixO 0 c3 1))) (k0_ c3) (kn_ (addI .i64 c3 1))))) (k1_ c3 (ltI c3 c1)))
theorem zbs{R R':Type}(o:Option R→Option R')(h0:o none=none)(kn_:Int→Option R)(k0_:Int→Option R)(k1_:Int→Bool→Option R):z0i a0 c1 g2 c3 (fun t8'=>o (kn_ t8')) (fun c0_=>o (k0_ c0_)) (fun c0_ c1_=>o (k1_ c0_ c1_))=o (z0i a0 c1 g2 c3 kn_ k0_ k1_):=by
 unfold z0i
 repeat (first | apply grd_out h0 | apply br_out | rfl)
def z04(sn:Nat)(t7:Int)(b0:List Nat):Nat→Int→Option ((Int)⊕(Int×Bool))
 | 0,_=>none
 | n+1,t8=>z0i sn t7 b0  t8  (fun t8'=>z04 sn t7 b0 n t8') (fun c0_=>some (Sum.inl c0_)) (fun c0_ c1_=>some (Sum.inr (c0_,c1_)))
theorem z55:z04 a0 c1 g2 (a3+1) c4=z0i a0 c1 g2  c4  (fun t8'=>z04 a0 c1 g2 a3 t8') (fun c0_=>some (Sum.inl c0_)) (fun c0_ c1_=>some (Sum.inr (c0_,c1_))):=rfl
def z3v:Bool:=(z04 a0 c1 g2 big c3).isSome
def z3h:Bool:=oL (z04 a0 c1 g2 big c3)
def z61:Int:=((tL (z04 a0 c1 g2 big c3)).getD default)
def zci:Int:=((tR (z04 a0 c1 g2 big c3)).getD default).1
def zc1:Bool:=((tR (z04 a0 c1 g2 big c3)).getD default).2
def ziq{R:Type}(q1u:Int)(q24 q25:Nat) (k_:Nat→Nat→Nat→Nat→(List Nat)→(List Nat)→(List Nat)→(List Nat)→Option R):Option R:=(grd (ztq a0 (pF g1 0 (muN a0 1)) a2 (pF g3 0 (muN a2 1)) a4 (pF g5 0 (muN a4 1))) (grd (zrs a6 (pF g7 0 (muN a6 3))) (k_ (zsc a0 (pF g1 0 (muN a0 1)) a2 (pF g3 0 (muN a2 1)) a4 (pF g5 0 (muN a4 1))) (zs5 a0 (pF g1 0 (muN a0 1)) a2 (pF g3 0 (muN a2 1)) a4 (pF g5 0 (muN a4 1))) (zrt a0 (pF g1 0 (muN a0 1)) a2 (pF g3 0 (muN a2 1)) a4 (pF g5 0 (muN a4 1))) (zqr a6 (pF g7 0 (muN a6 3))) (zrv a0 (pF g1 0 (muN a0 1)) a2 (pF g3 0 (muN a2 1)) a4 (pF g5 0 (muN a4 1))) (zse a0 (pF g1 0 (muN a0 1)) a2 (pF g3 0 (muN a2 1)) a4 (pF g5 0 (muN a4 1))) (zs1 a0 (pF g1 0 (muN a0 1)) a2 (pF g3 0 (muN a2 1)) a4 (pF g5 0 (muN a4 1))) (zqm a6 (pF g7 0 (muN a6 3))))))
def z23:Option (Nat×Nat×Nat×Nat×(List Nat)×(List Nat)×(List Nat)×(List Nat)):=ziq a0 g1 a2 g3 a4 g5 a6 g7 c8 a9 a10 (fun c0_ c1_ c2_ c3_ c4_ c5_ c6_ c7_=>some (c0_,c1_,c2_,c3_,c4_,c5_,c6_,c7_))
theorem y3y:Nt8 (fun {R}=>ziq (R:=R) a0 g1 a2 g3 a4 g5 a6 g7 c8 a9 a10):=by
 intro R R' o h0 k;unfold ziq;repeat (first | apply grd_out h0 | apply br_out | rfl)
def zq6:Bool:=(z23 a0 g1 a2 g3 a4 g5 a6 g7 c8 a9 a10).isSome
def zoa:Nat:=((z23 a0 g1 a2 g3 a4 g5 a6 g7 c8 a9 a10).getD default).1
def zns:Nat:=((z23 a0 g1 a2 g3 a4 g5 a6 g7 c8 a9 a10).getD default).2.1
def znb:Nat:=((z23 a0 g1 a2 g3 a4 g5 a6 g7 c8 a9 a10).getD default).2.2.1
def znl:Nat:=((z23 a0 g1 a2 g3 a4 g5 a6 g7 c8 a9 a10).getD default).2.2.2.1
def zo2:List Nat:=((z23 a0 g1 a2 g3 a4 g5 a6 g7 c8 a9 a10).getD default).2.2.2.2.1
def zos:List Nat:=((z23 a0 g1 a2 g3 a4 g5 a6 g7 c8 a9 a10).getD default).2.2.2.2.2.1
def znx:List Nat:=((z23 a0 g1 a2 g3 a4 g5 a6 g7 c8 a9 a10).getD default).2.2.2.2.2.2.1
def zo5:List Nat:=((z23 a0 g1 a2 g3 a4 g5 a6 g7 c8 a9 a10).getD default).2.2.2.2.2.2.2
def zfz{R:Type}(k_:Bool→Option R):Option R:=(grd (z7l a0 (pF g1 0 (muN a0 1)) a6 (pF g7 0 (muN a6 1))) (br (bnot (z72 a0 (pF g1 0 (muN a0 1)) a6 (pF g7 0 (muN a6 1)))) (k_ Bool.false) (grd (z7l a2 (pF g3 0 (muN a2 1)) a8 (pF g9 0 (muN a8 1))) (br (bnot (z72 a2 (pF g3 0 (muN a2 1)) a8 (pF g9 0 (muN a8 1)))) (k_ Bool.false) (grd (z7l a4 (pF g5 0 (muN a4 1)) a10 (pF g11 0 (muN a10 1))) (br (bnot (z72 a4 (pF g5 0 (muN a4 1)) a10 (pF g11 0 (muN a10 1)))) (k_ Bool.false) (k_ Bool.true)))))))
def z6s:Option (Bool):=zfz a0 g1 a2 g3 a4 g5 a6 g7 a8 g9 a10 g11 (fun c0_=>some c0_)
theorem y0j:Nt1 (fun {R}=>zfz (R:=R) a0 g1 a2 g3 a4 g5 a6 g7 a8 g9 a10 g11):=by
 intro R R' o h0 k;unfold zfz;repeat (first | apply grd_out h0 | apply br_out | rfl)
def zue:Bool:=(z6s a0 g1 a2 g3 a4 g5 a6 g7 a8 g9 a10 g11).isSome
def zrx:Bool:=((z6s a0 g1 a2 g3 a4 g5 a6 g7 a8 g9 a10 g11).getD default)
def zdv{R:Type}(k_:Bool→Option R):Option R:=(br (neI (Int.ofNat a0) (Int.ofNat a2)) (k_ Bool.false) (grd (zfw a0 a2 g1 g3 0) (br (zek a0 a2 g1 g3 0) (k_ Bool.false) (k_ Bool.true))))
def z5q:Option (Bool):=zdv a0 g1 a2 g3 (fun c0_=>some c0_)
theorem zxw:Nt1 (fun {R}=>zdv (R:=R) a0 g1 a2 g3):=by
 intro R R' o h0 k;unfold zdv;repeat (first | apply grd_out h0 | apply br_out | rfl)
def zrz:Bool:=(z5q a0 g1 a2 g3).isSome
def zqi:Bool:=((z5q a0 g1 a2 g3).getD default)
def zn6{R:Type}(k_:Bool→Option R):Option R:=(br (ltI (Int.ofNat a0) 2) (k_ Bool.false) (br (ltI 24 (Int.ofNat a0)) (k_ Bool.false) (br (neI (Int.ofNat a2) (Int.ofNat a0)) (k_ Bool.false) (br (neI (Int.ofNat a4) (Int.ofNat a0)) (k_ Bool.false) (grd (zce (Int.ofNat a0) g1 g3 g5 a0 a2 a4 0) (br (zag (Int.ofNat a0) g1 g3 g5 a0 a2 a4 0) (k_ Bool.false) (k_ Bool.true)))))))
def zab:Option (Bool):=zn6 a0 g1 a2 g3 a4 g5 (fun c0_=>some c0_)
theorem y6h:Nt1 (fun {R}=>zn6 (R:=R) a0 g1 a2 g3 a4 g5):=by
 intro R R' o h0 k;unfold zn6;repeat (first | apply grd_out h0 | apply br_out | rfl)
def y3x:Bool:=(zab a0 g1 a2 g3 a4 g5).isSome
def y0x:Bool:=((zab a0 g1 a2 g3 a4 g5).getD default)
def z29{R:Type}(k_:Int→Option R):Option R:=(grd (z3a a0 (Int.ofNat a0) g1 0) (br (z32 a0 (Int.ofNat a0) g1 0) (k_ (z56 a0 (Int.ofNat a0) g1 0)) (k_ (Int.negSucc 0))))
def z0x:Option (Int):=z29 a0 g1 (fun c0_=>some c0_)
theorem zc6:Nt1 (fun {R}=>z29 (R:=R) a0 g1):=by
 intro R R' o h0 k;unfold z29;repeat (first | apply grd_out h0 | apply br_out | rfl)
def z79:Bool:=(z0x a0 g1).isSome
def z6w:Int:=((z0x a0 g1).getD default)
def z2j{R:Type}(k_:Int→Option R):Option R:=(grd (z3v a0 (Int.ofNat a0) g1 0) (br (z3h a0 (Int.ofNat a0) g1 0) (k_ (z61 a0 (Int.ofNat a0) g1 0)) (k_ (Int.negSucc 0))))
def z0z:Option (Int):=z2j a0 g1 (fun c0_=>some c0_)
theorem zdq:Nt1 (fun {R}=>z2j (R:=R) a0 g1):=by
 intro R R' o h0 k;unfold z2j;repeat (first | apply grd_out h0 | apply br_out | rfl)
def z7q:Bool:=(z0z a0 g1).isSome
def z7g:Int:=((z0z a0 g1).getD default)
def ziw{R:Type}(k_:Nat→Option R):Option R:=(grd (zqu (fcvV .f32 .f64 a0)) (grd (zlo (zhj (fcvV .f32 .f64 a0))) (k_ (ze6 (zhj (fcvV .f32 .f64 a0))))))
def z6z:Option (Nat):=ziw a0 (fun c0_=>some c0_)
theorem y40:Nt1 (fun {R}=>ziw (R:=R) a0):=by
 intro R R' o h0 k;unfold ziw;repeat (first | apply grd_out h0 | apply br_out | rfl)
def z8d:Bool:=(z6z a0).isSome
def z1j:Nat:=((z6z a0).getD default)
def z0j{R:Type}(kn_:Int→Option R)(k0_:Int→Option R)(k1_:Int→Bool→Option R):Option R:=(br (ltI c3 c1) (grd (okIx c3 a0) (grd (zsf (gF g2 (ixO 0 c3 1))) (br (zql (gF g2 (ixO 0 c3 1))) (k0_ c3) (kn_ (addI .i64 c3 1))))) (k1_ c3 (ltI c3 c1)))
theorem zca{R R':Type}(o:Option R→Option R')(h0:o none=none)(kn_:Int→Option R)(k0_:Int→Option R)(k1_:Int→Bool→Option R):z0j a0 c1 g2 c3 (fun t8'=>o (kn_ t8')) (fun c0_=>o (k0_ c0_)) (fun c0_ c1_=>o (k1_ c0_ c1_))=o (z0j a0 c1 g2 c3 kn_ k0_ k1_):=by
 unfold z0j
 repeat (first | apply grd_out h0 | apply br_out | rfl)
def z07(sn:Nat)(t7:Int)(b0:List Nat):Nat→Int→Option ((Int)⊕(Int×Bool))
 | 0,_=>none
 | n+1,t8=>z0j sn t7 b0  t8  (fun t8'=>z07 sn t7 b0 n t8') (fun c0_=>some (Sum.inl c0_)) (fun c0_ c1_=>some (Sum.inr (c0_,c1_)))
theorem z5i:z07 a0 c1 g2 (a3+1) c4=z0j a0 c1 g2  c4  (fun t8'=>z07 a0 c1 g2 a3 t8') (fun c0_=>some (Sum.inl c0_)) (fun c0_ c1_=>some (Sum.inr (c0_,c1_))):=rfl
def z46:Bool:=(z07 a0 c1 g2 big c3).isSome
def z3x:Bool:=oL (z07 a0 c1 g2 big c3)
def z6c:Int:=((tL (z07 a0 c1 g2 big c3)).getD default)
def zdh:Int:=((tR (z07 a0 c1 g2 big c3)).getD default).1
def zd6:Bool:=((tR (z07 a0 c1 g2 big c3)).getD default).2
def zir{R:Type}(k_:Bool→Option R):Option R:=(grd (zue a0 (pF g1 0 (muN a0 1)) a2 (pF g3 0 (muN a2 1)) a4 (pF g5 0 (muN a4 1)) a11 (pF g12 0 (muN a11 1)) a13 (pF g14 0 (muN a13 1)) a15 (pF g16 0 (muN a15 1))) (br (bnot (zrx a0 (pF g1 0 (muN a0 1)) a2 (pF g3 0 (muN a2 1)) a4 (pF g5 0 (muN a4 1)) a11 (pF g12 0 (muN a11 1)) a13 (pF g14 0 (muN a13 1)) a15 (pF g16 0 (muN a15 1)))) (k_ Bool.false) (grd (zrz a6 (pF g7 0 (muN a6 3)) a17 (pF g18 0 (muN a17 3))) (br (bnot (zqi a6 (pF g7 0 (muN a6 3)) a17 (pF g18 0 (muN a17 3)))) (k_ Bool.false) (br (neI c8 c19) (k_ Bool.false) (grd (z6r (fcvV .f32 .f64 a9) (fcvV .f32 .f64 a20)) (br (bnot (z5r (fcvV .f32 .f64 a9) (fcvV .f32 .f64 a20))) (k_ Bool.false) (grd (z6r (fcvV .f32 .f64 a10) (fcvV .f32 .f64 a21)) (br (bnot (z5r (fcvV .f32 .f64 a10) (fcvV .f32 .f64 a21))) (k_ Bool.false) (k_ Bool.true))))))))))
def z89:Option (Bool):=zir a0 g1 a2 g3 a4 g5 a6 g7 c8 a9 a10 a11 g12 a13 g14 a15 g16 a17 g18 c19 a20 a21 (fun c0_=>some c0_)
theorem y3q:Nt1 (fun {R}=>zir (R:=R) a0 g1 a2 g3 a4 g5 a6 g7 c8 a9 a10 a11 g12 a13 g14 a15 g16 a17 g18 c19 a20 a21):=by
 intro R R' o h0 k;unfold zir;repeat (first | apply grd_out h0 | apply br_out | rfl)
def zpa:Bool:=(z89 a0 g1 a2 g3 a4 g5 a6 g7 c8 a9 a10 a11 g12 a13 g14 a15 g16 a17 g18 c19 a20 a21).isSome
def zof:Bool:=((z89 a0 g1 a2 g3 a4 g5 a6 g7 c8 a9 a10 a11 g12 a13 g14 a15 g16 a17 g18 c19 a20 a21).getD default)
def z2n{R:Type}(k_:Int→Option R):Option R:=(grd (z46 a0 (Int.ofNat a0) g1 0) (br (z3x a0 (Int.ofNat a0) g1 0) (k_ (z6c a0 (Int.ofNat a0) g1 0)) (k_ (Int.negSucc 0))))
def z11:Option (Int):=z2n a0 g1 (fun c0_=>some c0_)
theorem zew:Nt1 (fun {R}=>z2n (R:=R) a0 g1):=by
 intro R R' o h0 k;unfold z2n;repeat (first | apply grd_out h0 | apply br_out | rfl)
def z7x:Bool:=(z11 a0 g1).isSome
def z7p:Int:=((z11 a0 g1).getD default)
def zok{R:Type}(k_:Nat→Option R):Option R:=(grd (bnot (nanQ .f64 a0)) (k_ (fint Ieee.Toward.down a0)))
def zat:Option (Nat):=zok a0 (fun c0_=>some c0_)
theorem y73:Nt1 (fun {R}=>zok (R:=R) a0):=by
 intro R R' o h0 k;unfold zok;repeat (first | apply grd_out h0 | apply br_out | rfl)
def zt1:Bool:=(zat a0).isSome
def z9c:Nat:=((zat a0).getD default)
def z5d{R:Type}(kn_:Nat→Nat→Option R)(k0_:Nat→Nat→Bool→Option R):Option R:=(br (fcmp .geq .f64 a2 4607182418800017408) (kn_ (fop .sub .f64 4607182418800017408 (fop .quo .f64 (fop .mul .f64 a0 a1) (fop .mul .f64 (fop .mul .f64 4611686018427387904 a2) (fop .add .f64 (fop .mul .f64 4611686018427387904 a2) 4607182418800017408)))) (fop .sub .f64 a2 4607182418800017408)) (k0_ a1 a2 (fcmp .geq .f64 a2 4607182418800017408)))
theorem y2t{R R':Type}(o:Option R→Option R')(h0:o none=none)(kn_:Nat→Nat→Option R)(k0_:Nat→Nat→Bool→Option R):z5d a0 a1 a2 (fun p' k'=>o (kn_ p' k')) (fun c0_ c1_ c2_=>o (k0_ c0_ c1_ c2_))=o (z5d a0 a1 a2 kn_ k0_):=by
 unfold z5d
 repeat (first | apply grd_out h0 | apply br_out | rfl)
def z22(u:Nat):Nat→Nat→Nat→Option ((Nat×Nat×Bool))
 | 0,_,_=>none
 | n+1,p,k=>z5d u  p k  (fun p' k'=>z22 u n p' k') (fun c0_ c1_ c2_=>some (c0_,c1_,c2_))
theorem zp7:z22 a0 (a1+1) a2 a3=z5d a0  a2 a3  (fun p' k'=>z22 a0 a1 p' k') (fun c0_ c1_ c2_=>some (c0_,c1_,c2_)):=rfl
def za7:Bool:=(z22 a0 big a1 a2).isSome
def z7k:Nat:=((z22 a0 big a1 a2).getD default).1
def y59:Nat:=((z22 a0 big a1 a2).getD default).2.1
def y4h:Bool:=((z22 a0 big a1 a2).getD default).2.2
def z1s{R:Type}(k_:Bool→Option R):Option R:=(grd (z79 a0 (pF g1 0 (muN a0 1))) (k_ (leI 0 (z6w a0 (pF g1 0 (muN a0 1))))))
def z0r:Option (Bool):=z1s a0 g1 (fun c0_=>some c0_)
theorem zak:Nt1 (fun {R}=>z1s (R:=R) a0 g1):=by
 intro R R' o h0 k;unfold z1s;repeat (first | apply grd_out h0 | apply br_out | rfl)
def z6a:Bool:=(z0r a0 g1).isSome
def z63:Bool:=((z0r a0 g1).getD default)
def z20{R:Type}(k_:Bool→Option R):Option R:=(grd (z7q a0 (pF g1 0 (muN a0 1))) (k_ (leI 0 (z7g a0 (pF g1 0 (muN a0 1))))))
def z0u:Option (Bool):=z20 a0 g1 (fun c0_=>some c0_)
theorem zbi:Nt1 (fun {R}=>z20 (R:=R) a0 g1):=by
 intro R R' o h0 k;unfold z20;repeat (first | apply grd_out h0 | apply br_out | rfl)
def z6v:Bool:=(z0u a0 g1).isSome
def z6e:Bool:=((z0u a0 g1).getD default)
def z27{R:Type}(k_:Bool→Option R):Option R:=(grd (z7x a0 (pF g1 0 (muN a0 1))) (k_ (leI 0 (z7p a0 (pF g1 0 (muN a0 1))))))
def z0w:Option (Bool):=z27 a0 g1 (fun c0_=>some c0_)
theorem zc0:Nt1 (fun {R}=>z27 (R:=R) a0 g1):=by
 intro R R' o h0 k;unfold z27;repeat (first | apply grd_out h0 | apply br_out | rfl)
def z78:Bool:=(z0w a0 g1).isSome
def z75:Bool:=((z0w a0 g1).getD default)
def zqh{R:Type}(k_:Nat→Option R):Option R:=(grd (zs9 a0) (br (fcmp .geq .f64 (z0e a0) 4602678819172646912) (br (fcmp .gtr .f64 (fop .sub .f64 (z0e a0) 4602678819172646912) 4598175219545276416) (grd (za7 (fop .mul .f64 (fop .mul .f64 (fop .sub .f64 4602678819172646912 (fop .sub .f64 (z0e a0) 4602678819172646912)) 4618760256179416344) (fop .mul .f64 (fop .sub .f64 4602678819172646912 (fop .sub .f64 (z0e a0) 4602678819172646912)) 4618760256179416344)) 4607182418800017408 4620693217682128896) (k_ (fneg .f64 (fop .mul .f64 (fop .mul .f64 (fop .sub .f64 4602678819172646912 (fop .sub .f64 (z0e a0) 4602678819172646912)) 4618760256179416344) (z7k (fop .mul .f64 (fop .mul .f64 (fop .sub .f64 4602678819172646912 (fop .sub .f64 (z0e a0) 4602678819172646912)) 4618760256179416344) (fop .mul .f64 (fop .sub .f64 4602678819172646912 (fop .sub .f64 (z0e a0) 4602678819172646912)) 4618760256179416344)) 4607182418800017408 4620693217682128896))))) (grd (za7 (fop .mul .f64 (fop .mul .f64 (fop .sub .f64 (z0e a0) 4602678819172646912) 4618760256179416344) (fop .mul .f64 (fop .sub .f64 (z0e a0) 4602678819172646912) 4618760256179416344)) 4607182418800017408 4620693217682128896) (k_ (fneg .f64 (fop .mul .f64 (fop .mul .f64 (fop .sub .f64 (z0e a0) 4602678819172646912) 4618760256179416344) (z7k (fop .mul .f64 (fop .mul .f64 (fop .sub .f64 (z0e a0) 4602678819172646912) 4618760256179416344) (fop .mul .f64 (fop .sub .f64 (z0e a0) 4602678819172646912) 4618760256179416344)) 4607182418800017408 4620693217682128896)))))) (br (fcmp .gtr .f64 (z0e a0) 4598175219545276416) (grd (za7 (fop .mul .f64 (fop .mul .f64 (fop .sub .f64 4602678819172646912 (z0e a0)) 4618760256179416344) (fop .mul .f64 (fop .sub .f64 4602678819172646912 (z0e a0)) 4618760256179416344)) 4607182418800017408 4620693217682128896) (k_ (fop .mul .f64 (fop .mul .f64 (fop .sub .f64 4602678819172646912 (z0e a0)) 4618760256179416344) (z7k (fop .mul .f64 (fop .mul .f64 (fop .sub .f64 4602678819172646912 (z0e a0)) 4618760256179416344) (fop .mul .f64 (fop .sub .f64 4602678819172646912 (z0e a0)) 4618760256179416344)) 4607182418800017408 4620693217682128896)))) (grd (za7 (fop .mul .f64 (fop .mul .f64 (z0e a0) 4618760256179416344) (fop .mul .f64 (z0e a0) 4618760256179416344)) 4607182418800017408 4620693217682128896) (k_ (fop .mul .f64 (fop .mul .f64 (z0e a0) 4618760256179416344) (z7k (fop .mul .f64 (fop .mul .f64 (z0e a0) 4618760256179416344) (fop .mul .f64 (z0e a0) 4618760256179416344)) 4607182418800017408 4620693217682128896)))))))
def zdc:Option (Nat):=zqh a0 (fun c0_=>some c0_)
theorem y7h:Nt1 (fun {R}=>zqh (R:=R) a0):=by
 intro R R' o h0 k;unfold zqh;repeat (first | apply grd_out h0 | apply br_out | rfl)
def y5z:Bool:=(zdc a0).isSome
def zuo:Nat:=((zdc a0).getD default)
def zfo{R:Type}(k_:Nat→Option R):Option R:=(grd (zt1 (fop .add .f64 (fcvV .f32 .f64 a0) 4602678819172646912)) (grd (fcvB .f64 .f32 (fop .sub .f64 (fcvV .f32 .f64 a0) (z9c (fop .add .f64 (fcvV .f32 .f64 a0) 4602678819172646912)))) (br (fcmp .geq .f32 (fcvV .f64 .f32 (fop .sub .f64 (fcvV .f32 .f64 a0) (z9c (fop .add .f64 (fcvV .f32 .f64 a0) 4602678819172646912)))) 1056964608) (k_ 3204448256) (k_ (fcvV .f64 .f32 (fop .sub .f64 (fcvV .f32 .f64 a0) (z9c (fop .add .f64 (fcvV .f32 .f64 a0) 4602678819172646912))))))))
def z6k:Option (Nat):=zfo a0 (fun c0_=>some c0_)
theorem y0d:Nt1 (fun {R}=>zfo (R:=R) a0):=by
 intro R R' o h0 k;unfold zfo;repeat (first | apply grd_out h0 | apply br_out | rfl)
def zto:Bool:=(z6k a0).isSome
def z15:Nat:=((z6k a0).getD default)
def zix{R:Type}(k_:Nat→Option R):Option R:=(grd (zt1 (fop .add .f64 (fcvV .f32 .f64 a0) 4602678819172646912)) (grd (zlo (fop .sub .f64 (fcvV .f32 .f64 a0) (z9c (fop .add .f64 (fcvV .f32 .f64 a0) 4602678819172646912)))) (br (fcmp .geq .f32 (ze6 (fop .sub .f64 (fcvV .f32 .f64 a0) (z9c (fop .add .f64 (fcvV .f32 .f64 a0) 4602678819172646912)))) 1056964608) (k_ 3204448256) (k_ (ze6 (fop .sub .f64 (fcvV .f32 .f64 a0) (z9c (fop .add .f64 (fcvV .f32 .f64 a0) 4602678819172646912))))))))
def z8e:Option (Nat):=zix a0 (fun c0_=>some c0_)
theorem y3p:Nt1 (fun {R}=>zix (R:=R) a0):=by
 intro R R' o h0 k;unfold zix;repeat (first | apply grd_out h0 | apply br_out | rfl)
def zyk:Bool:=(z8e a0).isSome
def z4q:Nat:=((z8e a0).getD default)
def z4r{R:Type}(kn_:Nat→Int→Option R)(k0_:Unit→Option R)(k1_:Nat→Int→Bool→Option R):Option R:=(br (ltI c5 c0) (grd (okIx c5 a2) (br (bnot (fcmp .gtr .f32 (gF g1 (ixO 0 c5 3)) a4)) (k0_ ()) (br (bnot (fcmp .lss .f32 (gF g1 (ixO 0 c5 3)) a3)) (k0_ ()) (grd (zbx (gF g1 (Nat.succ (ixO 0 c5 3)))) (br (bnot (zas (gF g1 (Nat.succ (ixO 0 c5 3))))) (k0_ ()) (grd (z1c (gF g1 (Nat.succ (Nat.succ (ixO 0 c5 3))))) (br (bnot (z16 (gF g1 (Nat.succ (Nat.succ (ixO 0 c5 3)))))) (k0_ ()) (kn_ (gF g1 (ixO 0 c5 3)) (addI .i64 c5 1))))))))) (k1_ a4 c5 (ltI c5 c0)))
theorem y1d{R R':Type}(o:Option R→Option R')(h0:o none=none)(kn_:Nat→Int→Option R)(k0_:Unit→Option R)(k1_:Nat→Int→Bool→Option R):z4r c0 g1 a2 a3 a4 c5 (fun t4' t58'=>o (kn_ t4' t58')) (fun _=>o (k0_ ())) (fun c0_ c1_ c2_=>o (k1_ c0_ c1_ c2_))=o (z4r c0 g1 a2 a3 a4 c5 kn_ k0_ k1_):=by
 unfold z4r
 repeat (first | apply grd_out h0 | apply br_out | rfl)
def z17(t57:Int)(b3:List Nat)(q0p q0u:Nat):Nat→Nat→Int→Option ((Unit)⊕(Nat×Int×Bool))
 | 0,_,_=>none
 | n+1,t4,t58=>z4r t57 b3 q0p q0u  t4 t58  (fun t4' t58'=>z17 t57 b3 q0p q0u n t4' t58') (fun _=>some (Sum.inl ())) (fun c0_ c1_ c2_=>some (Sum.inr (c0_,c1_,c2_)))
theorem zoe:z17 c0 g1 a2 a3 (a4+1) a5 c6=z4r c0 g1 a2 a3  a5 c6  (fun t4' t58'=>z17 c0 g1 a2 a3 a4 t4' t58') (fun _=>some (Sum.inl ())) (fun c0_ c1_ c2_=>some (Sum.inr (c0_,c1_,c2_))):=rfl
def zhn:Bool:=(z17 c0 g1 a2 a3 big a4 c5).isSome
def zg7:Bool:=oL (z17 c0 g1 a2 a3 big a4 c5)
def y2s:Nat:=((tR (z17 c0 g1 a2 a3 big a4 c5)).getD default).1
def y2y:Int:=((tR (z17 c0 g1 a2 a3 big a4 c5)).getD default).2.1
def y30:Bool:=((tR (z17 c0 g1 a2 a3 big a4 c5)).getD default).2.2
def zcl{R:Type}(k_:Bool→Option R):Option R:=(grd (z6a a0 (pF g1 0 (muN a0 1))) (k_ (bnot (z63 a0 (pF g1 0 (muN a0 1))))))
def z1x:Option (Bool):=zcl a0 g1 (fun c0_=>some c0_)
theorem zwb:Nt1 (fun {R}=>zcl (R:=R) a0 g1):=by
 intro R R' o h0 k;unfold zcl;repeat (first | apply grd_out h0 | apply br_out | rfl)
def z8o:Bool:=(z1x a0 g1).isSome
def z80:Bool:=((z1x a0 g1).getD default)
def zol{R:Type}(k_:Bool→Option R):Option R:=(grd (y3x a0 (pF g1 0 (muN a0 1)) a2 (pF g3 0 (muN a2 1)) a4 (pF g5 0 (muN a4 1))) (br (bnot (y0x a0 (pF g1 0 (muN a0 1)) a2 (pF g3 0 (muN a2 1)) a4 (pF g5 0 (muN a4 1)))) (k_ Bool.false) (br (ltI (Int.ofNat a6) 2) (k_ Bool.false) (br (ltI 12 (Int.ofNat a6)) (k_ Bool.false) (grd (zu6 c8 1 6) (br (bnot (zqz c8 1 6)) (k_ Bool.false) (grd (z8y a9) (br (bnot (z86 a9)) (k_ Bool.false) (grd (z1c a10) (br (bnot (z16 a10)) (k_ Bool.false) (grd (zhn (Int.ofNat a6) g7 a6 a10 a9 0) (br (zg7 (Int.ofNat a6) g7 a6 a10 a9 0) (k_ Bool.false) (k_ Bool.true)))))))))))))
def zap:Option (Bool):=zol a0 g1 a2 g3 a4 g5 a6 g7 c8 a9 a10 (fun c0_=>some c0_)
theorem y6d:Nt1 (fun {R}=>zol (R:=R) a0 g1 a2 g3 a4 g5 a6 g7 c8 a9 a10):=by
 intro R R' o h0 k;unfold zol;repeat (first | apply grd_out h0 | apply br_out | rfl)
def zuf:Bool:=(zap a0 g1 a2 g3 a4 g5 a6 g7 c8 a9 a10).isSome
def zrf:Bool:=((zap a0 g1 a2 g3 a4 g5 a6 g7 c8 a9 a10).getD default)
def zgj{R:Type}(k_:Bool→Option R):Option R:=(grd (z6v a0 (pF g1 0 (muN a0 1))) (k_ (bnot (z6e a0 (pF g1 0 (muN a0 1))))))
def z4y:Option (Bool):=zgj a0 g1 (fun c0_=>some c0_)
theorem y0c:Nt1 (fun {R}=>zgj (R:=R) a0 g1):=by
 intro R R' o h0 k;unfold zgj;repeat (first | apply grd_out h0 | apply br_out | rfl)
def zlw:Bool:=(z4y a0 g1).isSome
def zjp:Bool:=((z4y a0 g1).getD default)
def zhk{R:Type}(k_:Bool→Option R):Option R:=(grd (z78 a0 (pF g1 0 (muN a0 1))) (k_ (bnot (z75 a0 (pF g1 0 (muN a0 1))))))
def z7b:Option (Bool):=zhk a0 g1 (fun c0_=>some c0_)
theorem y1w:Nt1 (fun {R}=>zhk (R:=R) a0 g1):=by
 intro R R' o h0 k;unfold zhk;repeat (first | apply grd_out h0 | apply br_out | rfl)
def zvk:Bool:=(z7b a0 g1).isSome
def ztn:Bool:=((z7b a0 g1).getD default)
def zg1{R:Type}(k_:Nat→Option R):Option R:=(grd (z38 a0) (br (bnot (z2l a0)) (grd zzn (grd (fcvB .f64 .f32 zqg) (k_ (fcvV .f64 .f32 zqg)))) (grd (y15 (fcvV .f32 .f64 a0)) (br (zyc (fcvV .f32 .f64 a0)) (k_ 0) (grd (y5z (fcvV .f32 .f64 a0)) (grd (fcvB .f64 .f32 (zuo (fcvV .f32 .f64 a0))) (k_ (fcvV .f64 .f32 (zuo (fcvV .f32 .f64 a0))))))))))
def z6o:Option (Nat):=zg1 a0 (fun c0_=>some c0_)
theorem y09:Nt1 (fun {R}=>zg1 (R:=R) a0):=by
 intro R R' o h0 k;unfold zg1;repeat (first | apply grd_out h0 | apply br_out | rfl)
def z50:Bool:=(z6o a0).isSome
def z1o:Nat:=((z6o a0).getD default)
def zef{R:Type}(k_:Nat→Nat→Bool→Option R):Option R:=(grd (zlw 2 (pF [a0,a1] 0 (muN 2 1))) (br (bnot (zjp 2 (pF [a0,a1] 0 (muN 2 1)))) (k_ 0 0 Bool.false) (k_ a0 a1 Bool.true)))
def z3p:Option (Nat×Nat×Bool):=zef a0 a1 (fun c0_ c1_ c2_=>some (c0_,c1_,c2_))
theorem zxl:Nt3 (fun {R}=>zef (R:=R) a0 a1):=by
 intro R R' o h0 k;unfold zef;repeat (first | apply grd_out h0 | apply br_out | rfl)
def zk5:Bool:=(z3p a0 a1).isSome
def zik:Nat:=((z3p a0 a1).getD default).1
def zi3:Nat:=((z3p a0 a1).getD default).2.1
def zil:Bool:=((z3p a0 a1).getD default).2.2
def ze8{R:Type}(k_:Bool→Option R):Option R:=(grd (zuf a0 (pF g1 0 (muN a0 1)) a2 (pF g3 0 (muN a2 1)) a4 (pF g5 0 (muN a4 1)) a6 (pF g7 0 (muN a6 3)) c8 a9 a10) (br (zrf a0 (pF g1 0 (muN a0 1)) a2 (pF g3 0 (muN a2 1)) a4 (pF g5 0 (muN a4 1)) a6 (pF g7 0 (muN a6 3)) c8 a9 a10) (grd (zu6 c11 0 (subI .i64 (Int.ofNat a6) 1)) (k_ (zqz c11 0 (subI .i64 (Int.ofNat a6) 1)))) (k_ Bool.false)))
def z5u:Option (Bool):=ze8 a0 g1 a2 g3 a4 g5 a6 g7 c8 a9 a10 c11 (fun c0_=>some c0_)
theorem zyt:Nt1 (fun {R}=>ze8 (R:=R) a0 g1 a2 g3 a4 g5 a6 g7 c8 a9 a10 c11):=by
 intro R R' o h0 k;unfold ze8;repeat (first | apply grd_out h0 | apply br_out | rfl)
def zry:Bool:=(z5u a0 g1 a2 g3 a4 g5 a6 g7 c8 a9 a10 c11).isSome
def zqs:Bool:=((z5u a0 g1 a2 g3 a4 g5 a6 g7 c8 a9 a10 c11).getD default)
def z94{R:Type}(q06:Nat)(q0b:List Nat)(q08:Nat)(q0c:List Nat)(q09:Nat)(q0d:List Nat)(q0f:Nat)(q0i:List Nat)(q0k:Int)(q0o q0n:Nat)(i:Int)(q1g:Nat)(k_:Nat→Option R):Option R:=(grd (okIx i q0f) (grd (z50 q1g) (k_ (fop .quo .f32 (fop .quo .f32 (fop .mul .f32 (fOI .f32 q0k) (fop .sub .f32 q0n (gF q0i (ixO 0 i 3)))) (fop .mul .f32 1073741824 (gF q0i (ixO 0 i 3)))) (fop .add .f32 (fop .quo .f32 (fop .mul .f32 (fOI .f32 q0k) (fop .sub .f32 q0n (gF q0i (ixO 0 i 3)))) (fop .mul .f32 1073741824 (gF q0i (ixO 0 i 3)))) (z1o q1g))))))
def z3s:Option (Nat):=z94 a0 g1 a2 g3 a4 g5 a6 g7 c8 a9 a10 c11 a12 (fun c0_=>some c0_)
theorem zsw:Nt1 (fun {R}=>z94 (R:=R) a0 g1 a2 g3 a4 g5 a6 g7 c8 a9 a10 c11 a12):=by
 intro R R' o h0 k;unfold z94;repeat (first | apply grd_out h0 | apply br_out | rfl)
def zmt:Bool:=(z3s a0 g1 a2 g3 a4 g5 a6 g7 c8 a9 a10 c11 a12).isSome
def zda:Nat:=((z3s a0 g1 a2 g3 a4 g5 a6 g7 c8 a9 a10 c11 a12).getD default)
def z0f{R:Type}(kn_:Int→Option R)(k0_:Int→Option R)(k1_:Int→Bool→Option R):Option R:=(br (ltI c4 c1) (grd (okIx c4 a0) (br (fcmp .gtr .f32 (gF g2 (ixO 0 c4 1)) a3) (k0_ c4) (kn_ (addI .i64 c4 1)))) (k1_ c4 (ltI c4 c1)))
theorem za5{R R':Type}(o:Option R→Option R')(h0:o none=none)(kn_:Int→Option R)(k0_:Int→Option R)(k1_:Int→Bool→Option R):z0f a0 c1 g2 a3 c4 (fun t8'=>o (kn_ t8')) (fun c0_=>o (k0_ c0_)) (fun c0_ c1_=>o (k1_ c0_ c1_))=o (z0f a0 c1 g2 a3 c4 kn_ k0_ k1_):=by
 unfold z0f
 repeat (first | apply grd_out h0 | apply br_out | rfl)
def z00(sn:Nat)(t7:Int)(b0:List Nat)(b4:Nat):Nat→Int→Option ((Int)⊕(Int×Bool))
 | 0,_=>none
 | n+1,t8=>z0f sn t7 b0 b4  t8  (fun t8'=>z00 sn t7 b0 b4 n t8') (fun c0_=>some (Sum.inl c0_)) (fun c0_ c1_=>some (Sum.inr (c0_,c1_)))
theorem z4p:z00 a0 c1 g2 a3 (a4+1) c5=z0f a0 c1 g2 a3  c5  (fun t8'=>z00 a0 c1 g2 a3 a4 t8') (fun c0_=>some (Sum.inl c0_)) (fun c0_ c1_=>some (Sum.inr (c0_,c1_))):=rfl
def z34:Bool:=(z00 a0 c1 g2 a3 big c4).isSome
def z2u:Bool:=oL (z00 a0 c1 g2 a3 big c4)
def z0c:Int:=((tL (z00 a0 c1 g2 a3 big c4)).getD default)
def zau:Int:=((tR (z00 a0 c1 g2 a3 big c4)).getD default).1
def zad:Bool:=((tR (z00 a0 c1 g2 a3 big c4)).getD default).2
def z3o{R:Type}(kn_:Int→Option R)(k0_:Int→Bool→Option R):Option R:=(br (leI 0 c3) (grd (okIx c3 a2) (br (fcmp .gtr .f32 (gF g1 (ixO 0 c3 1)) a0) (kn_ (subI .i64 c3 1)) (k0_ c3 (fcmp .gtr .f32 (gF g1 (ixO 0 c3 1)) a0)))) (k0_ c3 Bool.false))
theorem zyp{R R':Type}(o:Option R→Option R')(h0:o none=none)(kn_:Int→Option R)(k0_:Int→Bool→Option R):z3o a0 g1 a2 c3 (fun t10'=>o (kn_ t10')) (fun c0_ c1_=>o (k0_ c0_ c1_))=o (z3o a0 g1 a2 c3 kn_ k0_):=by
 unfold z3o
 repeat (first | apply grd_out h0 | apply br_out | rfl)
def z1p(t8:Nat)(b0:List Nat)(q1h:Nat):Nat→Int→Option ((Int×Bool))
 | 0,_=>none
 | n+1,t10=>z3o t8 b0 q1h  t10  (fun t10'=>z1p t8 b0 q1h n t10') (fun c0_ c1_=>some (c0_,c1_))
theorem zkj:z1p a0 g1 a2 (a3+1) c4=z3o a0 g1 a2  c4  (fun t10'=>z1p a0 g1 a2 a3 t10') (fun c0_ c1_=>some (c0_,c1_)):=rfl
def zru:Bool:=(z1p a0 g1 a2 big c3).isSome
def zne:Int:=((z1p a0 g1 a2 big c3).getD default).1
def y00:Bool:=((z1p a0 g1 a2 big c3).getD default).2
def zks{R:Type}(k_:Bool→Option R):Option R:=(grd (zry a0 (pF g1 0 (muN a0 1)) a2 (pF g3 0 (muN a2 1)) a4 (pF g5 0 (muN a4 1)) a6 (pF g7 0 (muN a6 3)) c8 a9 a10 c11) (br (zqs a0 (pF g1 0 (muN a0 1)) a2 (pF g3 0 (muN a2 1)) a4 (pF g5 0 (muN a4 1)) a6 (pF g7 0 (muN a6 3)) c8 a9 a10 c11) (grd (zbx a12) (br (zas a12) (grd (zbx a13) (br (zas a13) (grd (z1c a14) (br (z16 a14) (grd (zvx a0 (pF g1 0 (muN a0 1)) a2 (pF g3 0 (muN a2 1)) a4 (pF g5 0 (muN a4 1)) a6 (pF g7 0 (muN a6 3)) c8 a9 a10 c11 a14) (k_ (ztt a0 (pF g1 0 (muN a0 1)) a2 (pF g3 0 (muN a2 1)) a4 (pF g5 0 (muN a4 1)) a6 (pF g7 0 (muN a6 3)) c8 a9 a10 c11 a14))) (k_ Bool.false))) (k_ Bool.false))) (k_ Bool.false))) (k_ Bool.false)))
def z98:Option (Bool):=zks a0 g1 a2 g3 a4 g5 a6 g7 c8 a9 a10 c11 a12 a13 a14 (fun c0_=>some c0_)
theorem y4i:Nt1 (fun {R}=>zks (R:=R) a0 g1 a2 g3 a4 g5 a6 g7 c8 a9 a10 c11 a12 a13 a14):=by
 intro R R' o h0 k;unfold zks;repeat (first | apply grd_out h0 | apply br_out | rfl)
def y10:Bool:=(z98 a0 g1 a2 g3 a4 g5 a6 g7 c8 a9 a10 c11 a12 a13 a14).isSome
def zxe:Bool:=((z98 a0 g1 a2 g3 a4 g5 a6 g7 c8 a9 a10 c11 a12 a13 a14).getD default)
def z69{R:Type}(q13:Nat)(q1d:List Nat)(q14:Nat)(q1c:List Nat)(x1:Nat)(k_:Int→Int→Nat→Nat→Nat→Option R):Option R:=(grd (zto x1) (grd (z34 a0 (Int.ofNat a0) g1 (z15 x1) 0) (br (z2u a0 (Int.ofNat a0) g1 (z15 x1) 0) (br (eqI (z0c a0 (Int.ofNat a0) g1 (z15 x1) 0) 0) (grd (okIx (subI .i64 (Int.ofNat a0) 1) a0) (grd (okIx 0 a0) (k_ (subI .i64 (Int.ofNat a0) 1) 0 (fop .sub .f32 (gF g1 (ixO 0 (subI .i64 (Int.ofNat a0) 1) 1)) 1065353216) (gF g1 (ixO 0 0 1)) (z15 x1)))) (br (ltI (z0c a0 (Int.ofNat a0) g1 (z15 x1) 0) 0) (grd (okIx (subI .i64 (Int.ofNat a0) 1) a0) (grd (okIx 0 a0) (k_ (subI .i64 (Int.ofNat a0) 1) 0 (gF g1 (ixO 0 (subI .i64 (Int.ofNat a0) 1) 1)) (fop .add .f32 (gF g1 (ixO 0 0 1)) 1065353216) (z15 x1)))) (grd (okIx (subI .i64 (z0c a0 (Int.ofNat a0) g1 (z15 x1) 0) 1) a0) (grd (okIx (z0c a0 (Int.ofNat a0) g1 (z15 x1) 0) a0) (k_ (subI .i64 (z0c a0 (Int.ofNat a0) g1 (z15 x1) 0) 1) (z0c a0 (Int.ofNat a0) g1 (z15 x1) 0) (gF g1 (ixO 0 (subI .i64 (z0c a0 (Int.ofNat a0) g1 (z15 x1) 0) 1) 1)) (gF g1 (ixO 0 (z0c a0 (Int.ofNat a0) g1 (z15 x1) 0) 1)) (z15 x1)))))) (grd (okIx (subI .i64 (Int.ofNat a0) 1) a0) (grd (okIx 0 a0) (k_ (subI .i64 (Int.ofNat a0) 1) 0 (gF g1 (ixO 0 (subI .i64 (Int.ofNat a0) 1) 1)) (fop .add .f32 (gF g1 (ixO 0 0 1)) 1065353216) (z15 x1)))))))
def z13:Option (Int×Int×Nat×Nat×Nat):=z69 a0 g1 a2 g3 a4 g5 a6 (fun c0_ c1_ c2_ c3_ c4_=>some (c0_,c1_,c2_,c3_,c4_))
theorem zrk:Nt5 (fun {R}=>z69 (R:=R) a0 g1 a2 g3 a4 g5 a6):=by
 intro R R' o h0 k;unfold z69;repeat (first | apply grd_out h0 | apply br_out | rfl)
def zkf:Bool:=(z13 a0 g1 a2 g3 a4 g5 a6).isSome
def z2t:Int:=((z13 a0 g1 a2 g3 a4 g5 a6).getD default).1
def z2r:Int:=((z13 a0 g1 a2 g3 a4 g5 a6).getD default).2.1
def z47:Nat:=((z13 a0 g1 a2 g3 a4 g5 a6).getD default).2.2.1
def z7w:Nat:=((z13 a0 g1 a2 g3 a4 g5 a6).getD default).2.2.2.1
def zbl:Nat:=((z13 a0 g1 a2 g3 a4 g5 a6).getD default).2.2.2.2
def zbu:=(fop .add .f32 (gF g0 (ixO 0 0 1)) 1065353216)
def z0b:=(zne (z4q a2) g1 a0 (subI .i64 (Int.ofNat a0) 1))
def z97:=(gF g1 (ixO 0 (subI .i64 (Int.ofNat a0) 1) 1))
def zbv:=(fcmp .lss .f32 (z4q a1) (gF g0 (ixO 0 0 1)))
def zc9:=(okIx (z0b a0 g1 a2) a0)
def zcq:=(fop .sub .f32 (z97 a0 g1) 1065353216)
def z5x:=(gF g1 (ixO 0 (z0b a0 g1 a2) 1))
def z8w:=(eqI (addI .i64 (z0b a0 g1 a2) 1) 0)
def z7d:=(gF g1 (ixO 0 (addI .i64 (z0b a0 g1 a2) 1) 1))
def z8v:=(fop .sub .f32 (z5x a0 g1 a2) 1065353216)
def z54:=(fop .sub .f32 (z4q a2) (z5x a0 g1 a2))
def z6u:=(fop .sub .f32 (gF g1 (ixO 0 0 1)) (zcq a0 g1))
def z6n:=(fop .sub .f32 (zbu g1) (z97 a0 g1))
def zar:=(fop .sub .f32 (z4q a2) (z8v a0 g1 a2))
def z6t:=(fop .sub .f32 (zbu g1) (z5x a0 g1 a2))
def z6j:=(fop .sub .f32 (gF g1 (ixO 0 0 1)) (z8v a0 g1 a2))
def z2k:=(fop .sub .f32 (z7d a0 g1 a2) (z5x a0 g1 a2))
def z6i:=(fop .sub .f32 (z7d a0 g1 a2) (z8v a0 g1 a2))
def z2m:=(fop .sub .f32 (fop .add .f32 (z7d a0 g1 a2) 1065353216) (z5x a0 g1 a2))
def zej{R:Type}(q13:Nat)(q1d:List Nat)(q14:Nat)(q1c:List Nat)(x1:Nat)(k_:Int→Int→Nat→Nat→Option R):Option R:=(grd (zyk x1) (grd (zru (z4q x1) g1 a0 (subI .i64 (Int.ofNat a0) 1)) (br (ltI (z0b a0 g1 x1) 0) (grd (okIx (subI .i64 (Int.ofNat a0) 1) a0) (grd (okIx 0 a0) (br (zbv g1 x1) (br (fcmp .eql .f32 (z6u a0 g1) 0) (k_ (subI .i64 (Int.ofNat a0) 1) 0 0 (z6u a0 g1)) (k_ (subI .i64 (Int.ofNat a0) 1) 0 (fop .quo .f32 (fop .sub .f32 (z4q x1) (zcq a0 g1)) (z6u a0 g1)) (z6u a0 g1))) (br (fcmp .eql .f32 (z6n a0 g1) 0) (k_ (subI .i64 (Int.ofNat a0) 1) 0 0 (z6n a0 g1)) (k_ (subI .i64 (Int.ofNat a0) 1) 0 (fop .quo .f32 (fop .sub .f32 (z4q x1) (z97 a0 g1)) (z6n a0 g1)) (z6n a0 g1)))))) (br (eqI (addI .i64 (z0b a0 g1 x1) 1) (Int.ofNat a0)) (grd (zc9 a0 g1 x1) (grd (okIx 0 a0) (br (zbv g1 x1) (br (fcmp .eql .f32 (z6j a0 g1 x1) 0) (k_ (z0b a0 g1 x1) 0 0 (z6j a0 g1 x1)) (k_ (z0b a0 g1 x1) 0 (fop .quo .f32 (zar a0 g1 x1) (z6j a0 g1 x1)) (z6j a0 g1 x1))) (br (fcmp .eql .f32 (z6t a0 g1 x1) 0) (k_ (z0b a0 g1 x1) 0 0 (z6t a0 g1 x1)) (k_ (z0b a0 g1 x1) 0 (fop .quo .f32 (z54 a0 g1 x1) (z6t a0 g1 x1)) (z6t a0 g1 x1)))))) (grd (zc9 a0 g1 x1) (grd (okIx (addI .i64 (z0b a0 g1 x1) 1) a0) (br (z8w a0 g1 x1) (br (fcmp .lss .f32 (z4q x1) (z7d a0 g1 x1)) (br (fcmp .eql .f32 (z6i a0 g1 x1) 0) (k_ (z0b a0 g1 x1) (addI .i64 (z0b a0 g1 x1) 1) 0 (z6i a0 g1 x1)) (k_ (z0b a0 g1 x1) (addI .i64 (z0b a0 g1 x1) 1) (fop .quo .f32 (zar a0 g1 x1) (z6i a0 g1 x1)) (z6i a0 g1 x1))) (br (z8w a0 g1 x1) (br (fcmp .eql .f32 (z2m a0 g1 x1) 0) (k_ (z0b a0 g1 x1) (addI .i64 (z0b a0 g1 x1) 1) 0 (z2m a0 g1 x1)) (k_ (z0b a0 g1 x1) (addI .i64 (z0b a0 g1 x1) 1) (fop .quo .f32 (z54 a0 g1 x1) (z2m a0 g1 x1)) (z2m a0 g1 x1))) (br (fcmp .eql .f32 (z2k a0 g1 x1) 0) (k_ (z0b a0 g1 x1) (addI .i64 (z0b a0 g1 x1) 1) 0 (z2k a0 g1 x1)) (k_ (z0b a0 g1 x1) (addI .i64 (z0b a0 g1 x1) 1) (fop .quo .f32 (z54 a0 g1 x1) (z2k a0 g1 x1)) (z2k a0 g1 x1))))) (br (z8w a0 g1 x1) (br (fcmp .eql .f32 (z2m a0 g1 x1) 0) (k_ (z0b a0 g1 x1) (addI .i64 (z0b a0 g1 x1) 1) 0 (z2m a0 g1 x1)) (k_ (z0b a0 g1 x1) (addI .i64 (z0b a0 g1 x1) 1) (fop .quo .f32 (z54 a0 g1 x1) (z2m a0 g1 x1)) (z2m a0 g1 x1))) (br (fcmp .eql .f32 (z2k a0 g1 x1) 0) (k_ (z0b a0 g1 x1) (addI .i64 (z0b a0 g1 x1) 1) 0 (z2k a0 g1 x1)) (k_ (z0b a0 g1 x1) (addI .i64 (z0b a0 g1 x1) 1) (fop .quo .f32 (z54 a0 g1 x1) (z2k a0 g1 x1)) (z2k a0 g1 x1)))))))))))
def z3z:Option (Int×Int×Nat×Nat):=zej a0 g1 a2 g3 a4 g5 a6 (fun c0_ c1_ c2_ c3_=>some (c0_,c1_,c2_,c3_))
theorem y3h:Nt4 (fun {R}=>zej (R:=R) a0 g1 a2 g3 a4 g5 a6):=by
 intro R R' o h0 k;unfold zej;repeat (first | apply grd_out h0 | apply br_out | rfl)
def zy5:Bool:=(z3z a0 g1 a2 g3 a4 g5 a6).isSome
def zcb:Int:=((z3z a0 g1 a2 g3 a4 g5 a6).getD default).1
def znz:Int:=((z3z a0 g1 a2 g3 a4 g5 a6).getD default).2.1
def zvl:Nat:=((z3z a0 g1 a2 g3 a4 g5 a6).getD default).2.2.1
def y7n:Nat:=((z3z a0 g1 a2 g3 a4 g5 a6).getD default).2.2.2
def z1t{R:Type}(kn_:Int→Option R)(k0_:Unit→Option R)(k1_:Int→Bool→Option R):Option R:=(br (ltI c4 c1) (grd (okIx c4 a0) (grd (zno (gF g2 (ixO 0 c4 1)) 3204448256 1056964608) (br (bnot (zls (gF g2 (ixO 0 c4 1)) 3204448256 1056964608)) (k0_ ()) (br (ltI 0 c4) (grd (okIx (subI .i64 c4 1) a3) (br (fcmp .geq .f32 (gF g2 (ixO 0 (subI .i64 c4 1) 1)) (gF g2 (ixO 0 c4 1))) (k0_ ()) (kn_ (addI .i64 c4 1)))) (kn_ (addI .i64 c4 1)))))) (k1_ c4 (ltI c4 c1)))
theorem zr9{R R':Type}(o:Option R→Option R')(h0:o none=none)(kn_:Int→Option R)(k0_:Unit→Option R)(k1_:Int→Bool→Option R):z1t a0 c1 g2 a3 c4 (fun t44'=>o (kn_ t44')) (fun _=>o (k0_ ())) (fun c0_ c1_=>o (k1_ c0_ c1_))=o (z1t a0 c1 g2 a3 c4 kn_ k0_ k1_):=by
 unfold z1t
 repeat (first | apply grd_out h0 | apply br_out | rfl)
def z10(q2z:Nat)(t43:Int)(b0:List Nat)(q1h:Nat):Nat→Int→Option ((Unit)⊕(Int×Bool))
 | 0,_=>none
 | n+1,t44=>z1t q2z t43 b0 q1h  t44  (fun t44'=>z10 q2z t43 b0 q1h n t44') (fun _=>some (Sum.inl ())) (fun c0_ c1_=>some (Sum.inr (c0_,c1_)))
theorem zfh:z10 a0 c1 g2 a3 (a4+1) c5=z1t a0 c1 g2 a3  c5  (fun t44'=>z10 a0 c1 g2 a3 a4 t44') (fun _=>some (Sum.inl ())) (fun c0_ c1_=>some (Sum.inr (c0_,c1_))):=rfl
def z8j:Bool:=(z10 a0 c1 g2 a3 big c4).isSome
def z7v:Bool:=oL (z10 a0 c1 g2 a3 big c4)
def zst:Int:=((tR (z10 a0 c1 g2 a3 big c4)).getD default).1
def zsq:Bool:=((tR (z10 a0 c1 g2 a3 big c4)).getD default).2
def zaz{R:Type}(k_:Bool→Option R):Option R:=(br (ltI (Int.ofNat a0) 2) (k_ Bool.false) (br (ltI 24 (Int.ofNat a0)) (k_ Bool.false) (br (neI (Int.ofNat a2) (Int.ofNat a0)) (k_ Bool.false) (br (neI (Int.ofNat a4) (Int.ofNat a0)) (k_ Bool.false) (grd (zlw a2 (pF g3 0 (muN a2 1))) (br (bnot (zjp a2 (pF g3 0 (muN a2 1)))) (k_ Bool.false) (grd (zvk a4 (pF g5 0 (muN a4 1))) (br (bnot (ztn a4 (pF g5 0 (muN a4 1)))) (k_ Bool.false) (grd (z8j a0 (Int.ofNat a0) g1 a0 0) (br (z7v a0 (Int.ofNat a0) g1 a0 0) (k_ Bool.false) (k_ Bool.true)))))))))))
def z4m:Option (Bool):=zaz a0 g1 a2 g3 a4 g5 (fun c0_=>some c0_)
theorem zv2:Nt1 (fun {R}=>zaz (R:=R) a0 g1 a2 g3 a4 g5):=by
 intro R R' o h0 k;unfold zaz;repeat (first | apply grd_out h0 | apply br_out | rfl)
def zp6:Bool:=(z4m a0 g1 a2 g3 a4 g5).isSome
def znc:Bool:=((z4m a0 g1 a2 g3 a4 g5).getD default)
def ze4{R:Type}(k_:Nat→Option R):Option R:=(grd (zkf a0 (pF g1 0 (muN a0 1)) a2 (pF g3 0 (muN a2 1)) a4 (pF g5 0 (muN a4 1)) a8) (br (fcmp .neq .f32 (z47 a0 (pF g1 0 (muN a0 1)) a2 (pF g3 0 (muN a2 1)) a4 (pF g5 0 (muN a4 1)) a8) (z7w a0 (pF g1 0 (muN a0 1)) a2 (pF g3 0 (muN a2 1)) a4 (pF g5 0 (muN a4 1)) a8)) (grd (okIx (z2t a0 (pF g1 0 (muN a0 1)) a2 (pF g3 0 (muN a2 1)) a4 (pF g5 0 (muN a4 1)) a8) a6) (grd (okIx (z2r a0 (pF g1 0 (muN a0 1)) a2 (pF g3 0 (muN a2 1)) a4 (pF g5 0 (muN a4 1)) a8) a6) (grd (zts (gF g7 (ixO 0 (z2t a0 (pF g1 0 (muN a0 1)) a2 (pF g3 0 (muN a2 1)) a4 (pF g5 0 (muN a4 1)) a8) 1)) (gF g7 (ixO 0 (z2r a0 (pF g1 0 (muN a0 1)) a2 (pF g3 0 (muN a2 1)) a4 (pF g5 0 (muN a4 1)) a8) 1)) (fop .quo .f32 (fop .sub .f32 (zbl a0 (pF g1 0 (muN a0 1)) a2 (pF g3 0 (muN a2 1)) a4 (pF g5 0 (muN a4 1)) a8) (z47 a0 (pF g1 0 (muN a0 1)) a2 (pF g3 0 (muN a2 1)) a4 (pF g5 0 (muN a4 1)) a8)) (fop .sub .f32 (z7w a0 (pF g1 0 (muN a0 1)) a2 (pF g3 0 (muN a2 1)) a4 (pF g5 0 (muN a4 1)) a8) (z47 a0 (pF g1 0 (muN a0 1)) a2 (pF g3 0 (muN a2 1)) a4 (pF g5 0 (muN a4 1)) a8)))) (k_ (zrg (gF g7 (ixO 0 (z2t a0 (pF g1 0 (muN a0 1)) a2 (pF g3 0 (muN a2 1)) a4 (pF g5 0 (muN a4 1)) a8) 1)) (gF g7 (ixO 0 (z2r a0 (pF g1 0 (muN a0 1)) a2 (pF g3 0 (muN a2 1)) a4 (pF g5 0 (muN a4 1)) a8) 1)) (fop .quo .f32 (fop .sub .f32 (zbl a0 (pF g1 0 (muN a0 1)) a2 (pF g3 0 (muN a2 1)) a4 (pF g5 0 (muN a4 1)) a8) (z47 a0 (pF g1 0 (muN a0 1)) a2 (pF g3 0 (muN a2 1)) a4 (pF g5 0 (muN a4 1)) a8)) (fop .sub .f32 (z7w a0 (pF g1 0 (muN a0 1)) a2 (pF g3 0 (muN a2 1)) a4 (pF g5 0 (muN a4 1)) a8) (z47 a0 (pF g1 0 (muN a0 1)) a2 (pF g3 0 (muN a2 1)) a4 (pF g5 0 (muN a4 1)) a8)))))))) (grd (okIx (z2t a0 (pF g1 0 (muN a0 1)) a2 (pF g3 0 (muN a2 1)) a4 (pF g5 0 (muN a4 1)) a8) a6) (grd (okIx (z2r a0 (pF g1 0 (muN a0 1)) a2 (pF g3 0 (muN a2 1)) a4 (pF g5 0 (muN a4 1)) a8) a6) (grd (zts (gF g7 (ixO 0 (z2t a0 (pF g1 0 (muN a0 1)) a2 (pF g3 0 (muN a2 1)) a4 (pF g5 0 (muN a4 1)) a8) 1)) (gF g7 (ixO 0 (z2r a0 (pF g1 0 (muN a0 1)) a2 (pF g3 0 (muN a2 1)) a4 (pF g5 0 (muN a4 1)) a8) 1)) 0) (k_ (zrg (gF g7 (ixO 0 (z2t a0 (pF g1 0 (muN a0 1)) a2 (pF g3 0 (muN a2 1)) a4 (pF g5 0 (muN a4 1)) a8) 1)) (gF g7 (ixO 0 (z2r a0 (pF g1 0 (muN a0 1)) a2 (pF g3 0 (muN a2 1)) a4 (pF g5 0 (muN a4 1)) a8) 1)) 0)))))))
def z5l:Option (Nat):=ze4 a0 g1 a2 g3 a4 g5 a6 g7 a8 (fun c0_=>some c0_)
theorem zxp:Nt1 (fun {R}=>ze4 (R:=R) a0 g1 a2 g3 a4 g5 a6 g7 a8):=by
 intro R R' o h0 k;unfold ze4;repeat (first | apply grd_out h0 | apply br_out | rfl)
def zjv:Bool:=(z5l a0 g1 a2 g3 a4 g5 a6 g7 a8).isSome
def z8r:Nat:=((z5l a0 g1 a2 g3 a4 g5 a6 g7 a8).getD default)
def zng{R:Type}(k_:Nat→Option R):Option R:=(grd (zy5 a0 (pF g1 0 (muN a0 1)) a2 (pF g3 0 (muN a2 1)) a4 (pF g5 0 (muN a4 1)) a8) (grd (okIx (zcb a0 (pF g1 0 (muN a0 1)) a2 (pF g3 0 (muN a2 1)) a4 (pF g5 0 (muN a4 1)) a8) a6) (grd (okIx (znz a0 (pF g1 0 (muN a0 1)) a2 (pF g3 0 (muN a2 1)) a4 (pF g5 0 (muN a4 1)) a8) a6) (grd (okIx (zcb a0 (pF g1 0 (muN a0 1)) a2 (pF g3 0 (muN a2 1)) a4 (pF g5 0 (muN a4 1)) a8) a6) (k_ (fop .add .f32 (gF g7 (ixO 0 (zcb a0 (pF g1 0 (muN a0 1)) a2 (pF g3 0 (muN a2 1)) a4 (pF g5 0 (muN a4 1)) a8) 1)) (fop .mul .f32 (zvl a0 (pF g1 0 (muN a0 1)) a2 (pF g3 0 (muN a2 1)) a4 (pF g5 0 (muN a4 1)) a8) (fop .sub .f32 (gF g7 (ixO 0 (znz a0 (pF g1 0 (muN a0 1)) a2 (pF g3 0 (muN a2 1)) a4 (pF g5 0 (muN a4 1)) a8) 1)) (gF g7 (ixO 0 (zcb a0 (pF g1 0 (muN a0 1)) a2 (pF g3 0 (muN a2 1)) a4 (pF g5 0 (muN a4 1)) a8) 1))))))))))
def zaq:Option (Nat):=zng a0 g1 a2 g3 a4 g5 a6 g7 a8 (fun c0_=>some c0_)
theorem y67:Nt1 (fun {R}=>zng (R:=R) a0 g1 a2 g3 a4 g5 a6 g7 a8):=by
 intro R R' o h0 k;unfold zng;repeat (first | apply grd_out h0 | apply br_out | rfl)
def zu2:Bool:=(zaq a0 g1 a2 g3 a4 g5 a6 g7 a8).isSome
def zrd:Nat:=((zaq a0 g1 a2 g3 a4 g5 a6 g7 a8).getD default)
def zaw{R:Type}(q0k:Int)(q0o q0n:Nat)(i:Int)(q1g q0m:Nat)(k_:Nat→Nat→Option R):Option R:=(grd (okIx i a6) (grd (zjv a0 (pF g1 0 (muN a0 1)) a2 (pF g3 0 (muN a2 1)) a4 (pF g5 0 (muN a4 1)) a2 (pF g3 0 (muN a2 1)) (fop .sub .f32 (fop .sub .f32 q1g (gF g7 (Nat.succ (Nat.succ (ixO 0 i 3))))) q0m)) (grd (zjv a0 (pF g1 0 (muN a0 1)) a2 (pF g3 0 (muN a2 1)) a4 (pF g5 0 (muN a4 1)) a4 (pF g5 0 (muN a4 1)) (fop .sub .f32 (fop .sub .f32 q1g (gF g7 (Nat.succ (Nat.succ (ixO 0 i 3))))) q0m)) (grd (z50 q1g) (grd (z50 (fop .add .f32 q1g 1048576000)) (k_ (fop .add .f32 (fop .mul .f32 (z8r a0 (pF g1 0 (muN a0 1)) a2 (pF g3 0 (muN a2 1)) a4 (pF g5 0 (muN a4 1)) a2 (pF g3 0 (muN a2 1)) (fop .sub .f32 (fop .sub .f32 q1g (gF g7 (Nat.succ (Nat.succ (ixO 0 i 3))))) q0m)) (z1o (fop .add .f32 q1g 1048576000))) (fop .mul .f32 (z8r a0 (pF g1 0 (muN a0 1)) a2 (pF g3 0 (muN a2 1)) a4 (pF g5 0 (muN a4 1)) a4 (pF g5 0 (muN a4 1)) (fop .sub .f32 (fop .sub .f32 q1g (gF g7 (Nat.succ (Nat.succ (ixO 0 i 3))))) q0m)) (z1o q1g))) (fop .sub .f32 (fop .mul .f32 (z8r a0 (pF g1 0 (muN a0 1)) a2 (pF g3 0 (muN a2 1)) a4 (pF g5 0 (muN a4 1)) a2 (pF g3 0 (muN a2 1)) (fop .sub .f32 (fop .sub .f32 q1g (gF g7 (Nat.succ (Nat.succ (ixO 0 i 3))))) q0m)) (z1o q1g)) (fop .mul .f32 (z8r a0 (pF g1 0 (muN a0 1)) a2 (pF g3 0 (muN a2 1)) a4 (pF g5 0 (muN a4 1)) a4 (pF g5 0 (muN a4 1)) (fop .sub .f32 (fop .sub .f32 q1g (gF g7 (Nat.succ (Nat.succ (ixO 0 i 3))))) q0m)) (z1o (fop .add .f32 q1g 1048576000))))))))))
def z2o:Option (Nat×Nat):=zaw a0 g1 a2 g3 a4 g5 a6 g7 c8 a9 a10 c11 a12 a13 (fun c0_ c1_=>some (c0_,c1_))
theorem zvf:Nt2 (fun {R}=>zaw (R:=R) a0 g1 a2 g3 a4 g5 a6 g7 c8 a9 a10 c11 a12 a13):=by
 intro R R' o h0 k;unfold zaw;repeat (first | apply grd_out h0 | apply br_out | rfl)
def zh4:Bool:=(z2o a0 g1 a2 g3 a4 g5 a6 g7 c8 a9 a10 c11 a12 a13).isSome
def zfn:Nat:=((z2o a0 g1 a2 g3 a4 g5 a6 g7 c8 a9 a10 c11 a12 a13).getD default).1
def zg2:Nat:=((z2o a0 g1 a2 g3 a4 g5 a6 g7 c8 a9 a10 c11 a12 a13).getD default).2
def ziu{R:Type}(k_:Nat→Option R):Option R:=(grd (zu2 a0 (pF g1 0 (muN a0 1)) a2 (pF g3 0 (muN a2 1)) a4 (pF g5 0 (muN a4 1)) a2 (pF g3 0 (muN a2 1)) a6) (k_ (zrd a0 (pF g1 0 (muN a0 1)) a2 (pF g3 0 (muN a2 1)) a4 (pF g5 0 (muN a4 1)) a2 (pF g3 0 (muN a2 1)) a6)))
def z8a:Option (Nat):=ziu a0 g1 a2 g3 a4 g5 a6 (fun c0_=>some c0_)
theorem y32:Nt1 (fun {R}=>ziu (R:=R) a0 g1 a2 g3 a4 g5 a6):=by
 intro R R' o h0 k;unfold ziu;repeat (first | apply grd_out h0 | apply br_out | rfl)
def zy4:Bool:=(z8a a0 g1 a2 g3 a4 g5 a6).isSome
def znr:Nat:=((z8a a0 g1 a2 g3 a4 g5 a6).getD default)
def zip{R:Type}(k_:Nat→Option R):Option R:=(grd (zu2 a0 (pF g1 0 (muN a0 1)) a2 (pF g3 0 (muN a2 1)) a4 (pF g5 0 (muN a4 1)) a4 (pF g5 0 (muN a4 1)) a6) (k_ (zrd a0 (pF g1 0 (muN a0 1)) a2 (pF g3 0 (muN a2 1)) a4 (pF g5 0 (muN a4 1)) a4 (pF g5 0 (muN a4 1)) a6)))
def z8b:Option (Nat):=zip a0 g1 a2 g3 a4 g5 a6 (fun c0_=>some c0_)
theorem y3m:Nt1 (fun {R}=>zip (R:=R) a0 g1 a2 g3 a4 g5 a6):=by
 intro R R' o h0 k;unfold zip;repeat (first | apply grd_out h0 | apply br_out | rfl)
def zys:Bool:=(z8b a0 g1 a2 g3 a4 g5 a6).isSome
def znd:Nat:=((z8b a0 g1 a2 g3 a4 g5 a6).getD default)
def zay{R:Type}(k_:Nat→Nat→Option R):Option R:=(grd (zh4 a0 (pF g1 0 (muN a0 1)) a2 (pF g3 0 (muN a2 1)) a4 (pF g5 0 (muN a4 1)) a6 (pF g7 0 (muN a6 3)) c8 a9 a10 c11 a12 a13) (grd (z50 a12) (grd (z50 (fop .add .f32 a12 1048576000)) (grd (zmc a0 (pF g1 0 (muN a0 1)) a2 (pF g3 0 (muN a2 1)) a4 (pF g5 0 (muN a4 1)) a6 (pF g7 0 (muN a6 3)) c8 a9 a10 c11) (grd (zmt a0 (pF g1 0 (muN a0 1)) a2 (pF g3 0 (muN a2 1)) a4 (pF g5 0 (muN a4 1)) a6 (pF g7 0 (muN a6 3)) c8 a9 a10 c11 a12) (k_ (fop .quo .f32 (fop .mul .f32 (zde a0 (pF g1 0 (muN a0 1)) a2 (pF g3 0 (muN a2 1)) a4 (pF g5 0 (muN a4 1)) a6 (pF g7 0 (muN a6 3)) c8 a9 a10 c11) (zfn a0 (pF g1 0 (muN a0 1)) a2 (pF g3 0 (muN a2 1)) a4 (pF g5 0 (muN a4 1)) a6 (pF g7 0 (muN a6 3)) c8 a9 a10 c11 a12 a13)) (fop .mul .f32 (fop .mul .f32 (fop .mul .f32 1082130432 (zda a0 (pF g1 0 (muN a0 1)) a2 (pF g3 0 (muN a2 1)) a4 (pF g5 0 (muN a4 1)) a6 (pF g7 0 (muN a6 3)) c8 a9 a10 c11 a12)) (z1o a12)) (z1o a12))) (fop .quo .f32 (fop .mul .f32 (zde a0 (pF g1 0 (muN a0 1)) a2 (pF g3 0 (muN a2 1)) a4 (pF g5 0 (muN a4 1)) a6 (pF g7 0 (muN a6 3)) c8 a9 a10 c11) (zg2 a0 (pF g1 0 (muN a0 1)) a2 (pF g3 0 (muN a2 1)) a4 (pF g5 0 (muN a4 1)) a6 (pF g7 0 (muN a6 3)) c8 a9 a10 c11 a12 a13)) (fop .mul .f32 (fop .mul .f32 (fop .mul .f32 1082130432 (zda a0 (pF g1 0 (muN a0 1)) a2 (pF g3 0 (muN a2 1)) a4 (pF g5 0 (muN a4 1)) a6 (pF g7 0 (muN a6 3)) c8 a9 a10 c11 a12)) (z1o a12)) (z1o (fop .add .f32 a12 1048576000))))))))))
def z3m:Option (Nat×Nat):=zay a0 g1 a2 g3 a4 g5 a6 g7 c8 a9 a10 c11 a12 a13 (fun c0_ c1_=>some (c0_,c1_))
theorem zuz:Nt2 (fun {R}=>zay (R:=R) a0 g1 a2 g3 a4 g5 a6 g7 c8 a9 a10 c11 a12 a13):=by
 intro R R' o h0 k;unfold zay;repeat (first | apply grd_out h0 | apply br_out | rfl)
def zh5:Bool:=(z3m a0 g1 a2 g3 a4 g5 a6 g7 c8 a9 a10 c11 a12 a13).isSome
def zfu:Nat:=((z3m a0 g1 a2 g3 a4 g5 a6 g7 c8 a9 a10 c11 a12 a13).getD default).1
def zfr:Nat:=((z3m a0 g1 a2 g3 a4 g5 a6 g7 c8 a9 a10 c11 a12 a13).getD default).2
def zg3{R:Type}(q0k:Int)(q0o q0n:Nat)(i:Int)(q1g q0m:Nat)(k_:Nat→Nat→Option R):Option R:=(grd (okIx i a6) (grd (zy4 a0 (pF g1 0 (muN a0 1)) a2 (pF g3 0 (muN a2 1)) a4 (pF g5 0 (muN a4 1)) (fop .sub .f32 (fop .sub .f32 q1g (gF g7 (Nat.succ (Nat.succ (ixO 0 i 3))))) q0m)) (grd (zys a0 (pF g1 0 (muN a0 1)) a2 (pF g3 0 (muN a2 1)) a4 (pF g5 0 (muN a4 1)) (fop .sub .f32 (fop .sub .f32 q1g (gF g7 (Nat.succ (Nat.succ (ixO 0 i 3))))) q0m)) (grd (z8d q1g) (grd (z8d (fop .add .f32 q1g 1048576000)) (k_ (fop .add .f32 (fop .mul .f32 (znr a0 (pF g1 0 (muN a0 1)) a2 (pF g3 0 (muN a2 1)) a4 (pF g5 0 (muN a4 1)) (fop .sub .f32 (fop .sub .f32 q1g (gF g7 (Nat.succ (Nat.succ (ixO 0 i 3))))) q0m)) (z1j (fop .add .f32 q1g 1048576000))) (fop .mul .f32 (znd a0 (pF g1 0 (muN a0 1)) a2 (pF g3 0 (muN a2 1)) a4 (pF g5 0 (muN a4 1)) (fop .sub .f32 (fop .sub .f32 q1g (gF g7 (Nat.succ (Nat.succ (ixO 0 i 3))))) q0m)) (z1j q1g))) (fop .sub .f32 (fop .mul .f32 (znr a0 (pF g1 0 (muN a0 1)) a2 (pF g3 0 (muN a2 1)) a4 (pF g5 0 (muN a4 1)) (fop .sub .f32 (fop .sub .f32 q1g (gF g7 (Nat.succ (Nat.succ (ixO 0 i 3))))) q0m)) (z1j q1g)) (fop .mul .f32 (znd a0 (pF g1 0 (muN a0 1)) a2 (pF g3 0 (muN a2 1)) a4 (pF g5 0 (muN a4 1)) (fop .sub .f32 (fop .sub .f32 q1g (gF g7 (Nat.succ (Nat.succ (ixO 0 i 3))))) q0m)) (z1j (fop .add .f32 q1g 1048576000))))))))))
def z4x:Option (Nat×Nat):=zg3 a0 g1 a2 g3 a4 g5 a6 g7 c8 a9 a10 c11 a12 a13 (fun c0_ c1_=>some (c0_,c1_))
theorem zzf:Nt2 (fun {R}=>zg3 (R:=R) a0 g1 a2 g3 a4 g5 a6 g7 c8 a9 a10 c11 a12 a13):=by
 intro R R' o h0 k;unfold zg3;repeat (first | apply grd_out h0 | apply br_out | rfl)
def zua:Bool:=(z4x a0 g1 a2 g3 a4 g5 a6 g7 c8 a9 a10 c11 a12 a13).isSome
def zjq:Nat:=((z4x a0 g1 a2 g3 a4 g5 a6 g7 c8 a9 a10 c11 a12 a13).getD default).1
def zjg:Nat:=((z4x a0 g1 a2 g3 a4 g5 a6 g7 c8 a9 a10 c11 a12 a13).getD default).2
def z2d{R:Type}(kn_:Nat→Int→Option R)(k0_:Unit→Option R)(k1_:Nat→Int→Bool→Option R):Option R:=(br (ltI c5 c1) (grd (okIx c5 a0) (br (fcmp .gtr .f32 (gF g2 (ixO 0 c5 3)) a4) (br (bnot (fcmp .lss .f32 (gF g2 (ixO 0 c5 3)) a3)) (k0_ ()) (grd (z8o 1 (pF [(gF g2 (Nat.succ (ixO 0 c5 3)))] 0 (muN 1 1))) (br (bnot (z80 1 (pF [(gF g2 (Nat.succ (ixO 0 c5 3)))] 0 (muN 1 1)))) (k0_ ()) (grd (z38 (gF g2 (Nat.succ (Nat.succ (ixO 0 c5 3))))) (br (bnot (z2l (gF g2 (Nat.succ (Nat.succ (ixO 0 c5 3)))))) (k0_ ()) (kn_ (gF g2 (ixO 0 c5 3)) (addI .i64 c5 1))))))) (br (bnot Bool.false) (k0_ ()) (grd (z8o 1 (pF [(gF g2 (Nat.succ (ixO 0 c5 3)))] 0 (muN 1 1))) (br (bnot (z80 1 (pF [(gF g2 (Nat.succ (ixO 0 c5 3)))] 0 (muN 1 1)))) (k0_ ()) (grd (z38 (gF g2 (Nat.succ (Nat.succ (ixO 0 c5 3))))) (br (bnot (z2l (gF g2 (Nat.succ (Nat.succ (ixO 0 c5 3)))))) (k0_ ()) (kn_ (gF g2 (ixO 0 c5 3)) (addI .i64 c5 1))))))))) (k1_ a4 c5 (ltI c5 c1)))
theorem zt6{R R':Type}(o:Option R→Option R')(h0:o none=none)(kn_:Nat→Int→Option R)(k0_:Unit→Option R)(k1_:Nat→Int→Bool→Option R):z2d a0 c1 g2 a3 a4 c5 (fun t4' t45'=>o (kn_ t4' t45')) (fun _=>o (k0_ ())) (fun c0_ c1_ c2_=>o (k1_ c0_ c1_ c2_))=o (z2d a0 c1 g2 a3 a4 c5 kn_ k0_ k1_):=by
 unfold z2d
 repeat (first | apply grd_out h0 | apply br_out | rfl)
def z0p(q2y:Nat)(t44:Int)(b3:List Nat)(q0u:Nat):Nat→Nat→Int→Option ((Unit)⊕(Nat×Int×Bool))
 | 0,_,_=>none
 | n+1,t4,t45=>z2d q2y t44 b3 q0u  t4 t45  (fun t4' t45'=>z0p q2y t44 b3 q0u n t4' t45') (fun _=>some (Sum.inl ())) (fun c0_ c1_ c2_=>some (Sum.inr (c0_,c1_,c2_)))
theorem zhp:z0p a0 c1 g2 a3 (a4+1) a5 c6=z2d a0 c1 g2 a3  a5 c6  (fun t4' t45'=>z0p a0 c1 g2 a3 a4 t4' t45') (fun _=>some (Sum.inl ())) (fun c0_ c1_ c2_=>some (Sum.inr (c0_,c1_,c2_))):=rfl
def z9t:Bool:=(z0p a0 c1 g2 a3 big a4 c5).isSome
def z93:Bool:=oL (z0p a0 c1 g2 a3 big a4 c5)
def zv8:Nat:=((tR (z0p a0 c1 g2 a3 big a4 c5)).getD default).1
def zuw:Int:=((tR (z0p a0 c1 g2 a3 big a4 c5)).getD default).2.1
def zv1:Bool:=((tR (z0p a0 c1 g2 a3 big a4 c5)).getD default).2.2
def ze7{R:Type}(k_:Bool→Option R):Option R:=(grd (zp6 a0 (pF g1 0 (muN a0 1)) a2 (pF g3 0 (muN a2 1)) a4 (pF g5 0 (muN a4 1))) (br (bnot (znc a0 (pF g1 0 (muN a0 1)) a2 (pF g3 0 (muN a2 1)) a4 (pF g5 0 (muN a4 1)))) (k_ Bool.false) (grd (z9d c8 1 6) (br (bnot (z4h c8 1 6)) (k_ Bool.false) (br (ltI (Int.ofNat a6) 2) (k_ Bool.false) (br (ltI 12 (Int.ofNat a6)) (k_ Bool.false) (grd (zqd a9) (br (bnot (znm a9)) (k_ Bool.false) (grd (z38 a10) (br (bnot (z2l a10)) (k_ Bool.false) (grd (z9t a6 (Int.ofNat a6) g7 a10 a9 0) (br (z93 a6 (Int.ofNat a6) g7 a10 a9 0) (k_ Bool.false) (k_ Bool.true)))))))))))))
def z5p:Option (Bool):=ze7 a0 g1 a2 g3 a4 g5 a6 g7 c8 a9 a10 (fun c0_=>some c0_)
theorem zxu:Nt1 (fun {R}=>ze7 (R:=R) a0 g1 a2 g3 a4 g5 a6 g7 c8 a9 a10):=by
 intro R R' o h0 k;unfold ze7;repeat (first | apply grd_out h0 | apply br_out | rfl)
def zeb:Bool:=(z5p a0 g1 a2 g3 a4 g5 a6 g7 c8 a9 a10).isSome
def z8q:Bool:=((z5p a0 g1 a2 g3 a4 g5 a6 g7 c8 a9 a10).getD default)
def ziy{R:Type}(k_:Nat→Nat→Nat→Nat→Option R):Option R:=(grd (zua a0 (pF g1 0 (muN a0 1)) a2 (pF g3 0 (muN a2 1)) a4 (pF g5 0 (muN a4 1)) a6 (pF g7 0 (muN a6 3)) c8 a9 a10 c11 a12 a13) (grd (z8d a12) (grd (z8d (fop .add .f32 a12 1048576000)) (grd (y0y a0 (pF g1 0 (muN a0 1)) a2 (pF g3 0 (muN a2 1)) a4 (pF g5 0 (muN a4 1)) a6 (pF g7 0 (muN a6 3)) c8 a9 a10 c11 (z1j a12)) (grd (zqo a0 (pF g1 0 (muN a0 1)) a2 (pF g3 0 (muN a2 1)) a4 (pF g5 0 (muN a4 1)) a6 (pF g7 0 (muN a6 3)) c8 a9 a10 c11) (k_ (fop .quo .f32 (fop .mul .f32 (zh2 a0 (pF g1 0 (muN a0 1)) a2 (pF g3 0 (muN a2 1)) a4 (pF g5 0 (muN a4 1)) a6 (pF g7 0 (muN a6 3)) c8 a9 a10 c11) (zjq a0 (pF g1 0 (muN a0 1)) a2 (pF g3 0 (muN a2 1)) a4 (pF g5 0 (muN a4 1)) a6 (pF g7 0 (muN a6 3)) c8 a9 a10 c11 a12 a13)) (fop .mul .f32 (fop .mul .f32 (fop .mul .f32 1082130432 (zpr a0 (pF g1 0 (muN a0 1)) a2 (pF g3 0 (muN a2 1)) a4 (pF g5 0 (muN a4 1)) a6 (pF g7 0 (muN a6 3)) c8 a9 a10 c11 (z1j a12))) (z1j a12)) (z1j a12))) (fop .quo .f32 (fop .mul .f32 (zh2 a0 (pF g1 0 (muN a0 1)) a2 (pF g3 0 (muN a2 1)) a4 (pF g5 0 (muN a4 1)) a6 (pF g7 0 (muN a6 3)) c8 a9 a10 c11) (zjg a0 (pF g1 0 (muN a0 1)) a2 (pF g3 0 (muN a2 1)) a4 (pF g5 0 (muN a4 1)) a6 (pF g7 0 (muN a6 3)) c8 a9 a10 c11 a12 a13)) (fop .mul .f32 (fop .mul .f32 (fop .mul .f32 1082130432 (zpr a0 (pF g1 0 (muN a0 1)) a2 (pF g3 0 (muN a2 1)) a4 (pF g5 0 (muN a4 1)) a6 (pF g7 0 (muN a6 3)) c8 a9 a10 c11 (z1j a12))) (z1j a12)) (z1j (fop .add .f32 a12 1048576000)))) (zjq a0 (pF g1 0 (muN a0 1)) a2 (pF g3 0 (muN a2 1)) a4 (pF g5 0 (muN a4 1)) a6 (pF g7 0 (muN a6 3)) c8 a9 a10 c11 a12 a13) (zjg a0 (pF g1 0 (muN a0 1)) a2 (pF g3 0 (muN a2 1)) a4 (pF g5 0 (muN a4 1)) a6 (pF g7 0 (muN a6 3)) c8 a9 a10 c11 a12 a13)))))))
def z4g:Option (Nat×Nat×Nat×Nat):=ziy a0 g1 a2 g3 a4 g5 a6 g7 c8 a9 a10 c11 a12 a13 (fun c0_ c1_ c2_ c3_=>some (c0_,c1_,c2_,c3_))
theorem y35:Nt4 (fun {R}=>ziy (R:=R) a0 g1 a2 g3 a4 g5 a6 g7 c8 a9 a10 c11 a12 a13):=by
 intro R R' o h0 k;unfold ziy;repeat (first | apply grd_out h0 | apply br_out | rfl)
def zpo:Bool:=(z4g a0 g1 a2 g3 a4 g5 a6 g7 c8 a9 a10 c11 a12 a13).isSome
def zoo:Nat:=((z4g a0 g1 a2 g3 a4 g5 a6 g7 c8 a9 a10 c11 a12 a13).getD default).1
def znq:Nat:=((z4g a0 g1 a2 g3 a4 g5 a6 g7 c8 a9 a10 c11 a12 a13).getD default).2.1
def zvo:Nat:=((z4g a0 g1 a2 g3 a4 g5 a6 g7 c8 a9 a10 c11 a12 a13).getD default).2.2.1
def zvw:Nat:=((z4g a0 g1 a2 g3 a4 g5 a6 g7 c8 a9 a10 c11 a12 a13).getD default).2.2.2
def z9q{R:Type}(k_:Nat→Option R):Option R:=(grd (zh5 a0 (pF g1 0 (muN a0 1)) a2 (pF g3 0 (muN a2 1)) a4 (pF g5 0 (muN a4 1)) a6 (pF g7 0 (muN a6 3)) c8 a9 a10 c11 a12 a15) (grd (z50 a12) (grd (z50 (fop .add .f32 a12 1048576000)) (grd (okIx c11 a6) (k_ (fop .sub .f32 (fop .mul .f32 (z1o a12) (fop .add .f32 1065353216 (zfu a0 (pF g1 0 (muN a0 1)) a2 (pF g3 0 (muN a2 1)) a4 (pF g5 0 (muN a4 1)) a6 (pF g7 0 (muN a6 3)) c8 a9 a10 c11 a12 a15))) (fop .mul .f32 (fop .mul .f32 (fop .quo .f32 a13 (fop .mul .f32 a14 (gF g7 (ixO 0 c11 3)))) (z1o (fop .add .f32 a12 1048576000))) (fop .sub .f32 1065353216 (zfr a0 (pF g1 0 (muN a0 1)) a2 (pF g3 0 (muN a2 1)) a4 (pF g5 0 (muN a4 1)) a6 (pF g7 0 (muN a6 3)) c8 a9 a10 c11 a12 a15)))))))))
def z39:Option (Nat):=z9q a0 g1 a2 g3 a4 g5 a6 g7 c8 a9 a10 c11 a12 a13 a14 a15 (fun c0_=>some c0_)
theorem zt5:Nt1 (fun {R}=>z9q (R:=R) a0 g1 a2 g3 a4 g5 a6 g7 c8 a9 a10 c11 a12 a13 a14 a15):=by
 intro R R' o h0 k;unfold z9q;repeat (first | apply grd_out h0 | apply br_out | rfl)
def zo9:Bool:=(z39 a0 g1 a2 g3 a4 g5 a6 g7 c8 a9 a10 c11 a12 a13 a14 a15).isSome
def z96:Nat:=((z39 a0 g1 a2 g3 a4 g5 a6 g7 c8 a9 a10 c11 a12 a13 a14 a15).getD default)
def zj0{R:Type}(k_:Bool→Option R):Option R:=(grd (zeb a0 (pF g1 0 (muN a0 1)) a2 (pF g3 0 (muN a2 1)) a4 (pF g5 0 (muN a4 1)) a6 (pF g7 0 (muN a6 3)) c8 a9 a10) (br (z8q a0 (pF g1 0 (muN a0 1)) a2 (pF g3 0 (muN a2 1)) a4 (pF g5 0 (muN a4 1)) a6 (pF g7 0 (muN a6 3)) c8 a9 a10) (grd (zkl a0 (pF g1 0 (muN a0 1)) a2 (pF g3 0 (muN a2 1)) a4 (pF g5 0 (muN a4 1)) a6 (pF g7 0 (muN a6 3)) c8 a9 a10 c11) (br (zj7 a0 (pF g1 0 (muN a0 1)) a2 (pF g3 0 (muN a2 1)) a4 (pF g5 0 (muN a4 1)) a6 (pF g7 0 (muN a6 3)) c8 a9 a10 c11) (grd (z8o 2 (pF [a12,a13] 0 (muN 2 1))) (br (z80 2 (pF [a12,a13] 0 (muN 2 1))) (grd (z38 a14) (br (z2l a14) (grd (okIx c11 a6) (grd (z38 (fop .sub .f32 (fop .sub .f32 981668463 (gF g7 (Nat.succ (Nat.succ (ixO 0 c11 3))))) a14)) (k_ (z2l (fop .sub .f32 (fop .sub .f32 981668463 (gF g7 (Nat.succ (Nat.succ (ixO 0 c11 3))))) a14))))) (k_ Bool.false))) (k_ Bool.false))) (k_ Bool.false))) (k_ Bool.false)))
def z8f:Option (Bool):=zj0 a0 g1 a2 g3 a4 g5 a6 g7 c8 a9 a10 c11 a12 a13 a14 (fun c0_=>some c0_)
theorem y3j:Nt1 (fun {R}=>zj0 (R:=R) a0 g1 a2 g3 a4 g5 a6 g7 c8 a9 a10 c11 a12 a13 a14):=by
 intro R R' o h0 k;unfold zj0;repeat (first | apply grd_out h0 | apply br_out | rfl)
def zq4:Bool:=(z8f a0 g1 a2 g3 a4 g5 a6 g7 c8 a9 a10 c11 a12 a13 a14).isSome
def zni:Bool:=((z8f a0 g1 a2 g3 a4 g5 a6 g7 c8 a9 a10 c11 a12 a13 a14).getD default)
def zee{R:Type}(k_:Nat→Option R):Option R:=(grd (zpo a0 (pF g1 0 (muN a0 1)) a2 (pF g3 0 (muN a2 1)) a4 (pF g5 0 (muN a4 1)) a6 (pF g7 0 (muN a6 3)) c8 a9 a10 c11 a12 a15) (grd (z8d a12) (grd (z8d (fop .add .f32 a12 1048576000)) (grd (okIx c11 a6) (k_ (fop .sub .f32 (fop .mul .f32 (z1j a12) (fop .add .f32 1065353216 (zoo a0 (pF g1 0 (muN a0 1)) a2 (pF g3 0 (muN a2 1)) a4 (pF g5 0 (muN a4 1)) a6 (pF g7 0 (muN a6 3)) c8 a9 a10 c11 a12 a15))) (fop .mul .f32 (fop .mul .f32 (fop .quo .f32 a13 (fop .mul .f32 a14 (gF g7 (ixO 0 c11 3)))) (z1j (fop .add .f32 a12 1048576000))) (fop .sub .f32 1065353216 (znq a0 (pF g1 0 (muN a0 1)) a2 (pF g3 0 (muN a2 1)) a4 (pF g5 0 (muN a4 1)) a6 (pF g7 0 (muN a6 3)) c8 a9 a10 c11 a12 a15)))))))))
def z3n:Option (Nat):=zee a0 g1 a2 g3 a4 g5 a6 g7 c8 a9 a10 c11 a12 a13 a14 a15 (fun c0_=>some c0_)
theorem zxa:Nt1 (fun {R}=>zee (R:=R) a0 g1 a2 g3 a4 g5 a6 g7 c8 a9 a10 c11 a12 a13 a14 a15):=by
 intro R R' o h0 k;unfold zee;repeat (first | apply grd_out h0 | apply br_out | rfl)
def zsb:Bool:=(z3n a0 g1 a2 g3 a4 g5 a6 g7 c8 a9 a10 c11 a12 a13 a14 a15).isSome
def zct:Nat:=((z3n a0 g1 a2 g3 a4 g5 a6 g7 c8 a9 a10 c11 a12 a13 a14 a15).getD default)
def zgs{R:Type}(k_:Nat→Bool→Option R):Option R:=(grd (zq4 a0 (pF g1 0 (muN a0 1)) a2 (pF g3 0 (muN a2 1)) a4 (pF g5 0 (muN a4 1)) a6 (pF g7 0 (muN a6 3)) c8 a9 a10 c11 a13 a14 a15) (br (bnot (zni a0 (pF g1 0 (muN a0 1)) a2 (pF g3 0 (muN a2 1)) a4 (pF g5 0 (muN a4 1)) a6 (pF g7 0 (muN a6 3)) c8 a9 a10 c11 a13 a14 a15)) (k_ 0 Bool.false) (grd (y13 a12) (br (bnot (zxh a12)) (k_ 0 Bool.false) (grd (zo9 a0 (pF g1 0 (muN a0 1)) a2 (pF g3 0 (muN a2 1)) a4 (pF g5 0 (muN a4 1)) a6 (pF g7 0 (muN a6 3)) c8 a9 a10 c11 a12 a13 a14 a15) (grd (zyf (z96 a0 (pF g1 0 (muN a0 1)) a2 (pF g3 0 (muN a2 1)) a4 (pF g5 0 (muN a4 1)) a6 (pF g7 0 (muN a6 3)) c8 a9 a10 c11 a12 a13 a14 a15)) (k_ (zvm (z96 a0 (pF g1 0 (muN a0 1)) a2 (pF g3 0 (muN a2 1)) a4 (pF g5 0 (muN a4 1)) a6 (pF g7 0 (muN a6 3)) c8 a9 a10 c11 a12 a13 a14 a15)) (zvu (z96 a0 (pF g1 0 (muN a0 1)) a2 (pF g3 0 (muN a2 1)) a4 (pF g5 0 (muN a4 1)) a6 (pF g7 0 (muN a6 3)) c8 a9 a10 c11 a12 a13 a14 a15)))))))))
def z4v:Option (Nat×Bool):=zgs a0 g1 a2 g3 a4 g5 a6 g7 c8 a9 a10 c11 a12 a13 a14 a15 (fun c0_ c1_=>some (c0_,c1_))
theorem y03:Nt2 (fun {R}=>zgs (R:=R) a0 g1 a2 g3 a4 g5 a6 g7 c8 a9 a10 c11 a12 a13 a14 a15):=by
 intro R R' o h0 k;unfold zgs;repeat (first | apply grd_out h0 | apply br_out | rfl)
def zub:Bool:=(z4v a0 g1 a2 g3 a4 g5 a6 g7 c8 a9 a10 c11 a12 a13 a14 a15).isSome
def zsa:Nat:=((z4v a0 g1 a2 g3 a4 g5 a6 g7 c8 a9 a10 c11 a12 a13 a14 a15).getD default).1
def zs7:Bool:=((z4v a0 g1 a2 g3 a4 g5 a6 g7 c8 a9 a10 c11 a12 a13 a14 a15).getD default).2
def z2p{R:Type}(kn_:Nat→Nat→Int→Option R)(k0_:Unit→Option R)(k1_:Nat→Nat→Int→Bool→Option R):Option R:=(br (ltI c17 24) (grd (zsb a8 (pF g4 0 (muN a8 1)) a9 (pF g5 0 (muN a9 1)) a10 (pF g6 0 (muN a10 1)) a11 (pF g7 0 (muN a11 3)) c12 a13 a14 c0 (fop .mul .f32 1056964608 (fop .add .f32 a15 a16)) a1 a2 a3) (grd (z1c (zct a8 (pF g4 0 (muN a8 1)) a9 (pF g5 0 (muN a9 1)) a10 (pF g6 0 (muN a10 1)) a11 (pF g7 0 (muN a11 3)) c12 a13 a14 c0 (fop .mul .f32 1056964608 (fop .add .f32 a15 a16)) a1 a2 a3)) (br (bnot (z16 (zct a8 (pF g4 0 (muN a8 1)) a9 (pF g5 0 (muN a9 1)) a10 (pF g6 0 (muN a10 1)) a11 (pF g7 0 (muN a11 3)) c12 a13 a14 c0 (fop .mul .f32 1056964608 (fop .add .f32 a15 a16)) a1 a2 a3))) (k0_ ()) (br (fcmp .gtr .f32 (zct a8 (pF g4 0 (muN a8 1)) a9 (pF g5 0 (muN a9 1)) a10 (pF g6 0 (muN a10 1)) a11 (pF g7 0 (muN a11 3)) c12 a13 a14 c0 (fop .mul .f32 1056964608 (fop .add .f32 a15 a16)) a1 a2 a3) 0) (kn_ a15 (fop .mul .f32 1056964608 (fop .add .f32 a15 a16)) (addI .i64 c17 1)) (kn_ (fop .mul .f32 1056964608 (fop .add .f32 a15 a16)) a16 (addI .i64 c17 1)))))) (k1_ a15 a16 c17 (ltI c17 24)))
theorem zvg{R R':Type}(o:Option R→Option R')(h0:o none=none)(kn_:Nat→Nat→Int→Option R)(k0_:Unit→Option R)(k1_:Nat→Nat→Int→Bool→Option R):z2p c0 a1 a2 a3 g4 g5 g6 g7 a8 a9 a10 a11 c12 a13 a14 a15 a16 c17 (fun low' q1p' k'=>o (kn_ low' q1p' k')) (fun _=>o (k0_ ())) (fun c0_ c1_ c2_ c3_=>o (k1_ c0_ c1_ c2_ c3_))=o (z2p c0 a1 a2 a3 g4 g5 g6 g7 a8 a9 a10 a11 c12 a13 a14 a15 a16 c17 kn_ k0_ k1_):=by
 unfold z2p
 repeat (first | apply grd_out h0 | apply br_out | rfl)
def z0t(i:Int)(q15 q0v q0m:Nat)(b0 b1 b2 b3:List Nat)(q0r q0s q0q q0p:Nat)(q0y:Int)(q0z q0u:Nat):Nat→Nat→Nat→Int→Option ((Unit)⊕(Nat×Nat×Int×Bool))
 | 0,_,_,_=>none
 | n+1,low,q1p,k=>z2p i q15 q0v q0m b0 b1 b2 b3 q0r q0s q0q q0p q0y q0z q0u  low q1p k  (fun low' q1p' k'=>z0t i q15 q0v q0m b0 b1 b2 b3 q0r q0s q0q q0p q0y q0z q0u n low' q1p' k') (fun _=>some (Sum.inl ())) (fun c0_ c1_ c2_ c3_=>some (Sum.inr (c0_,c1_,c2_,c3_)))
theorem zi8:z0t c0 a1 a2 a3 g4 g5 g6 g7 a8 a9 a10 a11 c12 a13 a14 (a15+1) a16 a17 c18=z2p c0 a1 a2 a3 g4 g5 g6 g7 a8 a9 a10 a11 c12 a13 a14  a16 a17 c18  (fun low' q1p' k'=>z0t c0 a1 a2 a3 g4 g5 g6 g7 a8 a9 a10 a11 c12 a13 a14 a15 low' q1p' k') (fun _=>some (Sum.inl ())) (fun c0_ c1_ c2_ c3_=>some (Sum.inr (c0_,c1_,c2_,c3_))):=rfl
def zh1:Bool:=(z0t c0 a1 a2 a3 g4 g5 g6 g7 a8 a9 a10 a11 c12 a13 a14 big a15 a16 c17).isSome
def zfl:Bool:=oL (z0t c0 a1 a2 a3 g4 g5 g6 g7 a8 a9 a10 a11 c12 a13 a14 big a15 a16 c17)
def zkh:Nat:=((tR (z0t c0 a1 a2 a3 g4 g5 g6 g7 a8 a9 a10 a11 c12 a13 a14 big a15 a16 c17)).getD default).1
def zwm:Nat:=((tR (z0t c0 a1 a2 a3 g4 g5 g6 g7 a8 a9 a10 a11 c12 a13 a14 big a15 a16 c17)).getD default).2.1
def zwt:Int:=((tR (z0t c0 a1 a2 a3 g4 g5 g6 g7 a8 a9 a10 a11 c12 a13 a14 big a15 a16 c17)).getD default).2.2.1
def zwi:Bool:=((tR (z0t c0 a1 a2 a3 g4 g5 g6 g7 a8 a9 a10 a11 c12 a13 a14 big a15 a16 c17)).getD default).2.2.2
end
section
variable {a0:Nat} {c0:Int} {a1:Nat} {c1:Int} {e1:Bool} {g1:List Nat} {m1:List Bool} {a2:Nat} {c2:Int} {e2:Bool} {g2:List Nat} {a3:Nat} {c3:Int} {e3:Bool} {g3:List Nat} {m3:List Bool} {a4:Nat} {c4:Int} {e4:Bool} {g4:List Nat} {a5:Nat} {c5:Int} {g5:List Nat} {a6:Nat} {c6:Int} {e6:Bool} {g6:List Nat} {a7:Nat} {c7:Int} {g7:List Nat} {a8:Nat} {c8:Int} {a9:Nat} {g9:List Nat} {a10:Nat} {a11:Nat} {c11:Int} {e11:Bool} {g11:List Nat} {a12:Nat} {c12:Int} {e12:Bool} {g12:List Nat} {a13:Nat} {e13:Bool} {a14:Nat} {g14:List Nat} {a15:Nat} {e15:Bool} {a16:Nat} {g16:List Nat} {a17:Nat} {c17:Int} {a18:Nat} {g18:List Nat} {c19:Int} {a20:Nat} {a21:Nat} {e22:Bool}
theorem of1{α1:Type} [Inhabited (α1)] {x:Option (α1)} {r:α1} (h:x=some r):x.isSome=true∧(x.getD default)=r:=by
 subst h;exact⟨rfl,rfl⟩
theorem ol1{β α1:Type} [Inhabited (α1)] {x:Option ((α1)⊕β)} {r:α1} (h:x=some (.inl r)):x.isSome=true∧oL x=true∧((tL x).getD default)=r:=by
 subst h;exact⟨rfl,rfl,rfl⟩
theorem of2{α1 α2:Type} [Inhabited (α1×α2)] {x:Option (α1×α2)} {r:α1×α2} (h:x=some r):x.isSome=true∧(x.getD default).1=r.1∧(x.getD default).2=r.2:=by
 subst h;exact⟨rfl,rfl,rfl⟩
theorem or2{β α1 α2:Type} [Inhabited (α1×α2)] {x:Option (β⊕(α1×α2))} {r:α1×α2} (h:x=some (.inr r)):x.isSome=true∧oL x=false∧((tR x).getD default).1=r.1∧((tR x).getD default).2=r.2:=by
 subst h;exact⟨rfl,rfl,rfl,rfl⟩
theorem of3{α1 α2 α3:Type} [Inhabited (α1×α2×α3)] {x:Option (α1×α2×α3)} {r:α1×α2×α3} (h:x=some r):x.isSome=true∧(x.getD default).1=r.1∧(x.getD default).2.1=r.2.1∧(x.getD default).2.2=r.2.2:=by
 subst h;exact⟨rfl,rfl,rfl,rfl⟩
theorem or3{β α1 α2 α3:Type} [Inhabited (α1×α2×α3)] {x:Option (β⊕(α1×α2×α3))} {r:α1×α2×α3} (h:x=some (.inr r)):x.isSome=true∧oL x=false∧((tR x).getD default).1=r.1∧((tR x).getD default).2.1=r.2.1∧((tR x).getD default).2.2=r.2.2:=by
 subst h;exact⟨rfl,rfl,rfl,rfl,rfl⟩
theorem of4{α1 α2 α3 α4:Type} [Inhabited (α1×α2×α3×α4)] {x:Option (α1×α2×α3×α4)} {r:α1×α2×α3×α4} (h:x=some r):x.isSome=true∧(x.getD default).1=r.1∧(x.getD default).2.1=r.2.1∧(x.getD default).2.2.1=r.2.2.1∧(x.getD default).2.2.2=r.2.2.2:=by
 subst h;exact⟨rfl,rfl,rfl,rfl,rfl⟩
theorem or4{β α1 α2 α3 α4:Type} [Inhabited (α1×α2×α3×α4)] {x:Option (β⊕(α1×α2×α3×α4))} {r:α1×α2×α3×α4} (h:x=some (.inr r)):x.isSome=true∧oL x=false∧((tR x).getD default).1=r.1∧((tR x).getD default).2.1=r.2.1∧((tR x).getD default).2.2.1=r.2.2.1∧((tR x).getD default).2.2.2=r.2.2.2:=by
 subst h;exact⟨rfl,rfl,rfl,rfl,rfl,rfl⟩
theorem of5{α1 α2 α3 α4 α5:Type} [Inhabited (α1×α2×α3×α4×α5)] {x:Option (α1×α2×α3×α4×α5)} {r:α1×α2×α3×α4×α5} (h:x=some r):x.isSome=true∧(x.getD default).1=r.1∧(x.getD default).2.1=r.2.1∧(x.getD default).2.2.1=r.2.2.1∧(x.getD default).2.2.2.1=r.2.2.2.1∧(x.getD default).2.2.2.2=r.2.2.2.2:=by
 subst h;exact⟨rfl,rfl,rfl,rfl,rfl,rfl⟩
theorem of6{α1 α2 α3 α4 α5 α6:Type} [Inhabited (α1×α2×α3×α4×α5×α6)] {x:Option (α1×α2×α3×α4×α5×α6)} {r:α1×α2×α3×α4×α5×α6} (h:x=some r):x.isSome=true∧(x.getD default).1=r.1∧(x.getD default).2.1=r.2.1∧(x.getD default).2.2.1=r.2.2.1∧(x.getD default).2.2.2.1=r.2.2.2.1∧(x.getD default).2.2.2.2.1=r.2.2.2.2.1∧(x.getD default).2.2.2.2.2=r.2.2.2.2.2:=by
 subst h;exact⟨rfl,rfl,rfl,rfl,rfl,rfl,rfl⟩
theorem or6{β α1 α2 α3 α4 α5 α6:Type} [Inhabited (α1×α2×α3×α4×α5×α6)] {x:Option (β⊕(α1×α2×α3×α4×α5×α6))} {r:α1×α2×α3×α4×α5×α6} (h:x=some (.inr r)):x.isSome=true∧oL x=false∧((tR x).getD default).1=r.1∧((tR x).getD default).2.1=r.2.1∧((tR x).getD default).2.2.1=r.2.2.1∧((tR x).getD default).2.2.2.1=r.2.2.2.1∧((tR x).getD default).2.2.2.2.1=r.2.2.2.2.1∧((tR x).getD default).2.2.2.2.2=r.2.2.2.2.2:=by
 subst h;exact⟨rfl,rfl,rfl,rfl,rfl,rfl,rfl,rfl⟩
theorem of8{α1 α2 α3 α4 α5 α6 α7 α8:Type} [Inhabited (α1×α2×α3×α4×α5×α6×α7×α8)] {x:Option (α1×α2×α3×α4×α5×α6×α7×α8)} {r:α1×α2×α3×α4×α5×α6×α7×α8} (h:x=some r):x.isSome=true∧(x.getD default).1=r.1∧(x.getD default).2.1=r.2.1∧(x.getD default).2.2.1=r.2.2.1∧(x.getD default).2.2.2.1=r.2.2.2.1∧(x.getD default).2.2.2.2.1=r.2.2.2.2.1∧(x.getD default).2.2.2.2.2.1=r.2.2.2.2.2.1∧(x.getD default).2.2.2.2.2.2.1=r.2.2.2.2.2.2.1∧(x.getD default).2.2.2.2.2.2.2=r.2.2.2.2.2.2.2:=by
 subst h;exact⟨rfl,rfl,rfl,rfl,rfl,rfl,rfl,rfl,rfl⟩
theorem ol0{α β:Type} {x:Option (α⊕β)} {r:α} (h:x=some (.inl r)):x.isSome=true∧oL x=true:=by
 subst h;exact⟨rfl,rfl⟩
theorem z7n(h:z6p a0 a1=some e2):z6r a0 a1=true∧z5r a0 a1=e2:=of1 h
theorem zpm(h:z9b c0 c1 c2=some e3):z9d c0 c1 c2=true∧z4h c0 c1 c2=e3:=of1 h
theorem z4a(h:z8z a0=some e1):z38 a0=true∧z2l a0=e1:=of1 h
theorem y16(h:zae c0 c1 c2=some e3):zu6 c0 c1 c2=true∧zqz c0 c1 c2=e3:=of1 h
theorem y3r(h:z5t a0 g1 c2=some c3):zrq a0 g1 c2=true∧zi9 a0 g1 c2=c3:=of1 h
theorem z2b(h:z8h a0=some e1):z1c a0=true∧z16 a0=e1:=of1 h
theorem zi1(h:z5m a0 g1 c2=some c3):zdy a0 g1 c2=true∧z1d a0 g1 c2=c3:=of1 h
theorem ztz(h:z7f a0 a1 a2=some e3):zno a0 a1 a2=true∧zls a0 a1 a2=e3:=of1 h
theorem zx4(h:z3t a0 g1 a2 g3 a4 g5 a6 g7 c8 a9 a10 c11=some a12):zmc a0 g1 a2 g3 a4 g5 a6 g7 c8 a9 a10 c11=true∧zde a0 g1 a2 g3 a4 g5 a6 g7 c8 a9 a10 c11=a12:=of1 h
theorem y8s(h:z99 a0 g1 a2 g3 a4 g5 a6 g7 c8 a9 a10 c11 a12=some a13):y0y a0 g1 a2 g3 a4 g5 a6 g7 c8 a9 a10 c11 a12=true∧zpr a0 g1 a2 g3 a4 g5 a6 g7 c8 a9 a10 c11 a12=a13:=of1 h
theorem y2b(h:z4z a0 g1 a2 g3 a4 g5 a6 g7 c8 a9 a10 c11=some a12):zqo a0 g1 a2 g3 a4 g5 a6 g7 c8 a9 a10 c11=true∧zh2 a0 g1 a2 g3 a4 g5 a6 g7 c8 a9 a10 c11=a12:=of1 h
theorem y64(h:zga=some a0):zzn=true∧zqg=a0:=of1 h
theorem yad(h:zf3 a0 a1 a2=some a3):zts a0 a1 a2=true∧zrg a0 a1 a2=a3:=of1 h
theorem zs4(h:z6l a0=some a1):zlo a0=true∧ze6 a0=a1:=of1 h
theorem ybj(h:zgb a0=some a1):y8a a0=true∧y60 a0=a1:=of1 h
theorem y8c{r:Nat×Bool}(h:z74 a0=some r):zyf a0=true∧zvm a0=r.1∧zvu a0=r.2:=of2 h
theorem y4d(h:z6m a0 g1 a2 g3 a4 g5 c6=some c7):zum a0 g1 a2 g3 a4 g5 c6=true∧z9f a0 g1 a2 g3 a4 g5 c6=c7:=of1 h
theorem zfk(h:z7c a0=some e1):zbx a0=true∧zas a0=e1:=of1 h
theorem zvt(h:z85 a0=some e1):zqd a0=true∧znm a0=e1:=of1 h
theorem zxi(h:z4c a0=some e1):znu a0=true∧zme a0=e1:=of1 h
theorem y4b(h:z6q a0 a1 a2 a3 a4 a5=some e6):zuc a0 a1 a2 a3 a4 a5=true∧zs3 a0 a1 a2 a3 a4 a5=e6:=of1 h
theorem ztc(h:z7h a0=some e1):z8y a0=true∧z86 a0=e1:=of1 h
theorem y6m(h:z7e a0 g1 a2 g3 a4 g5 a6 g7 c8 a9 a10 c11 a12=some e13):zvx a0 g1 a2 g3 a4 g5 a6 g7 c8 a9 a10 c11 a12=true∧ztt a0 g1 a2 g3 a4 g5 a6 g7 c8 a9 a10 c11 a12=e13:=of1 h
theorem ya1{r:Nat×Nat×Bool}(h:z6d a0 a1=some r):zqx a0 a1=true∧zio a0 a1=r.1∧zj2 a0 a1=r.2.1∧zj3 a0 a1=r.2.2:=of3 h
theorem y2h(h:z51 a0=some e1):zqv a0=true∧zp3 a0=e1:=of1 h
theorem zut(h:z3g a0 g1 a2 g3 a4 g5 a6 g7 c8 a9 a10 c11=some e12):zkl a0 g1 a2 g3 a4 g5 a6 g7 c8 a9 a10 c11=true∧zj7 a0 g1 a2 g3 a4 g5 a6 g7 c8 a9 a10 c11=e12:=of1 h
theorem y9n(h:z9a a0=some e1):y13 a0=true∧zxh a0=e1:=of1 h
theorem y9z(h:z9e a0=some e1):y15 a0=true∧zyc a0=e1:=of1 h
theorem zu4{r:Int×Int×Bool}(hm:a4=big) (h:z0k a0 g1 a4 c2 c3=some (Sum.inr r)):zkd a0 g1 c2 c3=true∧zj6 a0 g1 c2 c3=false∧zhx a0 g1 c2 c3=r.1∧zsl a0 g1 c2 c3=r.2.1∧zsr a0 g1 c2 c3=r.2.2:=by
 subst hm;exact or3 h
theorem zwq {r:Int×Bool×(List Nat)} (hm:a5=big) (h:z19 a0 a1 g2 a5 c3 g4=some r):zgn a0 a1 g2 c3 g4=true∧zv5 a0 a1 g2 c3 g4=r.1∧zv7 a0 a1 g2 c3 g4=r.2.1∧zbn a0 a1 g2 c3 g4=r.2.2:=by
 subst hm;exact of3 h
theorem zn7(hm:a5=big) (h:z0a a0 e1 c2 m3 a5 c4=some (Sum.inl c6)):z88 a0 e1 c2 m3 c4=true∧z7t a0 e1 c2 m3 c4=true∧zbd a0 e1 c2 m3 c4=c6:=by
 subst hm;exact ol1 h
theorem zoj{r:Int×Bool}(hm:a5=big) (h:z0a a0 e1 c2 m3 a5 c4=some (Sum.inr r)):z88 a0 e1 c2 m3 c4=true∧z7t a0 e1 c2 m3 c4=false∧zmy a0 e1 c2 m3 c4=r.1∧zmx a0 e1 c2 m3 c4=r.2:=by
 subst hm;exact or2 h
theorem y7p(h:z8g a0 g1 a2 g3 a4 g5 a6 g7 c8 a9 a10 c11=some c12):zq9 a0 g1 a2 g3 a4 g5 a6 g7 c8 a9 a10 c11=true∧zn2 a0 g1 a2 g3 a4 g5 a6 g7 c8 a9 a10 c11=c12:=of1 h
theorem zoi(h:z4l a0 g1 c2=some c3):zhc a0 g1 c2=true∧zg5 a0 g1 c2=c3:=of1 h
theorem zi4 {r:Nat×(List Nat)} (h:z4j a0 g1=some r):zed a0 g1=true∧zbw a0 g1=r.1∧zc8 a0 g1=r.2:=of2 h
theorem zr4(h:z2h a0 m1 e2=some c3):zht a0 m1 e2=true∧zgt a0 m1 e2=c3:=of1 h
theorem y3d(h:z5v a0=some e1):zsf a0=true∧zql a0=e1:=of1 h
theorem yak(h:zao a0=some a1):y2p a0=true∧zgx a0=a1:=of1 h
theorem zx3{r:Int×Bool}(hm:a5=big) (h:z1a a0 a1 g2 g3 a5 c4=some (Sum.inr r)):zob a0 a1 g2 g3 c4=true∧zmf a0 a1 g2 g3 c4=false∧zuu a0 a1 g2 g3 c4=r.1∧zvh a0 a1 g2 g3 c4=r.2:=by
 subst hm;exact or2 h
theorem zwu {r:Int×Bool×(List Nat)} (hm:a5=big) (h:z0y a0 a1 g2 a5 c3 g4=some r):zfp a0 a1 g2 c3 g4=true∧zux a0 a1 g2 c3 g4=r.1∧zva a0 a1 g2 c3 g4=r.2.1∧zbq a0 a1 g2 c3 g4=r.2.2:=by
 subst hm;exact of3 h
theorem zuk{r:Nat×Int×Bool}(hm:a3=big)(h:z0v a0 a3 a1 c2=some r):z1e a0 a1 c2=true∧z0d a0 a1 c2=r.1∧zsu a0 a1 c2=r.2.1∧zsh a0 a1 c2=r.2.2:=by
 subst hm;exact of3 h
theorem z8p(h:z5s a0 g1 a2 g3=some e4):z7l a0 g1 a2 g3=true∧z72 a0 g1 a2 g3=e4:=of1 h
theorem zou(h:z1n a0 m1 e2=some e3):z58 a0 m1 e2=true∧z4u a0 m1 e2=e3:=of1 h
theorem y5p {r:Nat×Nat×Nat×(List Nat)×(List Nat)×(List Nat)} (h:z25 a0 g1 a2 g3 a4 g5=some r):ztq a0 g1 a2 g3 a4 g5=true∧zsc a0 g1 a2 g3 a4 g5=r.1∧zs5 a0 g1 a2 g3 a4 g5=r.2.1∧zrt a0 g1 a2 g3 a4 g5=r.2.2.1∧zrv a0 g1 a2 g3 a4 g5=r.2.2.2.1∧zse a0 g1 a2 g3 a4 g5=r.2.2.2.2.1∧zs1 a0 g1 a2 g3 a4 g5=r.2.2.2.2.2:=of6 h
theorem y2v {r:Nat×(List Nat)} (h:z4i a0 g1=some r):zrs a0 g1=true∧zqr a0 g1=r.1∧zqm a0 g1=r.2:=of2 h
theorem y1s(h:z2i a0=some a1):zqu a0=true∧zhj a0=a1:=of1 h
theorem y42(h:z5n a0=some a1):zs9 a0=true∧z0e a0=a1:=of1 h
theorem zx2{r:Int×Bool}(hm:a5=big) (h:z1b a0 a1 g2 g3 a5 c4=some (Sum.inr r)):zfw a0 a1 g2 g3 c4=true∧zek a0 a1 g2 g3 c4=false∧zvd a0 a1 g2 g3 c4=r.1∧zv3 a0 a1 g2 g3 c4=r.2:=by
 subst hm;exact or2 h
theorem y5o{r:Unit}(hm:a8=big) (h:z21 c0 g1 g2 g3 a4 a5 a6 a8 c7=some (Sum.inl r)):zce c0 g1 g2 g3 a4 a5 a6 c7=true∧zag c0 g1 g2 g3 a4 a5 a6 c7=true:=by
 subst hm;exact ol0 h
theorem y4c{r:Int×Bool}(hm:a8=big) (h:z21 c0 g1 g2 g3 a4 a5 a6 a8 c7=some (Sum.inr r)):zce c0 g1 g2 g3 a4 a5 a6 c7=true∧zag c0 g1 g2 g3 a4 a5 a6 c7=false∧y37 c0 g1 g2 g3 a4 a5 a6 c7=r.1∧y3n c0 g1 g2 g3 a4 a5 a6 c7=r.2:=by
 subst hm;exact or2 h
theorem zbr(hm:a4=big) (h:z01 a0 c1 g2 a4 c3=some (Sum.inl c5)):z3a a0 c1 g2 c3=true∧z32 a0 c1 g2 c3=true∧z56 a0 c1 g2 c3=c5:=by
 subst hm;exact ol1 h
theorem zbk{r:Int×Bool}(hm:a4=big) (h:z01 a0 c1 g2 a4 c3=some (Sum.inr r)):z3a a0 c1 g2 c3=true∧z32 a0 c1 g2 c3=false∧zba a0 c1 g2 c3=r.1∧zbc a0 c1 g2 c3=r.2:=by
 subst hm;exact or2 h
theorem zdb(hm:a4=big) (h:z04 a0 c1 g2 a4 c3=some (Sum.inl c5)):z3v a0 c1 g2 c3=true∧z3h a0 c1 g2 c3=true∧z61 a0 c1 g2 c3=c5:=by
 subst hm;exact ol1 h
theorem zd0{r:Int×Bool}(hm:a4=big) (h:z04 a0 c1 g2 a4 c3=some (Sum.inr r)):z3v a0 c1 g2 c3=true∧z3h a0 c1 g2 c3=false∧zci a0 c1 g2 c3=r.1∧zc1 a0 c1 g2 c3=r.2:=by
 subst hm;exact or2 h
theorem y87 {r:Nat×Nat×Nat×Nat×(List Nat)×(List Nat)×(List Nat)×(List Nat)} (h:z23 a0 g1 a2 g3 a4 g5 a6 g7 c8 a9 a10=some r):zq6 a0 g1 a2 g3 a4 g5 a6 g7 c8 a9 a10=true∧zoa a0 g1 a2 g3 a4 g5 a6 g7 c8 a9 a10=r.1∧zns a0 g1 a2 g3 a4 g5 a6 g7 c8 a9 a10=r.2.1∧znb a0 g1 a2 g3 a4 g5 a6 g7 c8 a9 a10=r.2.2.1∧znl a0 g1 a2 g3 a4 g5 a6 g7 c8 a9 a10=r.2.2.2.1∧zo2 a0 g1 a2 g3 a4 g5 a6 g7 c8 a9 a10=r.2.2.2.2.1∧zos a0 g1 a2 g3 a4 g5 a6 g7 c8 a9 a10=r.2.2.2.2.2.1∧znx a0 g1 a2 g3 a4 g5 a6 g7 c8 a9 a10=r.2.2.2.2.2.2.1∧zo5 a0 g1 a2 g3 a4 g5 a6 g7 c8 a9 a10=r.2.2.2.2.2.2.2:=of8 h
theorem y4p(h:z6s a0 g1 a2 g3 a4 g5 a6 g7 a8 g9 a10 g11=some e12):zue a0 g1 a2 g3 a4 g5 a6 g7 a8 g9 a10 g11=true∧zrx a0 g1 a2 g3 a4 g5 a6 g7 a8 g9 a10 g11=e12:=of1 h
theorem y38(h:z5q a0 g1 a2 g3=some e4):zrz a0 g1 a2 g3=true∧zqi a0 g1 a2 g3=e4:=of1 h
theorem yaj(h:zab a0 g1 a2 g3 a4 g5=some e6):y3x a0 g1 a2 g3 a4 g5=true∧y0x a0 g1 a2 g3 a4 g5=e6:=of1 h
theorem zf7(h:z0x a0 g1=some c2):z79 a0 g1=true∧z6w a0 g1=c2:=of1 h
theorem zgq(h:z0z a0 g1=some c2):z7q a0 g1=true∧z7g a0 g1=c2:=of1 h
theorem z91(h:z6z a0=some a1):z8d a0=true∧z1j a0=a1:=of1 h
theorem zdt(hm:a4=big) (h:z07 a0 c1 g2 a4 c3=some (Sum.inl c5)):z46 a0 c1 g2 c3=true∧z3x a0 c1 g2 c3=true∧z6c a0 c1 g2 c3=c5:=by
 subst hm;exact ol1 h
theorem zdn{r:Int×Bool}(hm:a4=big) (h:z07 a0 c1 g2 a4 c3=some (Sum.inr r)):z46 a0 c1 g2 c3=true∧z3x a0 c1 g2 c3=false∧zdh a0 c1 g2 c3=r.1∧zd6 a0 c1 g2 c3=r.2:=by
 subst hm;exact or2 h
theorem y80(h:z89 a0 g1 a2 g3 a4 g5 a6 g7 c8 a9 a10 a11 g12 a13 g14 a15 g16 a17 g18 c19 a20 a21=some e22):zpa a0 g1 a2 g3 a4 g5 a6 g7 c8 a9 a10 a11 g12 a13 g14 a15 g16 a17 g18 c19 a20 a21=true∧zof a0 g1 a2 g3 a4 g5 a6 g7 c8 a9 a10 a11 g12 a13 g14 a15 g16 a17 g18 c19 a20 a21=e22:=of1 h
theorem zgy(h:z11 a0 g1=some c2):z7x a0 g1=true∧z7p a0 g1=c2:=of1 h
theorem y11(h:zat a0=some a1):zt1 a0=true∧z9c a0=a1:=of1 h
theorem y7a{r:Nat×Nat×Bool}(hm:a3=big)(h:z22 a0 a3 a1 a2=some r):za7 a0 a1 a2=true∧z7k a0 a1 a2=r.1∧y59 a0 a1 a2=r.2.1∧y4h a0 a1 a2=r.2.2:=by
 subst hm;exact of3 h
theorem zcd(h:z0r a0 g1=some e2):z6a a0 g1=true∧z63 a0 g1=e2:=of1 h
theorem zds(h:z0u a0 g1=some e2):z6v a0 g1=true∧z6e a0 g1=e2:=of1 h
theorem zez(h:z0w a0 g1=some e2):z78 a0 g1=true∧z75 a0 g1=e2:=of1 h
theorem ybc(h:zdc a0=some a1):y5z a0=true∧zuo a0=a1:=of1 h
theorem y54(h:z6k a0=some a1):zto a0=true∧z15 a0=a1:=of1 h
theorem y7l(h:z8e a0=some a1):zyk a0=true∧z4q a0=a1:=of1 h
theorem y5y{r:Unit}(hm:a6=big) (h:z17 c0 g1 a2 a3 a6 a4 c5=some (Sum.inl r)):zhn c0 g1 a2 a3 a4 c5=true∧zg7 c0 g1 a2 a3 a4 c5=true:=by
 subst hm;exact ol0 h
theorem y4r{r:Nat×Int×Bool}(hm:a6=big) (h:z17 c0 g1 a2 a3 a6 a4 c5=some (Sum.inr r)):zhn c0 g1 a2 a3 a4 c5=true∧zg7 c0 g1 a2 a3 a4 c5=false∧y2s c0 g1 a2 a3 a4 c5=r.1∧y2y c0 g1 a2 a3 a4 c5=r.2.1∧y30 c0 g1 a2 a3 a4 c5=r.2.2:=by
 subst hm;exact or3 h
theorem zhh(h:z1x a0 g1=some e2):z8o a0 g1=true∧z80 a0 g1=e2:=of1 h
theorem y0u(h:zap a0 g1 a2 g3 a4 g5 a6 g7 c8 a9 a10=some e11):zuf a0 g1 a2 g3 a4 g5 a6 g7 c8 a9 a10=true∧zrf a0 g1 a2 g3 a4 g5 a6 g7 c8 a9 a10=e11:=of1 h
theorem zs2(h:z4y a0 g1=some e2):zlw a0 g1=true∧zjp a0 g1=e2:=of1 h
theorem y7b(h:z7b a0 g1=some e2):zvk a0 g1=true∧ztn a0 g1=e2:=of1 h
theorem z7o(h:z6o a0=some a1):z50 a0=true∧z1o a0=a1:=of1 h
theorem y3f{r:Nat×Nat×Bool}(h:z3p a0 a1=some r):zk5 a0 a1=true∧zik a0 a1=r.1∧zi3 a0 a1=r.2.1∧zil a0 a1=r.2.2:=of3 h
theorem y2q(h:z5u a0 g1 a2 g3 a4 g5 a6 g7 c8 a9 a10 c11=some e12):zry a0 g1 a2 g3 a4 g5 a6 g7 c8 a9 a10 c11=true∧zqs a0 g1 a2 g3 a4 g5 a6 g7 c8 a9 a10 c11=e12:=of1 h
theorem zwz(h:z3s a0 g1 a2 g3 a4 g5 a6 g7 c8 a9 a10 c11 a12=some a13):zmt a0 g1 a2 g3 a4 g5 a6 g7 c8 a9 a10 c11 a12=true∧zda a0 g1 a2 g3 a4 g5 a6 g7 c8 a9 a10 c11 a12=a13:=of1 h
theorem zb0(hm:a5=big) (h:z00 a0 c1 g2 a3 a5 c4=some (Sum.inl c6)):z34 a0 c1 g2 a3 c4=true∧z2u a0 c1 g2 a3 c4=true∧z0c a0 c1 g2 a3 c4=c6:=by
 subst hm;exact ol1 h
theorem zb2{r:Int×Bool}(hm:a5=big) (h:z00 a0 c1 g2 a3 a5 c4=some (Sum.inr r)):z34 a0 c1 g2 a3 c4=true∧z2u a0 c1 g2 a3 c4=false∧zau a0 c1 g2 a3 c4=r.1∧zad a0 c1 g2 a3 c4=r.2:=by
 subst hm;exact or2 h
theorem zp2{r:Int×Bool}(hm:a4=big)(h:z1p a0 g1 a2 a4 c3=some r):zru a0 g1 a2 c3=true∧zne a0 g1 a2 c3=r.1∧y00 a0 g1 a2 c3=r.2:=by
 subst hm;exact of2 h
theorem y9g(h:z98 a0 g1 a2 g3 a4 g5 a6 g7 c8 a9 a10 c11 a12 a13 a14=some e15):y10 a0 g1 a2 g3 a4 g5 a6 g7 c8 a9 a10 c11 a12 a13 a14=true∧zxe a0 g1 a2 g3 a4 g5 a6 g7 c8 a9 a10 c11 a12 a13 a14=e15:=of1 h
theorem zus{r:Int×Int×Nat×Nat×Nat}(h:z13 a0 g1 a2 g3 a4 g5 a6=some r):zkf a0 g1 a2 g3 a4 g5 a6=true∧z2t a0 g1 a2 g3 a4 g5 a6=r.1∧z2r a0 g1 a2 g3 a4 g5 a6=r.2.1∧z47 a0 g1 a2 g3 a4 g5 a6=r.2.2.1∧z7w a0 g1 a2 g3 a4 g5 a6=r.2.2.2.1∧zbl a0 g1 a2 g3 a4 g5 a6=r.2.2.2.2:=of5 h
theorem y8f{r:Int×Int×Nat×Nat}(h:z3z a0 g1 a2 g3 a4 g5 a6=some r):zy5 a0 g1 a2 g3 a4 g5 a6=true∧zcb a0 g1 a2 g3 a4 g5 a6=r.1∧znz a0 g1 a2 g3 a4 g5 a6=r.2.1∧zvl a0 g1 a2 g3 a4 g5 a6=r.2.2.1∧y7n a0 g1 a2 g3 a4 g5 a6=r.2.2.2:=of4 h
theorem zuj{r:Unit}(hm:a5=big) (h:z10 a0 c1 g2 a3 a5 c4=some (Sum.inl r)):z8j a0 c1 g2 a3 c4=true∧z7v a0 c1 g2 a3 c4=true:=by
 subst hm;exact ol0 h
theorem zu9{r:Int×Bool}(hm:a5=big) (h:z10 a0 c1 g2 a3 a5 c4=some (Sum.inr r)):z8j a0 c1 g2 a3 c4=true∧z7v a0 c1 g2 a3 c4=false∧zst a0 c1 g2 a3 c4=r.1∧zsq a0 c1 g2 a3 c4=r.2:=by
 subst hm;exact or2 h
theorem zzj(h:z4m a0 g1 a2 g3 a4 g5=some e6):zp6 a0 g1 a2 g3 a4 g5=true∧znc a0 g1 a2 g3 a4 g5=e6:=of1 h
theorem zqj(h:z5l a0 g1 a2 g3 a4 g5 a6 g7 a8=some a9):zjv a0 g1 a2 g3 a4 g5 a6 g7 a8=true∧z8r a0 g1 a2 g3 a4 g5 a6 g7 a8=a9:=of1 h
theorem y0t(h:zaq a0 g1 a2 g3 a4 g5 a6 g7 a8=some a9):zu2 a0 g1 a2 g3 a4 g5 a6 g7 a8=true∧zrd a0 g1 a2 g3 a4 g5 a6 g7 a8=a9:=of1 h
theorem zor{r:Nat×Nat}(h:z2o a0 g1 a2 g3 a4 g5 a6 g7 c8 a9 a10 c11 a12 a13=some r):zh4 a0 g1 a2 g3 a4 g5 a6 g7 c8 a9 a10 c11 a12 a13=true∧zfn a0 g1 a2 g3 a4 g5 a6 g7 c8 a9 a10 c11 a12 a13=r.1∧zg2 a0 g1 a2 g3 a4 g5 a6 g7 c8 a9 a10 c11 a12 a13=r.2:=of2 h
theorem y81(h:z8a a0 g1 a2 g3 a4 g5 a6=some a7):zy4 a0 g1 a2 g3 a4 g5 a6=true∧znr a0 g1 a2 g3 a4 g5 a6=a7:=of1 h
theorem y7u(h:z8b a0 g1 a2 g3 a4 g5 a6=some a7):zys a0 g1 a2 g3 a4 g5 a6=true∧znd a0 g1 a2 g3 a4 g5 a6=a7:=of1 h
theorem znn{r:Nat×Nat}(h:z3m a0 g1 a2 g3 a4 g5 a6 g7 c8 a9 a10 c11 a12 a13=some r):zh5 a0 g1 a2 g3 a4 g5 a6 g7 c8 a9 a10 c11 a12 a13=true∧zfu a0 g1 a2 g3 a4 g5 a6 g7 c8 a9 a10 c11 a12 a13=r.1∧zfr a0 g1 a2 g3 a4 g5 a6 g7 c8 a9 a10 c11 a12 a13=r.2:=of2 h
theorem y4l{r:Nat×Nat}(h:z4x a0 g1 a2 g3 a4 g5 a6 g7 c8 a9 a10 c11 a12 a13=some r):zua a0 g1 a2 g3 a4 g5 a6 g7 c8 a9 a10 c11 a12 a13=true∧zjq a0 g1 a2 g3 a4 g5 a6 g7 c8 a9 a10 c11 a12 a13=r.1∧zjg a0 g1 a2 g3 a4 g5 a6 g7 c8 a9 a10 c11 a12 a13=r.2:=of2 h
theorem zwx{r:Unit}(hm:a6=big) (h:z0p a0 c1 g2 a3 a6 a4 c5=some (Sum.inl r)):z9t a0 c1 g2 a3 a4 c5=true∧z93 a0 c1 g2 a3 a4 c5=true:=by
 subst hm;exact ol0 h
theorem zwh{r:Nat×Int×Bool}(hm:a6=big) (h:z0p a0 c1 g2 a3 a6 a4 c5=some (Sum.inr r)):z9t a0 c1 g2 a3 a4 c5=true∧z93 a0 c1 g2 a3 a4 c5=false∧zv8 a0 c1 g2 a3 a4 c5=r.1∧zuw a0 c1 g2 a3 a4 c5=r.2.1∧zv1 a0 c1 g2 a3 a4 c5=r.2.2:=by
 subst hm;exact or3 h
theorem zqp(h:z5p a0 g1 a2 g3 a4 g5 a6 g7 c8 a9 a10=some e11):zeb a0 g1 a2 g3 a4 g5 a6 g7 c8 a9 a10=true∧z8q a0 g1 a2 g3 a4 g5 a6 g7 c8 a9 a10=e11:=of1 h
theorem zvq{r:Nat×Nat×Nat×Nat}(h:z4g a0 g1 a2 g3 a4 g5 a6 g7 c8 a9 a10 c11 a12 a13=some r):zpo a0 g1 a2 g3 a4 g5 a6 g7 c8 a9 a10 c11 a12 a13=true∧zoo a0 g1 a2 g3 a4 g5 a6 g7 c8 a9 a10 c11 a12 a13=r.1∧znq a0 g1 a2 g3 a4 g5 a6 g7 c8 a9 a10 c11 a12 a13=r.2.1∧zvo a0 g1 a2 g3 a4 g5 a6 g7 c8 a9 a10 c11 a12 a13=r.2.2.1∧zvw a0 g1 a2 g3 a4 g5 a6 g7 c8 a9 a10 c11 a12 a13=r.2.2.2:=of4 h
theorem zxo(h:z39 a0 g1 a2 g3 a4 g5 a6 g7 c8 a9 a10 c11 a12 a13 a14 a15=some a16):zo9 a0 g1 a2 g3 a4 g5 a6 g7 c8 a9 a10 c11 a12 a13 a14 a15=true∧z96 a0 g1 a2 g3 a4 g5 a6 g7 c8 a9 a10 c11 a12 a13 a14 a15=a16:=of1 h
theorem zvy(h:z8f a0 g1 a2 g3 a4 g5 a6 g7 c8 a9 a10 c11 a12 a13 a14=some e15):zq4 a0 g1 a2 g3 a4 g5 a6 g7 c8 a9 a10 c11 a12 a13 a14=true∧zni a0 g1 a2 g3 a4 g5 a6 g7 c8 a9 a10 c11 a12 a13 a14=e15:=of1 h
theorem y36(h:z3n a0 g1 a2 g3 a4 g5 a6 g7 c8 a9 a10 c11 a12 a13 a14 a15=some a16):zsb a0 g1 a2 g3 a4 g5 a6 g7 c8 a9 a10 c11 a12 a13 a14 a15=true∧zct a0 g1 a2 g3 a4 g5 a6 g7 c8 a9 a10 c11 a12 a13 a14 a15=a16:=of1 h
theorem y4t{r:Nat×Bool}(h:z4v a0 g1 a2 g3 a4 g5 a6 g7 c8 a9 a10 c11 a12 a13 a14 a15=some r):zub a0 g1 a2 g3 a4 g5 a6 g7 c8 a9 a10 c11 a12 a13 a14 a15=true∧zsa a0 g1 a2 g3 a4 g5 a6 g7 c8 a9 a10 c11 a12 a13 a14 a15=r.1∧zs7 a0 g1 a2 g3 a4 g5 a6 g7 c8 a9 a10 c11 a12 a13 a14 a15=r.2:=of2 h
theorem zxn{r:Unit}(hm:a18=big) (h:z0t c0 a1 a2 a3 g4 g5 g6 g7 a8 a9 a10 a11 c12 a13 a14 a18 a15 a16 c17=some (Sum.inl r)):zh1 c0 a1 a2 a3 g4 g5 g6 g7 a8 a9 a10 a11 c12 a13 a14 a15 a16 c17=true∧zfl c0 a1 a2 a3 g4 g5 g6 g7 a8 a9 a10 a11 c12 a13 a14 a15 a16 c17=true:=by
 subst hm;exact ol0 h
theorem zy7{r:Nat×Nat×Int×Bool}(hm:a18=big) (h:z0t c0 a1 a2 a3 g4 g5 g6 g7 a8 a9 a10 a11 c12 a13 a14 a18 a15 a16 c17=some (Sum.inr r)):zh1 c0 a1 a2 a3 g4 g5 g6 g7 a8 a9 a10 a11 c12 a13 a14 a15 a16 c17=true∧zfl c0 a1 a2 a3 g4 g5 g6 g7 a8 a9 a10 a11 c12 a13 a14 a15 a16 c17=false∧zkh c0 a1 a2 a3 g4 g5 g6 g7 a8 a9 a10 a11 c12 a13 a14 a15 a16 c17=r.1∧zwm c0 a1 a2 a3 g4 g5 g6 g7 a8 a9 a10 a11 c12 a13 a14 a15 a16 c17=r.2.1∧zwt c0 a1 a2 a3 g4 g5 g6 g7 a8 a9 a10 a11 c12 a13 a14 a15 a16 c17=r.2.2.1∧zwi c0 a1 a2 a3 g4 g5 g6 g7 a8 a9 a10 a11 c12 a13 a14 a15 a16 c17=r.2.2.2:=by
 subst hm;exact or4 h
end
end Go.Rf
