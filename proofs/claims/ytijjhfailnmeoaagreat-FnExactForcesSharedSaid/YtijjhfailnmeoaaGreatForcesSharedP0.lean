import Derived.Test.YtijjhfailnmeoaaGreatB
set_option linter.unusedVariables false
set_option linter.unusedSimpArgs false
set_option linter.unusedSectionVars false
set_option maxRecDepth 100000
set_option maxHeartbeats 4000000
namespace Go.Rf
open Go
noncomputable section
variable (a0:Nat) (c0:Int) (g0:List Nat) (a1:Nat) (c1:Int) (e1:Bool) (g1:List Nat) (m1:List Bool) (a2:Nat) (c2:Int) (e2:Bool) (g2:List Nat) (a3:Nat) (c3:Int) (g3:List Nat) (m3:List Bool) (a4:Nat) (c4:Int) (g4:List Nat) (a5:Nat) (c5:Int) (g5:List Nat) (a6:Nat) (c6:Int) (g6:List Nat) (a7:Nat) (c7:Int) (g7:List Nat) (a8:Nat) (c8:Int) (a9:Nat) (g9:List Nat) (a10:Nat) (a11:Nat) (c11:Int) (g11:List Nat) (a12:Nat) (c12:Int) (g12:List Nat) (a13:Nat) (a14:Nat) (g14:List Nat) (a15:Nat) (a16:Nat) (g16:List Nat) (a17:Nat) (c17:Int) (c18:Int) (g18:List Nat) (c19:Int) (a20:Nat) (a21:Nat)
abbrev Nt1{A1:Type} (T:{R:Type}→(A1→Option R)→Option R):Prop:=∀ {R R':Type} (o:Option R→Option R'),o none=none→∀ k:A1→Option R,T (fun c1=>o (k c1))=o (T k)
abbrev Nt2{A1 A2:Type} (T:{R:Type}→(A1→A2→Option R)→Option R):Prop:=∀ {R R':Type} (o:Option R→Option R'),o none=none→∀ k:A1→A2→Option R,T (fun c1 c2=>o (k c1 c2))=o (T k)
abbrev Nt3{A1 A2 A3:Type} (T:{R:Type}→(A1→A2→A3→Option R)→Option R):Prop:=∀ {R R':Type} (o:Option R→Option R'),o none=none→∀ k:A1→A2→A3→Option R,T (fun c1 c2 c3=>o (k c1 c2 c3))=o (T k)
abbrev Nt4{A1 A2 A3 A4:Type} (T:{R:Type}→(A1→A2→A3→A4→Option R)→Option R):Prop:=∀ {R R':Type} (o:Option R→Option R'),o none=none→∀ k:A1→A2→A3→A4→Option R,T (fun c1 c2 c3 c4=>o (k c1 c2 c3 c4))=o (T k)
abbrev Nt5{A1 A2 A3 A4 A5:Type} (T:{R:Type}→(A1→A2→A3→A4→A5→Option R)→Option R):Prop:=∀ {R R':Type} (o:Option R→Option R'),o none=none→∀ k:A1→A2→A3→A4→A5→Option R,T (fun c1 c2 c3 c4 c5=>o (k c1 c2 c3 c4 c5))=o (T k)
abbrev Nt6{A1 A2 A3 A4 A5 A6:Type} (T:{R:Type}→(A1→A2→A3→A4→A5→A6→Option R)→Option R):Prop:=∀ {R R':Type} (o:Option R→Option R'),o none=none→∀ k:A1→A2→A3→A4→A5→A6→Option R,T (fun c1 c2 c3 c4 c5 c6=>o (k c1 c2 c3 c4 c5 c6))=o (T k)
abbrev Nt8{A1 A2 A3 A4 A5 A6 A7 A8:Type} (T:{R:Type}→(A1→A2→A3→A4→A5→A6→A7→A8→Option R)→Option R):Prop:=∀ {R R':Type} (o:Option R→Option R'),o none=none→∀ k:A1→A2→A3→A4→A5→A6→A7→A8→Option R,T (fun c1 c2 c3 c4 c5 c6 c7 c8=>o (k c1 c2 c3 c4 c5 c6 c7 c8))=o (T k)
def zgf{R:Type}(k_:Bool→Option R):Option R:=(br (fcmp .neq .f64 a0 a0) (br (fcmp .neq .f64 a0 a0) (k_ (fcmp .neq .f64 a1 a1)) (k_ Bool.false)) (br (fcmp .neq .f64 a1 a1) (br (fcmp .neq .f64 a0 a0) (k_ (fcmp .neq .f64 a1 a1)) (k_ Bool.false)) (br (fcmp .eql .f64 a0 0) (br (fcmp .eql .f64 a1 0) (k_ (beqB (fcmp .gtr .f64 (fop .quo .f64 4607182418800017408 a0) 0) (fcmp .gtr .f64 (fop .quo .f64 4607182418800017408 a1) 0))) (k_ (fcmp .eql .f64 a0 a1))) (k_ (fcmp .eql .f64 a0 a1)))))
def z6r:Option (Bool):=zgf a0 a1 (fun c0_=>some c0_)
theorem zzb:Nt1 (fun {R}=>zgf (R:=R) a0 a1):=by
 intro R R' o h0 k;unfold zgf;repeat (first | apply grd_out h0 | apply br_out | rfl)
def z6t:Bool:=(z6r a0 a1).isSome
def z5k:Bool:=((z6r a0 a1).getD default)
def zko{R:Type}(k_:Bool→Option R):Option R:=(br (leI c1 c0) (k_ (leI c0 c2)) (k_ Bool.false))
def z95:Option (Bool):=zko c0 c1 c2 (fun c0_=>some c0_)
theorem y5f:Nt1 (fun {R}=>zko (R:=R) c0 c1 c2):=by
 intro R R' o h0 k;unfold zko;repeat (first | apply grd_out h0 | apply br_out | rfl)
def z9c:Bool:=(z95 c0 c1 c2).isSome
def z4g:Bool:=((z95 c0 c1 c2).getD default)
def zna{R:Type}(k_:Bool→Option R):Option R:=(k_ (fcmp .eql .f32 (fop .sub .f32 a0 a0) 0))
def z93:Option (Bool):=zna a0 (fun c0_=>some c0_)
theorem y13:Nt1 (fun {R}=>zna (R:=R) a0):=by
 intro R R' o h0 k;unfold zna;repeat (first | apply grd_out h0 | apply br_out | rfl)
def z31:Bool:=(z93 a0).isSome
def z2l:Bool:=((z93 a0).getD default)
def zoe{R:Type}(k_:Bool→Option R):Option R:=(br (leI c1 c0) (k_ (leI c0 c2)) (k_ Bool.false))
def zac:Option (Bool):=zoe c0 c1 c2 (fun c0_=>some c0_)
theorem y6n:Nt1 (fun {R}=>zoe (R:=R) c0 c1 c2):=by
 intro R R' o h0 k;unfold zoe;repeat (first | apply grd_out h0 | apply br_out | rfl)
def znk:Bool:=(zac c0 c1 c2).isSome
def zkr:Bool:=((zac c0 c1 c2).getD default)
def ze2{R:Type}(a:List Nat)(q2j:Int)(k_:Int→Option R):Option R:=(br (ltI (subI .i64 q2j (Int.ofNat a0)) 0) (k_ (Int.negSucc 0)) (k_ (subI .i64 q2j (Int.ofNat a0))))
def z5s:Option (Int):=ze2 a0 g1 c2 (fun c0_=>some c0_)
theorem zyi:Nt1 (fun {R}=>ze2 (R:=R) a0 g1 c2):=by
 intro R R' o h0 k;unfold ze2;repeat (first | apply grd_out h0 | apply br_out | rfl)
def zri:Bool:=(z5s a0 g1 c2).isSome
def zid:Int:=((z5s a0 g1 c2).getD default)
def zkv{R:Type}(k_:Bool→Option R):Option R:=(k_ (fcmp .eql .f32 (fop .sub .f32 a0 a0) 0))
def z89:Option (Bool):=zkv a0 (fun c0_=>some c0_)
theorem zyp:Nt1 (fun {R}=>zkv (R:=R) a0):=by
 intro R R' o h0 k;unfold zkv;repeat (first | apply grd_out h0 | apply br_out | rfl)
def z1c:Bool:=(z89 a0).isSome
def z15:Bool:=((z89 a0).getD default)
def zdx{R:Type}(a:List Nat)(q2j:Int)(k_:Int→Option R):Option R:=(br (ltI (subI .i64 q2j (Int.ofNat a0)) 0) (k_ (Int.negSucc 0)) (k_ (subI .i64 q2j (Int.ofNat a0))))
def z5q:Option (Int):=zdx a0 g1 c2 (fun c0_=>some c0_)
theorem zx2:Nt1 (fun {R}=>zdx (R:=R) a0 g1 c2):=by
 intro R R' o h0 k;unfold zdx;repeat (first | apply grd_out h0 | apply br_out | rfl)
def zdy:Bool:=(z5q a0 g1 c2).isSome
def z1d:Int:=((z5q a0 g1 c2).getD default)
def zl3{R:Type}(q2r q2t q2u:Nat)(k_:Unit→Option R):Option R:=(k_ ())
def zle:Option (Unit):=zl3 a0 a1 a2 (fun _=>some ())
theorem y0a:Nt1 (fun {R}=>zl3 (R:=R) a0 a1 a2):=by
 intro R R' o h0 k;unfold zl3;repeat (first | apply grd_out h0 | apply br_out | rfl)
def zte:Bool:=(zle a0 a1 a2).isSome
def zho{R:Type}(k_:Bool→Option R):Option R:=(br (fcmp .geq .f32 a0 a1) (k_ (fcmp .leq .f32 a0 a2)) (k_ Bool.false))
def z7a:Option (Bool):=zho a0 a1 a2 (fun c0_=>some c0_)
theorem y1l:Nt1 (fun {R}=>zho (R:=R) a0 a1 a2):=by
 intro R R' o h0 k;unfold zho;repeat (first | apply grd_out h0 | apply br_out | rfl)
def zmn:Bool:=(z7a a0 a1 a2).isSome
def zl1:Bool:=((z7a a0 a1 a2).getD default)
def z8w{R:Type}(q07:Nat)(q0b:List Nat)(q09:Nat)(q0c:List Nat)(q08:Nat)(q0d:List Nat)(q0f:Nat)(q0i:List Nat)(q0l:Int)(q0o q0n:Nat)(i:Int)(k_:Nat→Option R):Option R:=(grd (okIx i q0f) (grd (okIx i q0f) (k_ (fop .quo .f32 (fop .mul .f32 (fOI .f32 q0l) (gF q0i (Nat.succ (ixO 0 i 3)))) (fop .mul .f32 1086918619 (gF q0i (ixO 0 i 3)))))))
def z3z:Option (Nat):=z8w a0 g1 a2 g3 a4 g5 a6 g7 c8 a9 a10 c11 (fun c0_=>some c0_)
theorem zsj:Nt1 (fun {R}=>z8w (R:=R) a0 g1 a2 g3 a4 g5 a6 g7 c8 a9 a10 c11):=by
 intro R R' o h0 k;unfold z8w;repeat (first | apply grd_out h0 | apply br_out | rfl)
def zmb:Bool:=(z3z a0 g1 a2 g3 a4 g5 a6 g7 c8 a9 a10 c11).isSome
def zd6:Nat:=((z3z a0 g1 a2 g3 a4 g5 a6 g7 c8 a9 a10 c11).getD default)
def zkq{R:Type}(q07:Nat)(q0b:List Nat)(q09:Nat)(q0c:List Nat)(q08:Nat)(q0d:List Nat)(q0f:Nat)(q0i:List Nat)(q0l:Int)(q0o q0n:Nat)(i:Int)(q3g:Nat)(k_:Nat→Option R):Option R:=(grd (okIx i q0f) (k_ (fop .quo .f32 (fop .quo .f32 (fop .mul .f32 (fOI .f32 q0l) (fop .sub .f32 q0n (gF q0i (ixO 0 i 3)))) (fop .mul .f32 1073741824 (gF q0i (ixO 0 i 3)))) (fop .add .f32 (fop .quo .f32 (fop .mul .f32 (fOI .f32 q0l) (fop .sub .f32 q0n (gF q0i (ixO 0 i 3)))) (fop .mul .f32 1073741824 (gF q0i (ixO 0 i 3)))) q3g))))
def z9d:Option (Nat):=zkq a0 g1 a2 g3 a4 g5 a6 g7 c8 a9 a10 c11 a12 (fun c0_=>some c0_)
theorem y5j:Nt1 (fun {R}=>zkq (R:=R) a0 g1 a2 g3 a4 g5 a6 g7 c8 a9 a10 c11 a12):=by
 intro R R' o h0 k;unfold zkq;repeat (first | apply grd_out h0 | apply br_out | rfl)
def y0g:Bool:=(z9d a0 g1 a2 g3 a4 g5 a6 g7 c8 a9 a10 c11 a12).isSome
def zph:Nat:=((z9d a0 g1 a2 g3 a4 g5 a6 g7 c8 a9 a10 c11 a12).getD default)
def zck{R:Type}(q07:Nat)(q0b:List Nat)(q09:Nat)(q0c:List Nat)(q08:Nat)(q0d:List Nat)(q0f:Nat)(q0i:List Nat)(q0l:Int)(q0o q0n:Nat)(i:Int)(k_:Nat→Option R):Option R:=(grd (okIx i q0f) (k_ (fop .quo .f32 (fop .mul .f32 (fOI .f32 q0l) (gF q0i (Nat.succ (ixO 0 i 3)))) (fop .mul .f32 1086918619 (gF q0i (ixO 0 i 3))))))
def z52:Option (Nat):=zck a0 g1 a2 g3 a4 g5 a6 g7 c8 a9 a10 c11 (fun c0_=>some c0_)
theorem zvx:Nt1 (fun {R}=>zck (R:=R) a0 g1 a2 g3 a4 g5 a6 g7 c8 a9 a10 c11):=by
 intro R R' o h0 k;unfold zck;repeat (first | apply grd_out h0 | apply br_out | rfl)
def zqm:Bool:=(z52 a0 g1 a2 g3 a4 g5 a6 g7 c8 a9 a10 c11).isSome
def zhd:Nat:=((z52 a0 g1 a2 g3 a4 g5 a6 g7 c8 a9 a10 c11).getD default)
def zsa{R:Type}  (k_:Nat→Option R):Option R:=(grd (okU .f64 9221120237041090561) (k_ (cnI .f64 9221120237041090561)))
def zg1  : Option (Nat):=zsa (fun c0_=>some c0_)
theorem y9n  : Nt1 (fun {R}=>zsa (R:=R)):=by
 intro R R' o h0 k;unfold zsa;repeat (first | apply grd_out h0 | apply br_out | rfl)
def zz7  : Bool:=(zg1).isSome
def zq9  : Nat:=((zg1).getD default)
def zt0{R:Type}(k_:Nat→Option R):Option R:=(k_ (fop .add .f32 a0 (fop .mul .f32 a2 (fop .sub .f32 a1 a0))))
def zew:Option (Nat):=zt0 a0 a1 a2 (fun c0_=>some c0_)
theorem y6z:Nt1 (fun {R}=>zt0 (R:=R) a0 a1 a2):=by
 intro R R' o h0 k;unfold zt0;repeat (first | apply grd_out h0 | apply br_out | rfl)
def ztt:Bool:=(zew a0 a1 a2).isSome
def zr2:Nat:=((zew a0 a1 a2).getD default)
def zg3{R:Type}(k_:Nat→Option R):Option R:=(grd (fcvB .f64 .f32 a0) (k_ (fcvV .f64 .f32 a0)))
def z6o:Option (Nat):=zg3 a0 (fun c0_=>some c0_)
theorem zzk:Nt1 (fun {R}=>zg3 (R:=R) a0):=by
 intro R R' o h0 k;unfold zg3;repeat (first | apply grd_out h0 | apply br_out | rfl)
def zlr:Bool:=(z6o a0).isSome
def ze6:Nat:=((z6o a0).getD default)
def zsi{R:Type}(k_:Nat→Option R):Option R:=(grd (bnot (nanQ .f64 a0)) (grd (okU .f64 (bitI .andNot .u64 (Int.ofNat a0) 9223372036854775808)) (k_ (cnI .f64 (bitI .andNot .u64 (Int.ofNat a0) 9223372036854775808)))))
def zfl:Option (Nat):=zsi a0 (fun c0_=>some c0_)
theorem y88:Nt1 (fun {R}=>zsi (R:=R) a0):=by
 intro R R' o h0 k;unfold zsi;repeat (first | apply grd_out h0 | apply br_out | rfl)
def y7d:Bool:=(zfl a0).isSome
def y5o:Nat:=((zfl a0).getD default)
def zik{R:Type}(k_:Nat→Bool→Option R):Option R:=(grd (z31 a0) (br (bnot (z2l a0)) (k_ 0 Bool.false) (k_ a0 Bool.true)))
def z6y:Option (Nat×Bool):=zik a0 (fun c0_ c1_=>some (c0_,c1_))
theorem y3k:Nt2 (fun {R}=>zik (R:=R) a0):=by
 intro R R' o h0 k;unfold zik;repeat (first | apply grd_out h0 | apply br_out | rfl)
def zxo:Bool:=(z6y a0).isSome
def zvg:Nat:=((z6y a0).getD default).1
def zvj:Bool:=((z6y a0).getD default).2
def zgi{R:Type}(k_:Int→Option R):Option R:=(grd (zdy a0 (pF g1 0 (muN a0 1)) c6) (br (ltI (z1d a0 (pF g1 0 (muN a0 1)) c6) 0) (k_ (Int.negSucc 0)) (grd (zdy a2 (pF g3 0 (muN a2 1)) (z1d a0 (pF g1 0 (muN a0 1)) c6)) (br (ltI (z1d a2 (pF g3 0 (muN a2 1)) (z1d a0 (pF g1 0 (muN a0 1)) c6)) 0) (k_ (Int.negSucc 0)) (grd (zdy a4 (pF g5 0 (muN a4 1)) (z1d a2 (pF g3 0 (muN a2 1)) (z1d a0 (pF g1 0 (muN a0 1)) c6))) (br (ltI (z1d a4 (pF g5 0 (muN a4 1)) (z1d a2 (pF g3 0 (muN a2 1)) (z1d a0 (pF g1 0 (muN a0 1)) c6))) 0) (k_ (Int.negSucc 0)) (k_ (z1d a4 (pF g5 0 (muN a4 1)) (z1d a2 (pF g3 0 (muN a2 1)) (z1d a0 (pF g1 0 (muN a0 1)) c6))))))))))
def z6p:Option (Int):=zgi a0 g1 a2 g3 a4 g5 c6 (fun c0_=>some c0_)
theorem y02:Nt1 (fun {R}=>zgi (R:=R) a0 g1 a2 g3 a4 g5 c6):=by
 intro R R' o h0 k;unfold zgi;repeat (first | apply grd_out h0 | apply br_out | rfl)
def ztz:Bool:=(z6p a0 g1 a2 g3 a4 g5 c6).isSome
def z9e:Int:=((z6p a0 g1 a2 g3 a4 g5 c6).getD default)
def zht{R:Type}(k_:Bool→Option R):Option R:=(grd (z1c a0) (br (z15 a0) (k_ (fcmp .gtr .f32 a0 0)) (k_ Bool.false)))
def z7c:Option (Bool):=zht a0 (fun c0_=>some c0_)
theorem y1g:Nt1 (fun {R}=>zht (R:=R) a0):=by
 intro R R' o h0 k;unfold zht;repeat (first | apply grd_out h0 | apply br_out | rfl)
def zbu:Bool:=(z7c a0).isSome
def zai:Bool:=((z7c a0).getD default)
def zip{R:Type}(k_:Bool→Option R):Option R:=(grd (z31 a0) (br (z2l a0) (k_ (fcmp .geq .f32 a0 0)) (k_ Bool.false)))
def z8b:Option (Bool):=zip a0 (fun c0_=>some c0_)
theorem y2b:Nt1 (fun {R}=>zip (R:=R) a0):=by
 intro R R' o h0 k;unfold zip;repeat (first | apply grd_out h0 | apply br_out | rfl)
def zpw:Bool:=(z8b a0).isSome
def zmu:Bool:=((z8b a0).getD default)
def z9i{R:Type}(k_:Bool→Option R):Option R:=(grd (z31 a0) (br (bnot (z2l a0)) (k_ Bool.true) (k_ (fcmp .leq .f32 a0 0))))
def z4b:Option (Bool):=z9i a0 (fun c0_=>some c0_)
theorem ztr:Nt1 (fun {R}=>z9i (R:=R) a0):=by
 intro R R' o h0 k;unfold z9i;repeat (first | apply grd_out h0 | apply br_out | rfl)
def zob:Bool:=(z4b a0).isSome
def zm9:Bool:=((z4b a0).getD default)
def zfm{R:Type}(k_:Bool→Option R):Option R:=(grd (z6t (fcvV .f32 .f64 a0) (fcvV .f32 .f64 a3)) (br (bnot (z5k (fcvV .f32 .f64 a0) (fcvV .f32 .f64 a3))) (k_ Bool.false) (grd (z6t (fcvV .f32 .f64 a1) (fcvV .f32 .f64 a4)) (br (bnot (z5k (fcvV .f32 .f64 a1) (fcvV .f32 .f64 a4))) (k_ Bool.false) (grd (z6t (fcvV .f32 .f64 a2) (fcvV .f32 .f64 a5)) (br (bnot (z5k (fcvV .f32 .f64 a2) (fcvV .f32 .f64 a5))) (k_ Bool.false) (k_ Bool.true)))))))
def z6l:Option (Bool):=zfm a0 a1 a2 a3 a4 a5 (fun c0_=>some c0_)
theorem zz2:Nt1 (fun {R}=>zfm (R:=R) a0 a1 a2 a3 a4 a5):=by
 intro R R' o h0 k;unfold zfm;repeat (first | apply grd_out h0 | apply br_out | rfl)
def zt1:Bool:=(z6l a0 a1 a2 a3 a4 a5).isSome
def zrs:Bool:=((z6l a0 a1 a2 a3 a4 a5).getD default)
def zhg{R:Type}(k_:Bool→Option R):Option R:=(grd (z1c a0) (br (z15 a0) (k_ (fcmp .geq .f32 a0 0)) (k_ Bool.false)))
def z7b:Option (Bool):=zhg a0 (fun c0_=>some c0_)
theorem y19:Nt1 (fun {R}=>zhg (R:=R) a0):=by
 intro R R' o h0 k;unfold zhg;repeat (first | apply grd_out h0 | apply br_out | rfl)
def z8x:Bool:=(z7b a0).isSome
def z84:Bool:=((z7b a0).getD default)
def zhr{R:Type}(q07:Nat)(q0b:List Nat)(q09:Nat)(q0c:List Nat)(q08:Nat)(q0d:List Nat)(q0f:Nat)(q0i:List Nat)(q0l:Int)(q0o q0n:Nat)(i:Int)(q0m:Nat)(k_:Bool→Option R):Option R:=(grd (okIx i q0f) (grd (z1c (fop .sub .f32 (fop .sub .f32 981668463 (gF q0i (Nat.succ (Nat.succ (ixO 0 i 3))))) q0m)) (br (z15 (fop .sub .f32 (fop .sub .f32 981668463 (gF q0i (Nat.succ (Nat.succ (ixO 0 i 3))))) q0m)) (grd (okIx i q0f) (grd (z1c (fop .sub .f32 (fop .sub .f32 1048508891 (gF q0i (Nat.succ (Nat.succ (ixO 0 i 3))))) q0m)) (k_ (z15 (fop .sub .f32 (fop .sub .f32 1048508891 (gF q0i (Nat.succ (Nat.succ (ixO 0 i 3))))) q0m))))) (k_ Bool.false))))
def z7d:Option (Bool):=zhr a0 g1 a2 g3 a4 g5 a6 g7 c8 a9 a10 c11 a12 (fun c0_=>some c0_)
theorem y1o:Nt1 (fun {R}=>zhr (R:=R) a0 g1 a2 g3 a4 g5 a6 g7 c8 a9 a10 c11 a12):=by
 intro R R' o h0 k;unfold zhr;repeat (first | apply grd_out h0 | apply br_out | rfl)
def zva:Bool:=(z7d a0 g1 a2 g3 a4 g5 a6 g7 c8 a9 a10 c11 a12).isSome
def zsw:Bool:=((z7d a0 g1 a2 g3 a4 g5 a6 g7 c8 a9 a10 c11 a12).getD default)
def zks{R:Type}(k_:Nat→Nat→Bool→Option R):Option R:=(grd (z1c a0) (br (bnot (z15 a0)) (k_ 0 0 Bool.false) (grd (z1c a1) (br (bnot (z15 a1)) (k_ 0 0 Bool.false) (k_ a0 a1 Bool.true)))))
def z6c:Option (Nat×Nat×Bool):=zks a0 a1 (fun c0_ c1_ c2_=>some (c0_,c1_,c2_))
theorem y43:Nt3 (fun {R}=>zks (R:=R) a0 a1):=by
 intro R R' o h0 k;unfold zks;repeat (first | apply grd_out h0 | apply br_out | rfl)
def zrf:Bool:=(z6c a0 a1).isSome
def zim:Nat:=((z6c a0 a1).getD default).1
def zin:Nat:=((z6c a0 a1).getD default).2.1
def ziv:Bool:=((z6c a0 a1).getD default).2.2
def zca{R:Type}(k_:Bool→Option R):Option R:=(grd (z31 a0) (k_ (bnot (z2l a0))))
def z51:Option (Bool):=zca a0 (fun c0_=>some c0_)
theorem zwv:Nt1 (fun {R}=>zca (R:=R) a0):=by
 intro R R' o h0 k;unfold zca;repeat (first | apply grd_out h0 | apply br_out | rfl)
def zqc:Bool:=(z51 a0).isSome
def zoo:Bool:=((z51 a0).getD default)
def z8l{R:Type}(q07:Nat)(q0b:List Nat)(q09:Nat)(q0c:List Nat)(q08:Nat)(q0d:List Nat)(q0f:Nat)(q0i:List Nat)(q0l:Int)(q0o q0n:Nat)(i:Int)(k_:Bool→Option R):Option R:=(grd (z9c i 0 (subI .i64 (Int.ofNat q0f) 1)) (k_ (z4g i 0 (subI .i64 (Int.ofNat q0f) 1))))
def z3e:Option (Bool):=z8l a0 g1 a2 g3 a4 g5 a6 g7 c8 a9 a10 c11 (fun c0_=>some c0_)
theorem zr3:Nt1 (fun {R}=>z8l (R:=R) a0 g1 a2 g3 a4 g5 a6 g7 c8 a9 a10 c11):=by
 intro R R' o h0 k;unfold z8l;repeat (first | apply grd_out h0 | apply br_out | rfl)
def zkb:Bool:=(z3e a0 g1 a2 g3 a4 g5 a6 g7 c8 a9 a10 c11).isSome
def zj1:Bool:=((z3e a0 g1 a2 g3 a4 g5 a6 g7 c8 a9 a10 c11).getD default)
def zkl{R:Type}(k_:Bool→Option R):Option R:=(grd (zmn a0 981668463 1048508891) (k_ (zl1 a0 981668463 1048508891)))
def z9a:Option (Bool):=zkl a0 (fun c0_=>some c0_)
theorem y42:Nt1 (fun {R}=>zkl (R:=R) a0):=by
 intro R R' o h0 k;unfold zkl;repeat (first | apply grd_out h0 | apply br_out | rfl)
def y0i:Bool:=(z9a a0).isSome
def zxq:Bool:=((z9a a0).getD default)
def zkm{R:Type}(k_:Bool→Option R):Option R:=(grd (y7d a0) (k_ (fcmp .geq .f64 (y5o a0) 4841369599423283200)))
def z97:Option (Bool):=zkm a0 (fun c0_=>some c0_)
theorem y50:Nt1 (fun {R}=>zkm (R:=R) a0):=by
 intro R R' o h0 k;unfold zkm;repeat (first | apply grd_out h0 | apply br_out | rfl)
def y0q:Bool:=(z97 a0).isSome
def zya:Bool:=((z97 a0).getD default)
def z1p{R:Type}(kn_:Int→Int→Option R)(k0_:Unit→Option R)(k1_:Int→Int→Bool→Option R):Option R:=(br (ltI c3 (Int.ofNat a0)) (grd (okIx c3 a0) (br (fcmp .neq .f32 (gF g1 (ixO 0 c3 1)) (fOI .f32 c2)) (k0_ ()) (kn_ (addI .i64 c2 1) (addI .i64 c3 1)))) (k1_ c2 c3 (ltI c3 (Int.ofNat a0))))
theorem zrb{R R':Type}(o:Option R→Option R')(h0:o none=none)(kn_:Int→Int→Option R)(k0_:Unit→Option R)(k1_:Int→Int→Bool→Option R):z1p a0 g1 c2 c3 (fun k' i'=>o (kn_ k' i')) (fun _=>o (k0_ ())) (fun c0_ c1_ c2_=>o (k1_ c0_ c1_ c2_))=o (z1p a0 g1 c2 c3 kn_ k0_ k1_):=by
 unfold z1p
 repeat (first | apply grd_out h0 | apply br_out | rfl)
def z0k(an:Nat)(b0:List Nat):Nat→Int→Int→Option ((Unit)⊕(Int×Int×Bool))
 | 0,_,_=>none
 | n+1,k,i=>z1p an b0  k i  (fun k' i'=>z0k an b0 n k' i') (fun _=>some (Sum.inl ())) (fun c0_ c1_ c2_=>some (Sum.inr (c0_,c1_,c2_)))
theorem zfd:z0k a0 g1 (a2+1) c3 c4=z1p a0 g1  c3 c4  (fun k' i'=>z0k a0 g1 a2 k' i') (fun _=>some (Sum.inl ())) (fun c0_ c1_ c2_=>some (Sum.inr (c0_,c1_,c2_))):=rfl
def zkc:Bool:=(z0k a0 g1 big c2 c3).isSome
def zj5:Bool:=oL (z0k a0 g1 big c2 c3)
def zhh:Int:=((tR (z0k a0 g1 big c2 c3)).getD default).1
def zsb:Int:=((tR (z0k a0 g1 big c2 c3)).getD default).2.1
def zsg:Bool:=((tR (z0k a0 g1 big c2 c3)).getD default).2.2
def z2f{R:Type} (kn_:Int→(List Nat)→Option R) (k0_:Int→Bool→(List Nat)→Option R):Option R:=(br (ltI c3 (Int.ofNat a0)) (grd (okIx c3 a0) (grd (okIx c3 a1) (kn_ (addI .i64 c3 1) (sF g4 (ixO 0 c3 1) (gF g2 (ixO 0 c3 1)))))) (k0_ c3 (ltI c3 (Int.ofNat a0)) g4))
theorem zua{R R':Type}(o:Option R→Option R')(h0:o none=none) (kn_:Int→(List Nat)→Option R) (k0_:Int→Bool→(List Nat)→Option R):z2f a0 a1 g2 c3 g4 (fun i' b1'=>o (kn_ i' b1')) (fun c0_ c1_ c2_=>o (k0_ c0_ c1_ c2_))=o (z2f a0 a1 g2 c3 g4 kn_ k0_):=by
 unfold z2f
 repeat (first | apply grd_out h0 | apply br_out | rfl)
def z19(an q25:Nat)(b0:List Nat):Nat→Int→(List Nat)→Option ((Int×Bool×(List Nat)))
 | 0,_,_=>none
 | n+1,i,b1=>z2f an q25 b0  i b1  (fun i' b1'=>z19 an q25 b0 n i' b1') (fun c0_ c1_ c2_=>some (c0_,c1_,c2_))
theorem zhm:z19 a0 a1 g2 (a3+1) c4 g5=z2f a0 a1 g2  c4 g5  (fun i' b1'=>z19 a0 a1 g2 a3 i' b1') (fun c0_ c1_ c2_=>some (c0_,c1_,c2_)):=rfl
def zfs:Bool:=(z19 a0 a1 g2 big c3 g4).isSome
def zul:Int:=((z19 a0 a1 g2 big c3 g4).getD default).1
def zum:Bool:=((z19 a0 a1 g2 big c3 g4).getD default).2.1
def zbc:List Nat:=((z19 a0 a1 g2 big c3 g4).getD default).2.2
def z14{R:Type}(kn_:Int→Option R)(k0_:Int→Option R)(k1_:Int→Bool→Option R):Option R:=(br (ltI c4 c2) (grd (okIx c4 a0) (br (beqB e1 (gB m3 (ixO 0 c4 1))) (k0_ c4) (kn_ (addI .i64 c4 1)))) (k1_ c4 (ltI c4 c2)))
theorem zky{R R':Type}(o:Option R→Option R')(h0:o none=none)(kn_:Int→Option R)(k0_:Int→Option R)(k1_:Int→Bool→Option R):z14 a0 e1 c2 m3 c4 (fun t8'=>o (kn_ t8')) (fun c0_=>o (k0_ c0_)) (fun c0_ c1_=>o (k1_ c0_ c1_))=o (z14 a0 e1 c2 m3 c4 kn_ k0_ k1_):=by
 unfold z14
 repeat (first | apply grd_out h0 | apply br_out | rfl)
def z0a(sn:Nat)(v:Bool)(t7:Int)(b0:List Bool):Nat→Int→Option ((Int)⊕(Int×Bool))
 | 0,_=>none
 | n+1,t8=>z14 sn v t7 b0  t8  (fun t8'=>z0a sn v t7 b0 n t8') (fun c0_=>some (Sum.inl c0_)) (fun c0_ c1_=>some (Sum.inr (c0_,c1_)))
theorem za1:z0a a0 e1 c2 m3 (a4+1) c5=z14 a0 e1 c2 m3  c5  (fun t8'=>z0a a0 e1 c2 m3 a4 t8') (fun c0_=>some (Sum.inl c0_)) (fun c0_ c1_=>some (Sum.inr (c0_,c1_))):=rfl
def z8g:Bool:=(z0a a0 e1 c2 m3 big c4).isSome
def z7t:Bool:=oL (z0a a0 e1 c2 m3 big c4)
def zbb:Int:=((tL (z0a a0 e1 c2 m3 big c4)).getD default)
def zmk:Int:=((tR (z0a a0 e1 c2 m3 big c4)).getD default).1
def zmi:Bool:=((tR (z0a a0 e1 c2 m3 big c4)).getD default).2
def zit{R:Type}(q1u:Int)(q23 q24:Nat)(q2j:Int)(k_:Int→Option R):Option R:=(grd (ztz a0 (pF g1 0 (muN a0 1)) a2 (pF g3 0 (muN a2 1)) a4 (pF g5 0 (muN a4 1)) q2j) (br (ltI (z9e a0 (pF g1 0 (muN a0 1)) a2 (pF g3 0 (muN a2 1)) a4 (pF g5 0 (muN a4 1)) q2j) 0) (k_ (Int.negSucc 0)) (grd (zri a6 (pF g7 0 (muN a6 3)) (z9e a0 (pF g1 0 (muN a0 1)) a2 (pF g3 0 (muN a2 1)) a4 (pF g5 0 (muN a4 1)) q2j)) (br (ltI (zid a6 (pF g7 0 (muN a6 3)) (z9e a0 (pF g1 0 (muN a0 1)) a2 (pF g3 0 (muN a2 1)) a4 (pF g5 0 (muN a4 1)) q2j)) 0) (k_ (Int.negSucc 0)) (k_ (zid a6 (pF g7 0 (muN a6 3)) (z9e a0 (pF g1 0 (muN a0 1)) a2 (pF g3 0 (muN a2 1)) a4 (pF g5 0 (muN a4 1)) q2j)))))))
def z87:Option (Int):=zit a0 g1 a2 g3 a4 g5 a6 g7 c8 a9 a10 c11 (fun c0_=>some c0_)
theorem y3a:Nt1 (fun {R}=>zit (R:=R) a0 g1 a2 g3 a4 g5 a6 g7 c8 a9 a10 c11):=by
 intro R R' o h0 k;unfold zit;repeat (first | apply grd_out h0 | apply br_out | rfl)
def zq7:Bool:=(z87 a0 g1 a2 g3 a4 g5 a6 g7 c8 a9 a10 c11).isSome
def zoh:Int:=((z87 a0 g1 a2 g3 a4 g5 a6 g7 c8 a9 a10 c11).getD default)
def zau{R:Type}(k_:Int→Option R):Option R:=(grd (zkc a0 g1 c2 0) (br (zj5 a0 g1 c2 0) (k_ (Int.negSucc 0)) (k_ (zhh a0 g1 c2 0))))
def z4l:Option (Int):=zau a0 g1 c2 (fun c0_=>some c0_)
theorem zui:Nt1 (fun {R}=>zau (R:=R) a0 g1 c2):=by
 intro R R' o h0 c2;unfold zau;repeat (first | apply grd_out h0 | apply br_out | rfl)
def zgz:Bool:=(z4l a0 g1 c2).isSome
def zg4:Int:=((z4l a0 g1 c2).getD default)
def zeb{R:Type} (k_:Nat→(List Nat)→Option R):Option R:=(grd (okMk (Int.ofNat a0) (Int.ofNat a0) 4) (grd (zfs a0 (toN (Int.ofNat a0)) g1 0 (rF (muN (toN (Int.ofNat a0)) 1))) (k_ (toN (Int.ofNat a0)) (zbc a0 (toN (Int.ofNat a0)) g1 0 (rF (muN (toN (Int.ofNat a0)) 1))))))
def z4i:Option (Nat×(List Nat)):=zeb a0 g1 (fun c0_ c1_=>some (c0_,c1_))
theorem zxz:Nt2 (fun {R}=>zeb (R:=R) a0 g1):=by
 intro R R' o h0 k;unfold zeb;repeat (first | apply grd_out h0 | apply br_out | rfl)
def ze4:Bool:=(z4i a0 g1).isSome
def zc4:Nat:=((z4i a0 g1).getD default).1
def zco:List Nat:=((z4i a0 g1).getD default).2
def z75{R:Type}(k_:Int→Option R):Option R:=(grd (z8g a0 e2 (Int.ofNat a0) m1 0) (br (z7t a0 e2 (Int.ofNat a0) m1 0) (k_ (zbb a0 e2 (Int.ofNat a0) m1 0)) (k_ (Int.negSucc 0))))
def z2g:Option (Int):=z75 a0 m1 e2 (fun c0_=>some c0_)
theorem zol:Nt1 (fun {R}=>z75 (R:=R) a0 m1 e2):=by
 intro R R' o h0 k;unfold z75;repeat (first | apply grd_out h0 | apply br_out | rfl)
def zhl:Bool:=(z2g a0 m1 e2).isSome
def zgp:Int:=((z2g a0 m1 e2).getD default)
def zee{R:Type}(k_:Bool→Option R):Option R:=(grd (zpw a0) (k_ (bnot (zmu a0))))
def z5u:Option (Bool):=zee a0 (fun c0_=>some c0_)
theorem zx8:Nt1 (fun {R}=>zee (R:=R) a0):=by
 intro R R' o h0 k;unfold zee;repeat (first | apply grd_out h0 | apply br_out | rfl)
def zrw:Bool:=(z5u a0).isSome
def zqi:Bool:=((z5u a0).getD default)
def zn7{R:Type}(k_:Nat→Option R):Option R:=(grd (bnot (nanQ .f64 a0)) (k_ (fint Ieee.Toward.zero a0)))
def zap:Option (Nat):=zn7 a0 (fun c0_=>some c0_)
theorem y6b:Nt1 (fun {R}=>zn7 (R:=R) a0):=by
 intro R R' o h0 k;unfold zn7;repeat (first | apply grd_out h0 | apply br_out | rfl)
def y2q:Bool:=(zap a0).isSome
def zgn:Nat:=((zap a0).getD default)
def z2c{R:Type}(kn_:Int→Option R)(k0_:Unit→Option R)(k1_:Int→Bool→Option R):Option R:=(br (ltI c4 (Int.ofNat a0)) (grd (okIx c4 a0) (grd (okIx c4 a1) (grd (z6t (fcvV .f32 .f64 (gF g2 (ixO 0 c4 1))) (fcvV .f32 .f64 (gF g3 (ixO 0 c4 1)))) (br (bnot (z5k (fcvV .f32 .f64 (gF g2 (ixO 0 c4 1))) (fcvV .f32 .f64 (gF g3 (ixO 0 c4 1))))) (k0_ ()) (kn_ (addI .i64 c4 1)))))) (k1_ c4 (ltI c4 (Int.ofNat a0))))
theorem ztq{R R':Type}(o:Option R→Option R')(h0:o none=none)(kn_:Int→Option R)(k0_:Unit→Option R)(k1_:Int→Bool→Option R):z2c a0 a1 g2 g3 c4 (fun i'=>o (kn_ i')) (fun _=>o (k0_ ())) (fun c0_ c1_=>o (k1_ c0_ c1_))=o (z2c a0 a1 g2 g3 c4 kn_ k0_ k1_):=by
 unfold z2c
 repeat (first | apply grd_out h0 | apply br_out | rfl)
def z1b(an bn:Nat)(b0 b1:List Nat):Nat→Int→Option ((Unit)⊕(Int×Bool))
 | 0,_=>none
 | n+1,i=>z2c an bn b0 b1  i  (fun i'=>z1b an bn b0 b1 n i') (fun _=>some (Sum.inl ())) (fun c0_ c1_=>some (Sum.inr (c0_,c1_)))
theorem zhs:z1b a0 a1 g2 g3 (a4+1) c5=z2c a0 a1 g2 g3  c5  (fun i'=>z1b a0 a1 g2 g3 a4 i') (fun _=>some (Sum.inl ())) (fun c0_ c1_=>some (Sum.inr (c0_,c1_))):=rfl
def zoa:Bool:=(z1b a0 a1 g2 g3 big c4).isSome
def zmg:Bool:=oL (z1b a0 a1 g2 g3 big c4)
def zuu:Int:=((tR (z1b a0 a1 g2 g3 big c4)).getD default).1
def zuk:Bool:=((tR (z1b a0 a1 g2 g3 big c4)).getD default).2
def z2d{R:Type} (kn_:Int→(List Nat)→Option R) (k0_:Int→Bool→(List Nat)→Option R):Option R:=(br (ltI c3 (Int.ofNat a0)) (grd (okIx c3 a0) (grd (zte (gF g2 (ixO 0 c3 3)) (gF g2 (Nat.succ (ixO 0 c3 3))) (gF g2 (Nat.succ (Nat.succ (ixO 0 c3 3))))) (grd (okIx c3 a1) (kn_ (addI .i64 c3 1) (sF (sF (sF g4 (ixO 0 c3 3) (gF g2 (ixO 0 c3 3))) (Nat.succ (ixO 0 c3 3)) (gF g2 (Nat.succ (ixO 0 c3 3)))) (Nat.succ (Nat.succ (ixO 0 c3 3))) (gF g2 (Nat.succ (Nat.succ (ixO 0 c3 3))))))))) (k0_ c3 (ltI c3 (Int.ofNat a0)) g4))
theorem ztj{R R':Type}(o:Option R→Option R')(h0:o none=none) (kn_:Int→(List Nat)→Option R) (k0_:Int→Bool→(List Nat)→Option R):z2d a0 a1 g2 c3 g4 (fun i' b1'=>o (kn_ i' b1')) (fun c0_ c1_ c2_=>o (k0_ c0_ c1_ c2_))=o (z2d a0 a1 g2 c3 g4 kn_ k0_):=by
 unfold z2d
 repeat (first | apply grd_out h0 | apply br_out | rfl)
def z0y(an q25:Nat)(b0:List Nat):Nat→Int→(List Nat)→Option ((Int×Bool×(List Nat)))
 | 0,_,_=>none
 | n+1,i,b1=>z2d an q25 b0  i b1  (fun i' b1'=>z0y an q25 b0 n i' b1') (fun c0_ c1_ c2_=>some (c0_,c1_,c2_))
theorem zhq:z0y a0 a1 g2 (a3+1) c4 g5=z2d a0 a1 g2  c4 g5  (fun i' b1'=>z0y a0 a1 g2 a3 i' b1') (fun c0_ c1_ c2_=>some (c0_,c1_,c2_)):=rfl
def zfq:Bool:=(z0y a0 a1 g2 big c3 g4).isSome
def zuy:Int:=((z0y a0 a1 g2 big c3 g4).getD default).1
def zuw:Bool:=((z0y a0 a1 g2 big c3 g4).getD default).2.1
def zbj:List Nat:=((z0y a0 a1 g2 big c3 g4).getD default).2.2
def z1t{R:Type}(kn_:Nat→Int→Option R)(k0_:Nat→Int→Bool→Option R):Option R:=(br (leI 1 c2) (kn_ (fop .sub .f64 4607182418800017408 (fop .quo .f64 (fop .mul .f64 a0 a1) (fOI .f64 (mulI .i64 (mulI .i64 2 c2) (addI .i64 (mulI .i64 2 c2) 1))))) (subI .i64 c2 1)) (k0_ a1 c2 (leI 1 c2)))
theorem zr4{R R':Type}(o:Option R→Option R')(h0:o none=none)(kn_:Nat→Int→Option R)(k0_:Nat→Int→Bool→Option R):z1t a0 a1 c2 (fun t7' t8'=>o (kn_ t7' t8')) (fun c0_ c1_ c2_=>o (k0_ c0_ c1_ c2_))=o (z1t a0 a1 c2 kn_ k0_):=by
 unfold z1t
 repeat (first | apply grd_out h0 | apply br_out | rfl)
def z0v(t6:Nat):Nat→Nat→Int→Option ((Nat×Int×Bool))
 | 0,_,_=>none
 | n+1,t7,t8=>z1t t6  t7 t8  (fun t7' t8'=>z0v t6 n t7' t8') (fun c0_ c1_ c2_=>some (c0_,c1_,c2_))
theorem zff:z0v a0 (a1+1) a2 c3=z1t a0  a2 c3  (fun t7' t8'=>z0v a0 a1 t7' t8') (fun c0_ c1_ c2_=>some (c0_,c1_,c2_)):=rfl
def z1e:Bool:=(z0v a0 big a1 c2).isSome
def z0d:Nat:=((z0v a0 big a1 c2).getD default).1
def zsn:Int:=((z0v a0 big a1 c2).getD default).2.1
def zsq:Bool:=((z0v a0 big a1 c2).getD default).2.2
def zdt{R:Type}(k_:Bool→Option R):Option R:=(br (neI (Int.ofNat a0) (Int.ofNat a2)) (k_ Bool.false) (grd (zoa a0 a2 g1 g3 0) (br (zmg a0 a2 g1 g3 0) (k_ Bool.false) (k_ Bool.true))))
def z5m:Option (Bool):=zdt a0 g1 a2 g3 (fun c0_=>some c0_)
theorem zww:Nt1 (fun {R}=>zdt (R:=R) a0 g1 a2 g3):=by
 intro R R' o h0 k;unfold zdt;repeat (first | apply grd_out h0 | apply br_out | rfl)
def z7h:Bool:=(z5m a0 g1 a2 g3).isSome
def z6v:Bool:=((z5m a0 g1 a2 g3).getD default)
def z5b{R:Type}(k_:Bool→Option R):Option R:=(grd (zhl a0 (pB m1 0 (muN a0 1)) e2) (k_ (leI 0 (zgp a0 (pB m1 0 (muN a0 1)) e2))))
def z1m:Option (Bool):=z5b a0 m1 e2 (fun c0_=>some c0_)
theorem zll:Nt1 (fun {R}=>z5b (R:=R) a0 m1 e2):=by
 intro R R' o h0 k;unfold z5b;repeat (first | apply grd_out h0 | apply br_out | rfl)
def z57:Bool:=(z1m a0 m1 e2).isSome
def z4t:Bool:=((z1m a0 m1 e2).getD default)
def zfx{R:Type} (k_:Nat→Nat→Nat→(List Nat)→(List Nat)→(List Nat)→Option R):Option R:=(grd (ze4 a0 (pF g1 0 (muN a0 1))) (grd (ze4 a2 (pF g3 0 (muN a2 1))) (grd (ze4 a4 (pF g5 0 (muN a4 1))) (k_ (zc4 a0 (pF g1 0 (muN a0 1))) (zc4 a2 (pF g3 0 (muN a2 1))) (zc4 a4 (pF g5 0 (muN a4 1))) (zco a0 (pF g1 0 (muN a0 1))) (zco a2 (pF g3 0 (muN a2 1))) (zco a4 (pF g5 0 (muN a4 1)))))))
def z23:Option (Nat×Nat×Nat×(List Nat)×(List Nat)×(List Nat)):=zfx a0 g1 a2 g3 a4 g5 (fun c0_ c1_ c2_ c3_ c4_ c5_=>some (c0_,c1_,c2_,c3_,c4_,c5_))
theorem zz9:Nt6 (fun {R}=>zfx (R:=R) a0 g1 a2 g3 a4 g5):=by
 intro R R' o h0 k;unfold zfx;repeat (first | apply grd_out h0 | apply br_out | rfl)
def zt3:Bool:=(z23 a0 g1 a2 g3 a4 g5).isSome
def zs0:Nat:=((z23 a0 g1 a2 g3 a4 g5).getD default).1
def zs1:Nat:=((z23 a0 g1 a2 g3 a4 g5).getD default).2.1
def zrp:Nat:=((z23 a0 g1 a2 g3 a4 g5).getD default).2.2.1
def zs4:List Nat:=((z23 a0 g1 a2 g3 a4 g5).getD default).2.2.2.1
def zs3:List Nat:=((z23 a0 g1 a2 g3 a4 g5).getD default).2.2.2.2.1
def zry:List Nat:=((z23 a0 g1 a2 g3 a4 g5).getD default).2.2.2.2.2
def ze7{R:Type} (k_:Nat→(List Nat)→Option R):Option R:=(grd (okMk (Int.ofNat a0) (Int.ofNat a0) 12) (grd (zfq a0 (toN (Int.ofNat a0)) g1 0 (rF (muN (toN (Int.ofNat a0)) 3))) (k_ (toN (Int.ofNat a0)) (zbj a0 (toN (Int.ofNat a0)) g1 0 (rF (muN (toN (Int.ofNat a0)) 3))))))
def z4j:Option (Nat×(List Nat)):=ze7 a0 g1 (fun c0_ c1_=>some (c0_,c1_))
theorem zxi:Nt2 (fun {R}=>ze7 (R:=R) a0 g1):=by
 intro R R' o h0 k;unfold ze7;repeat (first | apply grd_out h0 | apply br_out | rfl)
def zs7:Bool:=(z4j a0 g1).isSome
def zqk:Nat:=((z4j a0 g1).getD default).1
def zqe:List Nat:=((z4j a0 g1).getD default).2
def z73{R:Type}(k_:Nat→Option R):Option R:=(br (fcmp .neq .f64 (fop .sub .f64 a0 a0) 0) (grd zz7 (k_ zq9)) (br (fcmp .geq .f64 a0 4841369599423283200) (k_ 0) (br (fcmp .leq .f64 a0 14064741636278059008) (k_ 0) (grd (f2iB .f64 a0 .i64) (br (fcmp .lss .f64 (fop .sub .f64 a0 (fOI .f64 (f2iV .f64 a0 .i64))) 0) (br (fcmp .geq .f64 (fop .add .f64 (fop .sub .f64 a0 (fOI .f64 (f2iV .f64 a0 .i64))) 4607182418800017408) 4602678819172646912) (br (fcmp .gtr .f64 (fop .sub .f64 (fop .add .f64 (fop .sub .f64 a0 (fOI .f64 (f2iV .f64 a0 .i64))) 4607182418800017408) 4602678819172646912) 4598175219545276416) (grd (z1e (fop .mul .f64 (fop .mul .f64 (fop .sub .f64 4602678819172646912 (fop .sub .f64 (fop .add .f64 (fop .sub .f64 a0 (fOI .f64 (f2iV .f64 a0 .i64))) 4607182418800017408) 4602678819172646912)) 4618760256179416344) (fop .mul .f64 (fop .sub .f64 4602678819172646912 (fop .sub .f64 (fop .add .f64 (fop .sub .f64 a0 (fOI .f64 (f2iV .f64 a0 .i64))) 4607182418800017408) 4602678819172646912)) 4618760256179416344)) 4607182418800017408 8) (br (fcmp .geq .f64 (fop .add .f64 (fop .sub .f64 a0 (fOI .f64 (f2iV .f64 a0 .i64))) 4607182418800017408) 4602678819172646912) (k_ (fneg .f64 (fop .mul .f64 (fop .mul .f64 (fop .sub .f64 4602678819172646912 (fop .sub .f64 (fop .add .f64 (fop .sub .f64 a0 (fOI .f64 (f2iV .f64 a0 .i64))) 4607182418800017408) 4602678819172646912)) 4618760256179416344) (z0d (fop .mul .f64 (fop .mul .f64 (fop .sub .f64 4602678819172646912 (fop .sub .f64 (fop .add .f64 (fop .sub .f64 a0 (fOI .f64 (f2iV .f64 a0 .i64))) 4607182418800017408) 4602678819172646912)) 4618760256179416344) (fop .mul .f64 (fop .sub .f64 4602678819172646912 (fop .sub .f64 (fop .add .f64 (fop .sub .f64 a0 (fOI .f64 (f2iV .f64 a0 .i64))) 4607182418800017408) 4602678819172646912)) 4618760256179416344)) 4607182418800017408 8)))) (k_ (fop .mul .f64 (fop .mul .f64 (fop .sub .f64 4602678819172646912 (fop .sub .f64 (fop .add .f64 (fop .sub .f64 a0 (fOI .f64 (f2iV .f64 a0 .i64))) 4607182418800017408) 4602678819172646912)) 4618760256179416344) (z0d (fop .mul .f64 (fop .mul .f64 (fop .sub .f64 4602678819172646912 (fop .sub .f64 (fop .add .f64 (fop .sub .f64 a0 (fOI .f64 (f2iV .f64 a0 .i64))) 4607182418800017408) 4602678819172646912)) 4618760256179416344) (fop .mul .f64 (fop .sub .f64 4602678819172646912 (fop .sub .f64 (fop .add .f64 (fop .sub .f64 a0 (fOI .f64 (f2iV .f64 a0 .i64))) 4607182418800017408) 4602678819172646912)) 4618760256179416344)) 4607182418800017408 8))))) (grd (z1e (fop .mul .f64 (fop .mul .f64 (fop .sub .f64 (fop .add .f64 (fop .sub .f64 a0 (fOI .f64 (f2iV .f64 a0 .i64))) 4607182418800017408) 4602678819172646912) 4618760256179416344) (fop .mul .f64 (fop .sub .f64 (fop .add .f64 (fop .sub .f64 a0 (fOI .f64 (f2iV .f64 a0 .i64))) 4607182418800017408) 4602678819172646912) 4618760256179416344)) 4607182418800017408 8) (br (fcmp .geq .f64 (fop .add .f64 (fop .sub .f64 a0 (fOI .f64 (f2iV .f64 a0 .i64))) 4607182418800017408) 4602678819172646912) (k_ (fneg .f64 (fop .mul .f64 (fop .mul .f64 (fop .sub .f64 (fop .add .f64 (fop .sub .f64 a0 (fOI .f64 (f2iV .f64 a0 .i64))) 4607182418800017408) 4602678819172646912) 4618760256179416344) (z0d (fop .mul .f64 (fop .mul .f64 (fop .sub .f64 (fop .add .f64 (fop .sub .f64 a0 (fOI .f64 (f2iV .f64 a0 .i64))) 4607182418800017408) 4602678819172646912) 4618760256179416344) (fop .mul .f64 (fop .sub .f64 (fop .add .f64 (fop .sub .f64 a0 (fOI .f64 (f2iV .f64 a0 .i64))) 4607182418800017408) 4602678819172646912) 4618760256179416344)) 4607182418800017408 8)))) (k_ (fop .mul .f64 (fop .mul .f64 (fop .sub .f64 (fop .add .f64 (fop .sub .f64 a0 (fOI .f64 (f2iV .f64 a0 .i64))) 4607182418800017408) 4602678819172646912) 4618760256179416344) (z0d (fop .mul .f64 (fop .mul .f64 (fop .sub .f64 (fop .add .f64 (fop .sub .f64 a0 (fOI .f64 (f2iV .f64 a0 .i64))) 4607182418800017408) 4602678819172646912) 4618760256179416344) (fop .mul .f64 (fop .sub .f64 (fop .add .f64 (fop .sub .f64 a0 (fOI .f64 (f2iV .f64 a0 .i64))) 4607182418800017408) 4602678819172646912) 4618760256179416344)) 4607182418800017408 8)))))) (br (fcmp .gtr .f64 (fop .add .f64 (fop .sub .f64 a0 (fOI .f64 (f2iV .f64 a0 .i64))) 4607182418800017408) 4598175219545276416) (grd (z1e (fop .mul .f64 (fop .mul .f64 (fop .sub .f64 4602678819172646912 (fop .add .f64 (fop .sub .f64 a0 (fOI .f64 (f2iV .f64 a0 .i64))) 4607182418800017408)) 4618760256179416344) (fop .mul .f64 (fop .sub .f64 4602678819172646912 (fop .add .f64 (fop .sub .f64 a0 (fOI .f64 (f2iV .f64 a0 .i64))) 4607182418800017408)) 4618760256179416344)) 4607182418800017408 8) (br (fcmp .geq .f64 (fop .add .f64 (fop .sub .f64 a0 (fOI .f64 (f2iV .f64 a0 .i64))) 4607182418800017408) 4602678819172646912) (k_ (fneg .f64 (fop .mul .f64 (fop .mul .f64 (fop .sub .f64 4602678819172646912 (fop .add .f64 (fop .sub .f64 a0 (fOI .f64 (f2iV .f64 a0 .i64))) 4607182418800017408)) 4618760256179416344) (z0d (fop .mul .f64 (fop .mul .f64 (fop .sub .f64 4602678819172646912 (fop .add .f64 (fop .sub .f64 a0 (fOI .f64 (f2iV .f64 a0 .i64))) 4607182418800017408)) 4618760256179416344) (fop .mul .f64 (fop .sub .f64 4602678819172646912 (fop .add .f64 (fop .sub .f64 a0 (fOI .f64 (f2iV .f64 a0 .i64))) 4607182418800017408)) 4618760256179416344)) 4607182418800017408 8)))) (k_ (fop .mul .f64 (fop .mul .f64 (fop .sub .f64 4602678819172646912 (fop .add .f64 (fop .sub .f64 a0 (fOI .f64 (f2iV .f64 a0 .i64))) 4607182418800017408)) 4618760256179416344) (z0d (fop .mul .f64 (fop .mul .f64 (fop .sub .f64 4602678819172646912 (fop .add .f64 (fop .sub .f64 a0 (fOI .f64 (f2iV .f64 a0 .i64))) 4607182418800017408)) 4618760256179416344) (fop .mul .f64 (fop .sub .f64 4602678819172646912 (fop .add .f64 (fop .sub .f64 a0 (fOI .f64 (f2iV .f64 a0 .i64))) 4607182418800017408)) 4618760256179416344)) 4607182418800017408 8))))) (grd (z1e (fop .mul .f64 (fop .mul .f64 (fop .add .f64 (fop .sub .f64 a0 (fOI .f64 (f2iV .f64 a0 .i64))) 4607182418800017408) 4618760256179416344) (fop .mul .f64 (fop .add .f64 (fop .sub .f64 a0 (fOI .f64 (f2iV .f64 a0 .i64))) 4607182418800017408) 4618760256179416344)) 4607182418800017408 8) (br (fcmp .geq .f64 (fop .add .f64 (fop .sub .f64 a0 (fOI .f64 (f2iV .f64 a0 .i64))) 4607182418800017408) 4602678819172646912) (k_ (fneg .f64 (fop .mul .f64 (fop .mul .f64 (fop .add .f64 (fop .sub .f64 a0 (fOI .f64 (f2iV .f64 a0 .i64))) 4607182418800017408) 4618760256179416344) (z0d (fop .mul .f64 (fop .mul .f64 (fop .add .f64 (fop .sub .f64 a0 (fOI .f64 (f2iV .f64 a0 .i64))) 4607182418800017408) 4618760256179416344) (fop .mul .f64 (fop .add .f64 (fop .sub .f64 a0 (fOI .f64 (f2iV .f64 a0 .i64))) 4607182418800017408) 4618760256179416344)) 4607182418800017408 8)))) (k_ (fop .mul .f64 (fop .mul .f64 (fop .add .f64 (fop .sub .f64 a0 (fOI .f64 (f2iV .f64 a0 .i64))) 4607182418800017408) 4618760256179416344) (z0d (fop .mul .f64 (fop .mul .f64 (fop .add .f64 (fop .sub .f64 a0 (fOI .f64 (f2iV .f64 a0 .i64))) 4607182418800017408) 4618760256179416344) (fop .mul .f64 (fop .add .f64 (fop .sub .f64 a0 (fOI .f64 (f2iV .f64 a0 .i64))) 4607182418800017408) 4618760256179416344)) 4607182418800017408 8))))))) (br (fcmp .geq .f64 (fop .sub .f64 a0 (fOI .f64 (f2iV .f64 a0 .i64))) 4602678819172646912) (br (fcmp .gtr .f64 (fop .sub .f64 (fop .sub .f64 a0 (fOI .f64 (f2iV .f64 a0 .i64))) 4602678819172646912) 4598175219545276416) (grd (z1e (fop .mul .f64 (fop .mul .f64 (fop .sub .f64 4602678819172646912 (fop .sub .f64 (fop .sub .f64 a0 (fOI .f64 (f2iV .f64 a0 .i64))) 4602678819172646912)) 4618760256179416344) (fop .mul .f64 (fop .sub .f64 4602678819172646912 (fop .sub .f64 (fop .sub .f64 a0 (fOI .f64 (f2iV .f64 a0 .i64))) 4602678819172646912)) 4618760256179416344)) 4607182418800017408 8) (br (fcmp .geq .f64 (fop .sub .f64 a0 (fOI .f64 (f2iV .f64 a0 .i64))) 4602678819172646912) (k_ (fneg .f64 (fop .mul .f64 (fop .mul .f64 (fop .sub .f64 4602678819172646912 (fop .sub .f64 (fop .sub .f64 a0 (fOI .f64 (f2iV .f64 a0 .i64))) 4602678819172646912)) 4618760256179416344) (z0d (fop .mul .f64 (fop .mul .f64 (fop .sub .f64 4602678819172646912 (fop .sub .f64 (fop .sub .f64 a0 (fOI .f64 (f2iV .f64 a0 .i64))) 4602678819172646912)) 4618760256179416344) (fop .mul .f64 (fop .sub .f64 4602678819172646912 (fop .sub .f64 (fop .sub .f64 a0 (fOI .f64 (f2iV .f64 a0 .i64))) 4602678819172646912)) 4618760256179416344)) 4607182418800017408 8)))) (k_ (fop .mul .f64 (fop .mul .f64 (fop .sub .f64 4602678819172646912 (fop .sub .f64 (fop .sub .f64 a0 (fOI .f64 (f2iV .f64 a0 .i64))) 4602678819172646912)) 4618760256179416344) (z0d (fop .mul .f64 (fop .mul .f64 (fop .sub .f64 4602678819172646912 (fop .sub .f64 (fop .sub .f64 a0 (fOI .f64 (f2iV .f64 a0 .i64))) 4602678819172646912)) 4618760256179416344) (fop .mul .f64 (fop .sub .f64 4602678819172646912 (fop .sub .f64 (fop .sub .f64 a0 (fOI .f64 (f2iV .f64 a0 .i64))) 4602678819172646912)) 4618760256179416344)) 4607182418800017408 8))))) (grd (z1e (fop .mul .f64 (fop .mul .f64 (fop .sub .f64 (fop .sub .f64 a0 (fOI .f64 (f2iV .f64 a0 .i64))) 4602678819172646912) 4618760256179416344) (fop .mul .f64 (fop .sub .f64 (fop .sub .f64 a0 (fOI .f64 (f2iV .f64 a0 .i64))) 4602678819172646912) 4618760256179416344)) 4607182418800017408 8) (br (fcmp .geq .f64 (fop .sub .f64 a0 (fOI .f64 (f2iV .f64 a0 .i64))) 4602678819172646912) (k_ (fneg .f64 (fop .mul .f64 (fop .mul .f64 (fop .sub .f64 (fop .sub .f64 a0 (fOI .f64 (f2iV .f64 a0 .i64))) 4602678819172646912) 4618760256179416344) (z0d (fop .mul .f64 (fop .mul .f64 (fop .sub .f64 (fop .sub .f64 a0 (fOI .f64 (f2iV .f64 a0 .i64))) 4602678819172646912) 4618760256179416344) (fop .mul .f64 (fop .sub .f64 (fop .sub .f64 a0 (fOI .f64 (f2iV .f64 a0 .i64))) 4602678819172646912) 4618760256179416344)) 4607182418800017408 8)))) (k_ (fop .mul .f64 (fop .mul .f64 (fop .sub .f64 (fop .sub .f64 a0 (fOI .f64 (f2iV .f64 a0 .i64))) 4602678819172646912) 4618760256179416344) (z0d (fop .mul .f64 (fop .mul .f64 (fop .sub .f64 (fop .sub .f64 a0 (fOI .f64 (f2iV .f64 a0 .i64))) 4602678819172646912) 4618760256179416344) (fop .mul .f64 (fop .sub .f64 (fop .sub .f64 a0 (fOI .f64 (f2iV .f64 a0 .i64))) 4602678819172646912) 4618760256179416344)) 4607182418800017408 8)))))) (br (fcmp .gtr .f64 (fop .sub .f64 a0 (fOI .f64 (f2iV .f64 a0 .i64))) 4598175219545276416) (grd (z1e (fop .mul .f64 (fop .mul .f64 (fop .sub .f64 4602678819172646912 (fop .sub .f64 a0 (fOI .f64 (f2iV .f64 a0 .i64)))) 4618760256179416344) (fop .mul .f64 (fop .sub .f64 4602678819172646912 (fop .sub .f64 a0 (fOI .f64 (f2iV .f64 a0 .i64)))) 4618760256179416344)) 4607182418800017408 8) (br (fcmp .geq .f64 (fop .sub .f64 a0 (fOI .f64 (f2iV .f64 a0 .i64))) 4602678819172646912) (k_ (fneg .f64 (fop .mul .f64 (fop .mul .f64 (fop .sub .f64 4602678819172646912 (fop .sub .f64 a0 (fOI .f64 (f2iV .f64 a0 .i64)))) 4618760256179416344) (z0d (fop .mul .f64 (fop .mul .f64 (fop .sub .f64 4602678819172646912 (fop .sub .f64 a0 (fOI .f64 (f2iV .f64 a0 .i64)))) 4618760256179416344) (fop .mul .f64 (fop .sub .f64 4602678819172646912 (fop .sub .f64 a0 (fOI .f64 (f2iV .f64 a0 .i64)))) 4618760256179416344)) 4607182418800017408 8)))) (k_ (fop .mul .f64 (fop .mul .f64 (fop .sub .f64 4602678819172646912 (fop .sub .f64 a0 (fOI .f64 (f2iV .f64 a0 .i64)))) 4618760256179416344) (z0d (fop .mul .f64 (fop .mul .f64 (fop .sub .f64 4602678819172646912 (fop .sub .f64 a0 (fOI .f64 (f2iV .f64 a0 .i64)))) 4618760256179416344) (fop .mul .f64 (fop .sub .f64 4602678819172646912 (fop .sub .f64 a0 (fOI .f64 (f2iV .f64 a0 .i64)))) 4618760256179416344)) 4607182418800017408 8))))) (grd (z1e (fop .mul .f64 (fop .mul .f64 (fop .sub .f64 a0 (fOI .f64 (f2iV .f64 a0 .i64))) 4618760256179416344) (fop .mul .f64 (fop .sub .f64 a0 (fOI .f64 (f2iV .f64 a0 .i64))) 4618760256179416344)) 4607182418800017408 8) (br (fcmp .geq .f64 (fop .sub .f64 a0 (fOI .f64 (f2iV .f64 a0 .i64))) 4602678819172646912) (k_ (fneg .f64 (fop .mul .f64 (fop .mul .f64 (fop .sub .f64 a0 (fOI .f64 (f2iV .f64 a0 .i64))) 4618760256179416344) (z0d (fop .mul .f64 (fop .mul .f64 (fop .sub .f64 a0 (fOI .f64 (f2iV .f64 a0 .i64))) 4618760256179416344) (fop .mul .f64 (fop .sub .f64 a0 (fOI .f64 (f2iV .f64 a0 .i64))) 4618760256179416344)) 4607182418800017408 8)))) (k_ (fop .mul .f64 (fop .mul .f64 (fop .sub .f64 a0 (fOI .f64 (f2iV .f64 a0 .i64))) 4618760256179416344) (z0d (fop .mul .f64 (fop .mul .f64 (fop .sub .f64 a0 (fOI .f64 (f2iV .f64 a0 .i64))) 4618760256179416344) (fop .mul .f64 (fop .sub .f64 a0 (fOI .f64 (f2iV .f64 a0 .i64))) 4618760256179416344)) 4607182418800017408 8))))))))))))
def z2h:Option (Nat):=z73 a0 (fun c0_=>some c0_)
theorem zw0:Nt1 (fun {R}=>z73 (R:=R) a0):=by
 intro R R' o h0 k;unfold z73;repeat (first | apply grd_out h0 | apply br_out | rfl)
def zqf:Bool:=(z2h a0).isSome
def zh5:Nat:=((z2h a0).getD default)
def ze0{R:Type}(k_:Nat→Option R):Option R:=(grd (y2q a0) (br (fcmp .eql .f64 (zgn a0) 0) (br (fcmp .lss .f64 (fop .sub .f64 a0 0) 0) (k_ (fop .add .f64 (fop .sub .f64 a0 0) 4607182418800017408)) (k_ (fop .sub .f64 a0 0))) (br (fcmp .lss .f64 (fop .sub .f64 a0 (zgn a0)) 0) (k_ (fop .add .f64 (fop .sub .f64 a0 (zgn a0)) 4607182418800017408)) (k_ (fop .sub .f64 a0 (zgn a0))))))
def z5r:Option (Nat):=ze0 a0 (fun c0_=>some c0_)
theorem zwx:Nt1 (fun {R}=>ze0 (R:=R) a0):=by
 intro R R' o h0 k;unfold ze0;repeat (first | apply grd_out h0 | apply br_out | rfl)
def zrk:Bool:=(z5r a0).isSome
def z0f:Nat:=((z5r a0).getD default)
def z2b{R:Type}(kn_:Int→Option R)(k0_:Unit→Option R)(k1_:Int→Bool→Option R):Option R:=(br (ltI c4 (Int.ofNat a0)) (grd (okIx c4 a0) (grd (okIx c4 a1) (grd (zt1 (gF g2 (ixO 0 c4 3)) (gF g2 (Nat.succ (ixO 0 c4 3))) (gF g2 (Nat.succ (Nat.succ (ixO 0 c4 3)))) (gF g3 (ixO 0 c4 3)) (gF g3 (Nat.succ (ixO 0 c4 3))) (gF g3 (Nat.succ (Nat.succ (ixO 0 c4 3))))) (br (bnot (zrs (gF g2 (ixO 0 c4 3)) (gF g2 (Nat.succ (ixO 0 c4 3))) (gF g2 (Nat.succ (Nat.succ (ixO 0 c4 3)))) (gF g3 (ixO 0 c4 3)) (gF g3 (Nat.succ (ixO 0 c4 3))) (gF g3 (Nat.succ (Nat.succ (ixO 0 c4 3)))))) (k0_ ()) (kn_ (addI .i64 c4 1)))))) (k1_ c4 (ltI c4 (Int.ofNat a0))))
theorem ztk{R R':Type}(o:Option R→Option R')(h0:o none=none)(kn_:Int→Option R)(k0_:Unit→Option R)(k1_:Int→Bool→Option R):z2b a0 a1 g2 g3 c4 (fun i'=>o (kn_ i')) (fun _=>o (k0_ ())) (fun c0_ c1_=>o (k1_ c0_ c1_))=o (z2b a0 a1 g2 g3 c4 kn_ k0_ k1_):=by
 unfold z2b
 repeat (first | apply grd_out h0 | apply br_out | rfl)
def z1a(an bn:Nat)(b0 b1:List Nat):Nat→Int→Option ((Unit)⊕(Int×Bool))
 | 0,_=>none
 | n+1,i=>z2b an bn b0 b1  i  (fun i'=>z1a an bn b0 b1 n i') (fun _=>some (Sum.inl ())) (fun c0_ c1_=>some (Sum.inr (c0_,c1_)))
theorem zhj:z1a a0 a1 g2 g3 (a4+1) c5=z2b a0 a1 g2 g3  c5  (fun i'=>z1a a0 a1 g2 g3 a4 i') (fun _=>some (Sum.inl ())) (fun c0_ c1_=>some (Sum.inr (c0_,c1_))):=rfl
def zg0:Bool:=(z1a a0 a1 g2 g3 big c4).isSome
def zf3:Bool:=oL (z1a a0 a1 g2 g3 big c4)
def zv0:Int:=((tR (z1a a0 a1 g2 g3 big c4)).getD default).1
def zv1:Bool:=((tR (z1a a0 a1 g2 g3 big c4)).getD default).2
def z4r{R:Type}(kn_:Int→Option R)(k0_:Unit→Option R)(k1_:Int→Bool→Option R):Option R:=(br (ltI c7 c0) (grd (okIx c7 a4) (br (fcmp .geq .f32 (gF g1 (ixO 0 c7 1)) 3204448256) (grd (okIx c7 a4) (br (bnot (fcmp .leq .f32 (gF g1 (ixO 0 c7 1)) 1056964608)) (k0_ ()) (br (ltI 0 c7) (grd (okIx c7 a4) (grd (okIx (subI .i64 c7 1) a4) (br (fcmp .leq .f32 (gF g1 (ixO 0 c7 1)) (gF g1 (ixO 0 (subI .i64 c7 1) 1))) (k0_ ()) (grd (okIx c7 a5) (grd (z1c (gF g2 (ixO 0 c7 1))) (br (bnot (z15 (gF g2 (ixO 0 c7 1)))) (k0_ ()) (grd (okIx c7 a6) (grd (z8x (gF g3 (ixO 0 c7 1))) (br (bnot (z84 (gF g3 (ixO 0 c7 1)))) (k0_ ()) (kn_ (addI .i64 c7 1))))))))))) (grd (okIx c7 a5) (grd (z1c (gF g2 (ixO 0 c7 1))) (br (bnot (z15 (gF g2 (ixO 0 c7 1)))) (k0_ ()) (grd (okIx c7 a6) (grd (z8x (gF g3 (ixO 0 c7 1))) (br (bnot (z84 (gF g3 (ixO 0 c7 1)))) (k0_ ()) (kn_ (addI .i64 c7 1))))))))))) (br (bnot Bool.false) (k0_ ()) (br (ltI 0 c7) (grd (okIx c7 a4) (grd (okIx (subI .i64 c7 1) a4) (br (fcmp .leq .f32 (gF g1 (ixO 0 c7 1)) (gF g1 (ixO 0 (subI .i64 c7 1) 1))) (k0_ ()) (grd (okIx c7 a5) (grd (z1c (gF g2 (ixO 0 c7 1))) (br (bnot (z15 (gF g2 (ixO 0 c7 1)))) (k0_ ()) (grd (okIx c7 a6) (grd (z8x (gF g3 (ixO 0 c7 1))) (br (bnot (z84 (gF g3 (ixO 0 c7 1)))) (k0_ ()) (kn_ (addI .i64 c7 1))))))))))) (grd (okIx c7 a5) (grd (z1c (gF g2 (ixO 0 c7 1))) (br (bnot (z15 (gF g2 (ixO 0 c7 1)))) (k0_ ()) (grd (okIx c7 a6) (grd (z8x (gF g3 (ixO 0 c7 1))) (br (bnot (z84 (gF g3 (ixO 0 c7 1)))) (k0_ ()) (kn_ (addI .i64 c7 1)))))))))))) (k1_ c7 (ltI c7 c0)))
theorem y1i{R R':Type}(o:Option R→Option R')(h0:o none=none)(kn_:Int→Option R)(k0_:Unit→Option R)(k1_:Int→Bool→Option R):z4r c0 g1 g2 g3 a4 a5 a6 c7 (fun t4'=>o (kn_ t4')) (fun _=>o (k0_ ())) (fun c0_ c1_=>o (k1_ c0_ c1_))=o (z4r c0 g1 g2 g3 a4 a5 a6 c7 kn_ k0_ k1_):=by
 unfold z4r
 repeat (first | apply grd_out h0 | apply br_out | rfl)
def z21(t3:Int)(b0 b1 b2:List Nat)(q1h q1r q1q:Nat):Nat→Int→Option ((Unit)⊕(Int×Bool))
 | 0,_=>none
 | n+1,t4=>z4r t3 b0 b1 b2 q1h q1r q1q  t4  (fun t4'=>z21 t3 b0 b1 b2 q1h q1r q1q n t4') (fun _=>some (Sum.inl ())) (fun c0_ c1_=>some (Sum.inr (c0_,c1_)))
theorem znq:z21 c0 g1 g2 g3 a4 a5 a6 (a7+1) c8=z4r c0 g1 g2 g3 a4 a5 a6  c8  (fun t4'=>z21 c0 g1 g2 g3 a4 a5 a6 a7 t4') (fun _=>some (Sum.inl ())) (fun c0_ c1_=>some (Sum.inr (c0_,c1_))):=rfl
def zby:Bool:=(z21 c0 g1 g2 g3 a4 a5 a6 big c7).isSome
def zaj:Bool:=oL (z21 c0 g1 g2 g3 a4 a5 a6 big c7)
def y2m:Int:=((tR (z21 c0 g1 g2 g3 a4 a5 a6 big c7)).getD default).1
def y2v:Bool:=((tR (z21 c0 g1 g2 g3 a4 a5 a6 big c7)).getD default).2
def z0g{R:Type}(kn_:Int→Option R)(k0_:Int→Option R)(k1_:Int→Bool→Option R):Option R:=(br (ltI c3 c1) (grd (okIx c3 a0) (grd (zob (gF g2 (ixO 0 c3 1))) (br (zm9 (gF g2 (ixO 0 c3 1))) (k0_ c3) (kn_ (addI .i64 c3 1))))) (k1_ c3 (ltI c3 c1)))
theorem zah{R R':Type}(o:Option R→Option R')(h0:o none=none)(kn_:Int→Option R)(k0_:Int→Option R)(k1_:Int→Bool→Option R):z0g a0 c1 g2 c3 (fun t8'=>o (kn_ t8')) (fun c0_=>o (k0_ c0_)) (fun c0_ c1_=>o (k1_ c0_ c1_))=o (z0g a0 c1 g2 c3 kn_ k0_ k1_):=by
 unfold z0g
 repeat (first | apply grd_out h0 | apply br_out | rfl)
def z01(sn:Nat)(t7:Int)(b0:List Nat):Nat→Int→Option ((Int)⊕(Int×Bool))
 | 0,_=>none
 | n+1,t8=>z0g sn t7 b0  t8  (fun t8'=>z01 sn t7 b0 n t8') (fun c0_=>some (Sum.inl c0_)) (fun c0_ c1_=>some (Sum.inr (c0_,c1_)))
theorem z4s:z01 a0 c1 g2 (a3+1) c4=z0g a0 c1 g2  c4  (fun t8'=>z01 a0 c1 g2 a3 t8') (fun c0_=>some (Sum.inl c0_)) (fun c0_ c1_=>some (Sum.inr (c0_,c1_))):=rfl
def z3d:Bool:=(z01 a0 c1 g2 big c3).isSome
def z33:Bool:=oL (z01 a0 c1 g2 big c3)
def z55:Int:=((tL (z01 a0 c1 g2 big c3)).getD default)
def zb2:Int:=((tR (z01 a0 c1 g2 big c3)).getD default).1
def zay:Bool:=((tR (z01 a0 c1 g2 big c3)).getD default).2
def z0i{R:Type}(kn_:Int→Option R)(k0_:Int→Option R)(k1_:Int→Bool→Option R):Option R:=(br (ltI c3 c1) (grd (okIx c3 a0) (grd (zqc (gF g2 (ixO 0 c3 1))) (br (zoo (gF g2 (ixO 0 c3 1))) (k0_ c3) (kn_ (addI .i64 c3 1))))) (k1_ c3 (ltI c3 c1)))
theorem zbn{R R':Type}(o:Option R→Option R')(h0:o none=none)(kn_:Int→Option R)(k0_:Int→Option R)(k1_:Int→Bool→Option R):z0i a0 c1 g2 c3 (fun t8'=>o (kn_ t8')) (fun c0_=>o (k0_ c0_)) (fun c0_ c1_=>o (k1_ c0_ c1_))=o (z0i a0 c1 g2 c3 kn_ k0_ k1_):=by
 unfold z0i
 repeat (first | apply grd_out h0 | apply br_out | rfl)
def z06(sn:Nat)(t7:Int)(b0:List Nat):Nat→Int→Option ((Int)⊕(Int×Bool))
 | 0,_=>none
 | n+1,t8=>z0i sn t7 b0  t8  (fun t8'=>z06 sn t7 b0 n t8') (fun c0_=>some (Sum.inl c0_)) (fun c0_ c1_=>some (Sum.inr (c0_,c1_)))
theorem z54:z06 a0 c1 g2 (a3+1) c4=z0i a0 c1 g2  c4  (fun t8'=>z06 a0 c1 g2 a3 t8') (fun c0_=>some (Sum.inl c0_)) (fun c0_ c1_=>some (Sum.inr (c0_,c1_))):=rfl
def z3y:Bool:=(z06 a0 c1 g2 big c3).isSome
def z3k:Bool:=oL (z06 a0 c1 g2 big c3)
def z62:Int:=((tL (z06 a0 c1 g2 big c3)).getD default)
def zcn:Int:=((tR (z06 a0 c1 g2 big c3)).getD default).1
def zc9:Bool:=((tR (z06 a0 c1 g2 big c3)).getD default).2
def ziy{R:Type}(q1u:Int)(q23 q24:Nat) (k_:Nat→Nat→Nat→Nat→(List Nat)→(List Nat)→(List Nat)→(List Nat)→Option R):Option R:=(grd (zt3 a0 (pF g1 0 (muN a0 1)) a2 (pF g3 0 (muN a2 1)) a4 (pF g5 0 (muN a4 1))) (grd (zs7 a6 (pF g7 0 (muN a6 3))) (k_ (zs0 a0 (pF g1 0 (muN a0 1)) a2 (pF g3 0 (muN a2 1)) a4 (pF g5 0 (muN a4 1))) (zs1 a0 (pF g1 0 (muN a0 1)) a2 (pF g3 0 (muN a2 1)) a4 (pF g5 0 (muN a4 1))) (zrp a0 (pF g1 0 (muN a0 1)) a2 (pF g3 0 (muN a2 1)) a4 (pF g5 0 (muN a4 1))) (zqk a6 (pF g7 0 (muN a6 3))) (zs4 a0 (pF g1 0 (muN a0 1)) a2 (pF g3 0 (muN a2 1)) a4 (pF g5 0 (muN a4 1))) (zs3 a0 (pF g1 0 (muN a0 1)) a2 (pF g3 0 (muN a2 1)) a4 (pF g5 0 (muN a4 1))) (zry a0 (pF g1 0 (muN a0 1)) a2 (pF g3 0 (muN a2 1)) a4 (pF g5 0 (muN a4 1))) (zqe a6 (pF g7 0 (muN a6 3))))))
def z1y:Option (Nat×Nat×Nat×Nat×(List Nat)×(List Nat)×(List Nat)×(List Nat)):=ziy a0 g1 a2 g3 a4 g5 a6 g7 c8 a9 a10 (fun c0_ c1_ c2_ c3_ c4_ c5_ c6_ c7_=>some (c0_,c1_,c2_,c3_,c4_,c5_,c6_,c7_))
theorem y2s:Nt8 (fun {R}=>ziy (R:=R) a0 g1 a2 g3 a4 g5 a6 g7 c8 a9 a10):=by
 intro R R' o h0 k;unfold ziy;repeat (first | apply grd_out h0 | apply br_out | rfl)
def zp7:Bool:=(z1y a0 g1 a2 g3 a4 g5 a6 g7 c8 a9 a10).isSome
def znc:Nat:=((z1y a0 g1 a2 g3 a4 g5 a6 g7 c8 a9 a10).getD default).1
def zn1:Nat:=((z1y a0 g1 a2 g3 a4 g5 a6 g7 c8 a9 a10).getD default).2.1
def zmp:Nat:=((z1y a0 g1 a2 g3 a4 g5 a6 g7 c8 a9 a10).getD default).2.2.1
def znb:Nat:=((z1y a0 g1 a2 g3 a4 g5 a6 g7 c8 a9 a10).getD default).2.2.2.1
def zmv:List Nat:=((z1y a0 g1 a2 g3 a4 g5 a6 g7 c8 a9 a10).getD default).2.2.2.2.1
def zmx:List Nat:=((z1y a0 g1 a2 g3 a4 g5 a6 g7 c8 a9 a10).getD default).2.2.2.2.2.1
def zog:List Nat:=((z1y a0 g1 a2 g3 a4 g5 a6 g7 c8 a9 a10).getD default).2.2.2.2.2.2.1
def zne:List Nat:=((z1y a0 g1 a2 g3 a4 g5 a6 g7 c8 a9 a10).getD default).2.2.2.2.2.2.2
def zg9{R:Type}(k_:Bool→Option R):Option R:=(grd (z7h a0 (pF g1 0 (muN a0 1)) a6 (pF g7 0 (muN a6 1))) (br (bnot (z6v a0 (pF g1 0 (muN a0 1)) a6 (pF g7 0 (muN a6 1)))) (k_ Bool.false) (grd (z7h a2 (pF g3 0 (muN a2 1)) a8 (pF g9 0 (muN a8 1))) (br (bnot (z6v a2 (pF g3 0 (muN a2 1)) a8 (pF g9 0 (muN a8 1)))) (k_ Bool.false) (grd (z7h a4 (pF g5 0 (muN a4 1)) a10 (pF g11 0 (muN a10 1))) (br (bnot (z6v a4 (pF g5 0 (muN a4 1)) a10 (pF g11 0 (muN a10 1)))) (k_ Bool.false) (k_ Bool.true)))))))
def z6j:Option (Bool):=zg9 a0 g1 a2 g3 a4 g5 a6 g7 a8 g9 a10 g11 (fun c0_=>some c0_)
theorem zys:Nt1 (fun {R}=>zg9 (R:=R) a0 g1 a2 g3 a4 g5 a6 g7 a8 g9 a10 g11):=by
 intro R R' o h0 k;unfold zg9;repeat (first | apply grd_out h0 | apply br_out | rfl)
def zt7:Bool:=(z6j a0 g1 a2 g3 a4 g5 a6 g7 a8 g9 a10 g11).isSome
def zrr:Bool:=((z6j a0 g1 a2 g3 a4 g5 a6 g7 a8 g9 a10 g11).getD default)
def zea{R:Type}(k_:Bool→Option R):Option R:=(br (neI (Int.ofNat a0) (Int.ofNat a2)) (k_ Bool.false) (grd (zg0 a0 a2 g1 g3 0) (br (zf3 a0 a2 g1 g3 0) (k_ Bool.false) (k_ Bool.true))))
def z5t:Option (Bool):=zea a0 g1 a2 g3 (fun c0_=>some c0_)
theorem zyf:Nt1 (fun {R}=>zea (R:=R) a0 g1 a2 g3):=by
 intro R R' o h0 k;unfold zea;repeat (first | apply grd_out h0 | apply br_out | rfl)
def zrl:Bool:=(z5t a0 g1 a2 g3).isSome
def zqj:Bool:=((z5t a0 g1 a2 g3).getD default)
def zny{R:Type}(k_:Bool→Option R):Option R:=(br (ltI (Int.ofNat a0) 2) (k_ Bool.false) (br (ltI 24 (Int.ofNat a0)) (k_ Bool.false) (br (neI (Int.ofNat a2) (Int.ofNat a0)) (k_ Bool.false) (br (neI (Int.ofNat a4) (Int.ofNat a0)) (k_ Bool.false) (grd (zby (Int.ofNat a0) g1 g3 g5 a0 a2 a4 0) (br (zaj (Int.ofNat a0) g1 g3 g5 a0 a2 a4 0) (k_ Bool.false) (k_ Bool.true)))))))
def za9:Option (Bool):=zny a0 g1 a2 g3 a4 g5 (fun c0_=>some c0_)
theorem y6l:Nt1 (fun {R}=>zny (R:=R) a0 g1 a2 g3 a4 g5):=by
 intro R R' o h0 k;unfold zny;repeat (first | apply grd_out h0 | apply br_out | rfl)
def y25:Bool:=(za9 a0 g1 a2 g3 a4 g5).isSome
def y0j:Bool:=((za9 a0 g1 a2 g3 a4 g5).getD default)
def z27{R:Type}(k_:Int→Option R):Option R:=(grd (z3d a0 (Int.ofNat a0) g1 0) (br (z33 a0 (Int.ofNat a0) g1 0) (k_ (z55 a0 (Int.ofNat a0) g1 0)) (k_ (Int.negSucc 0))))
def z0w:Option (Int):=z27 a0 g1 (fun c0_=>some c0_)
theorem zci:Nt1 (fun {R}=>z27 (R:=R) a0 g1):=by
 intro R R' o h0 k;unfold z27;repeat (first | apply grd_out h0 | apply br_out | rfl)
def z78:Bool:=(z0w a0 g1).isSome
def z6u:Int:=((z0w a0 g1).getD default)
def z2i{R:Type}(k_:Int→Option R):Option R:=(grd (z3y a0 (Int.ofNat a0) g1 0) (br (z3k a0 (Int.ofNat a0) g1 0) (k_ (z62 a0 (Int.ofNat a0) g1 0)) (k_ (Int.negSucc 0))))
def z0z:Option (Int):=z2i a0 g1 (fun c0_=>some c0_)
theorem zdj:Nt1 (fun {R}=>z2i (R:=R) a0 g1):=by
 intro R R' o h0 k;unfold z2i;repeat (first | apply grd_out h0 | apply br_out | rfl)
def z7o:Bool:=(z0z a0 g1).isSome
def z7g:Int:=((z0z a0 g1).getD default)
def zil{R:Type}(k_:Nat→Option R):Option R:=(grd (zqf (fcvV .f32 .f64 a0)) (grd (zlr (zh5 (fcvV .f32 .f64 a0))) (k_ (ze6 (zh5 (fcvV .f32 .f64 a0))))))
def z6w:Option (Nat):=zil a0 (fun c0_=>some c0_)
theorem y2c:Nt1 (fun {R}=>zil (R:=R) a0):=by
 intro R R' o h0 k;unfold zil;repeat (first | apply grd_out h0 | apply br_out | rfl)
def z8f:Bool:=(z6w a0).isSome
def z1g:Nat:=((z6w a0).getD default)
def z0j{R:Type}(kn_:Int→Option R)(k0_:Int→Option R)(k1_:Int→Bool→Option R):Option R:=(br (ltI c3 c1) (grd (okIx c3 a0) (grd (zrw (gF g2 (ixO 0 c3 1))) (br (zqi (gF g2 (ixO 0 c3 1))) (k0_ c3) (kn_ (addI .i64 c3 1))))) (k1_ c3 (ltI c3 c1)))
theorem zc8{R R':Type}(o:Option R→Option R')(h0:o none=none)(kn_:Int→Option R)(k0_:Int→Option R)(k1_:Int→Bool→Option R):z0j a0 c1 g2 c3 (fun t8'=>o (kn_ t8')) (fun c0_=>o (k0_ c0_)) (fun c0_ c1_=>o (k1_ c0_ c1_))=o (z0j a0 c1 g2 c3 kn_ k0_ k1_):=by
 unfold z0j
 repeat (first | apply grd_out h0 | apply br_out | rfl)
def z07(sn:Nat)(t7:Int)(b0:List Nat):Nat→Int→Option ((Int)⊕(Int×Bool))
 | 0,_=>none
 | n+1,t8=>z0j sn t7 b0  t8  (fun t8'=>z07 sn t7 b0 n t8') (fun c0_=>some (Sum.inl c0_)) (fun c0_ c1_=>some (Sum.inr (c0_,c1_)))
theorem z5f:z07 a0 c1 g2 (a3+1) c4=z0j a0 c1 g2  c4  (fun t8'=>z07 a0 c1 g2 a3 t8') (fun c0_=>some (Sum.inl c0_)) (fun c0_ c1_=>some (Sum.inr (c0_,c1_))):=rfl
def z41:Bool:=(z07 a0 c1 g2 big c3).isSome
def z3s:Bool:=oL (z07 a0 c1 g2 big c3)
def z6a:Int:=((tL (z07 a0 c1 g2 big c3)).getD default)
def zcw:Int:=((tR (z07 a0 c1 g2 big c3)).getD default).1
def zcz:Bool:=((tR (z07 a0 c1 g2 big c3)).getD default).2
def ziq{R:Type}(k_:Bool→Option R):Option R:=(grd (zt7 a0 (pF g1 0 (muN a0 1)) a2 (pF g3 0 (muN a2 1)) a4 (pF g5 0 (muN a4 1)) a11 (pF g12 0 (muN a11 1)) a13 (pF g14 0 (muN a13 1)) a15 (pF g16 0 (muN a15 1))) (br (bnot (zrr a0 (pF g1 0 (muN a0 1)) a2 (pF g3 0 (muN a2 1)) a4 (pF g5 0 (muN a4 1)) a11 (pF g12 0 (muN a11 1)) a13 (pF g14 0 (muN a13 1)) a15 (pF g16 0 (muN a15 1)))) (k_ Bool.false) (grd (zrl a6 (pF g7 0 (muN a6 3)) a17 (pF g18 0 (muN a17 3))) (br (bnot (zqj a6 (pF g7 0 (muN a6 3)) a17 (pF g18 0 (muN a17 3)))) (k_ Bool.false) (br (neI c8 c19) (k_ Bool.false) (grd (z6t (fcvV .f32 .f64 a9) (fcvV .f32 .f64 a20)) (br (bnot (z5k (fcvV .f32 .f64 a9) (fcvV .f32 .f64 a20))) (k_ Bool.false) (grd (z6t (fcvV .f32 .f64 a10) (fcvV .f32 .f64 a21)) (br (bnot (z5k (fcvV .f32 .f64 a10) (fcvV .f32 .f64 a21))) (k_ Bool.false) (k_ Bool.true))))))))))
def z8d:Option (Bool):=ziq a0 g1 a2 g3 a4 g5 a6 g7 c8 a9 a10 a11 g12 a13 g14 a15 g16 a17 g18 c19 a20 a21 (fun c0_=>some c0_)
theorem y33:Nt1 (fun {R}=>ziq (R:=R) a0 g1 a2 g3 a4 g5 a6 g7 c8 a9 a10 a11 g12 a13 g14 a15 g16 a17 g18 c19 a20 a21):=by
 intro R R' o h0 k;unfold ziq;repeat (first | apply grd_out h0 | apply br_out | rfl)
def zpl:Bool:=(z8d a0 g1 a2 g3 a4 g5 a6 g7 c8 a9 a10 a11 g12 a13 g14 a15 g16 a17 g18 c19 a20 a21).isSome
def znu:Bool:=((z8d a0 g1 a2 g3 a4 g5 a6 g7 c8 a9 a10 a11 g12 a13 g14 a15 g16 a17 g18 c19 a20 a21).getD default)
def z2m{R:Type}(k_:Int→Option R):Option R:=(grd (z41 a0 (Int.ofNat a0) g1 0) (br (z3s a0 (Int.ofNat a0) g1 0) (k_ (z6a a0 (Int.ofNat a0) g1 0)) (k_ (Int.negSucc 0))))
def z11:Option (Int):=z2m a0 g1 (fun c0_=>some c0_)
theorem zem:Nt1 (fun {R}=>z2m (R:=R) a0 g1):=by
 intro R R' o h0 k;unfold z2m;repeat (first | apply grd_out h0 | apply br_out | rfl)
def z82:Bool:=(z11 a0 g1).isSome
def z7q:Int:=((z11 a0 g1).getD default)
def znw{R:Type}(k_:Nat→Option R):Option R:=(grd (bnot (nanQ .f64 a0)) (k_ (fint Ieee.Toward.down a0)))
def zak:Option (Nat):=znw a0 (fun c0_=>some c0_)
theorem y6y:Nt1 (fun {R}=>znw (R:=R) a0):=by
 intro R R' o h0 k;unfold znw;repeat (first | apply grd_out h0 | apply br_out | rfl)
def ztv:Bool:=(zak a0).isSome
def z96:Nat:=((zak a0).getD default)
def z59{R:Type}(kn_:Nat→Nat→Option R)(k0_:Nat→Nat→Bool→Option R):Option R:=(br (fcmp .geq .f64 a2 4607182418800017408) (kn_ (fop .sub .f64 4607182418800017408 (fop .quo .f64 (fop .mul .f64 a0 a1) (fop .mul .f64 (fop .mul .f64 4611686018427387904 a2) (fop .add .f64 (fop .mul .f64 4611686018427387904 a2) 4607182418800017408)))) (fop .sub .f64 a2 4607182418800017408)) (k0_ a1 a2 (fcmp .geq .f64 a2 4607182418800017408)))
theorem y2w{R R':Type}(o:Option R→Option R')(h0:o none=none)(kn_:Nat→Nat→Option R)(k0_:Nat→Nat→Bool→Option R):z59 a0 a1 a2 (fun p' k'=>o (kn_ p' k')) (fun c0_ c1_ c2_=>o (k0_ c0_ c1_ c2_))=o (z59 a0 a1 a2 kn_ k0_):=by
 unfold z59
 repeat (first | apply grd_out h0 | apply br_out | rfl)
def z22(u:Nat):Nat→Nat→Nat→Option ((Nat×Nat×Bool))
 | 0,_,_=>none
 | n+1,p,k=>z59 u  p k  (fun p' k'=>z22 u n p' k') (fun c0_ c1_ c2_=>some (c0_,c1_,c2_))
theorem zos:z22 a0 (a1+1) a2 a3=z59 a0  a2 a3  (fun p' k'=>z22 a0 a1 p' k') (fun c0_ c1_ c2_=>some (c0_,c1_,c2_)):=rfl
def za5:Bool:=(z22 a0 big a1 a2).isSome
def z7l:Nat:=((z22 a0 big a1 a2).getD default).1
def y56:Nat:=((z22 a0 big a1 a2).getD default).2.1
def y53:Bool:=((z22 a0 big a1 a2).getD default).2.2
def z1s{R:Type}(k_:Bool→Option R):Option R:=(grd (z78 a0 (pF g1 0 (muN a0 1))) (k_ (leI 0 (z6u a0 (pF g1 0 (muN a0 1))))))
def z0r:Option (Bool):=z1s a0 g1 (fun c0_=>some c0_)
theorem zar:Nt1 (fun {R}=>z1s (R:=R) a0 g1):=by
 intro R R' o h0 k;unfold z1s;repeat (first | apply grd_out h0 | apply br_out | rfl)
def z67:Bool:=(z0r a0 g1).isSome
def z5z:Bool:=((z0r a0 g1).getD default)
def z1z{R:Type}(k_:Bool→Option R):Option R:=(grd (z7o a0 (pF g1 0 (muN a0 1))) (k_ (leI 0 (z7g a0 (pF g1 0 (muN a0 1))))))
def z0u:Option (Bool):=z1z a0 g1 (fun c0_=>some c0_)
theorem zbk:Nt1 (fun {R}=>z1z (R:=R) a0 g1):=by
 intro R R' o h0 k;unfold z1z;repeat (first | apply grd_out h0 | apply br_out | rfl)
def z72:Bool:=(z0u a0 g1).isSome
def z6e:Bool:=((z0u a0 g1).getD default)
def z28{R:Type}(k_:Bool→Option R):Option R:=(grd (z82 a0 (pF g1 0 (muN a0 1))) (k_ (leI 0 (z7q a0 (pF g1 0 (muN a0 1))))))
def z0x:Option (Bool):=z28 a0 g1 (fun c0_=>some c0_)
theorem zcg:Nt1 (fun {R}=>z28 (R:=R) a0 g1):=by
 intro R R' o h0 k;unfold z28;repeat (first | apply grd_out h0 | apply br_out | rfl)
def z76:Bool:=(z0x a0 g1).isSome
def z70:Bool:=((z0x a0 g1).getD default)
def zq8{R:Type}(k_:Nat→Option R):Option R:=(grd (zrk a0) (br (fcmp .geq .f64 (z0f a0) 4602678819172646912) (br (fcmp .gtr .f64 (fop .sub .f64 (z0f a0) 4602678819172646912) 4598175219545276416) (grd (za5 (fop .mul .f64 (fop .mul .f64 (fop .sub .f64 4602678819172646912 (fop .sub .f64 (z0f a0) 4602678819172646912)) 4618760256179416344) (fop .mul .f64 (fop .sub .f64 4602678819172646912 (fop .sub .f64 (z0f a0) 4602678819172646912)) 4618760256179416344)) 4607182418800017408 4620693217682128896) (k_ (fneg .f64 (fop .mul .f64 (fop .mul .f64 (fop .sub .f64 4602678819172646912 (fop .sub .f64 (z0f a0) 4602678819172646912)) 4618760256179416344) (z7l (fop .mul .f64 (fop .mul .f64 (fop .sub .f64 4602678819172646912 (fop .sub .f64 (z0f a0) 4602678819172646912)) 4618760256179416344) (fop .mul .f64 (fop .sub .f64 4602678819172646912 (fop .sub .f64 (z0f a0) 4602678819172646912)) 4618760256179416344)) 4607182418800017408 4620693217682128896))))) (grd (za5 (fop .mul .f64 (fop .mul .f64 (fop .sub .f64 (z0f a0) 4602678819172646912) 4618760256179416344) (fop .mul .f64 (fop .sub .f64 (z0f a0) 4602678819172646912) 4618760256179416344)) 4607182418800017408 4620693217682128896) (k_ (fneg .f64 (fop .mul .f64 (fop .mul .f64 (fop .sub .f64 (z0f a0) 4602678819172646912) 4618760256179416344) (z7l (fop .mul .f64 (fop .mul .f64 (fop .sub .f64 (z0f a0) 4602678819172646912) 4618760256179416344) (fop .mul .f64 (fop .sub .f64 (z0f a0) 4602678819172646912) 4618760256179416344)) 4607182418800017408 4620693217682128896)))))) (br (fcmp .gtr .f64 (z0f a0) 4598175219545276416) (grd (za5 (fop .mul .f64 (fop .mul .f64 (fop .sub .f64 4602678819172646912 (z0f a0)) 4618760256179416344) (fop .mul .f64 (fop .sub .f64 4602678819172646912 (z0f a0)) 4618760256179416344)) 4607182418800017408 4620693217682128896) (k_ (fop .mul .f64 (fop .mul .f64 (fop .sub .f64 4602678819172646912 (z0f a0)) 4618760256179416344) (z7l (fop .mul .f64 (fop .mul .f64 (fop .sub .f64 4602678819172646912 (z0f a0)) 4618760256179416344) (fop .mul .f64 (fop .sub .f64 4602678819172646912 (z0f a0)) 4618760256179416344)) 4607182418800017408 4620693217682128896)))) (grd (za5 (fop .mul .f64 (fop .mul .f64 (z0f a0) 4618760256179416344) (fop .mul .f64 (z0f a0) 4618760256179416344)) 4607182418800017408 4620693217682128896) (k_ (fop .mul .f64 (fop .mul .f64 (z0f a0) 4618760256179416344) (z7l (fop .mul .f64 (fop .mul .f64 (z0f a0) 4618760256179416344) (fop .mul .f64 (z0f a0) 4618760256179416344)) 4607182418800017408 4620693217682128896)))))))
def zdd:Option (Nat):=zq8 a0 (fun c0_=>some c0_)
theorem y7r:Nt1 (fun {R}=>zq8 (R:=R) a0):=by
 intro R R' o h0 k;unfold zq8;repeat (first | apply grd_out h0 | apply br_out | rfl)
def y5p:Bool:=(zdd a0).isSome
def zti:Nat:=((zdd a0).getD default)
def zgj{R:Type}(k_:Nat→Option R):Option R:=(grd (ztv (fop .add .f64 (fcvV .f32 .f64 a0) 4602678819172646912)) (grd (fcvB .f64 .f32 (fop .sub .f64 (fcvV .f32 .f64 a0) (z96 (fop .add .f64 (fcvV .f32 .f64 a0) 4602678819172646912)))) (br (fcmp .geq .f32 (fcvV .f64 .f32 (fop .sub .f64 (fcvV .f32 .f64 a0) (z96 (fop .add .f64 (fcvV .f32 .f64 a0) 4602678819172646912)))) 1056964608) (k_ 3204448256) (k_ (fcvV .f64 .f32 (fop .sub .f64 (fcvV .f32 .f64 a0) (z96 (fop .add .f64 (fcvV .f32 .f64 a0) 4602678819172646912))))))))
def z6i:Option (Nat):=zgj a0 (fun c0_=>some c0_)
theorem y04:Nt1 (fun {R}=>zgj (R:=R) a0):=by
 intro R R' o h0 k;unfold zgj;repeat (first | apply grd_out h0 | apply br_out | rfl)
def zu5:Bool:=(z6i a0).isSome
def z16:Nat:=((z6i a0).getD default)
def ziw{R:Type}(k_:Nat→Option R):Option R:=(grd (ztv (fop .add .f64 (fcvV .f32 .f64 a0) 4602678819172646912)) (grd (zlr (fop .sub .f64 (fcvV .f32 .f64 a0) (z96 (fop .add .f64 (fcvV .f32 .f64 a0) 4602678819172646912)))) (br (fcmp .geq .f32 (ze6 (fop .sub .f64 (fcvV .f32 .f64 a0) (z96 (fop .add .f64 (fcvV .f32 .f64 a0) 4602678819172646912)))) 1056964608) (k_ 3204448256) (k_ (ze6 (fop .sub .f64 (fcvV .f32 .f64 a0) (z96 (fop .add .f64 (fcvV .f32 .f64 a0) 4602678819172646912))))))))
def z8e:Option (Nat):=ziw a0 (fun c0_=>some c0_)
theorem y27:Nt1 (fun {R}=>ziw (R:=R) a0):=by
 intro R R' o h0 k;unfold ziw;repeat (first | apply grd_out h0 | apply br_out | rfl)
def zx6:Bool:=(z8e a0).isSome
def z4q:Nat:=((z8e a0).getD default)
def z4o{R:Type}(kn_:Nat→Int→Option R)(k0_:Unit→Option R)(k1_:Nat→Int→Bool→Option R):Option R:=(br (ltI c5 c0) (grd (okIx c5 a2) (br (bnot (fcmp .gtr .f32 (gF g1 (ixO 0 c5 3)) a4)) (k0_ ()) (br (bnot (fcmp .lss .f32 (gF g1 (ixO 0 c5 3)) a3)) (k0_ ()) (grd (zbu (gF g1 (Nat.succ (ixO 0 c5 3)))) (br (bnot (zai (gF g1 (Nat.succ (ixO 0 c5 3))))) (k0_ ()) (grd (z1c (gF g1 (Nat.succ (Nat.succ (ixO 0 c5 3))))) (br (bnot (z15 (gF g1 (Nat.succ (Nat.succ (ixO 0 c5 3)))))) (k0_ ()) (kn_ (gF g1 (ixO 0 c5 3)) (addI .i64 c5 1))))))))) (k1_ a4 c5 (ltI c5 c0)))
theorem y1c{R R':Type}(o:Option R→Option R')(h0:o none=none)(kn_:Nat→Int→Option R)(k0_:Unit→Option R)(k1_:Nat→Int→Bool→Option R):z4o c0 g1 a2 a3 a4 c5 (fun t4' t58'=>o (kn_ t4' t58')) (fun _=>o (k0_ ())) (fun c0_ c1_ c2_=>o (k1_ c0_ c1_ c2_))=o (z4o c0 g1 a2 a3 a4 c5 kn_ k0_ k1_):=by
 unfold z4o
 repeat (first | apply grd_out h0 | apply br_out | rfl)
def z17(t57:Int)(b3:List Nat)(q0p q0u:Nat):Nat→Nat→Int→Option ((Unit)⊕(Nat×Int×Bool))
 | 0,_,_=>none
 | n+1,t4,t58=>z4o t57 b3 q0p q0u  t4 t58  (fun t4' t58'=>z17 t57 b3 q0p q0u n t4' t58') (fun _=>some (Sum.inl ())) (fun c0_ c1_ c2_=>some (Sum.inr (c0_,c1_,c2_)))
theorem zoj:z17 c0 g1 a2 a3 (a4+1) a5 c6=z4o c0 g1 a2 a3  a5 c6  (fun t4' t58'=>z17 c0 g1 a2 a3 a4 t4' t58') (fun _=>some (Sum.inl ())) (fun c0_ c1_ c2_=>some (Sum.inr (c0_,c1_,c2_))):=rfl
def zhp:Bool:=(z17 c0 g1 a2 a3 big a4 c5).isSome
def zfu:Bool:=oL (z17 c0 g1 a2 a3 big a4 c5)
def y3f:Nat:=((tR (z17 c0 g1 a2 a3 big a4 c5)).getD default).1
def y31:Int:=((tR (z17 c0 g1 a2 a3 big a4 c5)).getD default).2.1
def y2u:Bool:=((tR (z17 c0 g1 a2 a3 big a4 c5)).getD default).2.2
def zc5{R:Type}(k_:Bool→Option R):Option R:=(grd (z67 a0 (pF g1 0 (muN a0 1))) (k_ (bnot (z5z a0 (pF g1 0 (muN a0 1))))))
def z1v:Option (Bool):=zc5 a0 g1 (fun c0_=>some c0_)
theorem zwk:Nt1 (fun {R}=>zc5 (R:=R) a0 g1):=by
 intro R R' o h0 k;unfold zc5;repeat (first | apply grd_out h0 | apply br_out | rfl)
def z8p:Bool:=(z1v a0 g1).isSome
def z80:Bool:=((z1v a0 g1).getD default)
def zo4{R:Type}(k_:Bool→Option R):Option R:=(grd (y25 a0 (pF g1 0 (muN a0 1)) a2 (pF g3 0 (muN a2 1)) a4 (pF g5 0 (muN a4 1))) (br (bnot (y0j a0 (pF g1 0 (muN a0 1)) a2 (pF g3 0 (muN a2 1)) a4 (pF g5 0 (muN a4 1)))) (k_ Bool.false) (br (ltI (Int.ofNat a6) 2) (k_ Bool.false) (br (ltI 12 (Int.ofNat a6)) (k_ Bool.false) (grd (znk c8 1 6) (br (bnot (zkr c8 1 6)) (k_ Bool.false) (grd (z8x a9) (br (bnot (z84 a9)) (k_ Bool.false) (grd (z1c a10) (br (bnot (z15 a10)) (k_ Bool.false) (grd (zhp (Int.ofNat a6) g7 a6 a10 a9 0) (br (zfu (Int.ofNat a6) g7 a6 a10 a9 0) (k_ Bool.false) (k_ Bool.true)))))))))))))
def zaq:Option (Bool):=zo4 a0 g1 a2 g3 a4 g5 a6 g7 c8 a9 a10 (fun c0_=>some c0_)
theorem y6p:Nt1 (fun {R}=>zo4 (R:=R) a0 g1 a2 g3 a4 g5 a6 g7 c8 a9 a10):=by
 intro R R' o h0 k;unfold zo4;repeat (first | apply grd_out h0 | apply br_out | rfl)
def zu2:Bool:=(zaq a0 g1 a2 g3 a4 g5 a6 g7 c8 a9 a10).isSome
def zr0:Bool:=((zaq a0 g1 a2 g3 a4 g5 a6 g7 c8 a9 a10).getD default)
def zgc{R:Type}(k_:Bool→Option R):Option R:=(grd (z72 a0 (pF g1 0 (muN a0 1))) (k_ (bnot (z6e a0 (pF g1 0 (muN a0 1))))))
def z4v:Option (Bool):=zgc a0 g1 (fun c0_=>some c0_)
theorem zyv:Nt1 (fun {R}=>zgc (R:=R) a0 g1):=by
 intro R R' o h0 k;unfold zgc;repeat (first | apply grd_out h0 | apply br_out | rfl)
def zl9:Bool:=(z4v a0 g1).isSome
def zk3:Bool:=((z4v a0 g1).getD default)
def zhn{R:Type}(k_:Bool→Option R):Option R:=(grd (z76 a0 (pF g1 0 (muN a0 1))) (k_ (bnot (z70 a0 (pF g1 0 (muN a0 1))))))
def z7e:Option (Bool):=zhn a0 g1 (fun c0_=>some c0_)
theorem y0y:Nt1 (fun {R}=>zhn (R:=R) a0 g1):=by
 intro R R' o h0 k;unfold zhn;repeat (first | apply grd_out h0 | apply br_out | rfl)
def zvi:Bool:=(z7e a0 g1).isSome
def zsz:Bool:=((z7e a0 g1).getD default)
def zfg{R:Type}(k_:Nat→Option R):Option R:=(grd (z31 a0) (br (bnot (z2l a0)) (grd zz7 (grd (fcvB .f64 .f32 zq9) (k_ (fcvV .f64 .f32 zq9)))) (grd (y0q (fcvV .f32 .f64 a0)) (br (zya (fcvV .f32 .f64 a0)) (k_ 0) (grd (y5p (fcvV .f32 .f64 a0)) (grd (fcvB .f64 .f32 (zti (fcvV .f32 .f64 a0))) (k_ (fcvV .f64 .f32 (zti (fcvV .f32 .f64 a0))))))))))
def z6s:Option (Nat):=zfg a0 (fun c0_=>some c0_)
theorem zyw:Nt1 (fun {R}=>zfg (R:=R) a0):=by
 intro R R' o h0 k;unfold zfg;repeat (first | apply grd_out h0 | apply br_out | rfl)
def z4y:Bool:=(z6s a0).isSome
def z1o:Nat:=((z6s a0).getD default)
def zdw{R:Type}(k_:Nat→Nat→Bool→Option R):Option R:=(grd (zl9 2 (pF [a0,a1] 0 (muN 2 1))) (br (bnot (zk3 2 (pF [a0,a1] 0 (muN 2 1)))) (k_ 0 0 Bool.false) (k_ a0 a1 Bool.true)))
def z3m:Option (Nat×Nat×Bool):=zdw a0 a1 (fun c0_ c1_ c2_=>some (c0_,c1_,c2_))
theorem zx4:Nt3 (fun {R}=>zdw (R:=R) a0 a1):=by
 intro R R' o h0 k;unfold zdw;repeat (first | apply grd_out h0 | apply br_out | rfl)
def zk7:Bool:=(z3m a0 a1).isSome
def zih:Nat:=((z3m a0 a1).getD default).1
def zi9:Nat:=((z3m a0 a1).getD default).2.1
def zhx:Bool:=((z3m a0 a1).getD default).2.2
def zdv{R:Type}(k_:Bool→Option R):Option R:=(grd (zu2 a0 (pF g1 0 (muN a0 1)) a2 (pF g3 0 (muN a2 1)) a4 (pF g5 0 (muN a4 1)) a6 (pF g7 0 (muN a6 3)) c8 a9 a10) (br (zr0 a0 (pF g1 0 (muN a0 1)) a2 (pF g3 0 (muN a2 1)) a4 (pF g5 0 (muN a4 1)) a6 (pF g7 0 (muN a6 3)) c8 a9 a10) (grd (znk c11 0 (subI .i64 (Int.ofNat a6) 1)) (k_ (zkr c11 0 (subI .i64 (Int.ofNat a6) 1)))) (k_ Bool.false)))
def z5n:Option (Bool):=zdv a0 g1 a2 g3 a4 g5 a6 g7 c8 a9 a10 c11 (fun c0_=>some c0_)
theorem zy0:Nt1 (fun {R}=>zdv (R:=R) a0 g1 a2 g3 a4 g5 a6 g7 c8 a9 a10 c11):=by
 intro R R' o h0 k;unfold zdv;repeat (first | apply grd_out h0 | apply br_out | rfl)
def zru:Bool:=(z5n a0 g1 a2 g3 a4 g5 a6 g7 c8 a9 a10 c11).isSome
def zql:Bool:=((z5n a0 g1 a2 g3 a4 g5 a6 g7 c8 a9 a10 c11).getD default)
def z8v{R:Type}(q07:Nat)(q0b:List Nat)(q09:Nat)(q0c:List Nat)(q08:Nat)(q0d:List Nat)(q0f:Nat)(q0i:List Nat)(q0l:Int)(q0o q0n:Nat)(i:Int)(q1g:Nat)(k_:Nat→Option R):Option R:=(grd (okIx i q0f) (grd (z4y q1g) (k_ (fop .quo .f32 (fop .quo .f32 (fop .mul .f32 (fOI .f32 q0l) (fop .sub .f32 q0n (gF q0i (ixO 0 i 3)))) (fop .mul .f32 1073741824 (gF q0i (ixO 0 i 3)))) (fop .add .f32 (fop .quo .f32 (fop .mul .f32 (fOI .f32 q0l) (fop .sub .f32 q0n (gF q0i (ixO 0 i 3)))) (fop .mul .f32 1073741824 (gF q0i (ixO 0 i 3)))) (z1o q1g))))))
def z3v:Option (Nat):=z8v a0 g1 a2 g3 a4 g5 a6 g7 c8 a9 a10 c11 a12 (fun c0_=>some c0_)
theorem zs9:Nt1 (fun {R}=>z8v (R:=R) a0 g1 a2 g3 a4 g5 a6 g7 c8 a9 a10 c11 a12):=by
 intro R R' o h0 k;unfold z8v;repeat (first | apply grd_out h0 | apply br_out | rfl)
def zm7:Bool:=(z3v a0 g1 a2 g3 a4 g5 a6 g7 c8 a9 a10 c11 a12).isSome
def zdg:Nat:=((z3v a0 g1 a2 g3 a4 g5 a6 g7 c8 a9 a10 c11 a12).getD default)
def z0e{R:Type}(kn_:Int→Option R)(k0_:Int→Option R)(k1_:Int→Bool→Option R):Option R:=(br (ltI c4 c1) (grd (okIx c4 a0) (br (fcmp .gtr .f32 (gF g2 (ixO 0 c4 1)) a3) (k0_ c4) (kn_ (addI .i64 c4 1)))) (k1_ c4 (ltI c4 c1)))
theorem za4{R R':Type}(o:Option R→Option R')(h0:o none=none)(kn_:Int→Option R)(k0_:Int→Option R)(k1_:Int→Bool→Option R):z0e a0 c1 g2 a3 c4 (fun t8'=>o (kn_ t8')) (fun c0_=>o (k0_ c0_)) (fun c0_ c1_=>o (k1_ c0_ c1_))=o (z0e a0 c1 g2 a3 c4 kn_ k0_ k1_):=by
 unfold z0e
 repeat (first | apply grd_out h0 | apply br_out | rfl)
def z00(sn:Nat)(t7:Int)(b0:List Nat)(b4:Nat):Nat→Int→Option ((Int)⊕(Int×Bool))
 | 0,_=>none
 | n+1,t8=>z0e sn t7 b0 b4  t8  (fun t8'=>z00 sn t7 b0 b4 n t8') (fun c0_=>some (Sum.inl c0_)) (fun c0_ c1_=>some (Sum.inr (c0_,c1_)))
theorem z4p:z00 a0 c1 g2 a3 (a4+1) c5=z0e a0 c1 g2 a3  c5  (fun t8'=>z00 a0 c1 g2 a3 a4 t8') (fun c0_=>some (Sum.inl c0_)) (fun c0_ c1_=>some (Sum.inr (c0_,c1_))):=rfl
def z32:Bool:=(z00 a0 c1 g2 a3 big c4).isSome
def z2q:Bool:=oL (z00 a0 c1 g2 a3 big c4)
def z0c:Int:=((tL (z00 a0 c1 g2 a3 big c4)).getD default)
def zad:Int:=((tR (z00 a0 c1 g2 a3 big c4)).getD default).1
def zaa:Bool:=((tR (z00 a0 c1 g2 a3 big c4)).getD default).2
def z3o{R:Type}(kn_:Int→Option R)(k0_:Int→Bool→Option R):Option R:=(br (leI 0 c3) (grd (okIx c3 a2) (br (fcmp .gtr .f32 (gF g1 (ixO 0 c3 1)) a0) (kn_ (subI .i64 c3 1)) (k0_ c3 (fcmp .gtr .f32 (gF g1 (ixO 0 c3 1)) a0)))) (k0_ c3 Bool.false))
theorem zy2{R R':Type}(o:Option R→Option R')(h0:o none=none)(kn_:Int→Option R)(k0_:Int→Bool→Option R):z3o a0 g1 a2 c3 (fun t10'=>o (kn_ t10')) (fun c0_ c1_=>o (k0_ c0_ c1_))=o (z3o a0 g1 a2 c3 kn_ k0_):=by
 unfold z3o
 repeat (first | apply grd_out h0 | apply br_out | rfl)
def z1n(t8:Nat)(b0:List Nat)(q1h:Nat):Nat→Int→Option ((Int×Bool))
 | 0,_=>none
 | n+1,t10=>z3o t8 b0 q1h  t10  (fun t10'=>z1n t8 b0 q1h n t10') (fun c0_ c1_=>some (c0_,c1_))
theorem zkh:z1n a0 g1 a2 (a3+1) c4=z3o a0 g1 a2  c4  (fun t10'=>z1n a0 g1 a2 a3 t10') (fun c0_ c1_=>some (c0_,c1_)):=rfl
def zrn:Bool:=(z1n a0 g1 a2 big c3).isSome
def zn8:Int:=((z1n a0 g1 a2 big c3).getD default).1
def zz4:Bool:=((z1n a0 g1 a2 big c3).getD default).2
def zkp{R:Type}(k_:Bool→Option R):Option R:=(grd (zru a0 (pF g1 0 (muN a0 1)) a2 (pF g3 0 (muN a2 1)) a4 (pF g5 0 (muN a4 1)) a6 (pF g7 0 (muN a6 3)) c8 a9 a10 c11) (br (zql a0 (pF g1 0 (muN a0 1)) a2 (pF g3 0 (muN a2 1)) a4 (pF g5 0 (muN a4 1)) a6 (pF g7 0 (muN a6 3)) c8 a9 a10 c11) (grd (zbu a12) (br (zai a12) (grd (zbu a13) (br (zai a13) (grd (z1c a14) (br (z15 a14) (grd (zva a0 (pF g1 0 (muN a0 1)) a2 (pF g3 0 (muN a2 1)) a4 (pF g5 0 (muN a4 1)) a6 (pF g7 0 (muN a6 3)) c8 a9 a10 c11 a14) (k_ (zsw a0 (pF g1 0 (muN a0 1)) a2 (pF g3 0 (muN a2 1)) a4 (pF g5 0 (muN a4 1)) a6 (pF g7 0 (muN a6 3)) c8 a9 a10 c11 a14))) (k_ Bool.false))) (k_ Bool.false))) (k_ Bool.false))) (k_ Bool.false)))
def z9b:Option (Bool):=zkp a0 g1 a2 g3 a4 g5 a6 g7 c8 a9 a10 c11 a12 a13 a14 (fun c0_=>some c0_)
theorem y3y:Nt1 (fun {R}=>zkp (R:=R) a0 g1 a2 g3 a4 g5 a6 g7 c8 a9 a10 c11 a12 a13 a14):=by
 intro R R' o h0 k;unfold zkp;repeat (first | apply grd_out h0 | apply br_out | rfl)
def y0p:Bool:=(z9b a0 g1 a2 g3 a4 g5 a6 g7 c8 a9 a10 c11 a12 a13 a14).isSome
def zxc:Bool:=((z9b a0 g1 a2 g3 a4 g5 a6 g7 c8 a9 a10 c11 a12 a13 a14).getD default)
def z66{R:Type}(q14:Nat)(q1c:List Nat)(q13:Nat)(q1d:List Nat)(x1:Nat)(k_:Int→Int→Nat→Nat→Nat→Option R):Option R:=(grd (zu5 x1) (grd (z32 a0 (Int.ofNat a0) g1 (z16 x1) 0) (br (z2q a0 (Int.ofNat a0) g1 (z16 x1) 0) (br (eqI (z0c a0 (Int.ofNat a0) g1 (z16 x1) 0) 0) (grd (okIx (subI .i64 (Int.ofNat a0) 1) a0) (grd (okIx 0 a0) (k_ (subI .i64 (Int.ofNat a0) 1) 0 (fop .sub .f32 (gF g1 (ixO 0 (subI .i64 (Int.ofNat a0) 1) 1)) 1065353216) (gF g1 (ixO 0 0 1)) (z16 x1)))) (br (ltI (z0c a0 (Int.ofNat a0) g1 (z16 x1) 0) 0) (grd (okIx (subI .i64 (Int.ofNat a0) 1) a0) (grd (okIx 0 a0) (k_ (subI .i64 (Int.ofNat a0) 1) 0 (gF g1 (ixO 0 (subI .i64 (Int.ofNat a0) 1) 1)) (fop .add .f32 (gF g1 (ixO 0 0 1)) 1065353216) (z16 x1)))) (grd (okIx (subI .i64 (z0c a0 (Int.ofNat a0) g1 (z16 x1) 0) 1) a0) (grd (okIx (z0c a0 (Int.ofNat a0) g1 (z16 x1) 0) a0) (k_ (subI .i64 (z0c a0 (Int.ofNat a0) g1 (z16 x1) 0) 1) (z0c a0 (Int.ofNat a0) g1 (z16 x1) 0) (gF g1 (ixO 0 (subI .i64 (z0c a0 (Int.ofNat a0) g1 (z16 x1) 0) 1) 1)) (gF g1 (ixO 0 (z0c a0 (Int.ofNat a0) g1 (z16 x1) 0) 1)) (z16 x1)))))) (grd (okIx (subI .i64 (Int.ofNat a0) 1) a0) (grd (okIx 0 a0) (k_ (subI .i64 (Int.ofNat a0) 1) 0 (gF g1 (ixO 0 (subI .i64 (Int.ofNat a0) 1) 1)) (fop .add .f32 (gF g1 (ixO 0 0 1)) 1065353216) (z16 x1)))))))
def z13:Option (Int×Int×Nat×Nat×Nat):=z66 a0 g1 a2 g3 a4 g5 a6 (fun c0_ c1_ c2_ c3_ c4_=>some (c0_,c1_,c2_,c3_,c4_))
theorem zrg:Nt5 (fun {R}=>z66 (R:=R) a0 g1 a2 g3 a4 g5 a6):=by
 intro R R' o h0 k;unfold z66;repeat (first | apply grd_out h0 | apply br_out | rfl)
def zki:Bool:=(z13 a0 g1 a2 g3 a4 g5 a6).isSome
def z2u:Int:=((z13 a0 g1 a2 g3 a4 g5 a6).getD default).1
def z2r:Int:=((z13 a0 g1 a2 g3 a4 g5 a6).getD default).2.1
def z46:Nat:=((z13 a0 g1 a2 g3 a4 g5 a6).getD default).2.2.1
def z7v:Nat:=((z13 a0 g1 a2 g3 a4 g5 a6).getD default).2.2.2.1
def zbo:Nat:=((z13 a0 g1 a2 g3 a4 g5 a6).getD default).2.2.2.2
def zc3:=(fop .add .f32 (gF g0 (ixO 0 0 1)) 1065353216)
def z0b:=(zn8 (z4q a2) g1 a0 (subI .i64 (Int.ofNat a0) 1))
def z92:=(gF g1 (ixO 0 (subI .i64 (Int.ofNat a0) 1) 1))
def zcj:=(fcmp .lss .f32 (z4q a1) (gF g0 (ixO 0 0 1)))
def zcd:=(okIx (z0b a0 g1 a2) a0)
def zcr:=(fop .sub .f32 (z92 a0 g1) 1065353216)
def z61:=(gF g1 (ixO 0 (z0b a0 g1 a2) 1))
def z8s:=(eqI (addI .i64 (z0b a0 g1 a2) 1) 0)
def z79:=(gF g1 (ixO 0 (addI .i64 (z0b a0 g1 a2) 1) 1))
def z8u:=(fop .sub .f32 (z61 a0 g1 a2) 1065353216)
def z50:=(fop .sub .f32 (z4q a2) (z61 a0 g1 a2))
def z6m:=(fop .sub .f32 (gF g1 (ixO 0 0 1)) (zcr a0 g1))
def z6k:=(fop .sub .f32 (zc3 g1) (z92 a0 g1))
def za8:=(fop .sub .f32 (z4q a2) (z8u a0 g1 a2))
def z6q:=(fop .sub .f32 (zc3 g1) (z61 a0 g1 a2))
def z6n:=(fop .sub .f32 (gF g1 (ixO 0 0 1)) (z8u a0 g1 a2))
def z2j:=(fop .sub .f32 (z79 a0 g1 a2) (z61 a0 g1 a2))
def z6h:=(fop .sub .f32 (z79 a0 g1 a2) (z8u a0 g1 a2))
def z2k:=(fop .sub .f32 (fop .add .f32 (z79 a0 g1 a2) 1065353216) (z61 a0 g1 a2))
def zel{R:Type}(q14:Nat)(q1c:List Nat)(q13:Nat)(q1d:List Nat)(x1:Nat)(k_:Int→Int→Nat→Nat→Option R):Option R:=(grd (zx6 x1) (grd (zrn (z4q x1) g1 a0 (subI .i64 (Int.ofNat a0) 1)) (br (ltI (z0b a0 g1 x1) 0) (grd (okIx (subI .i64 (Int.ofNat a0) 1) a0) (grd (okIx 0 a0) (br (zcj g1 x1) (br (fcmp .eql .f32 (z6m a0 g1) 0) (k_ (subI .i64 (Int.ofNat a0) 1) 0 0 (z6m a0 g1)) (k_ (subI .i64 (Int.ofNat a0) 1) 0 (fop .quo .f32 (fop .sub .f32 (z4q x1) (zcr a0 g1)) (z6m a0 g1)) (z6m a0 g1))) (br (fcmp .eql .f32 (z6k a0 g1) 0) (k_ (subI .i64 (Int.ofNat a0) 1) 0 0 (z6k a0 g1)) (k_ (subI .i64 (Int.ofNat a0) 1) 0 (fop .quo .f32 (fop .sub .f32 (z4q x1) (z92 a0 g1)) (z6k a0 g1)) (z6k a0 g1)))))) (br (eqI (addI .i64 (z0b a0 g1 x1) 1) (Int.ofNat a0)) (grd (zcd a0 g1 x1) (grd (okIx 0 a0) (br (zcj g1 x1) (br (fcmp .eql .f32 (z6n a0 g1 x1) 0) (k_ (z0b a0 g1 x1) 0 0 (z6n a0 g1 x1)) (k_ (z0b a0 g1 x1) 0 (fop .quo .f32 (za8 a0 g1 x1) (z6n a0 g1 x1)) (z6n a0 g1 x1))) (br (fcmp .eql .f32 (z6q a0 g1 x1) 0) (k_ (z0b a0 g1 x1) 0 0 (z6q a0 g1 x1)) (k_ (z0b a0 g1 x1) 0 (fop .quo .f32 (z50 a0 g1 x1) (z6q a0 g1 x1)) (z6q a0 g1 x1)))))) (grd (zcd a0 g1 x1) (grd (okIx (addI .i64 (z0b a0 g1 x1) 1) a0) (br (z8s a0 g1 x1) (br (fcmp .lss .f32 (z4q x1) (z79 a0 g1 x1)) (br (fcmp .eql .f32 (z6h a0 g1 x1) 0) (k_ (z0b a0 g1 x1) (addI .i64 (z0b a0 g1 x1) 1) 0 (z6h a0 g1 x1)) (k_ (z0b a0 g1 x1) (addI .i64 (z0b a0 g1 x1) 1) (fop .quo .f32 (za8 a0 g1 x1) (z6h a0 g1 x1)) (z6h a0 g1 x1))) (br (z8s a0 g1 x1) (br (fcmp .eql .f32 (z2k a0 g1 x1) 0) (k_ (z0b a0 g1 x1) (addI .i64 (z0b a0 g1 x1) 1) 0 (z2k a0 g1 x1)) (k_ (z0b a0 g1 x1) (addI .i64 (z0b a0 g1 x1) 1) (fop .quo .f32 (z50 a0 g1 x1) (z2k a0 g1 x1)) (z2k a0 g1 x1))) (br (fcmp .eql .f32 (z2j a0 g1 x1) 0) (k_ (z0b a0 g1 x1) (addI .i64 (z0b a0 g1 x1) 1) 0 (z2j a0 g1 x1)) (k_ (z0b a0 g1 x1) (addI .i64 (z0b a0 g1 x1) 1) (fop .quo .f32 (z50 a0 g1 x1) (z2j a0 g1 x1)) (z2j a0 g1 x1))))) (br (z8s a0 g1 x1) (br (fcmp .eql .f32 (z2k a0 g1 x1) 0) (k_ (z0b a0 g1 x1) (addI .i64 (z0b a0 g1 x1) 1) 0 (z2k a0 g1 x1)) (k_ (z0b a0 g1 x1) (addI .i64 (z0b a0 g1 x1) 1) (fop .quo .f32 (z50 a0 g1 x1) (z2k a0 g1 x1)) (z2k a0 g1 x1))) (br (fcmp .eql .f32 (z2j a0 g1 x1) 0) (k_ (z0b a0 g1 x1) (addI .i64 (z0b a0 g1 x1) 1) 0 (z2j a0 g1 x1)) (k_ (z0b a0 g1 x1) (addI .i64 (z0b a0 g1 x1) 1) (fop .quo .f32 (z50 a0 g1 x1) (z2j a0 g1 x1)) (z2j a0 g1 x1)))))))))))
def z3q:Option (Int×Int×Nat×Nat):=zel a0 g1 a2 g3 a4 g5 a6 (fun c0_ c1_ c2_ c3_=>some (c0_,c1_,c2_,c3_))
theorem y28:Nt4 (fun {R}=>zel (R:=R) a0 g1 a2 g3 a4 g5 a6):=by
 intro R R' o h0 k;unfold zel;repeat (first | apply grd_out h0 | apply br_out | rfl)
def zxd:Bool:=(z3q a0 g1 a2 g3 a4 g5 a6).isSome
def zcp:Int:=((z3q a0 g1 a2 g3 a4 g5 a6).getD default).1
def zn5:Int:=((z3q a0 g1 a2 g3 a4 g5 a6).getD default).2.1
def zve:Nat:=((z3q a0 g1 a2 g3 a4 g5 a6).getD default).2.2.1
def y7q:Nat:=((z3q a0 g1 a2 g3 a4 g5 a6).getD default).2.2.2
def z1r{R:Type}(kn_:Int→Option R)(k0_:Unit→Option R)(k1_:Int→Bool→Option R):Option R:=(br (ltI c4 c1) (grd (okIx c4 a0) (grd (zmn (gF g2 (ixO 0 c4 1)) 3204448256 1056964608) (br (bnot (zl1 (gF g2 (ixO 0 c4 1)) 3204448256 1056964608)) (k0_ ()) (br (ltI 0 c4) (grd (okIx (subI .i64 c4 1) a3) (br (fcmp .geq .f32 (gF g2 (ixO 0 (subI .i64 c4 1) 1)) (gF g2 (ixO 0 c4 1))) (k0_ ()) (kn_ (addI .i64 c4 1)))) (kn_ (addI .i64 c4 1)))))) (k1_ c4 (ltI c4 c1)))
theorem zqz{R R':Type}(o:Option R→Option R')(h0:o none=none)(kn_:Int→Option R)(k0_:Unit→Option R)(k1_:Int→Bool→Option R):z1r a0 c1 g2 a3 c4 (fun t44'=>o (kn_ t44')) (fun _=>o (k0_ ())) (fun c0_ c1_=>o (k1_ c0_ c1_))=o (z1r a0 c1 g2 a3 c4 kn_ k0_ k1_):=by
 unfold z1r
 repeat (first | apply grd_out h0 | apply br_out | rfl)
def z10(q2z:Nat)(t43:Int)(b0:List Nat)(q1h:Nat):Nat→Int→Option ((Unit)⊕(Int×Bool))
 | 0,_=>none
 | n+1,t44=>z1r q2z t43 b0 q1h  t44  (fun t44'=>z10 q2z t43 b0 q1h n t44') (fun _=>some (Sum.inl ())) (fun c0_ c1_=>some (Sum.inr (c0_,c1_)))
theorem zfe:z10 a0 c1 g2 a3 (a4+1) c5=z1r a0 c1 g2 a3  c5  (fun t44'=>z10 a0 c1 g2 a3 a4 t44') (fun _=>some (Sum.inl ())) (fun c0_ c1_=>some (Sum.inr (c0_,c1_))):=rfl
def z8k:Bool:=(z10 a0 c1 g2 a3 big c4).isSome
def z7u:Bool:=oL (z10 a0 c1 g2 a3 big c4)
def zso:Int:=((tR (z10 a0 c1 g2 a3 big c4)).getD default).1
def zsm:Bool:=((tR (z10 a0 c1 g2 a3 big c4)).getD default).2
def zav{R:Type}(k_:Bool→Option R):Option R:=(br (ltI (Int.ofNat a0) 2) (k_ Bool.false) (br (ltI 24 (Int.ofNat a0)) (k_ Bool.false) (br (neI (Int.ofNat a2) (Int.ofNat a0)) (k_ Bool.false) (br (neI (Int.ofNat a4) (Int.ofNat a0)) (k_ Bool.false) (grd (zl9 a2 (pF g3 0 (muN a2 1))) (br (bnot (zk3 a2 (pF g3 0 (muN a2 1)))) (k_ Bool.false) (grd (zvi a4 (pF g5 0 (muN a4 1))) (br (bnot (zsz a4 (pF g5 0 (muN a4 1)))) (k_ Bool.false) (grd (z8k a0 (Int.ofNat a0) g1 a0 0) (br (z7u a0 (Int.ofNat a0) g1 a0 0) (k_ Bool.false) (k_ Bool.true)))))))))))
def z4m:Option (Bool):=zav a0 g1 a2 g3 a4 g5 (fun c0_=>some c0_)
theorem zuj:Nt1 (fun {R}=>zav (R:=R) a0 g1 a2 g3 a4 g5):=by
 intro R R' o h0 k;unfold zav;repeat (first | apply grd_out h0 | apply br_out | rfl)
def zop:Bool:=(z4m a0 g1 a2 g3 a4 g5).isSome
def zo6:Bool:=((z4m a0 g1 a2 g3 a4 g5).getD default)
def ze9{R:Type}(k_:Nat→Option R):Option R:=(grd (zki a0 (pF g1 0 (muN a0 1)) a2 (pF g3 0 (muN a2 1)) a4 (pF g5 0 (muN a4 1)) a8) (br (fcmp .neq .f32 (z46 a0 (pF g1 0 (muN a0 1)) a2 (pF g3 0 (muN a2 1)) a4 (pF g5 0 (muN a4 1)) a8) (z7v a0 (pF g1 0 (muN a0 1)) a2 (pF g3 0 (muN a2 1)) a4 (pF g5 0 (muN a4 1)) a8)) (grd (okIx (z2u a0 (pF g1 0 (muN a0 1)) a2 (pF g3 0 (muN a2 1)) a4 (pF g5 0 (muN a4 1)) a8) a6) (grd (okIx (z2r a0 (pF g1 0 (muN a0 1)) a2 (pF g3 0 (muN a2 1)) a4 (pF g5 0 (muN a4 1)) a8) a6) (grd (ztt (gF g7 (ixO 0 (z2u a0 (pF g1 0 (muN a0 1)) a2 (pF g3 0 (muN a2 1)) a4 (pF g5 0 (muN a4 1)) a8) 1)) (gF g7 (ixO 0 (z2r a0 (pF g1 0 (muN a0 1)) a2 (pF g3 0 (muN a2 1)) a4 (pF g5 0 (muN a4 1)) a8) 1)) (fop .quo .f32 (fop .sub .f32 (zbo a0 (pF g1 0 (muN a0 1)) a2 (pF g3 0 (muN a2 1)) a4 (pF g5 0 (muN a4 1)) a8) (z46 a0 (pF g1 0 (muN a0 1)) a2 (pF g3 0 (muN a2 1)) a4 (pF g5 0 (muN a4 1)) a8)) (fop .sub .f32 (z7v a0 (pF g1 0 (muN a0 1)) a2 (pF g3 0 (muN a2 1)) a4 (pF g5 0 (muN a4 1)) a8) (z46 a0 (pF g1 0 (muN a0 1)) a2 (pF g3 0 (muN a2 1)) a4 (pF g5 0 (muN a4 1)) a8)))) (k_ (zr2 (gF g7 (ixO 0 (z2u a0 (pF g1 0 (muN a0 1)) a2 (pF g3 0 (muN a2 1)) a4 (pF g5 0 (muN a4 1)) a8) 1)) (gF g7 (ixO 0 (z2r a0 (pF g1 0 (muN a0 1)) a2 (pF g3 0 (muN a2 1)) a4 (pF g5 0 (muN a4 1)) a8) 1)) (fop .quo .f32 (fop .sub .f32 (zbo a0 (pF g1 0 (muN a0 1)) a2 (pF g3 0 (muN a2 1)) a4 (pF g5 0 (muN a4 1)) a8) (z46 a0 (pF g1 0 (muN a0 1)) a2 (pF g3 0 (muN a2 1)) a4 (pF g5 0 (muN a4 1)) a8)) (fop .sub .f32 (z7v a0 (pF g1 0 (muN a0 1)) a2 (pF g3 0 (muN a2 1)) a4 (pF g5 0 (muN a4 1)) a8) (z46 a0 (pF g1 0 (muN a0 1)) a2 (pF g3 0 (muN a2 1)) a4 (pF g5 0 (muN a4 1)) a8)))))))) (grd (okIx (z2u a0 (pF g1 0 (muN a0 1)) a2 (pF g3 0 (muN a2 1)) a4 (pF g5 0 (muN a4 1)) a8) a6) (grd (okIx (z2r a0 (pF g1 0 (muN a0 1)) a2 (pF g3 0 (muN a2 1)) a4 (pF g5 0 (muN a4 1)) a8) a6) (grd (ztt (gF g7 (ixO 0 (z2u a0 (pF g1 0 (muN a0 1)) a2 (pF g3 0 (muN a2 1)) a4 (pF g5 0 (muN a4 1)) a8) 1)) (gF g7 (ixO 0 (z2r a0 (pF g1 0 (muN a0 1)) a2 (pF g3 0 (muN a2 1)) a4 (pF g5 0 (muN a4 1)) a8) 1)) 0) (k_ (zr2 (gF g7 (ixO 0 (z2u a0 (pF g1 0 (muN a0 1)) a2 (pF g3 0 (muN a2 1)) a4 (pF g5 0 (muN a4 1)) a8) 1)) (gF g7 (ixO 0 (z2r a0 (pF g1 0 (muN a0 1)) a2 (pF g3 0 (muN a2 1)) a4 (pF g5 0 (muN a4 1)) a8) 1)) 0)))))))
def z5o:Option (Nat):=ze9 a0 g1 a2 g3 a4 g5 a6 g7 a8 (fun c0_=>some c0_)
theorem zyh:Nt1 (fun {R}=>ze9 (R:=R) a0 g1 a2 g3 a4 g5 a6 g7 a8):=by
 intro R R' o h0 k;unfold ze9;repeat (first | apply grd_out h0 | apply br_out | rfl)
def zj8:Bool:=(z5o a0 g1 a2 g3 a4 g5 a6 g7 a8).isSome
def z8m:Nat:=((z5o a0 g1 a2 g3 a4 g5 a6 g7 a8).getD default)
def znx{R:Type}(k_:Nat→Option R):Option R:=(grd (zxd a0 (pF g1 0 (muN a0 1)) a2 (pF g3 0 (muN a2 1)) a4 (pF g5 0 (muN a4 1)) a8) (grd (okIx (zcp a0 (pF g1 0 (muN a0 1)) a2 (pF g3 0 (muN a2 1)) a4 (pF g5 0 (muN a4 1)) a8) a6) (grd (okIx (zn5 a0 (pF g1 0 (muN a0 1)) a2 (pF g3 0 (muN a2 1)) a4 (pF g5 0 (muN a4 1)) a8) a6) (grd (okIx (zcp a0 (pF g1 0 (muN a0 1)) a2 (pF g3 0 (muN a2 1)) a4 (pF g5 0 (muN a4 1)) a8) a6) (k_ (fop .add .f32 (gF g7 (ixO 0 (zcp a0 (pF g1 0 (muN a0 1)) a2 (pF g3 0 (muN a2 1)) a4 (pF g5 0 (muN a4 1)) a8) 1)) (fop .mul .f32 (zve a0 (pF g1 0 (muN a0 1)) a2 (pF g3 0 (muN a2 1)) a4 (pF g5 0 (muN a4 1)) a8) (fop .sub .f32 (gF g7 (ixO 0 (zn5 a0 (pF g1 0 (muN a0 1)) a2 (pF g3 0 (muN a2 1)) a4 (pF g5 0 (muN a4 1)) a8) 1)) (gF g7 (ixO 0 (zcp a0 (pF g1 0 (muN a0 1)) a2 (pF g3 0 (muN a2 1)) a4 (pF g5 0 (muN a4 1)) a8) 1))))))))))
def zam:Option (Nat):=znx a0 g1 a2 g3 a4 g5 a6 g7 a8 (fun c0_=>some c0_)
theorem y63:Nt1 (fun {R}=>znx (R:=R) a0 g1 a2 g3 a4 g5 a6 g7 a8):=by
 intro R R' o h0 k;unfold znx;repeat (first | apply grd_out h0 | apply br_out | rfl)
def ztb:Bool:=(zam a0 g1 a2 g3 a4 g5 a6 g7 a8).isSome
def zr6:Nat:=((zam a0 g1 a2 g3 a4 g5 a6 g7 a8).getD default)
def zax{R:Type}(q0l:Int)(q0o q0n:Nat)(i:Int)(q1g q0m:Nat)(k_:Nat→Nat→Option R):Option R:=(grd (okIx i a6) (grd (zj8 a0 (pF g1 0 (muN a0 1)) a2 (pF g3 0 (muN a2 1)) a4 (pF g5 0 (muN a4 1)) a2 (pF g3 0 (muN a2 1)) (fop .sub .f32 (fop .sub .f32 q1g (gF g7 (Nat.succ (Nat.succ (ixO 0 i 3))))) q0m)) (grd (zj8 a0 (pF g1 0 (muN a0 1)) a2 (pF g3 0 (muN a2 1)) a4 (pF g5 0 (muN a4 1)) a4 (pF g5 0 (muN a4 1)) (fop .sub .f32 (fop .sub .f32 q1g (gF g7 (Nat.succ (Nat.succ (ixO 0 i 3))))) q0m)) (grd (z4y q1g) (grd (z4y (fop .add .f32 q1g 1048576000)) (k_ (fop .add .f32 (fop .mul .f32 (z8m a0 (pF g1 0 (muN a0 1)) a2 (pF g3 0 (muN a2 1)) a4 (pF g5 0 (muN a4 1)) a2 (pF g3 0 (muN a2 1)) (fop .sub .f32 (fop .sub .f32 q1g (gF g7 (Nat.succ (Nat.succ (ixO 0 i 3))))) q0m)) (z1o (fop .add .f32 q1g 1048576000))) (fop .mul .f32 (z8m a0 (pF g1 0 (muN a0 1)) a2 (pF g3 0 (muN a2 1)) a4 (pF g5 0 (muN a4 1)) a4 (pF g5 0 (muN a4 1)) (fop .sub .f32 (fop .sub .f32 q1g (gF g7 (Nat.succ (Nat.succ (ixO 0 i 3))))) q0m)) (z1o q1g))) (fop .sub .f32 (fop .mul .f32 (z8m a0 (pF g1 0 (muN a0 1)) a2 (pF g3 0 (muN a2 1)) a4 (pF g5 0 (muN a4 1)) a2 (pF g3 0 (muN a2 1)) (fop .sub .f32 (fop .sub .f32 q1g (gF g7 (Nat.succ (Nat.succ (ixO 0 i 3))))) q0m)) (z1o q1g)) (fop .mul .f32 (z8m a0 (pF g1 0 (muN a0 1)) a2 (pF g3 0 (muN a2 1)) a4 (pF g5 0 (muN a4 1)) a4 (pF g5 0 (muN a4 1)) (fop .sub .f32 (fop .sub .f32 q1g (gF g7 (Nat.succ (Nat.succ (ixO 0 i 3))))) q0m)) (z1o (fop .add .f32 q1g 1048576000))))))))))
def z2n:Option (Nat×Nat):=zax a0 g1 a2 g3 a4 g5 a6 g7 c8 a9 a10 c11 a12 a13 (fun c0_ c1_=>some (c0_,c1_))
theorem zus:Nt2 (fun {R}=>zax (R:=R) a0 g1 a2 g3 a4 g5 a6 g7 c8 a9 a10 c11 a12 a13):=by
 intro R R' o h0 k;unfold zax;repeat (first | apply grd_out h0 | apply br_out | rfl)
def zh4:Bool:=(z2n a0 g1 a2 g3 a4 g5 a6 g7 c8 a9 a10 c11 a12 a13).isSome
def zg6:Nat:=((z2n a0 g1 a2 g3 a4 g5 a6 g7 c8 a9 a10 c11 a12 a13).getD default).1
def zfj:Nat:=((z2n a0 g1 a2 g3 a4 g5 a6 g7 c8 a9 a10 c11 a12 a13).getD default).2
def zio{R:Type}(k_:Nat→Option R):Option R:=(grd (ztb a0 (pF g1 0 (muN a0 1)) a2 (pF g3 0 (muN a2 1)) a4 (pF g5 0 (muN a4 1)) a2 (pF g3 0 (muN a2 1)) a6) (k_ (zr6 a0 (pF g1 0 (muN a0 1)) a2 (pF g3 0 (muN a2 1)) a4 (pF g5 0 (muN a4 1)) a2 (pF g3 0 (muN a2 1)) a6)))
def z83:Option (Nat):=zio a0 g1 a2 g3 a4 g5 a6 (fun c0_=>some c0_)
theorem y3b:Nt1 (fun {R}=>zio (R:=R) a0 g1 a2 g3 a4 g5 a6):=by
 intro R R' o h0 k;unfold zio;repeat (first | apply grd_out h0 | apply br_out | rfl)
def zy5:Bool:=(z83 a0 g1 a2 g3 a4 g5 a6).isSome
def zo9:Nat:=((z83 a0 g1 a2 g3 a4 g5 a6).getD default)
def zis{R:Type}(k_:Nat→Option R):Option R:=(grd (ztb a0 (pF g1 0 (muN a0 1)) a2 (pF g3 0 (muN a2 1)) a4 (pF g5 0 (muN a4 1)) a4 (pF g5 0 (muN a4 1)) a6) (k_ (zr6 a0 (pF g1 0 (muN a0 1)) a2 (pF g3 0 (muN a2 1)) a4 (pF g5 0 (muN a4 1)) a4 (pF g5 0 (muN a4 1)) a6)))
def z85:Option (Nat):=zis a0 g1 a2 g3 a4 g5 a6 (fun c0_=>some c0_)
theorem y2k:Nt1 (fun {R}=>zis (R:=R) a0 g1 a2 g3 a4 g5 a6):=by
 intro R R' o h0 k;unfold zis;repeat (first | apply grd_out h0 | apply br_out | rfl)
def zy6:Bool:=(z85 a0 g1 a2 g3 a4 g5 a6).isSome
def zo0:Nat:=((z85 a0 g1 a2 g3 a4 g5 a6).getD default)
def zas{R:Type}(k_:Nat→Nat→Option R):Option R:=(grd (zh4 a0 (pF g1 0 (muN a0 1)) a2 (pF g3 0 (muN a2 1)) a4 (pF g5 0 (muN a4 1)) a6 (pF g7 0 (muN a6 3)) c8 a9 a10 c11 a12 a13) (grd (z4y a12) (grd (z4y (fop .add .f32 a12 1048576000)) (grd (zmb a0 (pF g1 0 (muN a0 1)) a2 (pF g3 0 (muN a2 1)) a4 (pF g5 0 (muN a4 1)) a6 (pF g7 0 (muN a6 3)) c8 a9 a10 c11) (grd (zm7 a0 (pF g1 0 (muN a0 1)) a2 (pF g3 0 (muN a2 1)) a4 (pF g5 0 (muN a4 1)) a6 (pF g7 0 (muN a6 3)) c8 a9 a10 c11 a12) (k_ (fop .quo .f32 (fop .mul .f32 (zd6 a0 (pF g1 0 (muN a0 1)) a2 (pF g3 0 (muN a2 1)) a4 (pF g5 0 (muN a4 1)) a6 (pF g7 0 (muN a6 3)) c8 a9 a10 c11) (zg6 a0 (pF g1 0 (muN a0 1)) a2 (pF g3 0 (muN a2 1)) a4 (pF g5 0 (muN a4 1)) a6 (pF g7 0 (muN a6 3)) c8 a9 a10 c11 a12 a13)) (fop .mul .f32 (fop .mul .f32 (fop .mul .f32 1082130432 (zdg a0 (pF g1 0 (muN a0 1)) a2 (pF g3 0 (muN a2 1)) a4 (pF g5 0 (muN a4 1)) a6 (pF g7 0 (muN a6 3)) c8 a9 a10 c11 a12)) (z1o a12)) (z1o a12))) (fop .quo .f32 (fop .mul .f32 (zd6 a0 (pF g1 0 (muN a0 1)) a2 (pF g3 0 (muN a2 1)) a4 (pF g5 0 (muN a4 1)) a6 (pF g7 0 (muN a6 3)) c8 a9 a10 c11) (zfj a0 (pF g1 0 (muN a0 1)) a2 (pF g3 0 (muN a2 1)) a4 (pF g5 0 (muN a4 1)) a6 (pF g7 0 (muN a6 3)) c8 a9 a10 c11 a12 a13)) (fop .mul .f32 (fop .mul .f32 (fop .mul .f32 1082130432 (zdg a0 (pF g1 0 (muN a0 1)) a2 (pF g3 0 (muN a2 1)) a4 (pF g5 0 (muN a4 1)) a6 (pF g7 0 (muN a6 3)) c8 a9 a10 c11 a12)) (z1o a12)) (z1o (fop .add .f32 a12 1048576000))))))))))
def z3l:Option (Nat×Nat):=zas a0 g1 a2 g3 a4 g5 a6 g7 c8 a9 a10 c11 a12 a13 (fun c0_ c1_=>some (c0_,c1_))
theorem zut:Nt2 (fun {R}=>zas (R:=R) a0 g1 a2 g3 a4 g5 a6 g7 c8 a9 a10 c11 a12 a13):=by
 intro R R' o h0 k;unfold zas;repeat (first | apply grd_out h0 | apply br_out | rfl)
def zh8:Bool:=(z3l a0 g1 a2 g3 a4 g5 a6 g7 c8 a9 a10 c11 a12 a13).isSome
def zfw:Nat:=((z3l a0 g1 a2 g3 a4 g5 a6 g7 c8 a9 a10 c11 a12 a13).getD default).1
def zgd:Nat:=((z3l a0 g1 a2 g3 a4 g5 a6 g7 c8 a9 a10 c11 a12 a13).getD default).2
def zfk{R:Type}(q0l:Int)(q0o q0n:Nat)(i:Int)(q1g q0m:Nat)(k_:Nat→Nat→Option R):Option R:=(grd (okIx i a6) (grd (zy5 a0 (pF g1 0 (muN a0 1)) a2 (pF g3 0 (muN a2 1)) a4 (pF g5 0 (muN a4 1)) (fop .sub .f32 (fop .sub .f32 q1g (gF g7 (Nat.succ (Nat.succ (ixO 0 i 3))))) q0m)) (grd (zy6 a0 (pF g1 0 (muN a0 1)) a2 (pF g3 0 (muN a2 1)) a4 (pF g5 0 (muN a4 1)) (fop .sub .f32 (fop .sub .f32 q1g (gF g7 (Nat.succ (Nat.succ (ixO 0 i 3))))) q0m)) (grd (z8f q1g) (grd (z8f (fop .add .f32 q1g 1048576000)) (k_ (fop .add .f32 (fop .mul .f32 (zo9 a0 (pF g1 0 (muN a0 1)) a2 (pF g3 0 (muN a2 1)) a4 (pF g5 0 (muN a4 1)) (fop .sub .f32 (fop .sub .f32 q1g (gF g7 (Nat.succ (Nat.succ (ixO 0 i 3))))) q0m)) (z1g (fop .add .f32 q1g 1048576000))) (fop .mul .f32 (zo0 a0 (pF g1 0 (muN a0 1)) a2 (pF g3 0 (muN a2 1)) a4 (pF g5 0 (muN a4 1)) (fop .sub .f32 (fop .sub .f32 q1g (gF g7 (Nat.succ (Nat.succ (ixO 0 i 3))))) q0m)) (z1g q1g))) (fop .sub .f32 (fop .mul .f32 (zo9 a0 (pF g1 0 (muN a0 1)) a2 (pF g3 0 (muN a2 1)) a4 (pF g5 0 (muN a4 1)) (fop .sub .f32 (fop .sub .f32 q1g (gF g7 (Nat.succ (Nat.succ (ixO 0 i 3))))) q0m)) (z1g q1g)) (fop .mul .f32 (zo0 a0 (pF g1 0 (muN a0 1)) a2 (pF g3 0 (muN a2 1)) a4 (pF g5 0 (muN a4 1)) (fop .sub .f32 (fop .sub .f32 q1g (gF g7 (Nat.succ (Nat.succ (ixO 0 i 3))))) q0m)) (z1g (fop .add .f32 q1g 1048576000))))))))))
def z4x:Option (Nat×Nat):=zfk a0 g1 a2 g3 a4 g5 a6 g7 c8 a9 a10 c11 a12 a13 (fun c0_ c1_=>some (c0_,c1_))
theorem zyq:Nt2 (fun {R}=>zfk (R:=R) a0 g1 a2 g3 a4 g5 a6 g7 c8 a9 a10 c11 a12 a13):=by
 intro R R' o h0 k;unfold zfk;repeat (first | apply grd_out h0 | apply br_out | rfl)
def zt6:Bool:=(z4x a0 g1 a2 g3 a4 g5 a6 g7 c8 a9 a10 c11 a12 a13).isSome
def zjt:Nat:=((z4x a0 g1 a2 g3 a4 g5 a6 g7 c8 a9 a10 c11 a12 a13).getD default).1
def zjd:Nat:=((z4x a0 g1 a2 g3 a4 g5 a6 g7 c8 a9 a10 c11 a12 a13).getD default).2
def z2e{R:Type}(kn_:Nat→Int→Option R)(k0_:Unit→Option R)(k1_:Nat→Int→Bool→Option R):Option R:=(br (ltI c5 c1) (grd (okIx c5 a0) (br (fcmp .gtr .f32 (gF g2 (ixO 0 c5 3)) a4) (br (bnot (fcmp .lss .f32 (gF g2 (ixO 0 c5 3)) a3)) (k0_ ()) (grd (z8p 1 (pF [(gF g2 (Nat.succ (ixO 0 c5 3)))] 0 (muN 1 1))) (br (bnot (z80 1 (pF [(gF g2 (Nat.succ (ixO 0 c5 3)))] 0 (muN 1 1)))) (k0_ ()) (grd (z31 (gF g2 (Nat.succ (Nat.succ (ixO 0 c5 3))))) (br (bnot (z2l (gF g2 (Nat.succ (Nat.succ (ixO 0 c5 3)))))) (k0_ ()) (kn_ (gF g2 (ixO 0 c5 3)) (addI .i64 c5 1))))))) (br (bnot Bool.false) (k0_ ()) (grd (z8p 1 (pF [(gF g2 (Nat.succ (ixO 0 c5 3)))] 0 (muN 1 1))) (br (bnot (z80 1 (pF [(gF g2 (Nat.succ (ixO 0 c5 3)))] 0 (muN 1 1)))) (k0_ ()) (grd (z31 (gF g2 (Nat.succ (Nat.succ (ixO 0 c5 3))))) (br (bnot (z2l (gF g2 (Nat.succ (Nat.succ (ixO 0 c5 3)))))) (k0_ ()) (kn_ (gF g2 (ixO 0 c5 3)) (addI .i64 c5 1))))))))) (k1_ a4 c5 (ltI c5 c1)))
theorem ztu{R R':Type}(o:Option R→Option R')(h0:o none=none)(kn_:Nat→Int→Option R)(k0_:Unit→Option R)(k1_:Nat→Int→Bool→Option R):z2e a0 c1 g2 a3 a4 c5 (fun t4' t45'=>o (kn_ t4' t45')) (fun _=>o (k0_ ())) (fun c0_ c1_ c2_=>o (k1_ c0_ c1_ c2_))=o (z2e a0 c1 g2 a3 a4 c5 kn_ k0_ k1_):=by
 unfold z2e
 repeat (first | apply grd_out h0 | apply br_out | rfl)
def z0o(q2y:Nat)(t44:Int)(b3:List Nat)(q0u:Nat):Nat→Nat→Int→Option ((Unit)⊕(Nat×Int×Bool))
 | 0,_,_=>none
 | n+1,t4,t45=>z2e q2y t44 b3 q0u  t4 t45  (fun t4' t45'=>z0o q2y t44 b3 q0u n t4' t45') (fun _=>some (Sum.inl ())) (fun c0_ c1_ c2_=>some (Sum.inr (c0_,c1_,c2_)))
theorem zhi:z0o a0 c1 g2 a3 (a4+1) a5 c6=z2e a0 c1 g2 a3  a5 c6  (fun t4' t45'=>z0o a0 c1 g2 a3 a4 t4' t45') (fun _=>some (Sum.inl ())) (fun c0_ c1_ c2_=>some (Sum.inr (c0_,c1_,c2_))):=rfl
def z9h:Bool:=(z0o a0 c1 g2 a3 big a4 c5).isSome
def z8z:Bool:=oL (z0o a0 c1 g2 a3 big a4 c5)
def zv2:Nat:=((tR (z0o a0 c1 g2 a3 big a4 c5)).getD default).1
def zuz:Int:=((tR (z0o a0 c1 g2 a3 big a4 c5)).getD default).2.1
def zv7:Bool:=((tR (z0o a0 c1 g2 a3 big a4 c5)).getD default).2.2
def ze3{R:Type}(k_:Bool→Option R):Option R:=(grd (zop a0 (pF g1 0 (muN a0 1)) a2 (pF g3 0 (muN a2 1)) a4 (pF g5 0 (muN a4 1))) (br (bnot (zo6 a0 (pF g1 0 (muN a0 1)) a2 (pF g3 0 (muN a2 1)) a4 (pF g5 0 (muN a4 1)))) (k_ Bool.false) (grd (z9c c8 1 6) (br (bnot (z4g c8 1 6)) (k_ Bool.false) (br (ltI (Int.ofNat a6) 2) (k_ Bool.false) (br (ltI 12 (Int.ofNat a6)) (k_ Bool.false) (grd (zpw a9) (br (bnot (zmu a9)) (k_ Bool.false) (grd (z31 a10) (br (bnot (z2l a10)) (k_ Bool.false) (grd (z9h a6 (Int.ofNat a6) g7 a10 a9 0) (br (z8z a6 (Int.ofNat a6) g7 a10 a9 0) (k_ Bool.false) (k_ Bool.true)))))))))))))
def z5p:Option (Bool):=ze3 a0 g1 a2 g3 a4 g5 a6 g7 c8 a9 a10 (fun c0_=>some c0_)
theorem zwz:Nt1 (fun {R}=>ze3 (R:=R) a0 g1 a2 g3 a4 g5 a6 g7 c8 a9 a10):=by
 intro R R' o h0 k;unfold ze3;repeat (first | apply grd_out h0 | apply br_out | rfl)
def zec:Bool:=(z5p a0 g1 a2 g3 a4 g5 a6 g7 c8 a9 a10).isSome
def z8o:Bool:=((z5p a0 g1 a2 g3 a4 g5 a6 g7 c8 a9 a10).getD default)
def zix{R:Type}(k_:Nat→Nat→Nat→Nat→Option R):Option R:=(grd (zt6 a0 (pF g1 0 (muN a0 1)) a2 (pF g3 0 (muN a2 1)) a4 (pF g5 0 (muN a4 1)) a6 (pF g7 0 (muN a6 3)) c8 a9 a10 c11 a12 a13) (grd (z8f a12) (grd (z8f (fop .add .f32 a12 1048576000)) (grd (y0g a0 (pF g1 0 (muN a0 1)) a2 (pF g3 0 (muN a2 1)) a4 (pF g5 0 (muN a4 1)) a6 (pF g7 0 (muN a6 3)) c8 a9 a10 c11 (z1g a12)) (grd (zqm a0 (pF g1 0 (muN a0 1)) a2 (pF g3 0 (muN a2 1)) a4 (pF g5 0 (muN a4 1)) a6 (pF g7 0 (muN a6 3)) c8 a9 a10 c11) (k_ (fop .quo .f32 (fop .mul .f32 (zhd a0 (pF g1 0 (muN a0 1)) a2 (pF g3 0 (muN a2 1)) a4 (pF g5 0 (muN a4 1)) a6 (pF g7 0 (muN a6 3)) c8 a9 a10 c11) (zjt a0 (pF g1 0 (muN a0 1)) a2 (pF g3 0 (muN a2 1)) a4 (pF g5 0 (muN a4 1)) a6 (pF g7 0 (muN a6 3)) c8 a9 a10 c11 a12 a13)) (fop .mul .f32 (fop .mul .f32 (fop .mul .f32 1082130432 (zph a0 (pF g1 0 (muN a0 1)) a2 (pF g3 0 (muN a2 1)) a4 (pF g5 0 (muN a4 1)) a6 (pF g7 0 (muN a6 3)) c8 a9 a10 c11 (z1g a12))) (z1g a12)) (z1g a12))) (fop .quo .f32 (fop .mul .f32 (zhd a0 (pF g1 0 (muN a0 1)) a2 (pF g3 0 (muN a2 1)) a4 (pF g5 0 (muN a4 1)) a6 (pF g7 0 (muN a6 3)) c8 a9 a10 c11) (zjd a0 (pF g1 0 (muN a0 1)) a2 (pF g3 0 (muN a2 1)) a4 (pF g5 0 (muN a4 1)) a6 (pF g7 0 (muN a6 3)) c8 a9 a10 c11 a12 a13)) (fop .mul .f32 (fop .mul .f32 (fop .mul .f32 1082130432 (zph a0 (pF g1 0 (muN a0 1)) a2 (pF g3 0 (muN a2 1)) a4 (pF g5 0 (muN a4 1)) a6 (pF g7 0 (muN a6 3)) c8 a9 a10 c11 (z1g a12))) (z1g a12)) (z1g (fop .add .f32 a12 1048576000)))) (zjt a0 (pF g1 0 (muN a0 1)) a2 (pF g3 0 (muN a2 1)) a4 (pF g5 0 (muN a4 1)) a6 (pF g7 0 (muN a6 3)) c8 a9 a10 c11 a12 a13) (zjd a0 (pF g1 0 (muN a0 1)) a2 (pF g3 0 (muN a2 1)) a4 (pF g5 0 (muN a4 1)) a6 (pF g7 0 (muN a6 3)) c8 a9 a10 c11 a12 a13)))))))
def z4f:Option (Nat×Nat×Nat×Nat):=zix a0 g1 a2 g3 a4 g5 a6 g7 c8 a9 a10 c11 a12 a13 (fun c0_ c1_ c2_ c3_=>some (c0_,c1_,c2_,c3_))
theorem y2g:Nt4 (fun {R}=>zix (R:=R) a0 g1 a2 g3 a4 g5 a6 g7 c8 a9 a10 c11 a12 a13):=by
 intro R R' o h0 k;unfold zix;repeat (first | apply grd_out h0 | apply br_out | rfl)
def zpy:Bool:=(z4f a0 g1 a2 g3 a4 g5 a6 g7 c8 a9 a10 c11 a12 a13).isSome
def zmt:Nat:=((z4f a0 g1 a2 g3 a4 g5 a6 g7 c8 a9 a10 c11 a12 a13).getD default).1
def znd:Nat:=((z4f a0 g1 a2 g3 a4 g5 a6 g7 c8 a9 a10 c11 a12 a13).getD default).2.1
def zvf:Nat:=((z4f a0 g1 a2 g3 a4 g5 a6 g7 c8 a9 a10 c11 a12 a13).getD default).2.2.1
def zvm:Nat:=((z4f a0 g1 a2 g3 a4 g5 a6 g7 c8 a9 a10 c11 a12 a13).getD default).2.2.2
def z9p{R:Type}(k_:Nat→Option R):Option R:=(grd (zh8 a0 (pF g1 0 (muN a0 1)) a2 (pF g3 0 (muN a2 1)) a4 (pF g5 0 (muN a4 1)) a6 (pF g7 0 (muN a6 3)) c8 a9 a10 c11 a12 a15) (grd (z4y a12) (grd (z4y (fop .add .f32 a12 1048576000)) (grd (okIx c11 a6) (k_ (fop .sub .f32 (fop .mul .f32 (z1o a12) (fop .add .f32 1065353216 (zfw a0 (pF g1 0 (muN a0 1)) a2 (pF g3 0 (muN a2 1)) a4 (pF g5 0 (muN a4 1)) a6 (pF g7 0 (muN a6 3)) c8 a9 a10 c11 a12 a15))) (fop .mul .f32 (fop .mul .f32 (fop .quo .f32 a13 (fop .mul .f32 a14 (gF g7 (ixO 0 c11 3)))) (z1o (fop .add .f32 a12 1048576000))) (fop .sub .f32 1065353216 (zgd a0 (pF g1 0 (muN a0 1)) a2 (pF g3 0 (muN a2 1)) a4 (pF g5 0 (muN a4 1)) a6 (pF g7 0 (muN a6 3)) c8 a9 a10 c11 a12 a15)))))))))
def z30:Option (Nat):=z9p a0 g1 a2 g3 a4 g5 a6 g7 c8 a9 a10 c11 a12 a13 a14 a15 (fun c0_=>some c0_)
theorem zty:Nt1 (fun {R}=>z9p (R:=R) a0 g1 a2 g3 a4 g5 a6 g7 c8 a9 a10 c11 a12 a13 a14 a15):=by
 intro R R' o h0 k;unfold z9p;repeat (first | apply grd_out h0 | apply br_out | rfl)
def zo8:Bool:=(z30 a0 g1 a2 g3 a4 g5 a6 g7 c8 a9 a10 c11 a12 a13 a14 a15).isSome
def z91:Nat:=((z30 a0 g1 a2 g3 a4 g5 a6 g7 c8 a9 a10 c11 a12 a13 a14 a15).getD default)
def zir{R:Type}(k_:Bool→Option R):Option R:=(grd (zec a0 (pF g1 0 (muN a0 1)) a2 (pF g3 0 (muN a2 1)) a4 (pF g5 0 (muN a4 1)) a6 (pF g7 0 (muN a6 3)) c8 a9 a10) (br (z8o a0 (pF g1 0 (muN a0 1)) a2 (pF g3 0 (muN a2 1)) a4 (pF g5 0 (muN a4 1)) a6 (pF g7 0 (muN a6 3)) c8 a9 a10) (grd (zkb a0 (pF g1 0 (muN a0 1)) a2 (pF g3 0 (muN a2 1)) a4 (pF g5 0 (muN a4 1)) a6 (pF g7 0 (muN a6 3)) c8 a9 a10 c11) (br (zj1 a0 (pF g1 0 (muN a0 1)) a2 (pF g3 0 (muN a2 1)) a4 (pF g5 0 (muN a4 1)) a6 (pF g7 0 (muN a6 3)) c8 a9 a10 c11) (grd (z8p 2 (pF [a12,a13] 0 (muN 2 1))) (br (z80 2 (pF [a12,a13] 0 (muN 2 1))) (grd (z31 a14) (br (z2l a14) (grd (okIx c11 a6) (grd (z31 (fop .sub .f32 (fop .sub .f32 981668463 (gF g7 (Nat.succ (Nat.succ (ixO 0 c11 3))))) a14)) (k_ (z2l (fop .sub .f32 (fop .sub .f32 981668463 (gF g7 (Nat.succ (Nat.succ (ixO 0 c11 3))))) a14))))) (k_ Bool.false))) (k_ Bool.false))) (k_ Bool.false))) (k_ Bool.false)))
def z86:Option (Bool):=zir a0 g1 a2 g3 a4 g5 a6 g7 c8 a9 a10 c11 a12 a13 a14 (fun c0_=>some c0_)
theorem y2r:Nt1 (fun {R}=>zir (R:=R) a0 g1 a2 g3 a4 g5 a6 g7 c8 a9 a10 c11 a12 a13 a14):=by
 intro R R' o h0 k;unfold zir;repeat (first | apply grd_out h0 | apply br_out | rfl)
def zpz:Bool:=(z86 a0 g1 a2 g3 a4 g5 a6 g7 c8 a9 a10 c11 a12 a13 a14).isSome
def zod:Bool:=((z86 a0 g1 a2 g3 a4 g5 a6 g7 c8 a9 a10 c11 a12 a13 a14).getD default)
def ze1{R:Type}(k_:Nat→Option R):Option R:=(grd (zpy a0 (pF g1 0 (muN a0 1)) a2 (pF g3 0 (muN a2 1)) a4 (pF g5 0 (muN a4 1)) a6 (pF g7 0 (muN a6 3)) c8 a9 a10 c11 a12 a15) (grd (z8f a12) (grd (z8f (fop .add .f32 a12 1048576000)) (grd (okIx c11 a6) (k_ (fop .sub .f32 (fop .mul .f32 (z1g a12) (fop .add .f32 1065353216 (zmt a0 (pF g1 0 (muN a0 1)) a2 (pF g3 0 (muN a2 1)) a4 (pF g5 0 (muN a4 1)) a6 (pF g7 0 (muN a6 3)) c8 a9 a10 c11 a12 a15))) (fop .mul .f32 (fop .mul .f32 (fop .quo .f32 a13 (fop .mul .f32 a14 (gF g7 (ixO 0 c11 3)))) (z1g (fop .add .f32 a12 1048576000))) (fop .sub .f32 1065353216 (znd a0 (pF g1 0 (muN a0 1)) a2 (pF g3 0 (muN a2 1)) a4 (pF g5 0 (muN a4 1)) a6 (pF g7 0 (muN a6 3)) c8 a9 a10 c11 a12 a15)))))))))
def z3n:Option (Nat):=ze1 a0 g1 a2 g3 a4 g5 a6 g7 c8 a9 a10 c11 a12 a13 a14 a15 (fun c0_=>some c0_)
theorem zxs:Nt1 (fun {R}=>ze1 (R:=R) a0 g1 a2 g3 a4 g5 a6 g7 c8 a9 a10 c11 a12 a13 a14 a15):=by
 intro R R' o h0 k;unfold ze1;repeat (first | apply grd_out h0 | apply br_out | rfl)
def zrv:Bool:=(z3n a0 g1 a2 g3 a4 g5 a6 g7 c8 a9 a10 c11 a12 a13 a14 a15).isSome
def zbw:Nat:=((z3n a0 g1 a2 g3 a4 g5 a6 g7 c8 a9 a10 c11 a12 a13 a14 a15).getD default)
def zfr{R:Type}(k_:Nat→Bool→Option R):Option R:=(grd (zpz a0 (pF g1 0 (muN a0 1)) a2 (pF g3 0 (muN a2 1)) a4 (pF g5 0 (muN a4 1)) a6 (pF g7 0 (muN a6 3)) c8 a9 a10 c11 a13 a14 a15) (br (bnot (zod a0 (pF g1 0 (muN a0 1)) a2 (pF g3 0 (muN a2 1)) a4 (pF g5 0 (muN a4 1)) a6 (pF g7 0 (muN a6 3)) c8 a9 a10 c11 a13 a14 a15)) (k_ 0 Bool.false) (grd (y0i a12) (br (bnot (zxq a12)) (k_ 0 Bool.false) (grd (zo8 a0 (pF g1 0 (muN a0 1)) a2 (pF g3 0 (muN a2 1)) a4 (pF g5 0 (muN a4 1)) a6 (pF g7 0 (muN a6 3)) c8 a9 a10 c11 a12 a13 a14 a15) (grd (zxo (z91 a0 (pF g1 0 (muN a0 1)) a2 (pF g3 0 (muN a2 1)) a4 (pF g5 0 (muN a4 1)) a6 (pF g7 0 (muN a6 3)) c8 a9 a10 c11 a12 a13 a14 a15)) (k_ (zvg (z91 a0 (pF g1 0 (muN a0 1)) a2 (pF g3 0 (muN a2 1)) a4 (pF g5 0 (muN a4 1)) a6 (pF g7 0 (muN a6 3)) c8 a9 a10 c11 a12 a13 a14 a15)) (zvj (z91 a0 (pF g1 0 (muN a0 1)) a2 (pF g3 0 (muN a2 1)) a4 (pF g5 0 (muN a4 1)) a6 (pF g7 0 (muN a6 3)) c8 a9 a10 c11 a12 a13 a14 a15)))))))))
def z4u:Option (Nat×Bool):=zfr a0 g1 a2 g3 a4 g5 a6 g7 c8 a9 a10 c11 a12 a13 a14 a15 (fun c0_ c1_=>some (c0_,c1_))
theorem y03:Nt2 (fun {R}=>zfr (R:=R) a0 g1 a2 g3 a4 g5 a6 g7 c8 a9 a10 c11 a12 a13 a14 a15):=by
 intro R R' o h0 k;unfold zfr;repeat (first | apply grd_out h0 | apply br_out | rfl)
def ztw:Bool:=(z4u a0 g1 a2 g3 a4 g5 a6 g7 c8 a9 a10 c11 a12 a13 a14 a15).isSome
def zs6:Nat:=((z4u a0 g1 a2 g3 a4 g5 a6 g7 c8 a9 a10 c11 a12 a13 a14 a15).getD default).1
def zrz:Bool:=((z4u a0 g1 a2 g3 a4 g5 a6 g7 c8 a9 a10 c11 a12 a13 a14 a15).getD default).2
def z2o{R:Type}(kn_:Nat→Nat→Int→Option R)(k0_:Unit→Option R)(k1_:Nat→Nat→Int→Bool→Option R):Option R:=(br (ltI c17 24) (grd (zrv a8 (pF g4 0 (muN a8 1)) a9 (pF g5 0 (muN a9 1)) a10 (pF g6 0 (muN a10 1)) a11 (pF g7 0 (muN a11 3)) c12 a13 a14 c0 (fop .mul .f32 1056964608 (fop .add .f32 a15 a16)) a1 a2 a3) (grd (z1c (zbw a8 (pF g4 0 (muN a8 1)) a9 (pF g5 0 (muN a9 1)) a10 (pF g6 0 (muN a10 1)) a11 (pF g7 0 (muN a11 3)) c12 a13 a14 c0 (fop .mul .f32 1056964608 (fop .add .f32 a15 a16)) a1 a2 a3)) (br (bnot (z15 (zbw a8 (pF g4 0 (muN a8 1)) a9 (pF g5 0 (muN a9 1)) a10 (pF g6 0 (muN a10 1)) a11 (pF g7 0 (muN a11 3)) c12 a13 a14 c0 (fop .mul .f32 1056964608 (fop .add .f32 a15 a16)) a1 a2 a3))) (k0_ ()) (br (fcmp .gtr .f32 (zbw a8 (pF g4 0 (muN a8 1)) a9 (pF g5 0 (muN a9 1)) a10 (pF g6 0 (muN a10 1)) a11 (pF g7 0 (muN a11 3)) c12 a13 a14 c0 (fop .mul .f32 1056964608 (fop .add .f32 a15 a16)) a1 a2 a3) 0) (kn_ a15 (fop .mul .f32 1056964608 (fop .add .f32 a15 a16)) (addI .i64 c17 1)) (kn_ (fop .mul .f32 1056964608 (fop .add .f32 a15 a16)) a16 (addI .i64 c17 1)))))) (k1_ a15 a16 c17 (ltI c17 24)))
theorem zun{R R':Type}(o:Option R→Option R')(h0:o none=none)(kn_:Nat→Nat→Int→Option R)(k0_:Unit→Option R)(k1_:Nat→Nat→Int→Bool→Option R):z2o c0 a1 a2 a3 g4 g5 g6 g7 a8 a9 a10 a11 c12 a13 a14 a15 a16 c17 (fun low' q1p' k'=>o (kn_ low' q1p' k')) (fun _=>o (k0_ ())) (fun c0_ c1_ c2_ c3_=>o (k1_ c0_ c1_ c2_ c3_))=o (z2o c0 a1 a2 a3 g4 g5 g6 g7 a8 a9 a10 a11 c12 a13 a14 a15 a16 c17 kn_ k0_ k1_):=by
 unfold z2o
 repeat (first | apply grd_out h0 | apply br_out | rfl)
def z0t(i:Int)(q19 q0x q0m:Nat)(b0 b1 b2 b3:List Nat)(q0r q0s q0q q0p:Nat)(q0y:Int)(q0z q0u:Nat):Nat→Nat→Nat→Int→Option ((Unit)⊕(Nat×Nat×Int×Bool))
 | 0,_,_,_=>none
 | n+1,low,q1p,k=>z2o i q19 q0x q0m b0 b1 b2 b3 q0r q0s q0q q0p q0y q0z q0u  low q1p k  (fun low' q1p' k'=>z0t i q19 q0x q0m b0 b1 b2 b3 q0r q0s q0q q0p q0y q0z q0u n low' q1p' k') (fun _=>some (Sum.inl ())) (fun c0_ c1_ c2_ c3_=>some (Sum.inr (c0_,c1_,c2_,c3_)))
theorem zhy:z0t c0 a1 a2 a3 g4 g5 g6 g7 a8 a9 a10 a11 c12 a13 a14 (a15+1) a16 a17 c18=z2o c0 a1 a2 a3 g4 g5 g6 g7 a8 a9 a10 a11 c12 a13 a14  a16 a17 c18  (fun low' q1p' k'=>z0t c0 a1 a2 a3 g4 g5 g6 g7 a8 a9 a10 a11 c12 a13 a14 a15 low' q1p' k') (fun _=>some (Sum.inl ())) (fun c0_ c1_ c2_ c3_=>some (Sum.inr (c0_,c1_,c2_,c3_))):=rfl
def zh1:Bool:=(z0t c0 a1 a2 a3 g4 g5 g6 g7 a8 a9 a10 a11 c12 a13 a14 big a15 a16 c17).isSome
def zgk:Bool:=oL (z0t c0 a1 a2 a3 g4 g5 g6 g7 a8 a9 a10 a11 c12 a13 a14 big a15 a16 c17)
def zk9:Nat:=((tR (z0t c0 a1 a2 a3 g4 g5 g6 g7 a8 a9 a10 a11 c12 a13 a14 big a15 a16 c17)).getD default).1
def zwi:Nat:=((tR (z0t c0 a1 a2 a3 g4 g5 g6 g7 a8 a9 a10 a11 c12 a13 a14 big a15 a16 c17)).getD default).2.1
def zvv:Int:=((tR (z0t c0 a1 a2 a3 g4 g5 g6 g7 a8 a9 a10 a11 c12 a13 a14 big a15 a16 c17)).getD default).2.2.1
def zwa:Bool:=((tR (z0t c0 a1 a2 a3 g4 g5 g6 g7 a8 a9 a10 a11 c12 a13 a14 big a15 a16 c17)).getD default).2.2.2
end
section
variable {a0:Nat} {c0:Int} {a1:Nat} {c1:Int} {e1:Bool} {g1:List Nat} {m1:List Bool} {a2:Nat} {c2:Int} {e2:Bool} {g2:List Nat} {a3:Nat} {c3:Int} {e3:Bool} {g3:List Nat} {m3:List Bool} {a4:Nat} {c4:Int} {e4:Bool} {g4:List Nat} {a5:Nat} {c5:Int} {g5:List Nat} {a6:Nat} {c6:Int} {e6:Bool} {g6:List Nat} {a7:Nat} {c7:Int} {g7:List Nat} {a8:Nat} {c8:Int} {a9:Nat} {g9:List Nat} {a10:Nat} {a11:Nat} {c11:Int} {e11:Bool} {g11:List Nat} {a12:Nat} {c12:Int} {e12:Bool} {g12:List Nat} {a13:Nat} {e13:Bool} {a14:Nat} {g14:List Nat} {a15:Nat} {e15:Bool} {a16:Nat} {g16:List Nat} {a17:Nat} {c17:Int} {a18:Nat} {g18:List Nat} {c19:Int} {a20:Nat} {a21:Nat} {e22:Bool}
theorem of1{α1:Type} [Inhabited (α1)] {x:Option (α1)} {r:α1} (h:x=some r):x.isSome=true∧(x.getD default)=r:=by
 subst h;exact⟨rfl,rfl⟩
theorem ol1{β α1:Type} [Inhabited (α1)] {x:Option ((α1)⊕β)} {r:α1} (h:x=some (.inl r)):x.isSome=true∧oL x=true∧((tL x).getD default)=r:=by
 subst h;exact⟨rfl,rfl,rfl⟩
theorem of2{α1 α2:Type} [Inhabited (α1×α2)] {x:Option (α1×α2)} {r:α1×α2} (h:x=some r):x.isSome=true∧(x.getD default).1=r.1∧(x.getD default).2=r.2:=by
 subst h;exact⟨rfl,rfl,rfl⟩
theorem or2{β α1 α2:Type} [Inhabited (α1×α2)] {x:Option (β⊕(α1×α2))} {r:α1×α2} (h:x=some (.inr r)):x.isSome=true∧oL x=false∧((tR x).getD default).1=r.1∧((tR x).getD default).2=r.2:=by
 subst h;exact⟨rfl,rfl,rfl,rfl⟩
theorem of3{α1 α2 α3:Type} [Inhabited (α1×α2×α3)] {x:Option (α1×α2×α3)} {r:α1×α2×α3} (h:x=some r):x.isSome=true∧(x.getD default).1=r.1∧(x.getD default).2.1=r.2.1∧(x.getD default).2.2=r.2.2:=by
 subst h;exact⟨rfl,rfl,rfl,rfl⟩
theorem or3{β α1 α2 α3:Type} [Inhabited (α1×α2×α3)] {x:Option (β⊕(α1×α2×α3))} {r:α1×α2×α3} (h:x=some (.inr r)):x.isSome=true∧oL x=false∧((tR x).getD default).1=r.1∧((tR x).getD default).2.1=r.2.1∧((tR x).getD default).2.2=r.2.2:=by
 subst h;exact⟨rfl,rfl,rfl,rfl,rfl⟩
theorem of4{α1 α2 α3 α4:Type} [Inhabited (α1×α2×α3×α4)] {x:Option (α1×α2×α3×α4)} {r:α1×α2×α3×α4} (h:x=some r):x.isSome=true∧(x.getD default).1=r.1∧(x.getD default).2.1=r.2.1∧(x.getD default).2.2.1=r.2.2.1∧(x.getD default).2.2.2=r.2.2.2:=by
 subst h;exact⟨rfl,rfl,rfl,rfl,rfl⟩
theorem or4{β α1 α2 α3 α4:Type} [Inhabited (α1×α2×α3×α4)] {x:Option (β⊕(α1×α2×α3×α4))} {r:α1×α2×α3×α4} (h:x=some (.inr r)):x.isSome=true∧oL x=false∧((tR x).getD default).1=r.1∧((tR x).getD default).2.1=r.2.1∧((tR x).getD default).2.2.1=r.2.2.1∧((tR x).getD default).2.2.2=r.2.2.2:=by
 subst h;exact⟨rfl,rfl,rfl,rfl,rfl,rfl⟩
theorem of5{α1 α2 α3 α4 α5:Type} [Inhabited (α1×α2×α3×α4×α5)] {x:Option (α1×α2×α3×α4×α5)} {r:α1×α2×α3×α4×α5} (h:x=some r):x.isSome=true∧(x.getD default).1=r.1∧(x.getD default).2.1=r.2.1∧(x.getD default).2.2.1=r.2.2.1∧(x.getD default).2.2.2.1=r.2.2.2.1∧(x.getD default).2.2.2.2=r.2.2.2.2:=by
 subst h;exact⟨rfl,rfl,rfl,rfl,rfl,rfl⟩
theorem of6{α1 α2 α3 α4 α5 α6:Type} [Inhabited (α1×α2×α3×α4×α5×α6)] {x:Option (α1×α2×α3×α4×α5×α6)} {r:α1×α2×α3×α4×α5×α6} (h:x=some r):x.isSome=true∧(x.getD default).1=r.1∧(x.getD default).2.1=r.2.1∧(x.getD default).2.2.1=r.2.2.1∧(x.getD default).2.2.2.1=r.2.2.2.1∧(x.getD default).2.2.2.2.1=r.2.2.2.2.1∧(x.getD default).2.2.2.2.2=r.2.2.2.2.2:=by
 subst h;exact⟨rfl,rfl,rfl,rfl,rfl,rfl,rfl⟩
theorem or6{β α1 α2 α3 α4 α5 α6:Type} [Inhabited (α1×α2×α3×α4×α5×α6)] {x:Option (β⊕(α1×α2×α3×α4×α5×α6))} {r:α1×α2×α3×α4×α5×α6} (h:x=some (.inr r)):x.isSome=true∧oL x=false∧((tR x).getD default).1=r.1∧((tR x).getD default).2.1=r.2.1∧((tR x).getD default).2.2.1=r.2.2.1∧((tR x).getD default).2.2.2.1=r.2.2.2.1∧((tR x).getD default).2.2.2.2.1=r.2.2.2.2.1∧((tR x).getD default).2.2.2.2.2=r.2.2.2.2.2:=by
 subst h;exact⟨rfl,rfl,rfl,rfl,rfl,rfl,rfl,rfl⟩
theorem of8{α1 α2 α3 α4 α5 α6 α7 α8:Type} [Inhabited (α1×α2×α3×α4×α5×α6×α7×α8)] {x:Option (α1×α2×α3×α4×α5×α6×α7×α8)} {r:α1×α2×α3×α4×α5×α6×α7×α8} (h:x=some r):x.isSome=true∧(x.getD default).1=r.1∧(x.getD default).2.1=r.2.1∧(x.getD default).2.2.1=r.2.2.1∧(x.getD default).2.2.2.1=r.2.2.2.1∧(x.getD default).2.2.2.2.1=r.2.2.2.2.1∧(x.getD default).2.2.2.2.2.1=r.2.2.2.2.2.1∧(x.getD default).2.2.2.2.2.2.1=r.2.2.2.2.2.2.1∧(x.getD default).2.2.2.2.2.2.2=r.2.2.2.2.2.2.2:=by
 subst h;exact⟨rfl,rfl,rfl,rfl,rfl,rfl,rfl,rfl,rfl⟩
theorem ol0{α β:Type} {x:Option (α⊕β)} {r:α} (h:x=some (.inl r)):x.isSome=true∧oL x=true:=by
 subst h;exact⟨rfl,rfl⟩
theorem z7m(h:z6r a0 a1=some e2):z6t a0 a1=true∧z5k a0 a1=e2:=of1 h
theorem zq6(h:z95 c0 c1 c2=some e3):z9c c0 c1 c2=true∧z4g c0 c1 c2=e3:=of1 h
theorem z49(h:z93 a0=some e1):z31 a0=true∧z2l a0=e1:=of1 h
theorem zra(h:zac c0 c1 c2=some e3):znk c0 c1 c2=true∧zkr c0 c1 c2=e3:=of1 h
theorem y26(h:z5s a0 g1 c2=some c3):zri a0 g1 c2=true∧zid a0 g1 c2=c3:=of1 h
theorem z2a(h:z89 a0=some e1):z1c a0=true∧z15 a0=e1:=of1 h
theorem zi6(h:z5q a0 g1 c2=some c3):zdy a0 g1 c2=true∧z1d a0 g1 c2=c3:=of1 h
theorem zt8(h:z7a a0 a1 a2=some e3):zmn a0 a1 a2=true∧zl1 a0 a1 a2=e3:=of1 h
theorem zw9(h:z3z a0 g1 a2 g3 a4 g5 a6 g7 c8 a9 a10 c11=some a12):zmb a0 g1 a2 g3 a4 g5 a6 g7 c8 a9 a10 c11=true∧zd6 a0 g1 a2 g3 a4 g5 a6 g7 c8 a9 a10 c11=a12:=of1 h
theorem y8w(h:z9d a0 g1 a2 g3 a4 g5 a6 g7 c8 a9 a10 c11 a12=some a13):y0g a0 g1 a2 g3 a4 g5 a6 g7 c8 a9 a10 c11 a12=true∧zph a0 g1 a2 g3 a4 g5 a6 g7 c8 a9 a10 c11 a12=a13:=of1 h
theorem y16(h:z52 a0 g1 a2 g3 a4 g5 a6 g7 c8 a9 a10 c11=some a12):zqm a0 g1 a2 g3 a4 g5 a6 g7 c8 a9 a10 c11=true∧zhd a0 g1 a2 g3 a4 g5 a6 g7 c8 a9 a10 c11=a12:=of1 h
theorem y5l(h:zg1=some a0):zz7=true∧zq9=a0:=of1 h
theorem yab(h:zew a0 a1 a2=some a3):ztt a0 a1 a2=true∧zr2 a0 a1 a2=a3:=of1 h
theorem zs8(h:z6o a0=some a1):zlr a0=true∧ze6 a0=a1:=of1 h
theorem yb1(h:zfl a0=some a1):y7d a0=true∧y5o a0=a1:=of1 h
theorem y7u{r:Nat×Bool}(h:z6y a0=some r):zxo a0=true∧zvg a0=r.1∧zvj a0=r.2:=of2 h
theorem y4x(h:z6p a0 g1 a2 g3 a4 g5 c6=some c7):ztz a0 g1 a2 g3 a4 g5 c6=true∧z9e a0 g1 a2 g3 a4 g5 c6=c7:=of1 h
theorem zgm(h:z7c a0=some e1):zbu a0=true∧zai a0=e1:=of1 h
theorem zvn(h:z8b a0=some e1):zpw a0=true∧zmu a0=e1:=of1 h
theorem zxb(h:z4b a0=some e1):zob a0=true∧zm9 a0=e1:=of1 h
theorem y4r(h:z6l a0 a1 a2 a3 a4 a5=some e6):zt1 a0 a1 a2 a3 a4 a5=true∧zrs a0 a1 a2 a3 a4 a5=e6:=of1 h
theorem zub(h:z7b a0=some e1):z8x a0=true∧z84 a0=e1:=of1 h
theorem y6s(h:z7d a0 g1 a2 g3 a4 g5 a6 g7 c8 a9 a10 c11 a12=some e13):zva a0 g1 a2 g3 a4 g5 a6 g7 c8 a9 a10 c11 a12=true∧zsw a0 g1 a2 g3 a4 g5 a6 g7 c8 a9 a10 c11 a12=e13:=of1 h
theorem y84{r:Nat×Nat×Bool}(h:z6c a0 a1=some r):zrf a0 a1=true∧zim a0 a1=r.1∧zin a0 a1=r.2.1∧ziv a0 a1=r.2.2:=of3 h
theorem y1f(h:z51 a0=some e1):zqc a0=true∧zoo a0=e1:=of1 h
theorem zup(h:z3e a0 g1 a2 g3 a4 g5 a6 g7 c8 a9 a10 c11=some e12):zkb a0 g1 a2 g3 a4 g5 a6 g7 c8 a9 a10 c11=true∧zj1 a0 g1 a2 g3 a4 g5 a6 g7 c8 a9 a10 c11=e12:=of1 h
theorem y8k(h:z9a a0=some e1):y0i a0=true∧zxq a0=e1:=of1 h
theorem y9f(h:z97 a0=some e1):y0q a0=true∧zya a0=e1:=of1 h
theorem zu8{r:Int×Int×Bool}(hm:a4=big) (h:z0k a0 g1 a4 c2 c3=some (Sum.inr r)):zkc a0 g1 c2 c3=true∧zj5 a0 g1 c2 c3=false∧zhh a0 g1 c2 c3=r.1∧zsb a0 g1 c2 c3=r.2.1∧zsg a0 g1 c2 c3=r.2.2:=by
 subst hm;exact or3 h
theorem zvw {r:Int×Bool×(List Nat)} (hm:a5=big) (h:z19 a0 a1 g2 a5 c3 g4=some r):zfs a0 a1 g2 c3 g4=true∧zul a0 a1 g2 c3 g4=r.1∧zum a0 a1 g2 c3 g4=r.2.1∧zbc a0 a1 g2 c3 g4=r.2.2:=by
 subst hm;exact of3 h
theorem zo5(hm:a5=big) (h:z0a a0 e1 c2 m3 a5 c4=some (Sum.inl c6)):z8g a0 e1 c2 m3 c4=true∧z7t a0 e1 c2 m3 c4=true∧zbb a0 e1 c2 m3 c4=c6:=by
 subst hm;exact ol1 h
theorem znt{r:Int×Bool}(hm:a5=big) (h:z0a a0 e1 c2 m3 a5 c4=some (Sum.inr r)):z8g a0 e1 c2 m3 c4=true∧z7t a0 e1 c2 m3 c4=false∧zmk a0 e1 c2 m3 c4=r.1∧zmi a0 e1 c2 m3 c4=r.2:=by
 subst hm;exact or2 h
theorem y7s(h:z87 a0 g1 a2 g3 a4 g5 a6 g7 c8 a9 a10 c11=some c12):zq7 a0 g1 a2 g3 a4 g5 a6 g7 c8 a9 a10 c11=true∧zoh a0 g1 a2 g3 a4 g5 a6 g7 c8 a9 a10 c11=c12:=of1 h
theorem znr(h:z4l a0 g1 c2=some c3):zgz a0 g1 c2=true∧zg4 a0 g1 c2=c3:=of1 h
theorem zhz {r:Nat×(List Nat)} (h:z4i a0 g1=some r):ze4 a0 g1=true∧zc4 a0 g1=r.1∧zco a0 g1=r.2:=of2 h
theorem zqq(h:z2g a0 m1 e2=some c3):zhl a0 m1 e2=true∧zgp a0 m1 e2=c3:=of1 h
theorem y2z(h:z5u a0=some e1):zrw a0=true∧zqi a0=e1:=of1 h
theorem yaa(h:zap a0=some a1):y2q a0=true∧zgn a0=a1:=of1 h
theorem zwn{r:Int×Bool}(hm:a5=big) (h:z1b a0 a1 g2 g3 a5 c4=some (Sum.inr r)):zoa a0 a1 g2 g3 c4=true∧zmg a0 a1 g2 g3 c4=false∧zuu a0 a1 g2 g3 c4=r.1∧zuk a0 a1 g2 g3 c4=r.2:=by
 subst hm;exact or2 h
theorem zw3 {r:Int×Bool×(List Nat)} (hm:a5=big) (h:z0y a0 a1 g2 a5 c3 g4=some r):zfq a0 a1 g2 c3 g4=true∧zuy a0 a1 g2 c3 g4=r.1∧zuw a0 a1 g2 c3 g4=r.2.1∧zbj a0 a1 g2 c3 g4=r.2.2:=by
 subst hm;exact of3 h
theorem zu1{r:Nat×Int×Bool}(hm:a3=big)(h:z0v a0 a3 a1 c2=some r):z1e a0 a1 c2=true∧z0d a0 a1 c2=r.1∧zsn a0 a1 c2=r.2.1∧zsq a0 a1 c2=r.2.2:=by
 subst hm;exact of3 h
theorem z8n(h:z5m a0 g1 a2 g3=some e4):z7h a0 g1 a2 g3=true∧z6v a0 g1 a2 g3=e4:=of1 h
theorem zom(h:z1m a0 m1 e2=some e3):z57 a0 m1 e2=true∧z4t a0 m1 e2=e3:=of1 h
theorem y54 {r:Nat×Nat×Nat×(List Nat)×(List Nat)×(List Nat)} (h:z23 a0 g1 a2 g3 a4 g5=some r):zt3 a0 g1 a2 g3 a4 g5=true∧zs0 a0 g1 a2 g3 a4 g5=r.1∧zs1 a0 g1 a2 g3 a4 g5=r.2.1∧zrp a0 g1 a2 g3 a4 g5=r.2.2.1∧zs4 a0 g1 a2 g3 a4 g5=r.2.2.2.1∧zs3 a0 g1 a2 g3 a4 g5=r.2.2.2.2.1∧zry a0 g1 a2 g3 a4 g5=r.2.2.2.2.2:=of6 h
theorem y2e {r:Nat×(List Nat)} (h:z4j a0 g1=some r):zs7 a0 g1=true∧zqk a0 g1=r.1∧zqe a0 g1=r.2:=of2 h
theorem y1p(h:z2h a0=some a1):zqf a0=true∧zh5 a0=a1:=of1 h
theorem y3j(h:z5r a0=some a1):zrk a0=true∧z0f a0=a1:=of1 h
theorem zwh{r:Int×Bool}(hm:a5=big) (h:z1a a0 a1 g2 g3 a5 c4=some (Sum.inr r)):zg0 a0 a1 g2 g3 c4=true∧zf3 a0 a1 g2 g3 c4=false∧zv0 a0 a1 g2 g3 c4=r.1∧zv1 a0 a1 g2 g3 c4=r.2:=by
 subst hm;exact or2 h
theorem y4q{r:Unit}(hm:a8=big) (h:z21 c0 g1 g2 g3 a4 a5 a6 a8 c7=some (Sum.inl r)):zby c0 g1 g2 g3 a4 a5 a6 c7=true∧zaj c0 g1 g2 g3 a4 a5 a6 c7=true:=by
 subst hm;exact ol0 h
theorem y5e{r:Int×Bool}(hm:a8=big) (h:z21 c0 g1 g2 g3 a4 a5 a6 a8 c7=some (Sum.inr r)):zby c0 g1 g2 g3 a4 a5 a6 c7=true∧zaj c0 g1 g2 g3 a4 a5 a6 c7=false∧y2m c0 g1 g2 g3 a4 a5 a6 c7=r.1∧y2v c0 g1 g2 g3 a4 a5 a6 c7=r.2:=by
 subst hm;exact or2 h
theorem zbm(hm:a4=big) (h:z01 a0 c1 g2 a4 c3=some (Sum.inl c5)):z3d a0 c1 g2 c3=true∧z33 a0 c1 g2 c3=true∧z55 a0 c1 g2 c3=c5:=by
 subst hm;exact ol1 h
theorem zbh{r:Int×Bool}(hm:a4=big) (h:z01 a0 c1 g2 a4 c3=some (Sum.inr r)):z3d a0 c1 g2 c3=true∧z33 a0 c1 g2 c3=false∧zb2 a0 c1 g2 c3=r.1∧zay a0 c1 g2 c3=r.2:=by
 subst hm;exact or2 h
theorem zd1(hm:a4=big) (h:z06 a0 c1 g2 a4 c3=some (Sum.inl c5)):z3y a0 c1 g2 c3=true∧z3k a0 c1 g2 c3=true∧z62 a0 c1 g2 c3=c5:=by
 subst hm;exact ol1 h
theorem zde{r:Int×Bool}(hm:a4=big) (h:z06 a0 c1 g2 a4 c3=some (Sum.inr r)):z3y a0 c1 g2 c3=true∧z3k a0 c1 g2 c3=false∧zcn a0 c1 g2 c3=r.1∧zc9 a0 c1 g2 c3=r.2:=by
 subst hm;exact or2 h
theorem y82 {r:Nat×Nat×Nat×Nat×(List Nat)×(List Nat)×(List Nat)×(List Nat)} (h:z1y a0 g1 a2 g3 a4 g5 a6 g7 c8 a9 a10=some r):zp7 a0 g1 a2 g3 a4 g5 a6 g7 c8 a9 a10=true∧znc a0 g1 a2 g3 a4 g5 a6 g7 c8 a9 a10=r.1∧zn1 a0 g1 a2 g3 a4 g5 a6 g7 c8 a9 a10=r.2.1∧zmp a0 g1 a2 g3 a4 g5 a6 g7 c8 a9 a10=r.2.2.1∧znb a0 g1 a2 g3 a4 g5 a6 g7 c8 a9 a10=r.2.2.2.1∧zmv a0 g1 a2 g3 a4 g5 a6 g7 c8 a9 a10=r.2.2.2.2.1∧zmx a0 g1 a2 g3 a4 g5 a6 g7 c8 a9 a10=r.2.2.2.2.2.1∧zog a0 g1 a2 g3 a4 g5 a6 g7 c8 a9 a10=r.2.2.2.2.2.2.1∧zne a0 g1 a2 g3 a4 g5 a6 g7 c8 a9 a10=r.2.2.2.2.2.2.2:=of8 h
theorem y58(h:z6j a0 g1 a2 g3 a4 g5 a6 g7 a8 g9 a10 g11=some e12):zt7 a0 g1 a2 g3 a4 g5 a6 g7 a8 g9 a10 g11=true∧zrr a0 g1 a2 g3 a4 g5 a6 g7 a8 g9 a10 g11=e12:=of1 h
theorem y2d(h:z5t a0 g1 a2 g3=some e4):zrl a0 g1 a2 g3=true∧zqj a0 g1 a2 g3=e4:=of1 h
theorem y9z(h:za9 a0 g1 a2 g3 a4 g5=some e6):y25 a0 g1 a2 g3 a4 g5=true∧y0j a0 g1 a2 g3 a4 g5=e6:=of1 h
theorem zf2(h:z0w a0 g1=some c2):z78 a0 g1=true∧z6u a0 g1=c2:=of1 h
theorem zfv(h:z0z a0 g1=some c2):z7o a0 g1=true∧z7g a0 g1=c2:=of1 h
theorem z8r(h:z6w a0=some a1):z8f a0=true∧z1g a0=a1:=of1 h
theorem zdk(hm:a4=big) (h:z07 a0 c1 g2 a4 c3=some (Sum.inl c5)):z41 a0 c1 g2 c3=true∧z3s a0 c1 g2 c3=true∧z6a a0 c1 g2 c3=c5:=by
 subst hm;exact ol1 h
theorem zdq{r:Int×Bool}(hm:a4=big) (h:z07 a0 c1 g2 a4 c3=some (Sum.inr r)):z41 a0 c1 g2 c3=true∧z3s a0 c1 g2 c3=false∧zcw a0 c1 g2 c3=r.1∧zcz a0 c1 g2 c3=r.2:=by
 subst hm;exact or2 h
theorem y7z(h:z8d a0 g1 a2 g3 a4 g5 a6 g7 c8 a9 a10 a11 g12 a13 g14 a15 g16 a17 g18 c19 a20 a21=some e22):zpl a0 g1 a2 g3 a4 g5 a6 g7 c8 a9 a10 a11 g12 a13 g14 a15 g16 a17 g18 c19 a20 a21=true∧znu a0 g1 a2 g3 a4 g5 a6 g7 c8 a9 a10 a11 g12 a13 g14 a15 g16 a17 g18 c19 a20 a21=e22:=of1 h
theorem zgq(h:z11 a0 g1=some c2):z82 a0 g1=true∧z7q a0 g1=c2:=of1 h
theorem y0o(h:zak a0=some a1):ztv a0=true∧z96 a0=a1:=of1 h
theorem y6m{r:Nat×Nat×Bool}(hm:a3=big)(h:z22 a0 a3 a1 a2=some r):za5 a0 a1 a2=true∧z7l a0 a1 a2=r.1∧y56 a0 a1 a2=r.2.1∧y53 a0 a1 a2=r.2.2:=by
 subst hm;exact of3 h
theorem zcc(h:z0r a0 g1=some e2):z67 a0 g1=true∧z5z a0 g1=e2:=of1 h
theorem zdi(h:z0u a0 g1=some e2):z72 a0 g1=true∧z6e a0 g1=e2:=of1 h
theorem zev(h:z0x a0 g1=some e2):z76 a0 g1=true∧z70 a0 g1=e2:=of1 h
theorem yaj(h:zdd a0=some a1):y5p a0=true∧zti a0=a1:=of1 h
theorem y3z(h:z6i a0=some a1):zu5 a0=true∧z16 a0=a1:=of1 h
theorem y7o(h:z8e a0=some a1):zx6 a0=true∧z4q a0=a1:=of1 h
theorem y4m{r:Unit}(hm:a6=big) (h:z17 c0 g1 a2 a3 a6 a4 c5=some (Sum.inl r)):zhp c0 g1 a2 a3 a4 c5=true∧zfu c0 g1 a2 a3 a4 c5=true:=by
 subst hm;exact ol0 h
theorem y5a{r:Nat×Int×Bool}(hm:a6=big) (h:z17 c0 g1 a2 a3 a6 a4 c5=some (Sum.inr r)):zhp c0 g1 a2 a3 a4 c5=true∧zfu c0 g1 a2 a3 a4 c5=false∧y3f c0 g1 a2 a3 a4 c5=r.1∧y31 c0 g1 a2 a3 a4 c5=r.2.1∧y2u c0 g1 a2 a3 a4 c5=r.2.2:=by
 subst hm;exact or3 h
theorem zhf(h:z1v a0 g1=some e2):z8p a0 g1=true∧z80 a0 g1=e2:=of1 h
theorem y0k(h:zaq a0 g1 a2 g3 a4 g5 a6 g7 c8 a9 a10=some e11):zu2 a0 g1 a2 g3 a4 g5 a6 g7 c8 a9 a10=true∧zr0 a0 g1 a2 g3 a4 g5 a6 g7 c8 a9 a10=e11:=of1 h
theorem zro(h:z4v a0 g1=some e2):zl9 a0 g1=true∧zk3 a0 g1=e2:=of1 h
theorem y5u(h:z7e a0 g1=some e2):zvi a0 g1=true∧zsz a0 g1=e2:=of1 h
theorem z7i(h:z6s a0=some a1):z4y a0=true∧z1o a0=a1:=of1 h
theorem y2f{r:Nat×Nat×Bool}(h:z3m a0 a1=some r):zk7 a0 a1=true∧zih a0 a1=r.1∧zi9 a0 a1=r.2.1∧zhx a0 a1=r.2.2:=of3 h
theorem y3c(h:z5n a0 g1 a2 g3 a4 g5 a6 g7 c8 a9 a10 c11=some e12):zru a0 g1 a2 g3 a4 g5 a6 g7 c8 a9 a10 c11=true∧zql a0 g1 a2 g3 a4 g5 a6 g7 c8 a9 a10 c11=e12:=of1 h
theorem zwb(h:z3v a0 g1 a2 g3 a4 g5 a6 g7 c8 a9 a10 c11 a12=some a13):zm7 a0 g1 a2 g3 a4 g5 a6 g7 c8 a9 a10 c11 a12=true∧zdg a0 g1 a2 g3 a4 g5 a6 g7 c8 a9 a10 c11 a12=a13:=of1 h
theorem zaz(hm:a5=big) (h:z00 a0 c1 g2 a3 a5 c4=some (Sum.inl c6)):z32 a0 c1 g2 a3 c4=true∧z2q a0 c1 g2 a3 c4=true∧z0c a0 c1 g2 a3 c4=c6:=by
 subst hm;exact ol1 h
theorem zba{r:Int×Bool}(hm:a5=big) (h:z00 a0 c1 g2 a3 a5 c4=some (Sum.inr r)):z32 a0 c1 g2 a3 c4=true∧z2q a0 c1 g2 a3 c4=false∧zad a0 c1 g2 a3 c4=r.1∧zaa a0 c1 g2 a3 c4=r.2:=by
 subst hm;exact or2 h
theorem zoy{r:Int×Bool}(hm:a4=big)(h:z1n a0 g1 a2 a4 c3=some r):zrn a0 g1 a2 c3=true∧zn8 a0 g1 a2 c3=r.1∧zz4 a0 g1 a2 c3=r.2:=by
 subst hm;exact of2 h
theorem y9m(h:z9b a0 g1 a2 g3 a4 g5 a6 g7 c8 a9 a10 c11 a12 a13 a14=some e15):y0p a0 g1 a2 g3 a4 g5 a6 g7 c8 a9 a10 c11 a12 a13 a14=true∧zxc a0 g1 a2 g3 a4 g5 a6 g7 c8 a9 a10 c11 a12 a13 a14=e15:=of1 h
theorem zv6{r:Int×Int×Nat×Nat×Nat}(h:z13 a0 g1 a2 g3 a4 g5 a6=some r):zki a0 g1 a2 g3 a4 g5 a6=true∧z2u a0 g1 a2 g3 a4 g5 a6=r.1∧z2r a0 g1 a2 g3 a4 g5 a6=r.2.1∧z46 a0 g1 a2 g3 a4 g5 a6=r.2.2.1∧z7v a0 g1 a2 g3 a4 g5 a6=r.2.2.2.1∧zbo a0 g1 a2 g3 a4 g5 a6=r.2.2.2.2:=of5 h
theorem y7w{r:Int×Int×Nat×Nat}(h:z3q a0 g1 a2 g3 a4 g5 a6=some r):zxd a0 g1 a2 g3 a4 g5 a6=true∧zcp a0 g1 a2 g3 a4 g5 a6=r.1∧zn5 a0 g1 a2 g3 a4 g5 a6=r.2.1∧zve a0 g1 a2 g3 a4 g5 a6=r.2.2.1∧y7q a0 g1 a2 g3 a4 g5 a6=r.2.2.2:=of4 h
theorem zt2{r:Unit}(hm:a5=big) (h:z10 a0 c1 g2 a3 a5 c4=some (Sum.inl r)):z8k a0 c1 g2 a3 c4=true∧z7u a0 c1 g2 a3 c4=true:=by
 subst hm;exact ol0 h
theorem zto{r:Int×Bool}(hm:a5=big) (h:z10 a0 c1 g2 a3 a5 c4=some (Sum.inr r)):z8k a0 c1 g2 a3 c4=true∧z7u a0 c1 g2 a3 c4=false∧zso a0 c1 g2 a3 c4=r.1∧zsm a0 c1 g2 a3 c4=r.2:=by
 subst hm;exact or2 h
theorem zzc(h:z4m a0 g1 a2 g3 a4 g5=some e6):zop a0 g1 a2 g3 a4 g5=true∧zo6 a0 g1 a2 g3 a4 g5=e6:=of1 h
theorem zqg(h:z5o a0 g1 a2 g3 a4 g5 a6 g7 a8=some a9):zj8 a0 g1 a2 g3 a4 g5 a6 g7 a8=true∧z8m a0 g1 a2 g3 a4 g5 a6 g7 a8=a9:=of1 h
theorem y0n(h:zam a0 g1 a2 g3 a4 g5 a6 g7 a8=some a9):ztb a0 g1 a2 g3 a4 g5 a6 g7 a8=true∧zr6 a0 g1 a2 g3 a4 g5 a6 g7 a8=a9:=of1 h
theorem zms{r:Nat×Nat}(h:z2n a0 g1 a2 g3 a4 g5 a6 g7 c8 a9 a10 c11 a12 a13=some r):zh4 a0 g1 a2 g3 a4 g5 a6 g7 c8 a9 a10 c11 a12 a13=true∧zg6 a0 g1 a2 g3 a4 g5 a6 g7 c8 a9 a10 c11 a12 a13=r.1∧zfj a0 g1 a2 g3 a4 g5 a6 g7 c8 a9 a10 c11 a12 a13=r.2:=of2 h
theorem y7c(h:z83 a0 g1 a2 g3 a4 g5 a6=some a7):zy5 a0 g1 a2 g3 a4 g5 a6=true∧zo9 a0 g1 a2 g3 a4 g5 a6=a7:=of1 h
theorem y7v(h:z85 a0 g1 a2 g3 a4 g5 a6=some a7):zy6 a0 g1 a2 g3 a4 g5 a6=true∧zo0 a0 g1 a2 g3 a4 g5 a6=a7:=of1 h
theorem zmr{r:Nat×Nat}(h:z3l a0 g1 a2 g3 a4 g5 a6 g7 c8 a9 a10 c11 a12 a13=some r):zh8 a0 g1 a2 g3 a4 g5 a6 g7 c8 a9 a10 c11 a12 a13=true∧zfw a0 g1 a2 g3 a4 g5 a6 g7 c8 a9 a10 c11 a12 a13=r.1∧zgd a0 g1 a2 g3 a4 g5 a6 g7 c8 a9 a10 c11 a12 a13=r.2:=of2 h
theorem y44{r:Nat×Nat}(h:z4x a0 g1 a2 g3 a4 g5 a6 g7 c8 a9 a10 c11 a12 a13=some r):zt6 a0 g1 a2 g3 a4 g5 a6 g7 c8 a9 a10 c11 a12 a13=true∧zjt a0 g1 a2 g3 a4 g5 a6 g7 c8 a9 a10 c11 a12 a13=r.1∧zjd a0 g1 a2 g3 a4 g5 a6 g7 c8 a9 a10 c11 a12 a13=r.2:=of2 h
theorem zwt{r:Unit}(hm:a6=big) (h:z0o a0 c1 g2 a3 a6 a4 c5=some (Sum.inl r)):z9h a0 c1 g2 a3 a4 c5=true∧z8z a0 c1 g2 a3 a4 c5=true:=by
 subst hm;exact ol0 h
theorem zwg{r:Nat×Int×Bool}(hm:a6=big) (h:z0o a0 c1 g2 a3 a6 a4 c5=some (Sum.inr r)):z9h a0 c1 g2 a3 a4 c5=true∧z8z a0 c1 g2 a3 a4 c5=false∧zv2 a0 c1 g2 a3 a4 c5=r.1∧zuz a0 c1 g2 a3 a4 c5=r.2.1∧zv7 a0 c1 g2 a3 a4 c5=r.2.2:=by
 subst hm;exact or3 h
theorem zqa(h:z5p a0 g1 a2 g3 a4 g5 a6 g7 c8 a9 a10=some e11):zec a0 g1 a2 g3 a4 g5 a6 g7 c8 a9 a10=true∧z8o a0 g1 a2 g3 a4 g5 a6 g7 c8 a9 a10=e11:=of1 h
theorem zvh{r:Nat×Nat×Nat×Nat}(h:z4f a0 g1 a2 g3 a4 g5 a6 g7 c8 a9 a10 c11 a12 a13=some r):zpy a0 g1 a2 g3 a4 g5 a6 g7 c8 a9 a10 c11 a12 a13=true∧zmt a0 g1 a2 g3 a4 g5 a6 g7 c8 a9 a10 c11 a12 a13=r.1∧znd a0 g1 a2 g3 a4 g5 a6 g7 c8 a9 a10 c11 a12 a13=r.2.1∧zvf a0 g1 a2 g3 a4 g5 a6 g7 c8 a9 a10 c11 a12 a13=r.2.2.1∧zvm a0 g1 a2 g3 a4 g5 a6 g7 c8 a9 a10 c11 a12 a13=r.2.2.2:=of4 h
theorem zxe(h:z30 a0 g1 a2 g3 a4 g5 a6 g7 c8 a9 a10 c11 a12 a13 a14 a15=some a16):zo8 a0 g1 a2 g3 a4 g5 a6 g7 c8 a9 a10 c11 a12 a13 a14 a15=true∧z91 a0 g1 a2 g3 a4 g5 a6 g7 c8 a9 a10 c11 a12 a13 a14 a15=a16:=of1 h
theorem zvk(h:z86 a0 g1 a2 g3 a4 g5 a6 g7 c8 a9 a10 c11 a12 a13 a14=some e15):zpz a0 g1 a2 g3 a4 g5 a6 g7 c8 a9 a10 c11 a12 a13 a14=true∧zod a0 g1 a2 g3 a4 g5 a6 g7 c8 a9 a10 c11 a12 a13 a14=e15:=of1 h
theorem y30(h:z3n a0 g1 a2 g3 a4 g5 a6 g7 c8 a9 a10 c11 a12 a13 a14 a15=some a16):zrv a0 g1 a2 g3 a4 g5 a6 g7 c8 a9 a10 c11 a12 a13 a14 a15=true∧zbw a0 g1 a2 g3 a4 g5 a6 g7 c8 a9 a10 c11 a12 a13 a14 a15=a16:=of1 h
theorem y47{r:Nat×Bool}(h:z4u a0 g1 a2 g3 a4 g5 a6 g7 c8 a9 a10 c11 a12 a13 a14 a15=some r):ztw a0 g1 a2 g3 a4 g5 a6 g7 c8 a9 a10 c11 a12 a13 a14 a15=true∧zs6 a0 g1 a2 g3 a4 g5 a6 g7 c8 a9 a10 c11 a12 a13 a14 a15=r.1∧zrz a0 g1 a2 g3 a4 g5 a6 g7 c8 a9 a10 c11 a12 a13 a14 a15=r.2:=of2 h
theorem zxt{r:Unit}(hm:a18=big) (h:z0t c0 a1 a2 a3 g4 g5 g6 g7 a8 a9 a10 a11 c12 a13 a14 a18 a15 a16 c17=some (Sum.inl r)):zh1 c0 a1 a2 a3 g4 g5 g6 g7 a8 a9 a10 a11 c12 a13 a14 a15 a16 c17=true∧zgk c0 a1 a2 a3 g4 g5 g6 g7 a8 a9 a10 a11 c12 a13 a14 a15 a16 c17=true:=by
 subst hm;exact ol0 h
theorem zxv{r:Nat×Nat×Int×Bool}(hm:a18=big) (h:z0t c0 a1 a2 a3 g4 g5 g6 g7 a8 a9 a10 a11 c12 a13 a14 a18 a15 a16 c17=some (Sum.inr r)):zh1 c0 a1 a2 a3 g4 g5 g6 g7 a8 a9 a10 a11 c12 a13 a14 a15 a16 c17=true∧zgk c0 a1 a2 a3 g4 g5 g6 g7 a8 a9 a10 a11 c12 a13 a14 a15 a16 c17=false∧zk9 c0 a1 a2 a3 g4 g5 g6 g7 a8 a9 a10 a11 c12 a13 a14 a15 a16 c17=r.1∧zwi c0 a1 a2 a3 g4 g5 g6 g7 a8 a9 a10 a11 c12 a13 a14 a15 a16 c17=r.2.1∧zvv c0 a1 a2 a3 g4 g5 g6 g7 a8 a9 a10 a11 c12 a13 a14 a15 a16 c17=r.2.2.1∧zwa c0 a1 a2 a3 g4 g5 g6 g7 a8 a9 a10 a11 c12 a13 a14 a15 a16 c17=r.2.2.2:=by
 subst hm;exact or4 h
end
end Go.Rf
