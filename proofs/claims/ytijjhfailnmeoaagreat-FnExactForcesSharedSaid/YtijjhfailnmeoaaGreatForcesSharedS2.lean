import Derived.Test.YtijjhfailnmeoaaGreatForcesSharedF
set_option linter.unusedVariables false
set_option linter.unusedSimpArgs false
set_option linter.unusedSectionVars false
set_option maxRecDepth 100000
set_option maxHeartbeats 4000000
namespace Go.Proofs.YtijjhfailnmeoaaGreat
open Go Go.Rf
open Go.ConcR (Payload)
variable [Payload] {W:World} {Post:Value→World→Prop}
noncomputable section
variable (a0:Nat) (c1:Int) (g1:List Nat) (a2:Nat) (c2:Int) (g2:List Nat) (g3:List Nat) (a4:Nat) (g4:List Nat) (a5:Nat) (g5:List Nat) (a6:Nat) (g6:List Nat) (a7:Nat) (g7:List Nat) (a8:Nat) (c8:Int) (a9:Nat) (c9:Int) (a10:Nat) (a11:Nat) (c11:Int) (a12:Nat) (g12:List Nat) (a13:Nat) (g13:List Nat) (a14:Nat) (g14:List Nat) (a15:Nat) (c15:Int) (g15:List Nat) (a16:Nat) (c16:Int) (g16:List Nat) (a17:Nat) (e17:Bool) (g17:List Nat) (a18:Nat) (c18:Int) (g18:List Nat) (a19:Nat) (a20:Nat) (c20:Int) (a21:Nat) (g21:List Nat) (a22:Nat) (g22:List Nat) (g23:List Nat) (g24:List Nat) (g25:List Nat) (a26:Nat) (g26:List Nat) (a27:Nat) (g27:List Nat) (a28:Nat) (g28:List Nat) (a29:Nat) (a30:Nat) (c30:Int) (a31:Nat) (a32:Nat) (a33:Nat) (c33:Int) (a34:Nat) (c34:Int) (a35:Nat) (e35:Bool) (a36:Nat) (c36:Int) (g36:List Nat) (a37:Nat) (c37:Int) (a38:Nat) (e38:Bool) (g39:List Nat)
def zgx:List PT→Option (Bool×AV×List Blk)
 | [.agg [.row 1 an (.fl .f32 al),.row 1 ln (.fl .f32 ll),.row 1 dn (.fl .f32 dl),.row 3 sn (.fl .f32 sl),.s (.int .i64 cc),.s (.flt .f32 hb),.s (.flt .f32 tp)],.one (.s (.flt .f32 x2)),.one (.s (.flt .f32 x3)),.one (.s (.flt .f32 x4)),.one (.s (.flt .f32 x5)),.one (.s (.int .i64 ws))]=>some ((z7z an al ln ll dn dl sn sl cc hb tp x2 x3 x4 x5 ws),((.tup [(.one (.sl 0 0 (z5a an al ln ll dn dl sn sl cc hb tp x2 x3 x4 x5 ws) 1)),(.one (.sl 1 0 (z5c an al ln ll dn dl sn sl cc hb tp x2 x3 x4 x5 ws) 1)),(.one (.bool (z18 an al ln ll dn dl sn sl cc hb tp x2 x3 x4 x5 ws)))]),[(.mk true (.fl .f32 (z5d an al ln ll dn dl sn sl cc hb tp x2 x3 x4 x5 ws))),(.mk true (.fl .f32 (z56 an al ln ll dn dl sn sl cc hb tp x2 x3 x4 x5 ws)))]))
 | _=>none
theorem zwf:SumOne (mainJ Tryz.prog W Post) 19 zgx:=by
 intro pts v news hp w vals hv
 unfold zgx at hp
 split at hp
 ·rename_i an al ln ll dn dl sn sl cc hb tp x2 x3 x4 x5 ws
  injection hp with hp
  injection hp with h1 hp
  injection hp with h2 h3
  subst h2
  subst h3
  have h:=core (W:=W) (Post:=Post) (p:=⟨an,al,ln,ll,dn,dl,sn,sl,cc,hb,tp,x2,x3,x4,x5,ws.toNat⟩) (ws:=ws) rfl h1 hv
  have e:FP.ans ⟨an,al,ln,ll,dn,dl,sn,sl,cc,hb,tp,x2,x3,x4,x5,ws.toNat⟩ ws=((AV.tup [(TV.one (At.sl 0 0 (z5a an al ln ll dn dl sn sl cc hb tp x2 x3 x4 x5 ws) 1)),(TV.one (At.sl 1 0 (z5c an al ln ll dn dl sn sl cc hb tp x2 x3 x4 x5 ws) 1)),(TV.one (At.bool (z18 an al ln ll dn dl sn sl cc hb tp x2 x3 x4 x5 ws)))]),[(Blk.mk Bool.true (Body.fl .f32 (z5d an al ln ll dn dl sn sl cc hb tp x2 x3 x4 x5 ws))),(Blk.mk Bool.true (Body.fl .f32 (z56 an al ln ll dn dl sn sl cc hb tp x2 x3 x4 x5 ws)))]):=by
   unfold z5a z5c z5d z56
   show (match z18 an al ln ll dn dl sn sl cc hb tp x2 x3 x4 x5 ws with | true=>answer (z9r an al ln ll dn dl sn sl cc hb tp x2 x3 x4 x5 ws) (z9l an al ln ll dn dl sn sl cc hb tp x2 x3 x4 x5 ws) sn sn Bool.true | false=>answer [] [] 0 0 Bool.false)=_
   cases z18 an al ln ll dn dl sn sl cc hb tp x2 x3 x4 x5 ws<;>rfl
  rw[e] at h
  exact h
 ·cases hp
def tb39:List (Nat×(List PT→Option (Bool×AV×List Blk))):=(19,zgx)::tb24
def lt39:List ((Nat×Nat)×(Nat→St→Option (Bool×LO))):=((39,2),z6f)::lt24
def Γ39:Ctx:=⟨tyTab,fnTab,tblSum tb39,tblLp lt39⟩
theorem y9o:SumL (mainJ Tryz.prog W Post) tb39:=SumL.cons zwf (y83)
theorem y9d:LpL (mainJ Tryz.prog W Post) fnTab lt39:=LpL.cons zbg (y8c)
def z1j:St:=(.mk [(x0S 0 9 a0 1),(x0I 1 c1),(x0I 5 c2)] [(x0L g3),(x0L g4),(x0L g5),(x0L g6),(x0R true 0 1 2 3 a7 a8 a9 a10 c11 a12 a13),(x0T g14),(x0T g15),(.mk true (.cells [(.sl 8 0 a16 1),(.sl 9 0 a17 1),(.sl 10 0 a18 1),(.sl 11 0 a19 3),(.int .i64 c20),(.flt .f32 a21),(.flt .f32 a22)])),(x0T g23),(x0T g24),(x0T g25),(x0T g26),(x0T g27),(x0T g28),(.mk true (.cells [(.sl 8 0 a29 1),(.sl 9 0 a30 1),(.sl 10 0 a31 1),(.sl 11 0 a32 3),(.int .i64 c33),(.flt .f32 a34),(.flt .f32 a35)])),(.mk true (.cells [(.sl 8 0 a36 1),(.sl 9 0 a37 1),(.sl 10 0 a38 1)]))])
def z2s:St:=(.mk [(x0S 0 9 a0 1),(x0I 1 c36),(x0I 5 c37),(x0B 9 e38)] [(x0L g1),(x0L g2),(x0L g3),(x0L g4),(x0R true 0 1 2 3 a5 a6 a7 a8 c9 a10 a11),(x0T g12),(x0T g13),(.mk true (.cells [(.sl 8 0 a14 1),(.sl 9 0 a15 1),(.sl 10 0 a16 1),(.sl 11 0 a17 3),(.int .i64 c18),(.flt .f32 a19),(.flt .f32 a20)])),(x0T g21),(x0T g39),(x0T g22),(x0T g23),(x0T g24),(x0T g25),(.mk true (.cells [(.sl 8 0 a26 1),(.sl 9 0 a27 1),(.sl 10 0 a28 1),(.sl 11 0 a29 3),(.int .i64 c30),(.flt .f32 a31),(.flt .f32 a32)])),(.mk true (.cells [(.sl 8 0 a33 1),(.sl 9 0 a34 1),(.sl 10 0 a35 1)]))])
def z36:Option ((Int×Int×Bool×(List Nat)))→Option (Ex×St)
 | none=>none
 | some r=>some ((.exit 0),(z2s a0 g1 g2 g3 g4 a5 a6 a7 a8 c9 a10 a11 g12 g13 a14 a15 a16 a17 c18 a19 a20 g21 g22 g23 g24 g25 a26 a27 a28 a29 c30 a31 a32 a33 a34 a35 r.1 r.2.1 r.2.2.1 r.2.2.2))
def z5j (x:Option ((Int×Int×Bool×(List Nat)))):LO:=(.one (.exit 0) (z2s a0 g1 g2 g3 g4 a5 a6 a7 a8 c9 a10 a11 g12 g13 a14 a15 a16 a17 c18 a19 a20 g21 g22 g23 g24 g25 a26 a27 a28 a29 c30 a31 a32 a33 a34 a35 (x.getD default).1 (x.getD default).2.1 (x.getD default).2.2.1 (x.getD default).2.2.2))
def zb0:Bool×LO:=sL (z5j a0 g3 g4 g5 g6 a7 a8 a9 a10 c11 a12 a13 g14 g15 a16 a17 a18 a19 c20 a21 a22 g23 g25 g26 g27 g28 a29 a30 a31 a32 c33 a34 a35 a36 a37 a38) (z05 a0 big c1 c2 g24)
def z60:Nat→St→Option (Bool×LO):=lpT 16 (pSt [(x1S 0 9 1),(x1I 1),(x1I 5)] [x1L,x1L,x1L,x1L,(x1R true 0 1 2 3),x1T,x1T,(pBlk true (pCells [(pSl 8 (liN 0) 1),(pSl 9 (liN 0) 1),(pSl 10 (liN 0) 1),(pSl 11 (liN 0) 3),(pInt .i64),(pFlt .f32),(pFlt .f32)])),x1T,x1T,x1T,x1T,x1T,x1T,(pBlk true (pCells [(pSl 8 (liN 0) 1),(pSl 9 (liN 0) 1),(pSl 10 (liN 0) 1),(pSl 11 (liN 0) 3),(pInt .i64),(pFlt .f32),(pFlt .f32)])),(pBlk true (pCells [(pSl 8 (liN 0) 1),(pSl 9 (liN 0) 1),(pSl 10 (liN 0) 1)]))]) (fun hs=>zb0 (hN hs 0) (hI hs 1) (hI hs 2) (hLn hs 3) (hLn hs 4) (hLn hs 5) (hLn hs 6) (hN hs 7) (hN hs 8) (hN hs 9) (hN hs 10) (hI hs 11) (hN hs 12) (hN hs 13) (hLn hs 14) (hLn hs 15) (hN hs 16) (hN hs 17) (hN hs 18) (hN hs 19) (hI hs 20) (hN hs 21) (hN hs 22) (hLn hs 23) (hLn hs 24) (hLn hs 25) (hLn hs 26) (hLn hs 27) (hLn hs 28) (hN hs 29) (hN hs 30) (hN hs 31) (hN hs 32) (hI hs 33) (hN hs 34) (hN hs 35) (hN hs 36) (hN hs 37) (hN hs 38))
theorem zbs:∀ x:Option ((Int×Int×Bool×(List Nat))),x.isSome=true→(z36 a0 g1 g2 g3 g4 a5 a6 a7 a8 c9 a10 a11 g12 g13 a14 a15 a16 a17 c18 a19 a20 g21 g22 g23 g24 g25 a26 a27 a28 a29 c30 a31 a32 a33 a34 a35) x=some (pick (z5j a0 g1 g2 g3 g4 a5 a6 a7 a8 c9 a10 a11 g12 g13 a14 a15 a16 a17 c18 a19 a20 g21 g22 g23 g24 g25 a26 a27 a28 a29 c30 a31 a32 a33 a34 a35 x))
 | none,h=>by cases h
 | some r,_=>rfl
theorem zcb (K:Ex→St→Option (Ex×St)):ev9 Γ39 39 2 16 fi39 (z1j a0 c1 c2 g3 g4 g5 g6 a7 a8 a9 a10 c11 a12 a13 g14 g15 a16 a17 a18 a19 c20 a21 a22 g23 g24 g25 g26 g27 g28 a29 a30 a31 a32 c33 a34 a35 a36 a37 a38) K=z0m a0 c1 c2 g24 (fun k' i' b9'=>K .normal (z1j a0 k' i' g3 g4 g5 g6 a7 a8 a9 a10 c11 a12 a13 g14 g15 a16 a17 a18 a19 c20 a21 a22 g23 b9' g25 g26 g27 g28 a29 a30 a31 a32 c33 a34 a35 a36 a37 a38)) (fun c0_ c1_ c2_ c3_=>K (.exit 0) (z2s a0 g3 g4 g5 g6 a7 a8 a9 a10 c11 a12 a13 g14 g15 a16 a17 a18 a19 c20 a21 a22 g23 g25 g26 g27 g28 a29 a30 a31 a32 c33 a34 a35 a36 a37 a38 c0_ c1_ c2_ c3_)):=by kernel_rfl
theorem zbz:∀ (n:Nat) (k i:Int) (b9:List Nat),iter 39 2 16 (ev9 Γ39 39 2 16 fi39) n (z1j a0 k i g1 g2 g3 g4 a5 a6 a7 a8 c9 a10 a11 g12 g13 a14 a15 a16 a17 c18 a19 a20 g21 b9 g22 g23 g24 g25 a26 a27 a28 a29 c30 a31 a32 a33 a34 a35) (fun e st=>some (e,st))=(z36 a0 g1 g2 g3 g4 a5 a6 a7 a8 c9 a10 a11 g12 g13 a14 a15 a16 a17 c18 a19 a20 g21 g22 g23 g24 g25 a26 a27 a28 a29 c30 a31 a32 a33 a34 a35) (z05 a0 n k i b9):=by
 intro n
 induction n with
 | zero=>intros;rfl
 | succ n ih=>
  intro k i b9
  refine Eq.trans (iter_succ ..) (Eq.trans (zcb ..) (Eq.trans ?_ (za7 a0 k i b9 (z36 a0 g1 g2 g3 g4 a5 a6 a7 a8 c9 a10 a11 g12 g13 a14 a15 a16 a17 c18 a19 a20 g21 g22 g23 g24 g25 a26 a27 a28 a29 c30 a31 a32 a33 a34 a35) rfl (fun k' i' b9'=>z05 a0 n k' i' b9') (fun c0_ c1_ c2_ c3_=>some (c0_,c1_,c2_,c3_)))))
  exact congrArg (fun kn_=>z0m a0 k i b9 kn_ _) (funext fun k'=>funext fun i'=>funext fun b9'=>ih ..)
theorem zae:LoopOne (mainJ Tryz.prog W Post) fnTab 39 2 z60:=lpK y9o y9d (fi:=fi39) (by kernel_rfl) (by kernel_rfl) (q:=fun hs=>(z1j (hN hs 0) (hI hs 1) (hI hs 2) (hLn hs 3) (hLn hs 4) (hLn hs 5) (hLn hs 6) (hN hs 7) (hN hs 8) (hN hs 9) (hN hs 10) (hI hs 11) (hN hs 12) (hN hs 13) (hLn hs 14) (hLn hs 15) (hN hs 16) (hN hs 17) (hN hs 18) (hN hs 19) (hI hs 20) (hN hs 21) (hN hs 22) (hLn hs 23) (hLn hs 24) (hLn hs 25) (hLn hs 26) (hLn hs 27) (hLn hs 28) (hN hs 29) (hN hs 30) (hN hs 31) (hN hs 32) (hI hs 33) (hN hs 34) (hN hs 35) (hN hs 36) (hN hs 37) (hN hs 38))) (fun hs=>by kernel_rfl) fun hs h1=>Eq.trans (zbz (hN hs 0) (hLn hs 3) (hLn hs 4) (hLn hs 5) (hLn hs 6) (hN hs 7) (hN hs 8) (hN hs 9) (hN hs 10) (hI hs 11) (hN hs 12) (hN hs 13) (hLn hs 14) (hLn hs 15) (hN hs 16) (hN hs 17) (hN hs 18) (hN hs 19) (hI hs 20) (hN hs 21) (hN hs 22) (hLn hs 23) (hLn hs 25) (hLn hs 26) (hLn hs 27) (hLn hs 28) (hN hs 29) (hN hs 30) (hN hs 31) (hN hs 32) (hI hs 33) (hN hs 34) (hN hs 35) (hN hs 36) (hN hs 37) (hN hs 38) big (hI hs 1) (hI hs 2) (hLn hs 24)) (zbs (hN hs 0) (hLn hs 3) (hLn hs 4) (hLn hs 5) (hLn hs 6) (hN hs 7) (hN hs 8) (hN hs 9) (hN hs 10) (hI hs 11) (hN hs 12) (hN hs 13) (hLn hs 14) (hLn hs 15) (hN hs 16) (hN hs 17) (hN hs 18) (hN hs 19) (hI hs 20) (hN hs 21) (hN hs 22) (hLn hs 23) (hLn hs 25) (hLn hs 26) (hLn hs 27) (hLn hs 28) (hN hs 29) (hN hs 30) (hN hs 31) (hN hs 32) (hI hs 33) (hN hs 34) (hN hs 35) (hN hs 36) (hN hs 37) (hN hs 38) _ h1)
def tb41:List (Nat×(List PT→Option (Bool×AV×List Blk))):=tb39
def lt41:List ((Nat×Nat)×(Nat→St→Option (Bool×LO))):=((39,2),z60)::lt39
def Γ41:Ctx:=⟨tyTab,fnTab,tblSum tb41,tblLp lt41⟩
theorem y99:SumL (mainJ Tryz.prog W Post) tb41:=y9o
theorem y9i:LpL (mainJ Tryz.prog W Post) fnTab lt41:=LpL.cons zae (y9d)
def z1h:St:=(.mk [(x0S 0 10 a0 1),(x0I 1 c1),(x0I 5 c2)] [(x0L g3),(x0L g4),(x0L g5),(x0L g6),(x0R true 0 1 2 3 a7 a8 a9 a10 c11 a12 a13),(x0T g14),(x0T g15),(.mk true (.cells [(.sl 8 0 a16 1),(.sl 9 0 a17 1),(.sl 10 0 a18 1),(.sl 11 0 a19 3),(.int .i64 c20),(.flt .f32 a21),(.flt .f32 a22)])),(x0T g23),(x0T g24),(x0T g25),(x0T g26),(x0T g27),(x0T g28),(.mk true (.cells [(.sl 8 0 a29 1),(.sl 9 0 a30 1),(.sl 10 0 a31 1),(.sl 11 0 a32 3),(.int .i64 c33),(.flt .f32 a34),(.flt .f32 a35)])),(.mk true (.cells [(.sl 8 0 a36 1),(.sl 9 0 a37 1),(.sl 10 0 a38 1)]))])
def z2v:St:=(.mk [(x0S 0 10 a0 1),(x0I 1 c36),(x0I 5 c37),(x0B 9 e38)] [(x0L g1),(x0L g2),(x0L g3),(x0L g4),(x0R true 0 1 2 3 a5 a6 a7 a8 c9 a10 a11),(x0T g12),(x0T g13),(.mk true (.cells [(.sl 8 0 a14 1),(.sl 9 0 a15 1),(.sl 10 0 a16 1),(.sl 11 0 a17 3),(.int .i64 c18),(.flt .f32 a19),(.flt .f32 a20)])),(x0T g21),(x0T g22),(x0T g39),(x0T g23),(x0T g24),(x0T g25),(.mk true (.cells [(.sl 8 0 a26 1),(.sl 9 0 a27 1),(.sl 10 0 a28 1),(.sl 11 0 a29 3),(.int .i64 c30),(.flt .f32 a31),(.flt .f32 a32)])),(.mk true (.cells [(.sl 8 0 a33 1),(.sl 9 0 a34 1),(.sl 10 0 a35 1)]))])
def z2z:Option ((Int×Int×Bool×(List Nat)))→Option (Ex×St)
 | none=>none
 | some r=>some ((.exit 0),(z2v a0 g1 g2 g3 g4 a5 a6 a7 a8 c9 a10 a11 g12 g13 a14 a15 a16 a17 c18 a19 a20 g21 g22 g23 g24 g25 a26 a27 a28 a29 c30 a31 a32 a33 a34 a35 r.1 r.2.1 r.2.2.1 r.2.2.2))
def z5e (x:Option ((Int×Int×Bool×(List Nat)))):LO:=(.one (.exit 0) (z2v a0 g1 g2 g3 g4 a5 a6 a7 a8 c9 a10 a11 g12 g13 a14 a15 a16 a17 c18 a19 a20 g21 g22 g23 g24 g25 a26 a27 a28 a29 c30 a31 a32 a33 a34 a35 (x.getD default).1 (x.getD default).2.1 (x.getD default).2.2.1 (x.getD default).2.2.2))
def zb3:Bool×LO:=sL (z5e a0 g3 g4 g5 g6 a7 a8 a9 a10 c11 a12 a13 g14 g15 a16 a17 a18 a19 c20 a21 a22 g23 g24 g26 g27 g28 a29 a30 a31 a32 c33 a34 a35 a36 a37 a38) (z03 a0 big c1 c2 g25)
def z63:Nat→St→Option (Bool×LO):=lpT 16 (pSt [(x1S 0 10 1),(x1I 1),(x1I 5)] [x1L,x1L,x1L,x1L,(x1R true 0 1 2 3),x1T,x1T,(pBlk true (pCells [(pSl 8 (liN 0) 1),(pSl 9 (liN 0) 1),(pSl 10 (liN 0) 1),(pSl 11 (liN 0) 3),(pInt .i64),(pFlt .f32),(pFlt .f32)])),x1T,x1T,x1T,x1T,x1T,x1T,(pBlk true (pCells [(pSl 8 (liN 0) 1),(pSl 9 (liN 0) 1),(pSl 10 (liN 0) 1),(pSl 11 (liN 0) 3),(pInt .i64),(pFlt .f32),(pFlt .f32)])),(pBlk true (pCells [(pSl 8 (liN 0) 1),(pSl 9 (liN 0) 1),(pSl 10 (liN 0) 1)]))]) (fun hs=>zb3 (hN hs 0) (hI hs 1) (hI hs 2) (hLn hs 3) (hLn hs 4) (hLn hs 5) (hLn hs 6) (hN hs 7) (hN hs 8) (hN hs 9) (hN hs 10) (hI hs 11) (hN hs 12) (hN hs 13) (hLn hs 14) (hLn hs 15) (hN hs 16) (hN hs 17) (hN hs 18) (hN hs 19) (hI hs 20) (hN hs 21) (hN hs 22) (hLn hs 23) (hLn hs 24) (hLn hs 25) (hLn hs 26) (hLn hs 27) (hLn hs 28) (hN hs 29) (hN hs 30) (hN hs 31) (hN hs 32) (hI hs 33) (hN hs 34) (hN hs 35) (hN hs 36) (hN hs 37) (hN hs 38))
theorem zbt:∀ x:Option ((Int×Int×Bool×(List Nat))),x.isSome=true→(z2z a0 g1 g2 g3 g4 a5 a6 a7 a8 c9 a10 a11 g12 g13 a14 a15 a16 a17 c18 a19 a20 g21 g22 g23 g24 g25 a26 a27 a28 a29 c30 a31 a32 a33 a34 a35) x=some (pick (z5e a0 g1 g2 g3 g4 a5 a6 a7 a8 c9 a10 a11 g12 g13 a14 a15 a16 a17 c18 a19 a20 g21 g22 g23 g24 g25 a26 a27 a28 a29 c30 a31 a32 a33 a34 a35 x))
 | none,h=>by cases h
 | some r,_=>rfl
theorem zcf (K:Ex→St→Option (Ex×St)):ev9 Γ41 39 2 16 fi39 (z1h a0 c1 c2 g3 g4 g5 g6 a7 a8 a9 a10 c11 a12 a13 g14 g15 a16 a17 a18 a19 c20 a21 a22 g23 g24 g25 g26 g27 g28 a29 a30 a31 a32 c33 a34 a35 a36 a37 a38) K=z0n a0 c1 c2 g25 (fun k' i' b10'=>K .normal (z1h a0 k' i' g3 g4 g5 g6 a7 a8 a9 a10 c11 a12 a13 g14 g15 a16 a17 a18 a19 c20 a21 a22 g23 g24 b10' g26 g27 g28 a29 a30 a31 a32 c33 a34 a35 a36 a37 a38)) (fun c0_ c1_ c2_ c3_=>K (.exit 0) (z2v a0 g3 g4 g5 g6 a7 a8 a9 a10 c11 a12 a13 g14 g15 a16 a17 a18 a19 c20 a21 a22 g23 g24 g26 g27 g28 a29 a30 a31 a32 c33 a34 a35 a36 a37 a38 c0_ c1_ c2_ c3_)):=by kernel_rfl
theorem zc1:∀ (n:Nat) (k i:Int) (b10:List Nat),iter 39 2 16 (ev9 Γ41 39 2 16 fi39) n (z1h a0 k i g1 g2 g3 g4 a5 a6 a7 a8 c9 a10 a11 g12 g13 a14 a15 a16 a17 c18 a19 a20 g21 g22 b10 g23 g24 g25 a26 a27 a28 a29 c30 a31 a32 a33 a34 a35) (fun e st=>some (e,st))=(z2z a0 g1 g2 g3 g4 a5 a6 a7 a8 c9 a10 a11 g12 g13 a14 a15 a16 a17 c18 a19 a20 g21 g22 g23 g24 g25 a26 a27 a28 a29 c30 a31 a32 a33 a34 a35) (z03 a0 n k i b10):=by
 intro n
 induction n with
 | zero=>intros;rfl
 | succ n ih=>
  intro k i b10
  refine Eq.trans (iter_succ ..) (Eq.trans (zcf ..) (Eq.trans ?_ (za2 a0 k i b10 (z2z a0 g1 g2 g3 g4 a5 a6 a7 a8 c9 a10 a11 g12 g13 a14 a15 a16 a17 c18 a19 a20 g21 g22 g23 g24 g25 a26 a27 a28 a29 c30 a31 a32 a33 a34 a35) rfl (fun k' i' b10'=>z03 a0 n k' i' b10') (fun c0_ c1_ c2_ c3_=>some (c0_,c1_,c2_,c3_)))))
  exact congrArg (fun kn_=>z0n a0 k i b10 kn_ _) (funext fun k'=>funext fun i'=>funext fun b10'=>ih ..)
theorem zaf:LoopOne (mainJ Tryz.prog W Post) fnTab 39 2 z63:=lpK y99 y9i (fi:=fi39) (by kernel_rfl) (by kernel_rfl) (q:=fun hs=>(z1h (hN hs 0) (hI hs 1) (hI hs 2) (hLn hs 3) (hLn hs 4) (hLn hs 5) (hLn hs 6) (hN hs 7) (hN hs 8) (hN hs 9) (hN hs 10) (hI hs 11) (hN hs 12) (hN hs 13) (hLn hs 14) (hLn hs 15) (hN hs 16) (hN hs 17) (hN hs 18) (hN hs 19) (hI hs 20) (hN hs 21) (hN hs 22) (hLn hs 23) (hLn hs 24) (hLn hs 25) (hLn hs 26) (hLn hs 27) (hLn hs 28) (hN hs 29) (hN hs 30) (hN hs 31) (hN hs 32) (hI hs 33) (hN hs 34) (hN hs 35) (hN hs 36) (hN hs 37) (hN hs 38))) (fun hs=>by kernel_rfl) fun hs h1=>Eq.trans (zc1 (hN hs 0) (hLn hs 3) (hLn hs 4) (hLn hs 5) (hLn hs 6) (hN hs 7) (hN hs 8) (hN hs 9) (hN hs 10) (hI hs 11) (hN hs 12) (hN hs 13) (hLn hs 14) (hLn hs 15) (hN hs 16) (hN hs 17) (hN hs 18) (hN hs 19) (hI hs 20) (hN hs 21) (hN hs 22) (hLn hs 23) (hLn hs 24) (hLn hs 26) (hLn hs 27) (hLn hs 28) (hN hs 29) (hN hs 30) (hN hs 31) (hN hs 32) (hI hs 33) (hN hs 34) (hN hs 35) (hN hs 36) (hN hs 37) (hN hs 38) big (hI hs 1) (hI hs 2) (hLn hs 25)) (zbt (hN hs 0) (hLn hs 3) (hLn hs 4) (hLn hs 5) (hLn hs 6) (hN hs 7) (hN hs 8) (hN hs 9) (hN hs 10) (hI hs 11) (hN hs 12) (hN hs 13) (hLn hs 14) (hLn hs 15) (hN hs 16) (hN hs 17) (hN hs 18) (hN hs 19) (hI hs 20) (hN hs 21) (hN hs 22) (hLn hs 23) (hLn hs 24) (hLn hs 26) (hLn hs 27) (hLn hs 28) (hN hs 29) (hN hs 30) (hN hs 31) (hN hs 32) (hI hs 33) (hN hs 34) (hN hs 35) (hN hs 36) (hN hs 37) (hN hs 38) _ h1)
def tb43:List (Nat×(List PT→Option (Bool×AV×List Blk))):=tb41
def lt43:List ((Nat×Nat)×(Nat→St→Option (Bool×LO))):=((39,2),z63)::lt41
def Γ43:Ctx:=⟨tyTab,fnTab,tblSum tb43,tblLp lt43⟩
theorem y9l:SumL (mainJ Tryz.prog W Post) tb43:=y99
theorem y9j:LpL (mainJ Tryz.prog W Post) fnTab lt43:=LpL.cons zaf (y9i)
def z1w:St:=(.mk [(x0S 0 11 a0 3),(x0I 1 c1),(x0I 5 c2)] [(x0L g3),(x0L g4),(x0L g5),(x0L g6),(x0R true 0 1 2 3 a7 a8 a9 a10 c11 a12 a13),(x0T g14),(x0T g15),(.mk true (.cells [(.sl 8 0 a16 1),(.sl 9 0 a17 1),(.sl 10 0 a18 1),(.sl 11 0 a19 3),(.int .i64 c20),(.flt .f32 a21),(.flt .f32 a22)])),(x0T g23),(x0T g24),(x0T g25),(x0T g26),(x0T g27),(x0T g28),(.mk true (.cells [(.sl 8 0 a29 1),(.sl 9 0 a30 1),(.sl 10 0 a31 1),(.sl 11 0 a32 3),(.int .i64 c33),(.flt .f32 a34),(.flt .f32 a35)]))])
def z3c:St:=(.mk [(x0S 0 11 a0 3),(x0I 1 c33),(x0I 5 c34),(x0B 9 e35)] [(x0L g1),(x0L g2),(x0L g3),(x0L g4),(x0R true 0 1 2 3 a5 a6 a7 a8 c9 a10 a11),(x0T g12),(x0T g13),(.mk true (.cells [(.sl 8 0 a14 1),(.sl 9 0 a15 1),(.sl 10 0 a16 1),(.sl 11 0 a17 3),(.int .i64 c18),(.flt .f32 a19),(.flt .f32 a20)])),(x0T g21),(x0T g22),(x0T g23),(x0T g36),(x0T g24),(x0T g25),(.mk true (.cells [(.sl 8 0 a26 1),(.sl 9 0 a27 1),(.sl 10 0 a28 1),(.sl 11 0 a29 3),(.int .i64 c30),(.flt .f32 a31),(.flt .f32 a32)]))])
def z3g:Option ((Int×Int×Bool×(List Nat)))→Option (Ex×St)
 | none=>none
 | some r=>some ((.exit 0),(z3c a0 g1 g2 g3 g4 a5 a6 a7 a8 c9 a10 a11 g12 g13 a14 a15 a16 a17 c18 a19 a20 g21 g22 g23 g24 g25 a26 a27 a28 a29 c30 a31 a32 r.1 r.2.1 r.2.2.1 r.2.2.2))
def z69 (x:Option ((Int×Int×Bool×(List Nat)))):LO:=(.one (.exit 0) (z3c a0 g1 g2 g3 g4 a5 a6 a7 a8 c9 a10 a11 g12 g13 a14 a15 a16 a17 c18 a19 a20 g21 g22 g23 g24 g25 a26 a27 a28 a29 c30 a31 a32 (x.getD default).1 (x.getD default).2.1 (x.getD default).2.2.1 (x.getD default).2.2.2))
def zch:Bool×LO:=sL (z69 a0 g3 g4 g5 g6 a7 a8 a9 a10 c11 a12 a13 g14 g15 a16 a17 a18 a19 c20 a21 a22 g23 g24 g25 g27 g28 a29 a30 a31 a32 c33 a34 a35) (z09 a0 big c1 c2 g26)
def z6g:Nat→St→Option (Bool×LO):=lpT 15 (pSt [(x1S 0 11 3),(x1I 1),(x1I 5)] [x1L,x1L,x1L,x1L,(x1R true 0 1 2 3),x1T,x1T,(pBlk true (pCells [(pSl 8 (liN 0) 1),(pSl 9 (liN 0) 1),(pSl 10 (liN 0) 1),(pSl 11 (liN 0) 3),(pInt .i64),(pFlt .f32),(pFlt .f32)])),x1T,x1T,x1T,x1T,x1T,x1T,(pBlk true (pCells [(pSl 8 (liN 0) 1),(pSl 9 (liN 0) 1),(pSl 10 (liN 0) 1),(pSl 11 (liN 0) 3),(pInt .i64),(pFlt .f32),(pFlt .f32)]))]) (fun hs=>zch (hN hs 0) (hI hs 1) (hI hs 2) (hLn hs 3) (hLn hs 4) (hLn hs 5) (hLn hs 6) (hN hs 7) (hN hs 8) (hN hs 9) (hN hs 10) (hI hs 11) (hN hs 12) (hN hs 13) (hLn hs 14) (hLn hs 15) (hN hs 16) (hN hs 17) (hN hs 18) (hN hs 19) (hI hs 20) (hN hs 21) (hN hs 22) (hLn hs 23) (hLn hs 24) (hLn hs 25) (hLn hs 26) (hLn hs 27) (hLn hs 28) (hN hs 29) (hN hs 30) (hN hs 31) (hN hs 32) (hI hs 33) (hN hs 34) (hN hs 35))
theorem zdl:∀ x:Option ((Int×Int×Bool×(List Nat))),x.isSome=true→(z3g a0 g1 g2 g3 g4 a5 a6 a7 a8 c9 a10 a11 g12 g13 a14 a15 a16 a17 c18 a19 a20 g21 g22 g23 g24 g25 a26 a27 a28 a29 c30 a31 a32) x=some (pick (z69 a0 g1 g2 g3 g4 a5 a6 a7 a8 c9 a10 a11 g12 g13 a14 a15 a16 a17 c18 a19 a20 g21 g22 g23 g24 g25 a26 a27 a28 a29 c30 a31 a32 x))
 | none,h=>by cases h
 | some r,_=>rfl
theorem zdr (K:Ex→St→Option (Ex×St)):ev9 Γ43 79 2 15 fi79 (z1w a0 c1 c2 g3 g4 g5 g6 a7 a8 a9 a10 c11 a12 a13 g14 g15 a16 a17 a18 a19 c20 a21 a22 g23 g24 g25 g26 g27 g28 a29 a30 a31 a32 c33 a34 a35) K=z0h a0 c1 c2 g26 (fun k' i' b11'=>K .normal (z1w a0 k' i' g3 g4 g5 g6 a7 a8 a9 a10 c11 a12 a13 g14 g15 a16 a17 a18 a19 c20 a21 a22 g23 g24 g25 b11' g27 g28 a29 a30 a31 a32 c33 a34 a35)) (fun c0_ c1_ c2_ c3_=>K (.exit 0) (z3c a0 g3 g4 g5 g6 a7 a8 a9 a10 c11 a12 a13 g14 g15 a16 a17 a18 a19 c20 a21 a22 g23 g24 g25 g27 g28 a29 a30 a31 a32 c33 a34 a35 c0_ c1_ c2_ c3_)):=by kernel_rfl
theorem zdn:∀ (n:Nat) (k i:Int) (b11:List Nat),iter 79 2 15 (ev9 Γ43 79 2 15 fi79) n (z1w a0 k i g1 g2 g3 g4 a5 a6 a7 a8 c9 a10 a11 g12 g13 a14 a15 a16 a17 c18 a19 a20 g21 g22 g23 b11 g24 g25 a26 a27 a28 a29 c30 a31 a32) (fun e st=>some (e,st))=(z3g a0 g1 g2 g3 g4 a5 a6 a7 a8 c9 a10 a11 g12 g13 a14 a15 a16 a17 c18 a19 a20 g21 g22 g23 g24 g25 a26 a27 a28 a29 c30 a31 a32) (z09 a0 n k i b11):=by
 intro n
 induction n with
 | zero=>intros;rfl
 | succ n ih=>
  intro k i b11
  refine Eq.trans (iter_succ ..) (Eq.trans (zdr ..) (Eq.trans ?_ (zb6 a0 k i b11 (z3g a0 g1 g2 g3 g4 a5 a6 a7 a8 c9 a10 a11 g12 g13 a14 a15 a16 a17 c18 a19 a20 g21 g22 g23 g24 g25 a26 a27 a28 a29 c30 a31 a32) rfl (fun k' i' b11'=>z09 a0 n k' i' b11') (fun c0_ c1_ c2_ c3_=>some (c0_,c1_,c2_,c3_)))))
  exact congrArg (fun kn_=>z0h a0 k i b11 kn_ _) (funext fun k'=>funext fun i'=>funext fun b11'=>ih ..)
theorem zbq:LoopOne (mainJ Tryz.prog W Post) fnTab 79 2 z6g:=lpK y9l y9j (fi:=fi79) (by kernel_rfl) (by kernel_rfl) (q:=fun hs=>(z1w (hN hs 0) (hI hs 1) (hI hs 2) (hLn hs 3) (hLn hs 4) (hLn hs 5) (hLn hs 6) (hN hs 7) (hN hs 8) (hN hs 9) (hN hs 10) (hI hs 11) (hN hs 12) (hN hs 13) (hLn hs 14) (hLn hs 15) (hN hs 16) (hN hs 17) (hN hs 18) (hN hs 19) (hI hs 20) (hN hs 21) (hN hs 22) (hLn hs 23) (hLn hs 24) (hLn hs 25) (hLn hs 26) (hLn hs 27) (hLn hs 28) (hN hs 29) (hN hs 30) (hN hs 31) (hN hs 32) (hI hs 33) (hN hs 34) (hN hs 35))) (fun hs=>by kernel_rfl) fun hs h1=>Eq.trans (zdn (hN hs 0) (hLn hs 3) (hLn hs 4) (hLn hs 5) (hLn hs 6) (hN hs 7) (hN hs 8) (hN hs 9) (hN hs 10) (hI hs 11) (hN hs 12) (hN hs 13) (hLn hs 14) (hLn hs 15) (hN hs 16) (hN hs 17) (hN hs 18) (hN hs 19) (hI hs 20) (hN hs 21) (hN hs 22) (hLn hs 23) (hLn hs 24) (hLn hs 25) (hLn hs 27) (hLn hs 28) (hN hs 29) (hN hs 30) (hN hs 31) (hN hs 32) (hI hs 33) (hN hs 34) (hN hs 35) big (hI hs 1) (hI hs 2) (hLn hs 26)) (zdl (hN hs 0) (hLn hs 3) (hLn hs 4) (hLn hs 5) (hLn hs 6) (hN hs 7) (hN hs 8) (hN hs 9) (hN hs 10) (hI hs 11) (hN hs 12) (hN hs 13) (hLn hs 14) (hLn hs 15) (hN hs 16) (hN hs 17) (hN hs 18) (hN hs 19) (hI hs 20) (hN hs 21) (hN hs 22) (hLn hs 23) (hLn hs 24) (hLn hs 25) (hLn hs 27) (hLn hs 28) (hN hs 29) (hN hs 30) (hN hs 31) (hN hs 32) (hI hs 33) (hN hs 34) (hN hs 35) _ h1)
def tb45:List (Nat×(List PT→Option (Bool×AV×List Blk))):=tb43
def lt45:List ((Nat×Nat)×(Nat→St→Option (Bool×LO))):=((79,2),z6g)::lt43
def Γ45:Ctx:=⟨tyTab,fnTab,tblSum tb45,tblLp lt45⟩
theorem y93:SumL (mainJ Tryz.prog W Post) tb45:=y9l
theorem y87:LpL (mainJ Tryz.prog W Post) fnTab lt45:=LpL.cons zbq (y9j)
def z1i:St:=(.mk [(x0S 0 7 a0 1),(x0I 1 c1),(x0I 5 c2)] [(x0L g3),(x0L g4),(x0L g5),(x0L g6),(x0R true 0 1 2 3 a7 a8 a9 a10 c11 a12 a13),(x0T g14),(x0T g15),(x0T g16),(x0T g17)])
def z2w:St:=(.mk [(x0S 0 7 a0 1),(x0I 1 c15),(x0I 5 c16),(x0B 9 e17)] [(x0L g1),(x0L g2),(x0L g3),(x0L g4),(x0R true 0 1 2 3 a5 a6 a7 a8 c9 a10 a11),(x0T g12),(x0T g13),(x0T g18),(x0T g14)])
def z38:Option ((Int×Int×Bool×(List Nat)))→Option (Ex×St)
 | none=>none
 | some r=>some ((.exit 0),(z2w a0 g1 g2 g3 g4 a5 a6 a7 a8 c9 a10 a11 g12 g13 g14 r.1 r.2.1 r.2.2.1 r.2.2.2))
def z5g (x:Option ((Int×Int×Bool×(List Nat)))):LO:=(.one (.exit 0) (z2w a0 g1 g2 g3 g4 a5 a6 a7 a8 c9 a10 a11 g12 g13 g14 (x.getD default).1 (x.getD default).2.1 (x.getD default).2.2.1 (x.getD default).2.2.2))
def zb4:Bool×LO:=sL (z5g a0 g3 g4 g5 g6 a7 a8 a9 a10 c11 a12 a13 g14 g15 g17) (z04 a0 big c1 c2 g16)
def z5v:Nat→St→Option (Bool×LO):=lpT 9 (pSt [(x1S 0 7 1),(x1I 1),(x1I 5)] [x1L,x1L,x1L,x1L,(x1R true 0 1 2 3),x1T,x1T,x1T,x1T]) (fun hs=>zb4 (hN hs 0) (hI hs 1) (hI hs 2) (hLn hs 3) (hLn hs 4) (hLn hs 5) (hLn hs 6) (hN hs 7) (hN hs 8) (hN hs 9) (hN hs 10) (hI hs 11) (hN hs 12) (hN hs 13) (hLn hs 14) (hLn hs 15) (hLn hs 16) (hLn hs 17))
theorem zc6:∀ x:Option ((Int×Int×Bool×(List Nat))),x.isSome=true→(z38 a0 g1 g2 g3 g4 a5 a6 a7 a8 c9 a10 a11 g12 g13 g14) x=some (pick (z5g a0 g1 g2 g3 g4 a5 a6 a7 a8 c9 a10 a11 g12 g13 g14 x))
 | none,h=>by cases h
 | some r,_=>rfl
theorem zcq (K:Ex→St→Option (Ex×St)):ev9 Γ45 39 2 9 fi39 (z1i a0 c1 c2 g3 g4 g5 g6 a7 a8 a9 a10 c11 a12 a13 g14 g15 g16 g17) K=z0q a0 c1 c2 g16 (fun k' i' b7'=>K .normal (z1i a0 k' i' g3 g4 g5 g6 a7 a8 a9 a10 c11 a12 a13 g14 g15 b7' g17)) (fun c0_ c1_ c2_ c3_=>K (.exit 0) (z2w a0 g3 g4 g5 g6 a7 a8 a9 a10 c11 a12 a13 g14 g15 g17 c0_ c1_ c2_ c3_)):=by kernel_rfl
theorem zbx:∀ (n:Nat) (k i:Int) (b7:List Nat),iter 39 2 9 (ev9 Γ45 39 2 9 fi39) n (z1i a0 k i g1 g2 g3 g4 a5 a6 a7 a8 c9 a10 a11 g12 g13 b7 g14) (fun e st=>some (e,st))=(z38 a0 g1 g2 g3 g4 a5 a6 a7 a8 c9 a10 a11 g12 g13 g14) (z04 a0 n k i b7):=by
 intro n
 induction n with
 | zero=>intros;rfl
 | succ n ih=>
  intro k i b7
  refine Eq.trans (iter_succ ..) (Eq.trans (zcq ..) (Eq.trans ?_ (za3 a0 k i b7 (z38 a0 g1 g2 g3 g4 a5 a6 a7 a8 c9 a10 a11 g12 g13 g14) rfl (fun k' i' b7'=>z04 a0 n k' i' b7') (fun c0_ c1_ c2_ c3_=>some (c0_,c1_,c2_,c3_)))))
  exact congrArg (fun kn_=>z0q a0 k i b7 kn_ _) (funext fun k'=>funext fun i'=>funext fun b7'=>ih ..)
theorem zao:LoopOne (mainJ Tryz.prog W Post) fnTab 39 2 z5v:=lpK y93 y87 (fi:=fi39) (by kernel_rfl) (by kernel_rfl) (q:=fun hs=>(z1i (hN hs 0) (hI hs 1) (hI hs 2) (hLn hs 3) (hLn hs 4) (hLn hs 5) (hLn hs 6) (hN hs 7) (hN hs 8) (hN hs 9) (hN hs 10) (hI hs 11) (hN hs 12) (hN hs 13) (hLn hs 14) (hLn hs 15) (hLn hs 16) (hLn hs 17))) (fun hs=>by kernel_rfl) fun hs h1=>Eq.trans (zbx (hN hs 0) (hLn hs 3) (hLn hs 4) (hLn hs 5) (hLn hs 6) (hN hs 7) (hN hs 8) (hN hs 9) (hN hs 10) (hI hs 11) (hN hs 12) (hN hs 13) (hLn hs 14) (hLn hs 15) (hLn hs 17) big (hI hs 1) (hI hs 2) (hLn hs 16)) (zc6 (hN hs 0) (hLn hs 3) (hLn hs 4) (hLn hs 5) (hLn hs 6) (hN hs 7) (hN hs 8) (hN hs 9) (hN hs 10) (hI hs 11) (hN hs 12) (hN hs 13) (hLn hs 14) (hLn hs 15) (hLn hs 17) _ h1)
def tb47:List (Nat×(List PT→Option (Bool×AV×List Blk))):=tb45
def lt47:List ((Nat×Nat)×(Nat→St→Option (Bool×LO))):=((39,2),z5v)::lt45
def Γ47:Ctx:=⟨tyTab,fnTab,tblSum tb47,tblLp lt47⟩
theorem y8v:SumL (mainJ Tryz.prog W Post) tb47:=y93
theorem y98:LpL (mainJ Tryz.prog W Post) fnTab lt47:=LpL.cons zao (y87)
def z1k:St:=(.mk [(x0S 0 8 a0 1),(x0I 1 c1),(x0I 5 c2)] [(x0L g3),(x0L g4),(x0L g5),(x0L g6),(x0R true 0 1 2 3 a7 a8 a9 a10 c11 a12 a13),(x0T g14),(x0T g15),(x0T g16),(x0T g17)])
def z2t:St:=(.mk [(x0S 0 8 a0 1),(x0I 1 c15),(x0I 5 c16),(x0B 9 e17)] [(x0L g1),(x0L g2),(x0L g3),(x0L g4),(x0R true 0 1 2 3 a5 a6 a7 a8 c9 a10 a11),(x0T g12),(x0T g13),(x0T g14),(x0T g18)])
def z35:Option ((Int×Int×Bool×(List Nat)))→Option (Ex×St)
 | none=>none
 | some r=>some ((.exit 0),(z2t a0 g1 g2 g3 g4 a5 a6 a7 a8 c9 a10 a11 g12 g13 g14 r.1 r.2.1 r.2.2.1 r.2.2.2))
def z5h (x:Option ((Int×Int×Bool×(List Nat)))):LO:=(.one (.exit 0) (z2t a0 g1 g2 g3 g4 a5 a6 a7 a8 c9 a10 a11 g12 g13 g14 (x.getD default).1 (x.getD default).2.1 (x.getD default).2.2.1 (x.getD default).2.2.2))
def zb8:Bool×LO:=sL (z5h a0 g3 g4 g5 g6 a7 a8 a9 a10 c11 a12 a13 g14 g15 g16) (z02 a0 big c1 c2 g17)
def z5y:Nat→St→Option (Bool×LO):=lpT 9 (pSt [(x1S 0 8 1),(x1I 1),(x1I 5)] [x1L,x1L,x1L,x1L,(x1R true 0 1 2 3),x1T,x1T,x1T,x1T]) (fun hs=>zb8 (hN hs 0) (hI hs 1) (hI hs 2) (hLn hs 3) (hLn hs 4) (hLn hs 5) (hLn hs 6) (hN hs 7) (hN hs 8) (hN hs 9) (hN hs 10) (hI hs 11) (hN hs 12) (hN hs 13) (hLn hs 14) (hLn hs 15) (hLn hs 16) (hLn hs 17))
theorem zc0:∀ x:Option ((Int×Int×Bool×(List Nat))),x.isSome=true→(z35 a0 g1 g2 g3 g4 a5 a6 a7 a8 c9 a10 a11 g12 g13 g14) x=some (pick (z5h a0 g1 g2 g3 g4 a5 a6 a7 a8 c9 a10 a11 g12 g13 g14 x))
 | none,h=>by cases h
 | some r,_=>rfl
theorem zc2 (K:Ex→St→Option (Ex×St)):ev9 Γ47 39 2 9 fi39 (z1k a0 c1 c2 g3 g4 g5 g6 a7 a8 a9 a10 c11 a12 a13 g14 g15 g16 g17) K=z0p a0 c1 c2 g17 (fun k' i' b8'=>K .normal (z1k a0 k' i' g3 g4 g5 g6 a7 a8 a9 a10 c11 a12 a13 g14 g15 g16 b8')) (fun c0_ c1_ c2_ c3_=>K (.exit 0) (z2t a0 g3 g4 g5 g6 a7 a8 a9 a10 c11 a12 a13 g14 g15 g16 c0_ c1_ c2_ c3_)):=by kernel_rfl
theorem zcl:∀ (n:Nat) (k i:Int) (b8:List Nat),iter 39 2 9 (ev9 Γ47 39 2 9 fi39) n (z1k a0 k i g1 g2 g3 g4 a5 a6 a7 a8 c9 a10 a11 g12 g13 g14 b8) (fun e st=>some (e,st))=(z35 a0 g1 g2 g3 g4 a5 a6 a7 a8 c9 a10 a11 g12 g13 g14) (z02 a0 n k i b8):=by
 intro n
 induction n with
 | zero=>intros;rfl
 | succ n ih=>
  intro k i b8
  refine Eq.trans (iter_succ ..) (Eq.trans (zc2 ..) (Eq.trans ?_ (za6 a0 k i b8 (z35 a0 g1 g2 g3 g4 a5 a6 a7 a8 c9 a10 a11 g12 g13 g14) rfl (fun k' i' b8'=>z02 a0 n k' i' b8') (fun c0_ c1_ c2_ c3_=>some (c0_,c1_,c2_,c3_)))))
  exact congrArg (fun kn_=>z0p a0 k i b8 kn_ _) (funext fun k'=>funext fun i'=>funext fun b8'=>ih ..)
theorem zab:LoopOne (mainJ Tryz.prog W Post) fnTab 39 2 z5y:=lpK y8v y98 (fi:=fi39) (by kernel_rfl) (by kernel_rfl) (q:=fun hs=>(z1k (hN hs 0) (hI hs 1) (hI hs 2) (hLn hs 3) (hLn hs 4) (hLn hs 5) (hLn hs 6) (hN hs 7) (hN hs 8) (hN hs 9) (hN hs 10) (hI hs 11) (hN hs 12) (hN hs 13) (hLn hs 14) (hLn hs 15) (hLn hs 16) (hLn hs 17))) (fun hs=>by kernel_rfl) fun hs h1=>Eq.trans (zcl (hN hs 0) (hLn hs 3) (hLn hs 4) (hLn hs 5) (hLn hs 6) (hN hs 7) (hN hs 8) (hN hs 9) (hN hs 10) (hI hs 11) (hN hs 12) (hN hs 13) (hLn hs 14) (hLn hs 15) (hLn hs 16) big (hI hs 1) (hI hs 2) (hLn hs 17)) (zc0 (hN hs 0) (hLn hs 3) (hLn hs 4) (hLn hs 5) (hLn hs 6) (hN hs 7) (hN hs 8) (hN hs 9) (hN hs 10) (hI hs 11) (hN hs 12) (hN hs 13) (hLn hs 14) (hLn hs 15) (hLn hs 16) _ h1)
def tb48:List (Nat×(List PT→Option (Bool×AV×List Blk))):=tb47
def lt48:List ((Nat×Nat)×(Nat→St→Option (Bool×LO))):=((39,2),z5y)::lt47
def Γ48:Ctx:=⟨tyTab,fnTab,tblSum tb48,tblLp lt48⟩
theorem yb9:SumL (mainJ Tryz.prog W Post) tb48:=y8v
theorem yba:LpL (mainJ Tryz.prog W Post) fnTab lt48:=LpL.cons zab (y98)
def z98  : Option (Bool)→Option (AV×List Blk)
 | some r=>some ((.v (.one (.bool r))),[])
 | none=>none
def z99:List PT→Option (Bool×AV×List Blk)
 | [.agg [.row 1 q00 (.fl .f32 q03),.row 1 q01 (.fl .f32 q05),.row 1 q02 (.fl .f32 q04),.row 3 q06 (.fl .f32 q0a),.s (.int .i64 q0e),.s (.flt .f32 q0g),.s (.flt .f32 q0h)],.one (.s (.flt .f32 x1)),.one (.s (.flt .f32 x2)),.one (.s (.flt .f32 x3)),.one (.s (.flt .f32 x4)),.one (.s (.int .i64 x5))]=>sF z98 (z25 q00 q03 q01 q05 q02 q04 q06 q0a q0e q0g q0h x1 x2 x3 x4 x5)
 | _=>none
theorem zre:ev8 Γ48 6 [.agg [.row 1 a0 (.fl .f32 g1),.row 1 a2 (.fl .f32 g3),.row 1 a4 (.fl .f32 g5),.row 3 a6 (.fl .f32 g7),.s (.int .i64 c8),.s (.flt .f32 a9),.s (.flt .f32 a10)],.one (.s (.flt .f32 a11)),.one (.s (.flt .f32 a12)),.one (.s (.flt .f32 a13)),.one (.s (.flt .f32 a14)),.one (.s (.int .i64 c15))]=z98 (z25 a0 g1 a2 g3 a4 g5 a6 g7 c8 a9 a10 a11 a12 a13 a14 c15):=tr2 (zmo a0 g1 a2 g3 a4 g5 a6 g7 c8 a9 a10 a11 a12 a13 a14 c15 z98 rfl (fun c0_=>some c0_)) (by kernel_rfl)
theorem zok:SumOne (mainJ Tryz.prog W Post) 6 z99:=mkT yb9 yba fun pts v news hp=>by
 unfold z99 at hp
 split at hp
 ·exact fin3 (zre ..) hp
 ·cases hp
end
end Go.Proofs.YtijjhfailnmeoaaGreat
