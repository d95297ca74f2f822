import Derived.Test.YtijjhfailnmeoaaGreatTorqueOfS0
set_option linter.unusedVariables false
set_option linter.unusedSimpArgs false
set_option linter.unusedSectionVars false
set_option maxRecDepth 100000
set_option maxHeartbeats 4000000
namespace Go.Proofs.YtijjhfailnmeoaaGreat
open Go Go.Rf
variable {J:Jd Tryz.prog}
noncomputable section
variable (a0:Nat) (a1:Nat) (c1:Int) (g1:List Nat) (a2:Nat) (c2:Int) (g2:List Nat) (c3:Int) (g3:List Nat) (a4:Nat) (g4:List Nat) (g5:List Nat) (a6:Nat) (g6:List Nat) (a7:Nat) (g7:List Nat) (a8:Nat) (c8:Int) (a9:Nat) (a10:Nat) (c10:Int) (a11:Nat) (c11:Int) (a12:Nat) (c12:Int) (a13:Nat) (a14:Nat) (c14:Int) (g14:List Nat) (e15:Bool) (g15:List Nat) (g16:List Nat)
def znj:Nat→St→Option (Bool×LO):=lpT 5 (pSt [(x1P 0 4 7),(x1S 13 5 1),(x1I 29),(x1I 30)] [x1L,x1L,x1L,x1L,(x1R false 0 1 2 3),x1T]) (fun hs=>zwy (hN hs 0) (hI hs 1) (hI hs 2) (hLn hs 3) (hLn hs 4) (hLn hs 5) (hLn hs 6) (hN hs 7) (hN hs 8) (hN hs 9) (hN hs 10) (hI hs 11) (hN hs 12) (hN hs 13) (hLn hs 14))
theorem y1n:∀ x:Option ((Int×Bool×(List Nat))),x.isSome=true→(zfm a0 c1 g2 g3 g4 g5 a6 a7 a8 a9 c10 a11 a12) x=some (pick (zlz a0 c1 g2 g3 g4 g5 a6 a7 a8 a9 c10 a11 a12 x))
 | none,h=>by cases h
 | some r,_=>rfl
theorem y14 (K:Ex→St→Option (Ex×St)):ev9 Γ23 80 5 5 fi80 (z9o a0 c1 c2 g3 g4 g5 g6 a7 a8 a9 a10 c11 a12 a13 g14) K=z2a a0 c1 g6 a10 c2 g14 (fun t30' b5'=>K .normal (z9o a0 c1 t30' g3 g4 g5 g6 a7 a8 a9 a10 c11 a12 a13 b5')) (fun c0_ c1_ c2_=>K (.exit 0) (zdr a0 c1 g3 g4 g5 g6 a7 a8 a9 a10 c11 a12 a13 c0_ c1_ c2_)):=by kernel_rfl
theorem y21:∀ (n:Nat) (t30:Int) (b5:List Nat),iter 80 5 5 (ev9 Γ23 80 5 5 fi80) n (z9o a0 c1 t30 g2 g3 g4 g5 a6 a7 a8 a9 c10 a11 a12 b5) (fun e st=>some (e,st))=(zfm a0 c1 g2 g3 g4 g5 a6 a7 a8 a9 c10 a11 a12) (z10 a0 c1 g5 a9 n t30 b5):=by
 intro n
 induction n with
 | zero=>intros;rfl
 | succ n ih=>
  intro t30 b5
  refine Eq.trans (iter_succ ..) (Eq.trans (y14 ..) (Eq.trans ?_ (ztq a0 c1 g5 a9 t30 b5 (zfm a0 c1 g2 g3 g4 g5 a6 a7 a8 a9 c10 a11 a12) rfl (fun t30' b5'=>z10 a0 c1 g5 a9 n t30' b5') (fun c0_ c1_ c2_=>some (c0_,c1_,c2_)))))
  exact congrArg (fun kn_=>z2a a0 c1 g5 a9 t30 b5 kn_ _) (funext fun t30'=>funext fun b5'=>ih ..)
theorem zw0:LoopOne J fnTab 80 5 znj:=lpK yaa y91 (fi:=fi80) (by kernel_rfl) (by kernel_rfl) (q:=fun hs=>(z9o (hN hs 0) (hI hs 1) (hI hs 2) (hLn hs 3) (hLn hs 4) (hLn hs 5) (hLn hs 6) (hN hs 7) (hN hs 8) (hN hs 9) (hN hs 10) (hI hs 11) (hN hs 12) (hN hs 13) (hLn hs 14))) (fun hs=>by kernel_rfl) fun hs h1=>Eq.trans (y21 (hN hs 0) (hI hs 1) (hLn hs 3) (hLn hs 4) (hLn hs 5) (hLn hs 6) (hN hs 7) (hN hs 8) (hN hs 9) (hN hs 10) (hI hs 11) (hN hs 12) (hN hs 13) big (hI hs 2) (hLn hs 14)) (y1n (hN hs 0) (hI hs 1) (hLn hs 3) (hLn hs 4) (hLn hs 5) (hLn hs 6) (hN hs 7) (hN hs 8) (hN hs 9) (hN hs 10) (hI hs 11) (hN hs 12) (hN hs 13) _ h1)
def tb24:List (Nat×(List PT→Option (Bool×AV×List Blk))):=tb23
def lt24:List ((Nat×Nat)×(Nat→St→Option (Bool×LO))):=((80,5),znj)::lt23
def Γ24:Ctx:=⟨tyTab,fnTab,tblSum tb24,tblLp lt24⟩
theorem y9k:SumL J tb24:=yaa
theorem y9t:LpL J fnTab lt24:=LpL.cons zw0 (y91)
def zkk  : Option (Nat×Bool)→Option (AV×List Blk)
 | some r=>some ((.tup [(.one (.flt .f32 r.1)),(.one (.bool r.2))]),[])
 | none=>none
def zjt:List PT→Option (Bool×AV×List Blk)
 | [.ptr [.row 1 q00 (.fl .f32 q03),.row 1 q02 (.fl .f32 q04),.row 1 q01 (.fl .f32 q05),.row 3 q06 (.fl .f32 q07),.s (.int .i64 q0c),.s (.flt .f32 q0k),.s (.flt .f32 q0j)],.one (.s (.flt .f32 q0z)),.one (.s (.flt .f32 q0r)),.one (.s (.flt .f32 q0l)),.one (.s (.flt .f32 q1q))]=>sF zkk (z4e q00 q03 q02 q04 q01 q05 q06 q07 q0c q0k q0j q0z q0r q0l q1q)
 | _=>none
theorem y6f:ev8 Γ24 80 [.ptr [.row 1 a0 (.fl .f32 g1),.row 1 a2 (.fl .f32 g3),.row 1 a4 (.fl .f32 g5),.row 3 a6 (.fl .f32 g7),.s (.int .i64 c8),.s (.flt .f32 a9),.s (.flt .f32 a10)],.one (.s (.flt .f32 a11)),.one (.s (.flt .f32 a12)),.one (.s (.flt .f32 a13)),.one (.s (.flt .f32 a14))]=zkk (z4e a0 g1 a2 g3 a4 g5 a6 g7 c8 a9 a10 a11 a12 a13 a14):=tr2 (zz9 a0 g1 a2 g3 a4 g5 a6 g7 c8 a9 a10 a11 a12 a13 a14 zkk rfl (fun c0_ c1_=>some (c0_,c1_))) (by kernel_rfl)
theorem y1i:SumOne J 80 zjt:=mkT y9k y9t fun pts v news hp=>by
 unfold zjt at hp
 split at hp
 ·exact fin3 (y6f ..) hp
 ·cases hp
def tb25:List (Nat×(List PT→Option (Bool×AV×List Blk))):=(80,zjt)::tb24
def lt25:List ((Nat×Nat)×(Nat→St→Option (Bool×LO))):=lt24
def Γ25:Ctx:=⟨tyTab,fnTab,tblSum tb25,tblLp lt25⟩
theorem y40:SumL J tb25:=SumL.cons y1i (y9k)
theorem y43:LpL J fnTab lt25:=y9t
def zn1  : Option (Nat×Bool)→Option (AV×List Blk)
 | some r=>some ((.tup [(.one (.flt .f32 r.1)),(.one (.bool r.2))]),[])
 | none=>none
def zlg:List PT→Option (Bool×AV×List Blk)
 | [.agg [.row 1 q00 (.fl .f32 q03),.row 1 q02 (.fl .f32 q04),.row 1 q01 (.fl .f32 q05),.row 3 q06 (.fl .f32 q07),.s (.int .i64 q0c),.s (.flt .f32 q0k),.s (.flt .f32 q0j)],.one (.s (.flt .f32 q0z)),.one (.s (.flt .f32 q0r)),.one (.s (.flt .f32 q0l)),.one (.s (.flt .f32 q1q))]=>sF zn1 (z5d q00 q03 q02 q04 q01 q05 q06 q07 q0c q0k q0j q0z q0r q0l q1q)
 | _=>none
theorem y85:ev8 Γ25 43 [.agg [.row 1 a0 (.fl .f32 g1),.row 1 a2 (.fl .f32 g3),.row 1 a4 (.fl .f32 g5),.row 3 a6 (.fl .f32 g7),.s (.int .i64 c8),.s (.flt .f32 a9),.s (.flt .f32 a10)],.one (.s (.flt .f32 a11)),.one (.s (.flt .f32 a12)),.one (.s (.flt .f32 a13)),.one (.s (.flt .f32 a14))]=zn1 (z5d a0 g1 a2 g3 a4 g5 a6 g7 c8 a9 a10 a11 a12 a13 a14):=tr2 (y0p a0 g1 a2 g3 a4 g5 a6 g7 c8 a9 a10 a11 a12 a13 a14 zn1 rfl (fun c0_ c1_=>some (c0_,c1_))) (by kernel_rfl)
theorem y28:SumOne J 43 zlg:=mkT y40 y43 fun pts v news hp=>by
 unfold zlg at hp
 split at hp
 ·exact fin3 (y85 ..) hp
 ·cases hp
def zax:St:=(.mk [(x0P 5 4 7),(x0S 13 5 a0 1),(x0V 30 3 a1 3),(x0I 31 c2),(x0I 32 c3)] [(x0L g4),(x0L g5),(x0L g6),(x0L g7),(x0R true 0 1 2 3 a8 a9 a10 a11 c12 a13 a14),(x0T g15)])
def zff:St:=(.mk [(x0P 5 4 7),(x0S 13 5 a0 1),(x0V 30 3 a1 3),(x0I 31 c2),(x0I 32 c14),(x0B 33 e15)] [(x0L g3),(x0L g4),(x0L g5),(x0L g6),(x0R true 0 1 2 3 a7 a8 a9 a10 c11 a12 a13),(x0T g16)])
def zgj:Option ((Int×Bool×(List Nat)))→Option (Ex×St)
 | none=>none
 | some r=>some ((.exit 0),(zff a0 a1 c2 g3 g4 g5 g6 a7 a8 a9 a10 c11 a12 a13 r.1 r.2.1 r.2.2))
def znk (x:Option ((Int×Bool×(List Nat)))):LO:=(.one (.exit 0) (zff a0 a1 c2 g3 g4 g5 g6 a7 a8 a9 a10 c11 a12 a13 (x.getD default).1 (x.getD default).2.1 (x.getD default).2.2))
def zz4:Bool×LO:=sL (znk a0 a1 c2 g4 g5 g6 g7 a8 a9 a10 a11 c12 a13 a14) (z16 a0 a1 c2 g7 big c3 g15)
def zp7:Nat→St→Option (Bool×LO):=lpT 4 (pSt [(x1P 5 4 7),(x1S 13 5 1),(x1V 30 3 3),(x1I 31),(x1I 32)] [x1L,x1L,x1L,x1L,(x1R true 0 1 2 3),x1T]) (fun hs=>zz4 (hN hs 0) (hN hs 1) (hI hs 2) (hI hs 3) (hLn hs 4) (hLn hs 5) (hLn hs 6) (hLn hs 7) (hN hs 8) (hN hs 9) (hN hs 10) (hN hs 11) (hI hs 12) (hN hs 13) (hN hs 14) (hLn hs 15))
theorem y2h:∀ x:Option ((Int×Bool×(List Nat))),x.isSome=true→(zgj a0 a1 c2 g3 g4 g5 g6 a7 a8 a9 a10 c11 a12 a13) x=some (pick (znk a0 a1 c2 g3 g4 g5 g6 a7 a8 a9 a10 c11 a12 a13 x))
 | none,h=>by cases h
 | some r,_=>rfl
theorem y2y (K:Ex→St→Option (Ex×St)):ev9 Γ25 23 5 4 fi23 (zax a0 a1 c2 c3 g4 g5 g6 g7 a8 a9 a10 a11 c12 a13 a14 g15) K=z2n a0 a1 c2 g7 c3 g15 (fun t32' b5'=>K .normal (zax a0 a1 c2 t32' g4 g5 g6 g7 a8 a9 a10 a11 c12 a13 a14 b5')) (fun c0_ c1_ c2_=>K (.exit 0) (zff a0 a1 c2 g4 g5 g6 g7 a8 a9 a10 a11 c12 a13 a14 c0_ c1_ c2_)):=by kernel_rfl
theorem y3o:∀ (n:Nat) (t32:Int) (b5:List Nat),iter 23 5 4 (ev9 Γ25 23 5 4 fi23) n (zax a0 a1 c2 t32 g3 g4 g5 g6 a7 a8 a9 a10 c11 a12 a13 b5) (fun e st=>some (e,st))=(zgj a0 a1 c2 g3 g4 g5 g6 a7 a8 a9 a10 c11 a12 a13) (z16 a0 a1 c2 g6 n t32 b5):=by
 intro n
 induction n with
 | zero=>intros;rfl
 | succ n ih=>
  intro t32 b5
  refine Eq.trans (iter_succ ..) (Eq.trans (y2y ..) (Eq.trans ?_ (zw2 a0 a1 c2 g6 t32 b5 (zgj a0 a1 c2 g3 g4 g5 g6 a7 a8 a9 a10 c11 a12 a13) rfl (fun t32' b5'=>z16 a0 a1 c2 g6 n t32' b5') (fun c0_ c1_ c2_=>some (c0_,c1_,c2_)))))
  exact congrArg (fun kn_=>z2n a0 a1 c2 g6 t32 b5 kn_ _) (funext fun t32'=>funext fun b5'=>ih ..)
theorem zwn:LoopOne J fnTab 23 5 zp7:=lpK y40 y43 (fi:=fi23) (by kernel_rfl) (by kernel_rfl) (q:=fun hs=>(zax (hN hs 0) (hN hs 1) (hI hs 2) (hI hs 3) (hLn hs 4) (hLn hs 5) (hLn hs 6) (hLn hs 7) (hN hs 8) (hN hs 9) (hN hs 10) (hN hs 11) (hI hs 12) (hN hs 13) (hN hs 14) (hLn hs 15))) (fun hs=>by kernel_rfl) fun hs h1=>Eq.trans (y3o (hN hs 0) (hN hs 1) (hI hs 2) (hLn hs 4) (hLn hs 5) (hLn hs 6) (hLn hs 7) (hN hs 8) (hN hs 9) (hN hs 10) (hN hs 11) (hI hs 12) (hN hs 13) (hN hs 14) big (hI hs 3) (hLn hs 15)) (y2h (hN hs 0) (hN hs 1) (hI hs 2) (hLn hs 4) (hLn hs 5) (hLn hs 6) (hLn hs 7) (hN hs 8) (hN hs 9) (hN hs 10) (hN hs 11) (hI hs 12) (hN hs 13) (hN hs 14) _ h1)
end
end Go.Proofs.YtijjhfailnmeoaaGreat
