import Derived.Test.YtijjhfailnmeoaaGreatBendingOfS0
set_option linter.unusedVariables false
set_option linter.unusedSimpArgs false
set_option linter.unusedSectionVars false
set_option maxRecDepth 100000
set_option maxHeartbeats 4000000
namespace Go.Proofs.YtijjhfailnmeoaaGreat
open Go Go.Rf
variable {J:Jd Tryz.prog}
noncomputable section
variable (a0:Nat) (a1:Nat) (c1:Int) (g1:List Nat) (a2:Nat) (c2:Int) (g2:List Nat) (c3:Int) (g3:List Nat) (a4:Nat) (g4:List Nat) (g5:List Nat) (a6:Nat) (g6:List Nat) (a7:Nat) (g7:List Nat) (a8:Nat) (c8:Int) (a9:Nat) (a10:Nat) (c10:Int) (a11:Nat) (c11:Int) (a12:Nat) (c12:Int) (a13:Nat) (a14:Nat) (c14:Int) (g14:List Nat) (e15:Bool) (g15:List Nat) (g16:List Nat)
def znb:Nat→St→Option (Bool×LO):=lpT 4 (pSt [(x1P 5 4 7),(x1S 12 5 1),(x1I 28),(x1I 29)] [x1L,x1L,x1L,x1L,(x1R true 0 1 2 3),x1T]) (fun hs=>zx2 (hN hs 0) (hI hs 1) (hI hs 2) (hLn hs 3) (hLn hs 4) (hLn hs 5) (hLn hs 6) (hN hs 7) (hN hs 8) (hN hs 9) (hN hs 10) (hI hs 11) (hN hs 12) (hN hs 13) (hLn hs 14))
theorem y0u:∀ x:Option ((Int×Bool×(List Nat))),x.isSome=true→(zfq a0 c1 g2 g3 g4 g5 a6 a7 a8 a9 c10 a11 a12) x=some (pick (zlb a0 c1 g2 g3 g4 g5 a6 a7 a8 a9 c10 a11 a12 x))
 | none,h=>by cases h
 | some r,_=>rfl
theorem y17 (K:Ex→St→Option (Ex×St)):ev9 Γ23 41 5 4 fi41 (z9p a0 c1 c2 g3 g4 g5 g6 a7 a8 a9 a10 c11 a12 a13 g14) K=z29 a0 c1 g6 a10 a12 c2 g14 (fun t29' b5'=>K .normal (z9p a0 c1 t29' g3 g4 g5 g6 a7 a8 a9 a10 c11 a12 a13 b5')) (fun c0_ c1_ c2_=>K (.exit 0) (zet a0 c1 g3 g4 g5 g6 a7 a8 a9 a10 c11 a12 a13 c0_ c1_ c2_)):=by kernel_rfl
theorem y0g:∀ (n:Nat) (t29:Int) (b5:List Nat),iter 41 5 4 (ev9 Γ23 41 5 4 fi41) n (z9p a0 c1 t29 g2 g3 g4 g5 a6 a7 a8 a9 c10 a11 a12 b5) (fun e st=>some (e,st))=(zfq a0 c1 g2 g3 g4 g5 a6 a7 a8 a9 c10 a11 a12) (z11 a0 c1 g5 a9 a11 n t29 b5):=by
 intro n
 induction n with
 | zero=>intros;rfl
 | succ n ih=>
  intro t29 b5
  refine Eq.trans (iter_succ ..) (Eq.trans (y17 ..) (Eq.trans ?_ (ztp a0 c1 g5 a9 a11 t29 b5 (zfq a0 c1 g2 g3 g4 g5 a6 a7 a8 a9 c10 a11 a12) rfl (fun t29' b5'=>z11 a0 c1 g5 a9 a11 n t29' b5') (fun c0_ c1_ c2_=>some (c0_,c1_,c2_)))))
  exact congrArg (fun kn_=>z29 a0 c1 g5 a9 a11 t29 b5 kn_ _) (funext fun t29'=>funext fun b5'=>ih ..)
theorem zvi:LoopOne J fnTab 41 5 znb:=lpK y9h y9p (fi:=fi41) (by kernel_rfl) (by kernel_rfl) (q:=fun hs=>(z9p (hN hs 0) (hI hs 1) (hI hs 2) (hLn hs 3) (hLn hs 4) (hLn hs 5) (hLn hs 6) (hN hs 7) (hN hs 8) (hN hs 9) (hN hs 10) (hI hs 11) (hN hs 12) (hN hs 13) (hLn hs 14))) (fun hs=>by kernel_rfl) fun hs h1=>Eq.trans (y0g (hN hs 0) (hI hs 1) (hLn hs 3) (hLn hs 4) (hLn hs 5) (hLn hs 6) (hN hs 7) (hN hs 8) (hN hs 9) (hN hs 10) (hI hs 11) (hN hs 12) (hN hs 13) big (hI hs 2) (hLn hs 14)) (y0u (hN hs 0) (hI hs 1) (hLn hs 3) (hLn hs 4) (hLn hs 5) (hLn hs 6) (hN hs 7) (hN hs 8) (hN hs 9) (hN hs 10) (hI hs 11) (hN hs 12) (hN hs 13) _ h1)
def tb24:List (Nat×(List PT→Option (Bool×AV×List Blk))):=tb23
def lt24:List ((Nat×Nat)×(Nat→St→Option (Bool×LO))):=((41,5),znb)::lt23
def Γ24:Ctx:=⟨tyTab,fnTab,tblSum tb24,tblLp lt24⟩
theorem y91:SumL J tb24:=y9h
theorem y9b:LpL J fnTab lt24:=LpL.cons zvi (y9p)
def zjb  : Option (Nat×Bool)→Option (AV×List Blk)
 | some r=>some ((.tup [(.one (.flt .f32 r.1)),(.one (.bool r.2))]),[])
 | none=>none
def zkj:List PT→Option (Bool×AV×List Blk)
 | [.agg [.row 1 q00 (.fl .f32 q03),.row 1 q02 (.fl .f32 q04),.row 1 q01 (.fl .f32 q05),.row 3 q06 (.fl .f32 q07),.s (.int .i64 q0e),.s (.flt .f32 q0j),.s (.flt .f32 q0k)],.one (.s (.flt .f32 q17)),.one (.s (.flt .f32 q0u)),.one (.s (.flt .f32 q0l)),.one (.s (.flt .f32 q1u))]=>sF zjb (z4l q00 q03 q02 q04 q01 q05 q06 q07 q0e q0j q0k q17 q0u q0l q1u)
 | _=>none
theorem y6r:ev8 Γ24 41 [.agg [.row 1 a0 (.fl .f32 g1),.row 1 a2 (.fl .f32 g3),.row 1 a4 (.fl .f32 g5),.row 3 a6 (.fl .f32 g7),.s (.int .i64 c8),.s (.flt .f32 a9),.s (.flt .f32 a10)],.one (.s (.flt .f32 a11)),.one (.s (.flt .f32 a12)),.one (.s (.flt .f32 a13)),.one (.s (.flt .f32 a14))]=zjb (z4l a0 g1 a2 g3 a4 g5 a6 g7 c8 a9 a10 a11 a12 a13 a14):=tr2 (zy7 a0 g1 a2 g3 a4 g5 a6 g7 c8 a9 a10 a11 a12 a13 a14 zjb rfl (fun c0_ c1_=>some (c0_,c1_))) (by kernel_rfl)
theorem y15:SumOne J 41 zkj:=mkT y91 y9b fun pts v news hp=>by
 unfold zkj at hp
 split at hp
 ·exact fin3 (y6r ..) hp
 ·cases hp
def tb25:List (Nat×(List PT→Option (Bool×AV×List Blk))):=(41,zkj)::tb24
def lt25:List ((Nat×Nat)×(Nat→St→Option (Bool×LO))):=lt24
def Γ25:Ctx:=⟨tyTab,fnTab,tblSum tb25,tblLp lt25⟩
theorem y9s:SumL J tb25:=SumL.cons y15 (y91)
theorem y94:LpL J fnTab lt25:=y9b
def z9r:St:=(.mk [(x0P 5 4 7),(x0S 12 5 a0 1),(x0V 30 3 a1 3),(x0I 31 c2),(x0I 32 c3)] [(x0L g4),(x0L g5),(x0L g6),(x0L g7),(x0R true 0 1 2 3 a8 a9 a10 a11 c12 a13 a14),(x0T g15)])
def ze7:St:=(.mk [(x0P 5 4 7),(x0S 12 5 a0 1),(x0V 30 3 a1 3),(x0I 31 c2),(x0I 32 c14),(x0B 33 e15)] [(x0L g3),(x0L g4),(x0L g5),(x0L g6),(x0R true 0 1 2 3 a7 a8 a9 a10 c11 a12 a13),(x0T g16)])
def zfg:Option ((Int×Bool×(List Nat)))→Option (Ex×St)
 | none=>none
 | some r=>some ((.exit 0),(ze7 a0 a1 c2 g3 g4 g5 g6 a7 a8 a9 a10 c11 a12 a13 r.1 r.2.1 r.2.2))
def zlf (x:Option ((Int×Bool×(List Nat)))):LO:=(.one (.exit 0) (ze7 a0 a1 c2 g3 g4 g5 g6 a7 a8 a9 a10 c11 a12 a13 (x.getD default).1 (x.getD default).2.1 (x.getD default).2.2))
def zwo:Bool×LO:=sL (zlf a0 a1 c2 g4 g5 g6 g7 a8 a9 a10 a11 c12 a13 a14) (z10 a0 a1 c2 g7 a13 big c3 g15)
def znl:Nat→St→Option (Bool×LO):=lpT 4 (pSt [(x1P 5 4 7),(x1S 12 5 1),(x1V 30 3 3),(x1I 31),(x1I 32)] [x1L,x1L,x1L,x1L,(x1R true 0 1 2 3),x1T]) (fun hs=>zwo (hN hs 0) (hN hs 1) (hI hs 2) (hI hs 3) (hLn hs 4) (hLn hs 5) (hLn hs 6) (hLn hs 7) (hN hs 8) (hN hs 9) (hN hs 10) (hN hs 11) (hI hs 12) (hN hs 13) (hN hs 14) (hLn hs 15))
theorem y18:∀ x:Option ((Int×Bool×(List Nat))),x.isSome=true→(zfg a0 a1 c2 g3 g4 g5 g6 a7 a8 a9 a10 c11 a12 a13) x=some (pick (zlf a0 a1 c2 g3 g4 g5 g6 a7 a8 a9 a10 c11 a12 a13 x))
 | none,h=>by cases h
 | some r,_=>rfl
theorem y0d (K:Ex→St→Option (Ex×St)):ev9 Γ25 42 5 4 fi42 (z9r a0 a1 c2 c3 g4 g5 g6 g7 a8 a9 a10 a11 c12 a13 a14 g15) K=z2b a0 a1 c2 g7 a13 c3 g15 (fun t32' b5'=>K .normal (z9r a0 a1 c2 t32' g4 g5 g6 g7 a8 a9 a10 a11 c12 a13 a14 b5')) (fun c0_ c1_ c2_=>K (.exit 0) (ze7 a0 a1 c2 g4 g5 g6 g7 a8 a9 a10 a11 c12 a13 a14 c0_ c1_ c2_)):=by kernel_rfl
theorem y1h:∀ (n:Nat) (t32:Int) (b5:List Nat),iter 42 5 4 (ev9 Γ25 42 5 4 fi42) n (z9r a0 a1 c2 t32 g3 g4 g5 g6 a7 a8 a9 a10 c11 a12 a13 b5) (fun e st=>some (e,st))=(zfg a0 a1 c2 g3 g4 g5 g6 a7 a8 a9 a10 c11 a12 a13) (z10 a0 a1 c2 g6 a12 n t32 b5):=by
 intro n
 induction n with
 | zero=>intros;rfl
 | succ n ih=>
  intro t32 b5
  refine Eq.trans (iter_succ ..) (Eq.trans (y0d ..) (Eq.trans ?_ (zu7 a0 a1 c2 g6 a12 t32 b5 (zfg a0 a1 c2 g3 g4 g5 g6 a7 a8 a9 a10 c11 a12 a13) rfl (fun t32' b5'=>z10 a0 a1 c2 g6 a12 n t32' b5') (fun c0_ c1_ c2_=>some (c0_,c1_,c2_)))))
  exact congrArg (fun kn_=>z2b a0 a1 c2 g6 a12 t32 b5 kn_ _) (funext fun t32'=>funext fun b5'=>ih ..)
theorem zvm:LoopOne J fnTab 42 5 znl:=lpK y9s y94 (fi:=fi42) (by kernel_rfl) (by kernel_rfl) (q:=fun hs=>(z9r (hN hs 0) (hN hs 1) (hI hs 2) (hI hs 3) (hLn hs 4) (hLn hs 5) (hLn hs 6) (hLn hs 7) (hN hs 8) (hN hs 9) (hN hs 10) (hN hs 11) (hI hs 12) (hN hs 13) (hN hs 14) (hLn hs 15))) (fun hs=>by kernel_rfl) fun hs h1=>Eq.trans (y1h (hN hs 0) (hN hs 1) (hI hs 2) (hLn hs 4) (hLn hs 5) (hLn hs 6) (hLn hs 7) (hN hs 8) (hN hs 9) (hN hs 10) (hN hs 11) (hI hs 12) (hN hs 13) (hN hs 14) big (hI hs 3) (hLn hs 15)) (y18 (hN hs 0) (hN hs 1) (hI hs 2) (hLn hs 4) (hLn hs 5) (hLn hs 6) (hLn hs 7) (hN hs 8) (hN hs 9) (hN hs 10) (hN hs 11) (hI hs 12) (hN hs 13) (hN hs 14) _ h1)
end
end Go.Proofs.YtijjhfailnmeoaaGreat
