import Derived.Test.YtijjhfailnmeoaaGreatPowerCurveS0
set_option linter.unusedVariables false
set_option linter.unusedSimpArgs false
set_option linter.unusedSectionVars false
set_option maxRecDepth 100000
set_option maxHeartbeats 4000000
namespace Go.Proofs.YtijjhfailnmeoaaGreat
open Go Go.Rf
variable {J:Jd Tryz.prog}
noncomputable section
variable (a0:Nat) (a1:Nat) (c1:Int) (g1:List Nat) (a2:Nat) (c2:Int) (g2:List Nat) (a3:Nat) (c3:Int) (g3:List Nat) (a4:Nat) (c4:Int) (g4:List Nat) (c5:Int) (g5:List Nat) (a6:Nat) (c6:Int) (g6:List Nat) (a7:Nat) (g7:List Nat) (a8:Nat) (c8:Int) (g8:List Nat) (a9:Nat) (g9:List Nat) (a10:Nat) (c10:Int) (g10:List Nat) (a11:Nat) (c11:Int) (g11:List Nat) (a12:Nat) (c12:Int) (g12:List Nat) (a13:Nat) (c13:Int) (a14:Nat) (c14:Int) (e14:Bool) (g14:List Nat) (a15:Nat) (e15:Bool) (g15:List Nat) (a16:Nat) (c16:Int) (g16:List Nat) (a17:Nat) (a18:Nat) (c18:Int) (e19:Bool) (g19:List Nat) (g20:List Nat)
theorem yhh:ev8 Γ21 50 [.ptr [.row 1 a0 (.fl .f32 g1),.row 1 a2 (.fl .f32 g3),.row 1 a4 (.fl .f32 g5),.row 3 a6 (.fl .f32 g7),.s (.int .i64 c8),.s (.flt .f32 a9),.s (.flt .f32 a10)],.one (.s (.flt .f32 a11)),.one (.s (.flt .f32 a12)),.one (.s (.flt .f32 a13)),.one (.s (.flt .f32 a14))]=zuv (z4v a0 g1 a2 g3 a4 g5 a6 g7 c8 a9 a10 a11 a12 a13 a14):=tr2 (ybk a0 g1 a2 g3 a4 g5 a6 g7 c8 a9 a10 a11 a12 a13 a14 zuv rfl (fun c0_ c1_ c2_ c3_ c4_=>some (c0_,c1_,c2_,c3_,c4_))) (by kernel_rfl)
theorem yd5:SumOne J 50 zun:=mkT yf8 yen fun pts v news hp=>by
 unfold zun at hp
 split at hp
 ·exact fin3 (yhh ..) hp
 ·cases hp
def tb23:List (Nat×(List PT→Option (Bool×AV×List Blk))):=(50,zun)::tb21
def lt23:List ((Nat×Nat)×(Nat→St→Option (Bool×LO))):=lt21
def Γ23:Ctx:=⟨tyTab,fnTab,tblSum tb23,tblLp lt23⟩
theorem yfs:SumL J tb23:=SumL.cons yd5 (yf8)
theorem yf2:LpL J fnTab lt23:=yen
def zbu:St:=(.mk [(x0P 0 4 7),(x0S 13 5 a0 1),(x0I 29 c1),(x0I 30 c2)] [(x0L g3),(x0L g4),(x0L g5),(x0L g6),(x0R false 0 1 2 3 a7 a8 a9 a10 c11 a12 a13),(x0T g14)])
def zh5:St:=(.mk [(x0P 0 4 7),(x0S 13 5 a0 1),(x0I 29 c1),(x0I 30 c13),(x0B 31 e14)] [(x0L g2),(x0L g3),(x0L g4),(x0L g5),(x0R false 0 1 2 3 a6 a7 a8 a9 c10 a11 a12),(x0T g15)])
def ziz:Option ((Int×Bool×(List Nat)))→Option (Ex×St)
 | none=>none
 | some r=>some ((.exit 0),(zh5 a0 c1 g2 g3 g4 g5 a6 a7 a8 a9 c10 a11 a12 r.1 r.2.1 r.2.2))
def zpk (x:Option ((Int×Bool×(List Nat)))):LO:=(.one (.exit 0) (zh5 a0 c1 g2 g3 g4 g5 a6 a7 a8 a9 c10 a11 a12 (x.getD default).1 (x.getD default).2.1 (x.getD default).2.2))
def y3f:Bool×LO:=sL (zpk a0 c1 g3 g4 g5 g6 a7 a8 a9 a10 c11 a12 a13) (z1g a0 c1 g6 a10 big c2 g14)
def zrn:Nat→St→Option (Bool×LO):=lpT 5 (pSt [(x1P 0 4 7),(x1S 13 5 1),(x1I 29),(x1I 30)] [x1L,x1L,x1L,x1L,(x1R false 0 1 2 3),x1T]) (fun hs=>y3f (hN hs 0) (hI hs 1) (hI hs 2) (hLn hs 3) (hLn hs 4) (hLn hs 5) (hLn hs 6) (hN hs 7) (hN hs 8) (hN hs 9) (hN hs 10) (hI hs 11) (hN hs 12) (hN hs 13) (hLn hs 14))
theorem y7h:∀ x:Option ((Int×Bool×(List Nat))),x.isSome=true→(ziz a0 c1 g2 g3 g4 g5 a6 a7 a8 a9 c10 a11 a12) x=some (pick (zpk a0 c1 g2 g3 g4 g5 a6 a7 a8 a9 c10 a11 a12 x))
 | none,h=>by cases h
 | some r,_=>rfl
theorem y6p (K:Ex→St→Option (Ex×St)):ev9 Γ23 80 5 5 fi80 (zbu a0 c1 c2 g3 g4 g5 g6 a7 a8 a9 a10 c11 a12 a13 g14) K=z30 a0 c1 g6 a10 c2 g14 (fun t30' b5'=>K .normal (zbu a0 c1 t30' g3 g4 g5 g6 a7 a8 a9 a10 c11 a12 a13 b5')) (fun c0_ c1_ c2_=>K (.exit 0) (zh5 a0 c1 g3 g4 g5 g6 a7 a8 a9 a10 c11 a12 a13 c0_ c1_ c2_)):=by kernel_rfl
theorem y63:∀ (n:Nat) (t30:Int) (b5:List Nat),iter 80 5 5 (ev9 Γ23 80 5 5 fi80) n (zbu a0 c1 t30 g2 g3 g4 g5 a6 a7 a8 a9 c10 a11 a12 b5) (fun e st=>some (e,st))=(ziz a0 c1 g2 g3 g4 g5 a6 a7 a8 a9 c10 a11 a12) (z1g a0 c1 g5 a9 n t30 b5):=by
 intro n
 induction n with
 | zero=>intros;rfl
 | succ n ih=>
  intro t30 b5
  refine Eq.trans (iter_succ ..) (Eq.trans (y6p ..) (Eq.trans ?_ (zyw a0 c1 g5 a9 t30 b5 (ziz a0 c1 g2 g3 g4 g5 a6 a7 a8 a9 c10 a11 a12) rfl (fun t30' b5'=>z1g a0 c1 g5 a9 n t30' b5') (fun c0_ c1_ c2_=>some (c0_,c1_,c2_)))))
  exact congrArg (fun kn_=>z30 a0 c1 g5 a9 t30 b5 kn_ _) (funext fun t30'=>funext fun b5'=>ih ..)
theorem y09:LoopOne J fnTab 80 5 zrn:=lpK yfs yf2 (fi:=fi80) (by kernel_rfl) (by kernel_rfl) (q:=fun hs=>(zbu (hN hs 0) (hI hs 1) (hI hs 2) (hLn hs 3) (hLn hs 4) (hLn hs 5) (hLn hs 6) (hN hs 7) (hN hs 8) (hN hs 9) (hN hs 10) (hI hs 11) (hN hs 12) (hN hs 13) (hLn hs 14))) (fun hs=>by kernel_rfl) fun hs h1=>Eq.trans (y63 (hN hs 0) (hI hs 1) (hLn hs 3) (hLn hs 4) (hLn hs 5) (hLn hs 6) (hN hs 7) (hN hs 8) (hN hs 9) (hN hs 10) (hI hs 11) (hN hs 12) (hN hs 13) big (hI hs 2) (hLn hs 14)) (y7h (hN hs 0) (hI hs 1) (hLn hs 3) (hLn hs 4) (hLn hs 5) (hLn hs 6) (hN hs 7) (hN hs 8) (hN hs 9) (hN hs 10) (hI hs 11) (hN hs 12) (hN hs 13) _ h1)
def tb24:List (Nat×(List PT→Option (Bool×AV×List Blk))):=tb23
def lt24:List ((Nat×Nat)×(Nat→St→Option (Bool×LO))):=((80,5),zrn)::lt23
def Γ24:Ctx:=⟨tyTab,fnTab,tblSum tb24,tblLp lt24⟩
theorem ygd:SumL J tb24:=yfs
theorem ygi:LpL J fnTab lt24:=LpL.cons y09 (yf2)
def zne  : Option (Nat×Bool)→Option (AV×List Blk)
 | some r=>some ((.tup [(.one (.flt .f32 r.1)),(.one (.bool r.2))]),[])
 | none=>none
def znk:List PT→Option (Bool×AV×List Blk)
 | [.ptr [.row 1 q00 (.fl .f32 q03),.row 1 q02 (.fl .f32 q06),.row 1 q01 (.fl .f32 q05),.row 3 q09 (.fl .f32 q0e),.s (.int .i64 q0h),.s (.flt .f32 q0n),.s (.flt .f32 q0m)],.one (.s (.flt .f32 q0s)),.one (.s (.flt .f32 q0p)),.one (.s (.flt .f32 q0l)),.one (.s (.flt .f32 q0q))]=>sF zne (z5i q00 q03 q02 q06 q01 q05 q09 q0e q0h q0n q0m q0s q0p q0l q0q)
 | _=>none
theorem ycy:ev8 Γ24 80 [.ptr [.row 1 a0 (.fl .f32 g1),.row 1 a2 (.fl .f32 g3),.row 1 a4 (.fl .f32 g5),.row 3 a6 (.fl .f32 g7),.s (.int .i64 c8),.s (.flt .f32 a9),.s (.flt .f32 a10)],.one (.s (.flt .f32 a11)),.one (.s (.flt .f32 a12)),.one (.s (.flt .f32 a13)),.one (.s (.flt .f32 a14))]=zne (z5i a0 g1 a2 g3 a4 g5 a6 g7 c8 a9 a10 a11 a12 a13 a14):=tr2 (y4t a0 g1 a2 g3 a4 g5 a6 g7 c8 a9 a10 a11 a12 a13 a14 zne rfl (fun c0_ c1_=>some (c0_,c1_))) (by kernel_rfl)
theorem y79:SumOne J 80 znk:=mkT ygd ygi fun pts v news hp=>by
 unfold znk at hp
 split at hp
 ·exact fin3 (ycy ..) hp
 ·cases hp
def tb25:List (Nat×(List PT→Option (Bool×AV×List Blk))):=(80,znk)::tb24
def lt25:List ((Nat×Nat)×(Nat→St→Option (Bool×LO))):=lt24
def Γ25:Ctx:=⟨tyTab,fnTab,tblSum tb25,tblLp lt25⟩
theorem y9q:SumL J tb25:=SumL.cons y79 (ygd)
theorem y9m:LpL J fnTab lt25:=ygi
def zqp  : Option (Nat×Bool)→Option (AV×List Blk)
 | some r=>some ((.tup [(.one (.flt .f32 r.1)),(.one (.bool r.2))]),[])
 | none=>none
def zq2:List PT→Option (Bool×AV×List Blk)
 | [.ptr [.row 1 q00 (.fl .f32 q03),.row 1 q02 (.fl .f32 q06),.row 1 q01 (.fl .f32 q05),.row 3 q09 (.fl .f32 q0e),.s (.int .i64 q0h),.s (.flt .f32 q0n),.s (.flt .f32 q0m)],.one (.s (.flt .f32 q0s)),.one (.s (.flt .f32 q0p)),.one (.s (.flt .f32 q0l)),.one (.s (.flt .f32 q0q))]=>sF zqp (z6l q00 q03 q02 q06 q01 q05 q09 q0e q0h q0n q0m q0s q0p q0l q0q)
 | _=>none
theorem yea:ev8 Γ25 63 [.ptr [.row 1 a0 (.fl .f32 g1),.row 1 a2 (.fl .f32 g3),.row 1 a4 (.fl .f32 g5),.row 3 a6 (.fl .f32 g7),.s (.int .i64 c8),.s (.flt .f32 a9),.s (.flt .f32 a10)],.one (.s (.flt .f32 a11)),.one (.s (.flt .f32 a12)),.one (.s (.flt .f32 a13)),.one (.s (.flt .f32 a14))]=zqp (z6l a0 g1 a2 g3 a4 g5 a6 g7 c8 a9 a10 a11 a12 a13 a14):=tr2 (y68 a0 g1 a2 g3 a4 g5 a6 g7 c8 a9 a10 a11 a12 a13 a14 zqp rfl (fun c0_ c1_=>some (c0_,c1_))) (by kernel_rfl)
theorem y8g:SumOne J 63 zq2:=mkT y9q y9m fun pts v news hp=>by
 unfold zq2 at hp
 split at hp
 ·exact fin3 (yea ..) hp
 ·cases hp
def zd1:St:=(.mk [(x0P 5 4 7),(x0S 13 5 a0 1),(x0V 30 3 a1 3),(x0I 31 c2),(x0I 32 c3)] [(x0L g4),(x0L g5),(x0L g6),(x0L g7),(x0R true 0 1 2 3 a8 a9 a10 a11 c12 a13 a14),(x0T g15)])
def ziq:St:=(.mk [(x0P 5 4 7),(x0S 13 5 a0 1),(x0V 30 3 a1 3),(x0I 31 c2),(x0I 32 c14),(x0B 33 e15)] [(x0L g3),(x0L g4),(x0L g5),(x0L g6),(x0R true 0 1 2 3 a7 a8 a9 a10 c11 a12 a13),(x0T g16)])
def zkc:Option ((Int×Bool×(List Nat)))→Option (Ex×St)
 | none=>none
 | some r=>some ((.exit 0),(ziq a0 a1 c2 g3 g4 g5 g6 a7 a8 a9 a10 c11 a12 a13 r.1 r.2.1 r.2.2))
def zrx (x:Option ((Int×Bool×(List Nat)))):LO:=(.one (.exit 0) (ziq a0 a1 c2 g3 g4 g5 g6 a7 a8 a9 a10 c11 a12 a13 (x.getD default).1 (x.getD default).2.1 (x.getD default).2.2))
def y55:Bool×LO:=sL (zrx a0 a1 c2 g4 g5 g6 g7 a8 a9 a10 a11 c12 a13 a14) (z1l a0 a1 c2 g7 big c3 g15)
def ztj:Nat→St→Option (Bool×LO):=lpT 4 (pSt [(x1P 5 4 7),(x1S 13 5 1),(x1V 30 3 3),(x1I 31),(x1I 32)] [x1L,x1L,x1L,x1L,(x1R true 0 1 2 3),x1T]) (fun hs=>y55 (hN hs 0) (hN hs 1) (hI hs 2) (hI hs 3) (hLn hs 4) (hLn hs 5) (hLn hs 6) (hLn hs 7) (hN hs 8) (hN hs 9) (hN hs 10) (hN hs 11) (hI hs 12) (hN hs 13) (hN hs 14) (hLn hs 15))
theorem y82:∀ x:Option ((Int×Bool×(List Nat))),x.isSome=true→(zkc a0 a1 c2 g3 g4 g5 g6 a7 a8 a9 a10 c11 a12 a13) x=some (pick (zrx a0 a1 c2 g3 g4 g5 g6 a7 a8 a9 a10 c11 a12 a13 x))
 | none,h=>by cases h
 | some r,_=>rfl
theorem y8q (K:Ex→St→Option (Ex×St)):ev9 Γ25 23 5 4 fi23 (zd1 a0 a1 c2 c3 g4 g5 g6 g7 a8 a9 a10 a11 c12 a13 a14 g15) K=z3e a0 a1 c2 g7 c3 g15 (fun t32' b5'=>K .normal (zd1 a0 a1 c2 t32' g4 g5 g6 g7 a8 a9 a10 a11 c12 a13 a14 b5')) (fun c0_ c1_ c2_=>K (.exit 0) (ziq a0 a1 c2 g4 g5 g6 g7 a8 a9 a10 a11 c12 a13 a14 c0_ c1_ c2_)):=by kernel_rfl
theorem y84:∀ (n:Nat) (t32:Int) (b5:List Nat),iter 23 5 4 (ev9 Γ25 23 5 4 fi23) n (zd1 a0 a1 c2 t32 g3 g4 g5 g6 a7 a8 a9 a10 c11 a12 a13 b5) (fun e st=>some (e,st))=(zkc a0 a1 c2 g3 g4 g5 g6 a7 a8 a9 a10 c11 a12 a13) (z1l a0 a1 c2 g6 n t32 b5):=by
 intro n
 induction n with
 | zero=>intros;rfl
 | succ n ih=>
  intro t32 b5
  refine Eq.trans (iter_succ ..) (Eq.trans (y8q ..) (Eq.trans ?_ (y0y a0 a1 c2 g6 t32 b5 (zkc a0 a1 c2 g3 g4 g5 g6 a7 a8 a9 a10 c11 a12 a13) rfl (fun t32' b5'=>z1l a0 a1 c2 g6 n t32' b5') (fun c0_ c1_ c2_=>some (c0_,c1_,c2_)))))
  exact congrArg (fun kn_=>z3e a0 a1 c2 g6 t32 b5 kn_ _) (funext fun t32'=>funext fun b5'=>ih ..)
theorem y2m:LoopOne J fnTab 23 5 ztj:=lpK y9q y9m (fi:=fi23) (by kernel_rfl) (by kernel_rfl) (q:=fun hs=>(zd1 (hN hs 0) (hN hs 1) (hI hs 2) (hI hs 3) (hLn hs 4) (hLn hs 5) (hLn hs 6) (hLn hs 7) (hN hs 8) (hN hs 9) (hN hs 10) (hN hs 11) (hI hs 12) (hN hs 13) (hN hs 14) (hLn hs 15))) (fun hs=>by kernel_rfl) fun hs h1=>Eq.trans (y84 (hN hs 0) (hN hs 1) (hI hs 2) (hLn hs 4) (hLn hs 5) (hLn hs 6) (hLn hs 7) (hN hs 8) (hN hs 9) (hN hs 10) (hN hs 11) (hI hs 12) (hN hs 13) (hN hs 14) big (hI hs 3) (hLn hs 15)) (y82 (hN hs 0) (hN hs 1) (hI hs 2) (hLn hs 4) (hLn hs 5) (hLn hs 6) (hLn hs 7) (hN hs 8) (hN hs 9) (hN hs 10) (hN hs 11) (hI hs 12) (hN hs 13) (hN hs 14) _ h1)
def tb27:List (Nat×(List PT→Option (Bool×AV×List Blk))):=(63,zq2)::tb25
def lt27:List ((Nat×Nat)×(Nat→St→Option (Bool×LO))):=((23,5),ztj)::lt25
def Γ27:Ctx:=⟨tyTab,fnTab,tblSum tb27,tblLp lt27⟩
theorem ygl:SumL J tb27:=SumL.cons y8g (y9q)
theorem yg4:LpL J fnTab lt27:=LpL.cons y2m (y9m)
def zam:St:=(.mk [(x0V 1 4 a0 1),(x0F 2 a1),(x0F 3 a2),(x0F 4 a3),(x0P 5 5 7),(x0S 12 6 a4 1),(x0I 40 c5),(x0I 41 c6)] [(x0L g7),(x0L g8),(x0L g9),(x0L g10),(x0L g11),(x0R true 0 1 2 3 a12 a13 a14 a15 c16 a17 a18),(x0T g19)])
def zgc(q2p q0p q0l q0q:Nat)(t40:Int)(b0 b1 b2 b3 b4:List Nat)(q18 q17 q16 q13:Nat)(q1k:Int)(q1l q1m:Nat):St:=(.mk [(10,(.v (.one .nilsl))),(x0B 11 false)] [(x0L b0),(x0L b1),(x0L b2),(x0L b3),(x0L b4)])
def zfw:St:=(.mk [(x0V 1 4 a0 1),(x0F 2 a1),(x0F 3 a2),(x0F 4 a3),(x0P 5 5 7),(x0S 12 6 a17 1),(x0I 40 c4),(x0I 41 c18),(x0B 42 e19)] [(x0L g5),(x0L g6),(x0L g7),(x0L g8),(x0L g9),(x0R true 0 1 2 3 a10 a11 a12 a13 c14 a15 a16),(x0T g20)])
def zhj:Option ((Unit)⊕(Nat×Int×Bool×(List Nat)))→Option (Ex×St)
 | none=>none
 | some (Sum.inl r)=>some (.ret,(zgc a0 a1 a2 a3 c4 g5 g6 g7 g8 g9 a10 a11 a12 a13 c14 a15 a16))
 | some (Sum.inr r)=>some ((.exit 0),(zfw a0 a1 a2 a3 c4 g5 g6 g7 g8 g9 a10 a11 a12 a13 c14 a15 a16 r.1 r.2.1 r.2.2.1 r.2.2.2))
def zp9 (x:Option ((Unit)⊕(Nat×Int×Bool×(List Nat)))):LO:=(.two (oL x) (.one .ret (zgc a0 a1 a2 a3 c4 g5 g6 g7 g8 g9 a10 a11 a12 a13 c14 a15 a16)) (.one (.exit 0) (zfw a0 a1 a2 a3 c4 g5 g6 g7 g8 g9 a10 a11 a12 a13 c14 a15 a16 ((tR x).getD default).1 ((tR x).getD default).2.1 ((tR x).getD default).2.2.1 ((tR x).getD default).2.2.2)))
def y06:Bool×LO:=sL (zp9 a0 a1 a2 a3 c5 g7 g8 g9 g10 g11 a12 a13 a14 a15 c16 a17 a18) (z0i a0 a1 a2 a3 c5 g7 g8 g9 g10 g11 a12 a13 a14 a15 c16 a17 a18 big a4 c6 g19)
def zqq:Nat→St→Option (Bool×LO):=lpT 5 (pSt [(x1V 1 4 1),(x1F 2),(x1F 3),(x1F 4),(x1P 5 5 7),(x1S 12 6 1),(x1I 40),(x1I 41)] [x1L,x1L,x1L,x1L,x1L,(x1R true 0 1 2 3),x1T]) (fun hs=>y06 (hN hs 0) (hN hs 1) (hN hs 2) (hN hs 3) (hN hs 4) (hI hs 5) (hI hs 6) (hLn hs 7) (hLn hs 8) (hLn hs 9) (hLn hs 10) (hLn hs 11) (hN hs 12) (hN hs 13) (hN hs 14) (hN hs 15) (hI hs 16) (hN hs 17) (hN hs 18) (hLn hs 19))
theorem y4d:∀ x:Option ((Unit)⊕(Nat×Int×Bool×(List Nat))),x.isSome=true→(zhj a0 a1 a2 a3 c4 g5 g6 g7 g8 g9 a10 a11 a12 a13 c14 a15 a16) x=some (pick (zp9 a0 a1 a2 a3 c4 g5 g6 g7 g8 g9 a10 a11 a12 a13 c14 a15 a16 x))
 | none,h=>by cases h
 | some (Sum.inl r),_=>rfl
 | some (Sum.inr r),_=>rfl
theorem y3h (K:Ex→St→Option (Ex×St)):ev9 Γ27 47 5 5 fi47 (zam a0 a1 a2 a3 a4 c5 c6 g7 g8 g9 g10 g11 a12 a13 a14 a15 c16 a17 a18 g19) K=z2r a0 a1 a2 a3 c5 g7 g8 g9 g10 g11 a12 a13 a14 a15 c16 a17 a18 a4 c6 g19 (fun q1s' t41' b6'=>K .normal (zam a0 a1 a2 a3 q1s' c5 t41' g7 g8 g9 g10 g11 a12 a13 a14 a15 c16 a17 a18 b6')) (fun _=>K .ret (zgc a0 a1 a2 a3 c5 g7 g8 g9 g10 g11 a12 a13 a14 a15 c16 a17 a18)) (fun c0_ c1_ c2_ c3_=>K (.exit 0) (zfw a0 a1 a2 a3 c5 g7 g8 g9 g10 g11 a12 a13 a14 a15 c16 a17 a18 c0_ c1_ c2_ c3_)):=by kernel_rfl
theorem y42:∀ (n q1s:Nat) (t41:Int) (b6:List Nat),iter 47 5 5 (ev9 Γ27 47 5 5 fi47) n (zam a0 a1 a2 a3 q1s c4 t41 g5 g6 g7 g8 g9 a10 a11 a12 a13 c14 a15 a16 b6) (fun e st=>some (e,st))=(zhj a0 a1 a2 a3 c4 g5 g6 g7 g8 g9 a10 a11 a12 a13 c14 a15 a16) (z0i a0 a1 a2 a3 c4 g5 g6 g7 g8 g9 a10 a11 a12 a13 c14 a15 a16 n q1s t41 b6):=by
 intro n
 induction n with
 | zero=>intros;rfl
 | succ n ih=>
  intro q1s t41 b6
  refine Eq.trans (iter_succ ..) (Eq.trans (y3h ..) (Eq.trans ?_ (zwq a0 a1 a2 a3 c4 g5 g6 g7 g8 g9 a10 a11 a12 a13 c14 a15 a16 q1s t41 b6 (zhj a0 a1 a2 a3 c4 g5 g6 g7 g8 g9 a10 a11 a12 a13 c14 a15 a16) rfl (fun q1s' t41' b6'=>z0i a0 a1 a2 a3 c4 g5 g6 g7 g8 g9 a10 a11 a12 a13 c14 a15 a16 n q1s' t41' b6') (fun _=>some (Sum.inl ())) (fun c0_ c1_ c2_ c3_=>some (Sum.inr (c0_,c1_,c2_,c3_))))))
  exact congrArg (fun kn_=>z2r a0 a1 a2 a3 c4 g5 g6 g7 g8 g9 a10 a11 a12 a13 c14 a15 a16 q1s t41 b6 kn_ _ _) (funext fun q1s'=>funext fun t41'=>funext fun b6'=>ih ..)
theorem zzl:LoopOne J fnTab 47 5 zqq:=lpK ygl yg4 (fi:=fi47) (by kernel_rfl) (by kernel_rfl) (q:=fun hs=>(zam (hN hs 0) (hN hs 1) (hN hs 2) (hN hs 3) (hN hs 4) (hI hs 5) (hI hs 6) (hLn hs 7) (hLn hs 8) (hLn hs 9) (hLn hs 10) (hLn hs 11) (hN hs 12) (hN hs 13) (hN hs 14) (hN hs 15) (hI hs 16) (hN hs 17) (hN hs 18) (hLn hs 19))) (fun hs=>by kernel_rfl) fun hs h1=>Eq.trans (y42 (hN hs 0) (hN hs 1) (hN hs 2) (hN hs 3) (hI hs 5) (hLn hs 7) (hLn hs 8) (hLn hs 9) (hLn hs 10) (hLn hs 11) (hN hs 12) (hN hs 13) (hN hs 14) (hN hs 15) (hI hs 16) (hN hs 17) (hN hs 18) big (hN hs 4) (hI hs 6) (hLn hs 19)) (y4d (hN hs 0) (hN hs 1) (hN hs 2) (hN hs 3) (hI hs 5) (hLn hs 7) (hLn hs 8) (hLn hs 9) (hLn hs 10) (hLn hs 11) (hN hs 12) (hN hs 13) (hN hs 14) (hN hs 15) (hI hs 16) (hN hs 17) (hN hs 18) _ h1)
def tb28:List (Nat×(List PT→Option (Bool×AV×List Blk))):=tb27
def lt28:List ((Nat×Nat)×(Nat→St→Option (Bool×LO))):=((47,5),zqq)::lt27
def Γ28:Ctx:=⟨tyTab,fnTab,tblSum tb28,tblLp lt28⟩
theorem yfm:SumL J tb28:=ygl
theorem yfy:LpL J fnTab lt28:=LpL.cons zzl (yg4)
def zm0  : Option (Nat×Bool×(List Nat))→Option (AV×List Blk)
 | some r=>some ((.tup [(.one (.sl 0 0 r.1 1)),(.one (.bool r.2.1))]),[(.mk true (.fl .f32 r.2.2))])
 | none=>none
def zls:List PT→Option (Bool×AV×List Blk)
 | [.agg [.row 1 q00 (.fl .f32 q03),.row 1 q02 (.fl .f32 q06),.row 1 q01 (.fl .f32 q05),.row 3 q09 (.fl .f32 q0e),.s (.int .i64 q0h),.s (.flt .f32 q0n),.s (.flt .f32 q0m)],.one (.row 1 q2e (.fl .f32 q36)),.one (.s (.flt .f32 q0p)),.one (.s (.flt .f32 q0l)),.one (.s (.flt .f32 q0q))]=>sF zm0 (z41 q00 q03 q02 q06 q01 q05 q09 q0e q0h q0n q0m q2e q36 q0p q0l q0q)
 | _=>none
theorem yaf:ev8 Γ28 47 [.agg [.row 1 a0 (.fl .f32 g1),.row 1 a2 (.fl .f32 g3),.row 1 a4 (.fl .f32 g5),.row 3 a6 (.fl .f32 g7),.s (.int .i64 c8),.s (.flt .f32 a9),.s (.flt .f32 a10)],.one (.row 1 a11 (.fl .f32 g12)),.one (.s (.flt .f32 a13)),.one (.s (.flt .f32 a14)),.one (.s (.flt .f32 a15))]=zm0 (z41 a0 g1 a2 g3 a4 g5 a6 g7 c8 a9 a10 a11 g12 a13 a14 a15):=tr2 (y2r a0 g1 a2 g3 a4 g5 a6 g7 c8 a9 a10 a11 g12 a13 a14 a15 zm0 rfl (fun c0_ c1_ c2_=>some (c0_,c1_,c2_))) (by kernel_rfl)
theorem y48:SumOne J 47 zls:=mkT yfm yfy fun pts v news hp=>by
 unfold zls at hp
 split at hp
 ·exact fin3 (yaf ..) hp
 ·cases hp
end
end Go.Proofs.YtijjhfailnmeoaaGreat
