import Derived.Test.YtijjhfailnmeoaaGreatRotorPowerS0
set_option linter.unusedVariables false
set_option linter.unusedSimpArgs false
set_option linter.unusedSectionVars false
set_option maxRecDepth 100000
set_option maxHeartbeats 4000000
namespace Go.Proofs.YtijjhfailnmeoaaGreat
open Go Go.Rf
variable {J:Jd Tryz.prog}
noncomputable section
variable (a0:Nat) (a1:Nat) (c1:Int) (g1:List Nat) (a2:Nat) (c2:Int) (g2:List Nat) (c3:Int) (g3:List Nat) (a4:Nat) (g4:List Nat) (g5:List Nat) (a6:Nat) (g6:List Nat) (a7:Nat) (g7:List Nat) (a8:Nat) (c8:Int) (a9:Nat) (a10:Nat) (c10:Int) (a11:Nat) (c11:Int) (a12:Nat) (c12:Int) (a13:Nat) (a14:Nat) (c14:Int) (g14:List Nat) (e15:Bool) (g15:List Nat) (g16:List Nat)
def zo3:Nat→St→Option (Bool×LO):=lpT 5 (pSt [(x1P 0 4 7),(x1S 13 5 1),(x1I 29),(x1I 30)] [x1L,x1L,x1L,x1L,(x1R false 0 1 2 3),x1T]) (fun hs=>zx6 (hN hs 0) (hI hs 1) (hI hs 2) (hLn hs 3) (hLn hs 4) (hLn hs 5) (hLn hs 6) (hN hs 7) (hN hs 8) (hN hs 9) (hN hs 10) (hI hs 11) (hN hs 12) (hN hs 13) (hLn hs 14))
theorem y1l:∀ x:Option ((Int×Bool×(List Nat))),x.isSome=true→(zfx a0 c1 g2 g3 g4 g5 a6 a7 a8 a9 c10 a11 a12) x=some (pick (znh a0 c1 g2 g3 g4 g5 a6 a7 a8 a9 c10 a11 a12 x))
 | none,h=>by cases h
 | some r,_=>rfl
theorem y1t (K:Ex→St→Option (Ex×St)):ev9 Γ23 80 5 5 fi80 (z9s a0 c1 c2 g3 g4 g5 g6 a7 a8 a9 a10 c11 a12 a13 g14) K=z2a a0 c1 g6 a10 c2 g14 (fun t30' b5'=>K .normal (z9s a0 c1 t30' g3 g4 g5 g6 a7 a8 a9 a10 c11 a12 a13 b5')) (fun c0_ c1_ c2_=>K (.exit 0) (zdq a0 c1 g3 g4 g5 g6 a7 a8 a9 a10 c11 a12 a13 c0_ c1_ c2_)):=by kernel_rfl
theorem y2f:∀ (n:Nat) (t30:Int) (b5:List Nat),iter 80 5 5 (ev9 Γ23 80 5 5 fi80) n (z9s a0 c1 t30 g2 g3 g4 g5 a6 a7 a8 a9 c10 a11 a12 b5) (fun e st=>some (e,st))=(zfx a0 c1 g2 g3 g4 g5 a6 a7 a8 a9 c10 a11 a12) (z10 a0 c1 g5 a9 n t30 b5):=by
 intro n
 induction n with
 | zero=>intros;rfl
 | succ n ih=>
  intro t30 b5
  refine Eq.trans (iter_succ ..) (Eq.trans (y1t ..) (Eq.trans ?_ (zum a0 c1 g5 a9 t30 b5 (zfx a0 c1 g2 g3 g4 g5 a6 a7 a8 a9 c10 a11 a12) rfl (fun t30' b5'=>z10 a0 c1 g5 a9 n t30' b5') (fun c0_ c1_ c2_=>some (c0_,c1_,c2_)))))
  exact congrArg (fun kn_=>z2a a0 c1 g5 a9 t30 b5 kn_ _) (funext fun t30'=>funext fun b5'=>ih ..)
theorem zvv:LoopOne J fnTab 80 5 zo3:=lpK yax yam (fi:=fi80) (by kernel_rfl) (by kernel_rfl) (q:=fun hs=>(z9s (hN hs 0) (hI hs 1) (hI hs 2) (hLn hs 3) (hLn hs 4) (hLn hs 5) (hLn hs 6) (hN hs 7) (hN hs 8) (hN hs 9) (hN hs 10) (hI hs 11) (hN hs 12) (hN hs 13) (hLn hs 14))) (fun hs=>by kernel_rfl) fun hs h1=>Eq.trans (y2f (hN hs 0) (hI hs 1) (hLn hs 3) (hLn hs 4) (hLn hs 5) (hLn hs 6) (hN hs 7) (hN hs 8) (hN hs 9) (hN hs 10) (hI hs 11) (hN hs 12) (hN hs 13) big (hI hs 2) (hLn hs 14)) (y1l (hN hs 0) (hI hs 1) (hLn hs 3) (hLn hs 4) (hLn hs 5) (hLn hs 6) (hN hs 7) (hN hs 8) (hN hs 9) (hN hs 10) (hI hs 11) (hN hs 12) (hN hs 13) _ h1)
def tb24:List (Nat×(List PT→Option (Bool×AV×List Blk))):=tb23
def lt24:List ((Nat×Nat)×(Nat→St→Option (Bool×LO))):=((80,5),zo3)::lt23
def Γ24:Ctx:=⟨tyTab,fnTab,tblSum tb24,tblLp lt24⟩
theorem ya1:SumL J tb24:=yax
theorem yaz:LpL J fnTab lt24:=LpL.cons zvv (yam)
def zk6  : Option (Nat×Bool)→Option (AV×List Blk)
 | some r=>some ((.tup [(.one (.flt .f32 r.1)),(.one (.bool r.2))]),[])
 | none=>none
def zkz:List PT→Option (Bool×AV×List Blk)
 | [.ptr [.row 1 q00 (.fl .f32 q03),.row 1 q02 (.fl .f32 q04),.row 1 q01 (.fl .f32 q05),.row 3 q06 (.fl .f32 q07),.s (.int .i64 q0b),.s (.flt .f32 q0j),.s (.flt .f32 q0i)],.one (.s (.flt .f32 q0x)),.one (.s (.flt .f32 q0q)),.one (.s (.flt .f32 q0k)),.one (.s (.flt .f32 q1e))]=>sF zk6 (z4j q00 q03 q02 q04 q01 q05 q06 q07 q0b q0j q0i q0x q0q q0k q1e)
 | _=>none
theorem y7z:ev8 Γ24 80 [.ptr [.row 1 a0 (.fl .f32 g1),.row 1 a2 (.fl .f32 g3),.row 1 a4 (.fl .f32 g5),.row 3 a6 (.fl .f32 g7),.s (.int .i64 c8),.s (.flt .f32 a9),.s (.flt .f32 a10)],.one (.s (.flt .f32 a11)),.one (.s (.flt .f32 a12)),.one (.s (.flt .f32 a13)),.one (.s (.flt .f32 a14))]=zk6 (z4j a0 g1 a2 g3 a4 g5 a6 g7 c8 a9 a10 a11 a12 a13 a14):=tr2 (zz6 a0 g1 a2 g3 a4 g5 a6 g7 c8 a9 a10 a11 a12 a13 a14 zk6 rfl (fun c0_ c1_=>some (c0_,c1_))) (by kernel_rfl)
theorem y1a:SumOne J 80 zkz:=mkT ya1 yaz fun pts v news hp=>by
 unfold zkz at hp
 split at hp
 ·exact fin3 (y7z ..) hp
 ·cases hp
def tb25:List (Nat×(List PT→Option (Bool×AV×List Blk))):=(80,zkz)::tb24
def lt25:List ((Nat×Nat)×(Nat→St→Option (Bool×LO))):=lt24
def Γ25:Ctx:=⟨tyTab,fnTab,tblSum tb25,tblLp lt25⟩
theorem y4n:SumL J tb25:=SumL.cons y1a (ya1)
theorem y4m:LpL J fnTab lt25:=yaz
def zmq  : Option (Nat×Bool)→Option (AV×List Blk)
 | some r=>some ((.tup [(.one (.flt .f32 r.1)),(.one (.bool r.2))]),[])
 | none=>none
def zn7:List PT→Option (Bool×AV×List Blk)
 | [.ptr [.row 1 q00 (.fl .f32 q03),.row 1 q02 (.fl .f32 q04),.row 1 q01 (.fl .f32 q05),.row 3 q06 (.fl .f32 q07),.s (.int .i64 q0b),.s (.flt .f32 q0j),.s (.flt .f32 q0i)],.one (.s (.flt .f32 q0x)),.one (.s (.flt .f32 q0q)),.one (.s (.flt .f32 q0k)),.one (.s (.flt .f32 q1e))]=>sF zmq (z5d q00 q03 q02 q04 q01 q05 q06 q07 q0b q0j q0i q0x q0q q0k q1e)
 | _=>none
theorem y8o:ev8 Γ25 63 [.ptr [.row 1 a0 (.fl .f32 g1),.row 1 a2 (.fl .f32 g3),.row 1 a4 (.fl .f32 g5),.row 3 a6 (.fl .f32 g7),.s (.int .i64 c8),.s (.flt .f32 a9),.s (.flt .f32 a10)],.one (.s (.flt .f32 a11)),.one (.s (.flt .f32 a12)),.one (.s (.flt .f32 a13)),.one (.s (.flt .f32 a14))]=zmq (z5d a0 g1 a2 g3 a4 g5 a6 g7 c8 a9 a10 a11 a12 a13 a14):=tr2 (y1b a0 g1 a2 g3 a4 g5 a6 g7 c8 a9 a10 a11 a12 a13 a14 zmq rfl (fun c0_ c1_=>some (c0_,c1_))) (by kernel_rfl)
theorem y3g:SumOne J 63 zn7:=mkT y4n y4m fun pts v news hp=>by
 unfold zn7 at hp
 split at hp
 ·exact fin3 (y8o ..) hp
 ·cases hp
def zb0:St:=(.mk [(x0P 5 4 7),(x0S 13 5 a0 1),(x0V 30 3 a1 3),(x0I 31 c2),(x0I 32 c3)] [(x0L g4),(x0L g5),(x0L g6),(x0L g7),(x0R true 0 1 2 3 a8 a9 a10 a11 c12 a13 a14),(x0T g15)])
def zfv:St:=(.mk [(x0P 5 4 7),(x0S 13 5 a0 1),(x0V 30 3 a1 3),(x0I 31 c2),(x0I 32 c14),(x0B 33 e15)] [(x0L g3),(x0L g4),(x0L g5),(x0L g6),(x0R true 0 1 2 3 a7 a8 a9 a10 c11 a12 a13),(x0T g16)])
def zh6:Option ((Int×Bool×(List Nat)))→Option (Ex×St)
 | none=>none
 | some r=>some ((.exit 0),(zfv a0 a1 c2 g3 g4 g5 g6 a7 a8 a9 a10 c11 a12 a13 r.1 r.2.1 r.2.2))
def zo4 (x:Option ((Int×Bool×(List Nat)))):LO:=(.one (.exit 0) (zfv a0 a1 c2 g3 g4 g5 g6 a7 a8 a9 a10 c11 a12 a13 (x.getD default).1 (x.getD default).2.1 (x.getD default).2.2))
def y08:Bool×LO:=sL (zo4 a0 a1 c2 g4 g5 g6 g7 a8 a9 a10 a11 c12 a13 a14) (z16 a0 a1 c2 g7 big c3 g15)
def zps:Nat→St→Option (Bool×LO):=lpT 4 (pSt [(x1P 5 4 7),(x1S 13 5 1),(x1V 30 3 3),(x1I 31),(x1I 32)] [x1L,x1L,x1L,x1L,(x1R true 0 1 2 3),x1T]) (fun hs=>y08 (hN hs 0) (hN hs 1) (hI hs 2) (hI hs 3) (hLn hs 4) (hLn hs 5) (hLn hs 6) (hLn hs 7) (hN hs 8) (hN hs 9) (hN hs 10) (hN hs 11) (hI hs 12) (hN hs 13) (hN hs 14) (hLn hs 15))
theorem y3s:∀ x:Option ((Int×Bool×(List Nat))),x.isSome=true→(zh6 a0 a1 c2 g3 g4 g5 g6 a7 a8 a9 a10 c11 a12 a13) x=some (pick (zo4 a0 a1 c2 g3 g4 g5 g6 a7 a8 a9 a10 c11 a12 a13 x))
 | none,h=>by cases h
 | some r,_=>rfl
theorem y3v (K:Ex→St→Option (Ex×St)):ev9 Γ25 23 5 4 fi23 (zb0 a0 a1 c2 c3 g4 g5 g6 g7 a8 a9 a10 a11 c12 a13 a14 g15) K=z2n a0 a1 c2 g7 c3 g15 (fun t32' b5'=>K .normal (zb0 a0 a1 c2 t32' g4 g5 g6 g7 a8 a9 a10 a11 c12 a13 a14 b5')) (fun c0_ c1_ c2_=>K (.exit 0) (zfv a0 a1 c2 g4 g5 g6 g7 a8 a9 a10 a11 c12 a13 a14 c0_ c1_ c2_)):=by kernel_rfl
theorem y3b:∀ (n:Nat) (t32:Int) (b5:List Nat),iter 23 5 4 (ev9 Γ25 23 5 4 fi23) n (zb0 a0 a1 c2 t32 g3 g4 g5 g6 a7 a8 a9 a10 c11 a12 a13 b5) (fun e st=>some (e,st))=(zh6 a0 a1 c2 g3 g4 g5 g6 a7 a8 a9 a10 c11 a12 a13) (z16 a0 a1 c2 g6 n t32 b5):=by
 intro n
 induction n with
 | zero=>intros;rfl
 | succ n ih=>
  intro t32 b5
  refine Eq.trans (iter_succ ..) (Eq.trans (y3v ..) (Eq.trans ?_ (zwg a0 a1 c2 g6 t32 b5 (zh6 a0 a1 c2 g3 g4 g5 g6 a7 a8 a9 a10 c11 a12 a13) rfl (fun t32' b5'=>z16 a0 a1 c2 g6 n t32' b5') (fun c0_ c1_ c2_=>some (c0_,c1_,c2_)))))
  exact congrArg (fun kn_=>z2n a0 a1 c2 g6 t32 b5 kn_ _) (funext fun t32'=>funext fun b5'=>ih ..)
theorem zyb:LoopOne J fnTab 23 5 zps:=lpK y4n y4m (fi:=fi23) (by kernel_rfl) (by kernel_rfl) (q:=fun hs=>(zb0 (hN hs 0) (hN hs 1) (hI hs 2) (hI hs 3) (hLn hs 4) (hLn hs 5) (hLn hs 6) (hLn hs 7) (hN hs 8) (hN hs 9) (hN hs 10) (hN hs 11) (hI hs 12) (hN hs 13) (hN hs 14) (hLn hs 15))) (fun hs=>by kernel_rfl) fun hs h1=>Eq.trans (y3b (hN hs 0) (hN hs 1) (hI hs 2) (hLn hs 4) (hLn hs 5) (hLn hs 6) (hLn hs 7) (hN hs 8) (hN hs 9) (hN hs 10) (hN hs 11) (hI hs 12) (hN hs 13) (hN hs 14) big (hI hs 3) (hLn hs 15)) (y3s (hN hs 0) (hN hs 1) (hI hs 2) (hLn hs 4) (hLn hs 5) (hLn hs 6) (hLn hs 7) (hN hs 8) (hN hs 9) (hN hs 10) (hN hs 11) (hI hs 12) (hN hs 13) (hN hs 14) _ h1)
def tb26:List (Nat×(List PT→Option (Bool×AV×List Blk))):=(63,zn7)::tb25
def lt26:List ((Nat×Nat)×(Nat→St→Option (Bool×LO))):=((23,5),zps)::lt25
def Γ26:Ctx:=⟨tyTab,fnTab,tblSum tb26,tblLp lt26⟩
theorem y9z:SumL J tb26:=SumL.cons y3g (y4n)
theorem ya9:LpL J fnTab lt26:=LpL.cons zyb (y4m)
def zix  : Option (Nat×Bool)→Option (AV×List Blk)
 | some r=>some ((.tup [(.one (.flt .f32 r.1)),(.one (.bool r.2))]),[])
 | none=>none
def zj3:List PT→Option (Bool×AV×List Blk)
 | [.agg [.row 1 q00 (.fl .f32 q03),.row 1 q02 (.fl .f32 q04),.row 1 q01 (.fl .f32 q05),.row 3 q06 (.fl .f32 q07),.s (.int .i64 q0b),.s (.flt .f32 q0j),.s (.flt .f32 q0i)],.one (.s (.flt .f32 q0x)),.one (.s (.flt .f32 q0q)),.one (.s (.flt .f32 q0k)),.one (.s (.flt .f32 q1e))]=>sF zix (z40 q00 q03 q02 q04 q01 q05 q06 q07 q0b q0j q0i q0x q0q q0k q1e)
 | _=>none
theorem y4y:ev8 Γ26 26 [.agg [.row 1 a0 (.fl .f32 g1),.row 1 a2 (.fl .f32 g3),.row 1 a4 (.fl .f32 g5),.row 3 a6 (.fl .f32 g7),.s (.int .i64 c8),.s (.flt .f32 a9),.s (.flt .f32 a10)],.one (.s (.flt .f32 a11)),.one (.s (.flt .f32 a12)),.one (.s (.flt .f32 a13)),.one (.s (.flt .f32 a14))]=zix (z40 a0 g1 a2 g3 a4 g5 a6 g7 c8 a9 a10 a11 a12 a13 a14):=tr2 (zxf a0 g1 a2 g3 a4 g5 a6 g7 c8 a9 a10 a11 a12 a13 a14 zix rfl (fun c0_ c1_=>some (c0_,c1_))) (by kernel_rfl)
theorem zzi:SumOne J 26 zj3:=mkT y9z ya9 fun pts v news hp=>by
 unfold zj3 at hp
 split at hp
 ·exact fin3 (y4y ..) hp
 ·cases hp
end
end Go.Proofs.YtijjhfailnmeoaaGreat
