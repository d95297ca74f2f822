import Derived.Test.YtijjhfailnmeoaaGreatBestSpeedS0
set_option linter.unusedVariables false
set_option linter.unusedSimpArgs false
set_option linter.unusedSectionVars false
set_option maxRecDepth 100000
set_option maxHeartbeats 4000000
namespace Go.Proofs.YtijjhfailnmeoaaGreat
open Go Go.Rf
variable {J:Jd Tryz.prog}
noncomputable section
variable (a0:Nat) (a1:Nat) (c1:Int) (g1:List Nat) (a2:Nat) (c2:Int) (g2:List Nat) (a3:Nat) (c3:Int) (g3:List Nat) (a4:Nat) (c4:Int) (g4:List Nat) (c5:Int) (g5:List Nat) (a6:Nat) (c6:Int) (g6:List Nat) (a7:Nat) (g7:List Nat) (a8:Nat) (c8:Int) (g8:List Nat) (a9:Nat) (g9:List Nat) (a10:Nat) (c10:Int) (g10:List Nat) (a11:Nat) (c11:Int) (g11:List Nat) (a12:Nat) (c12:Int) (a13:Nat) (c13:Int) (g13:List Nat) (a14:Nat) (c14:Int) (e14:Bool) (g14:List Nat) (a15:Nat) (e15:Bool) (g15:List Nat) (a16:Nat) (c16:Int) (g16:List Nat) (a17:Nat) (a18:Nat) (c18:Int) (e19:Bool) (g19:List Nat) (g20:List Nat)
theorem ydt:ev8 Γ21 50 [.ptr [.row 1 a0 (.fl .f32 g1),.row 1 a2 (.fl .f32 g3),.row 1 a4 (.fl .f32 g5),.row 3 a6 (.fl .f32 g7),.s (.int .i64 c8),.s (.flt .f32 a9),.s (.flt .f32 a10)],.one (.s (.flt .f32 a11)),.one (.s (.flt .f32 a12)),.one (.s (.flt .f32 a13)),.one (.s (.flt .f32 a14))]=zrd (z43 a0 g1 a2 g3 a4 g5 a6 g7 c8 a9 a10 a11 a12 a13 a14):=tr2 (y8d a0 g1 a2 g3 a4 g5 a6 g7 c8 a9 a10 a11 a12 a13 a14 zrd rfl (fun c0_ c1_ c2_ c3_ c4_=>some (c0_,c1_,c2_,c3_,c4_))) (by kernel_rfl)
theorem y9o:SumOne J 50 zrr:=mkT ycb yby fun pts v news hp=>by
 unfold zrr at hp
 split at hp
 ·exact fin3 (ydt ..) hp
 ·cases hp
def tb23:List (Nat×(List PT→Option (Bool×AV×List Blk))):=(50,zrr)::tb21
def lt23:List ((Nat×Nat)×(Nat→St→Option (Bool×LO))):=lt21
def Γ23:Ctx:=⟨tyTab,fnTab,tblSum tb23,tblLp lt23⟩
theorem yd0:SumL J tb23:=SumL.cons y9o (ycb)
theorem ycr:LpL J fnTab lt23:=yby
def zag:St:=(.mk [(x0P 0 4 7),(x0S 13 5 a0 1),(x0I 29 c1),(x0I 30 c2)] [(x0L g3),(x0L g4),(x0L g5),(x0L g6),(x0R false 0 1 2 3 a7 a8 a9 a10 c11 a12 a13),(x0T g14)])
def zfy:St:=(.mk [(x0P 0 4 7),(x0S 13 5 a0 1),(x0I 29 c1),(x0I 30 c13),(x0B 31 e14)] [(x0L g2),(x0L g3),(x0L g4),(x0L g5),(x0R false 0 1 2 3 a6 a7 a8 a9 c10 a11 a12),(x0T g15)])
def zgp:Option ((Int×Bool×(List Nat)))→Option (Ex×St)
 | none=>none
 | some r=>some ((.exit 0),(zfy a0 c1 g2 g3 g4 g5 a6 a7 a8 a9 c10 a11 a12 r.1 r.2.1 r.2.2))
def zmp (x:Option ((Int×Bool×(List Nat)))):LO:=(.one (.exit 0) (zfy a0 c1 g2 g3 g4 g5 a6 a7 a8 a9 c10 a11 a12 (x.getD default).1 (x.getD default).2.1 (x.getD default).2.2))
def zzf:Bool×LO:=sL (zmp a0 c1 g3 g4 g5 g6 a7 a8 a9 a10 c11 a12 a13) (z15 a0 c1 g6 a10 big c2 g14)
def zow:Nat→St→Option (Bool×LO):=lpT 5 (pSt [(x1P 0 4 7),(x1S 13 5 1),(x1I 29),(x1I 30)] [x1L,x1L,x1L,x1L,(x1R false 0 1 2 3),x1T]) (fun hs=>zzf (hN hs 0) (hI hs 1) (hI hs 2) (hLn hs 3) (hLn hs 4) (hLn hs 5) (hLn hs 6) (hN hs 7) (hN hs 8) (hN hs 9) (hN hs 10) (hI hs 11) (hN hs 12) (hN hs 13) (hLn hs 14))
theorem y3b:∀ x:Option ((Int×Bool×(List Nat))),x.isSome=true→(zgp a0 c1 g2 g3 g4 g5 a6 a7 a8 a9 c10 a11 a12) x=some (pick (zmp a0 c1 g2 g3 g4 g5 a6 a7 a8 a9 c10 a11 a12 x))
 | none,h=>by cases h
 | some r,_=>rfl
theorem y3s (K:Ex→St→Option (Ex×St)):ev9 Γ23 80 5 5 fi80 (zag a0 c1 c2 g3 g4 g5 g6 a7 a8 a9 a10 c11 a12 a13 g14) K=z2h a0 c1 g6 a10 c2 g14 (fun t30' b5'=>K .normal (zag a0 c1 t30' g3 g4 g5 g6 a7 a8 a9 a10 c11 a12 a13 b5')) (fun c0_ c1_ c2_=>K (.exit 0) (zfy a0 c1 g3 g4 g5 g6 a7 a8 a9 a10 c11 a12 a13 c0_ c1_ c2_)):=by kernel_rfl
theorem y38:∀ (n:Nat) (t30:Int) (b5:List Nat),iter 80 5 5 (ev9 Γ23 80 5 5 fi80) n (zag a0 c1 t30 g2 g3 g4 g5 a6 a7 a8 a9 c10 a11 a12 b5) (fun e st=>some (e,st))=(zgp a0 c1 g2 g3 g4 g5 a6 a7 a8 a9 c10 a11 a12) (z15 a0 c1 g5 a9 n t30 b5):=by
 intro n
 induction n with
 | zero=>intros;rfl
 | succ n ih=>
  intro t30 b5
  refine Eq.trans (iter_succ ..) (Eq.trans (y3s ..) (Eq.trans ?_ (zwd a0 c1 g5 a9 t30 b5 (zgp a0 c1 g2 g3 g4 g5 a6 a7 a8 a9 c10 a11 a12) rfl (fun t30' b5'=>z15 a0 c1 g5 a9 n t30' b5') (fun c0_ c1_ c2_=>some (c0_,c1_,c2_)))))
  exact congrArg (fun kn_=>z2h a0 c1 g5 a9 t30 b5 kn_ _) (funext fun t30'=>funext fun b5'=>ih ..)
theorem zy4:LoopOne J fnTab 80 5 zow:=lpK yd0 ycr (fi:=fi80) (by kernel_rfl) (by kernel_rfl) (q:=fun hs=>(zag (hN hs 0) (hI hs 1) (hI hs 2) (hLn hs 3) (hLn hs 4) (hLn hs 5) (hLn hs 6) (hN hs 7) (hN hs 8) (hN hs 9) (hN hs 10) (hI hs 11) (hN hs 12) (hN hs 13) (hLn hs 14))) (fun hs=>by kernel_rfl) fun hs h1=>Eq.trans (y38 (hN hs 0) (hI hs 1) (hLn hs 3) (hLn hs 4) (hLn hs 5) (hLn hs 6) (hN hs 7) (hN hs 8) (hN hs 9) (hN hs 10) (hI hs 11) (hN hs 12) (hN hs 13) big (hI hs 2) (hLn hs 14)) (y3b (hN hs 0) (hI hs 1) (hLn hs 3) (hLn hs 4) (hLn hs 5) (hLn hs 6) (hN hs 7) (hN hs 8) (hN hs 9) (hN hs 10) (hI hs 11) (hN hs 12) (hN hs 13) _ h1)
def tb24:List (Nat×(List PT→Option (Bool×AV×List Blk))):=tb23
def lt24:List ((Nat×Nat)×(Nat→St→Option (Bool×LO))):=((80,5),zow)::lt23
def Γ24:Ctx:=⟨tyTab,fnTab,tblSum tb24,tblLp lt24⟩
theorem yde:SumL J tb24:=yd0
theorem yc0:LpL J fnTab lt24:=LpL.cons zy4 (ycr)
def zl3  : Option (Nat×Bool)→Option (AV×List Blk)
 | some r=>some ((.tup [(.one (.flt .f32 r.1)),(.one (.bool r.2))]),[])
 | none=>none
def zlq:List PT→Option (Bool×AV×List Blk)
 | [.ptr [.row 1 q00 (.fl .f32 q03),.row 1 q01 (.fl .f32 q05),.row 1 q02 (.fl .f32 q04),.row 3 q06 (.fl .f32 q0b),.s (.int .i64 q0g),.s (.flt .f32 q0o),.s (.flt .f32 q0n)],.one (.s (.flt .f32 q0p)),.one (.s (.flt .f32 q0q)),.one (.s (.flt .f32 q0l)),.one (.s (.flt .f32 q0s))]=>sF zl3 (z4t q00 q03 q01 q05 q02 q04 q06 q0b q0g q0o q0n q0p q0q q0l q0s)
 | _=>none
theorem yak:ev8 Γ24 80 [.ptr [.row 1 a0 (.fl .f32 g1),.row 1 a2 (.fl .f32 g3),.row 1 a4 (.fl .f32 g5),.row 3 a6 (.fl .f32 g7),.s (.int .i64 c8),.s (.flt .f32 a9),.s (.flt .f32 a10)],.one (.s (.flt .f32 a11)),.one (.s (.flt .f32 a12)),.one (.s (.flt .f32 a13)),.one (.s (.flt .f32 a14))]=zl3 (z4t a0 g1 a2 g3 a4 g5 a6 g7 c8 a9 a10 a11 a12 a13 a14):=tr2 (y0x a0 g1 a2 g3 a4 g5 a6 g7 c8 a9 a10 a11 a12 a13 a14 zl3 rfl (fun c0_ c1_=>some (c0_,c1_))) (by kernel_rfl)
theorem y3r:SumOne J 80 zlq:=mkT yde yc0 fun pts v news hp=>by
 unfold zlq at hp
 split at hp
 ·exact fin3 (yak ..) hp
 ·cases hp
def tb25:List (Nat×(List PT→Option (Bool×AV×List Blk))):=(80,zlq)::tb24
def lt25:List ((Nat×Nat)×(Nat→St→Option (Bool×LO))):=lt24
def Γ25:Ctx:=⟨tyTab,fnTab,tblSum tb25,tblLp lt25⟩
theorem y6q:SumL J tb25:=SumL.cons y3r (yde)
theorem y6r:LpL J fnTab lt25:=yc0
def znk  : Option (Nat×Bool)→Option (AV×List Blk)
 | some r=>some ((.tup [(.one (.flt .f32 r.1)),(.one (.bool r.2))]),[])
 | none=>none
def zn2:List PT→Option (Bool×AV×List Blk)
 | [.ptr [.row 1 q00 (.fl .f32 q03),.row 1 q01 (.fl .f32 q05),.row 1 q02 (.fl .f32 q04),.row 3 q06 (.fl .f32 q0b),.s (.int .i64 q0g),.s (.flt .f32 q0o),.s (.flt .f32 q0n)],.one (.s (.flt .f32 q0p)),.one (.s (.flt .f32 q0q)),.one (.s (.flt .f32 q0l)),.one (.s (.flt .f32 q0s))]=>sF znk (z5s q00 q03 q01 q05 q02 q04 q06 q0b q0g q0o q0n q0p q0q q0l q0s)
 | _=>none
theorem yaq:ev8 Γ25 63 [.ptr [.row 1 a0 (.fl .f32 g1),.row 1 a2 (.fl .f32 g3),.row 1 a4 (.fl .f32 g5),.row 3 a6 (.fl .f32 g7),.s (.int .i64 c8),.s (.flt .f32 a9),.s (.flt .f32 a10)],.one (.s (.flt .f32 a11)),.one (.s (.flt .f32 a12)),.one (.s (.flt .f32 a13)),.one (.s (.flt .f32 a14))]=znk (z5s a0 g1 a2 g3 a4 g5 a6 g7 c8 a9 a10 a11 a12 a13 a14):=tr2 (y46 a0 g1 a2 g3 a4 g5 a6 g7 c8 a9 a10 a11 a12 a13 a14 znk rfl (fun c0_ c1_=>some (c0_,c1_))) (by kernel_rfl)
theorem y5n:SumOne J 63 zn2:=mkT y6q y6r fun pts v news hp=>by
 unfold zn2 at hp
 split at hp
 ·exact fin3 (yaq ..) hp
 ·cases hp
def zbt:St:=(.mk [(x0P 5 4 7),(x0S 13 5 a0 1),(x0V 30 3 a1 3),(x0I 31 c2),(x0I 32 c3)] [(x0L g4),(x0L g5),(x0L g6),(x0L g7),(x0R true 0 1 2 3 a8 a9 a10 a11 c12 a13 a14),(x0T g15)])
def zgo:St:=(.mk [(x0P 5 4 7),(x0S 13 5 a0 1),(x0V 30 3 a1 3),(x0I 31 c2),(x0I 32 c14),(x0B 33 e15)] [(x0L g3),(x0L g4),(x0L g5),(x0L g6),(x0R true 0 1 2 3 a7 a8 a9 a10 c11 a12 a13),(x0T g16)])
def zhf:Option ((Int×Bool×(List Nat)))→Option (Ex×St)
 | none=>none
 | some r=>some ((.exit 0),(zgo a0 a1 c2 g3 g4 g5 g6 a7 a8 a9 a10 c11 a12 a13 r.1 r.2.1 r.2.2))
def zp1 (x:Option ((Int×Bool×(List Nat)))):LO:=(.one (.exit 0) (zgo a0 a1 c2 g3 g4 g5 g6 a7 a8 a9 a10 c11 a12 a13 (x.getD default).1 (x.getD default).2.1 (x.getD default).2.2))
def y1u:Bool×LO:=sL (zp1 a0 a1 c2 g4 g5 g6 g7 a8 a9 a10 a11 c12 a13 a14) (z1a a0 a1 c2 g7 big c3 g15)
def zqq:Nat→St→Option (Bool×LO):=lpT 4 (pSt [(x1P 5 4 7),(x1S 13 5 1),(x1V 30 3 3),(x1I 31),(x1I 32)] [x1L,x1L,x1L,x1L,(x1R true 0 1 2 3),x1T]) (fun hs=>y1u (hN hs 0) (hN hs 1) (hI hs 2) (hI hs 3) (hLn hs 4) (hLn hs 5) (hLn hs 6) (hLn hs 7) (hN hs 8) (hN hs 9) (hN hs 10) (hN hs 11) (hI hs 12) (hN hs 13) (hN hs 14) (hLn hs 15))
theorem y5g:∀ x:Option ((Int×Bool×(List Nat))),x.isSome=true→(zhf a0 a1 c2 g3 g4 g5 g6 a7 a8 a9 a10 c11 a12 a13) x=some (pick (zp1 a0 a1 c2 g3 g4 g5 g6 a7 a8 a9 a10 c11 a12 a13 x))
 | none,h=>by cases h
 | some r,_=>rfl
theorem y5t (K:Ex→St→Option (Ex×St)):ev9 Γ25 23 5 4 fi23 (zbt a0 a1 c2 c3 g4 g5 g6 g7 a8 a9 a10 a11 c12 a13 a14 g15) K=z2q a0 a1 c2 g7 c3 g15 (fun t32' b5'=>K .normal (zbt a0 a1 c2 t32' g4 g5 g6 g7 a8 a9 a10 a11 c12 a13 a14 b5')) (fun c0_ c1_ c2_=>K (.exit 0) (zgo a0 a1 c2 g4 g5 g6 g7 a8 a9 a10 a11 c12 a13 a14 c0_ c1_ c2_)):=by kernel_rfl
theorem y6c:∀ (n:Nat) (t32:Int) (b5:List Nat),iter 23 5 4 (ev9 Γ25 23 5 4 fi23) n (zbt a0 a1 c2 t32 g3 g4 g5 g6 a7 a8 a9 a10 c11 a12 a13 b5) (fun e st=>some (e,st))=(zhf a0 a1 c2 g3 g4 g5 g6 a7 a8 a9 a10 c11 a12 a13) (z1a a0 a1 c2 g6 n t32 b5):=by
 intro n
 induction n with
 | zero=>intros;rfl
 | succ n ih=>
  intro t32 b5
  refine Eq.trans (iter_succ ..) (Eq.trans (y5t ..) (Eq.trans ?_ (zxa a0 a1 c2 g6 t32 b5 (zhf a0 a1 c2 g3 g4 g5 g6 a7 a8 a9 a10 c11 a12 a13) rfl (fun t32' b5'=>z1a a0 a1 c2 g6 n t32' b5') (fun c0_ c1_ c2_=>some (c0_,c1_,c2_)))))
  exact congrArg (fun kn_=>z2q a0 a1 c2 g6 t32 b5 kn_ _) (funext fun t32'=>funext fun b5'=>ih ..)
theorem zzv:LoopOne J fnTab 23 5 zqq:=lpK y6q y6r (fi:=fi23) (by kernel_rfl) (by kernel_rfl) (q:=fun hs=>(zbt (hN hs 0) (hN hs 1) (hI hs 2) (hI hs 3) (hLn hs 4) (hLn hs 5) (hLn hs 6) (hLn hs 7) (hN hs 8) (hN hs 9) (hN hs 10) (hN hs 11) (hI hs 12) (hN hs 13) (hN hs 14) (hLn hs 15))) (fun hs=>by kernel_rfl) fun hs h1=>Eq.trans (y6c (hN hs 0) (hN hs 1) (hI hs 2) (hLn hs 4) (hLn hs 5) (hLn hs 6) (hLn hs 7) (hN hs 8) (hN hs 9) (hN hs 10) (hN hs 11) (hI hs 12) (hN hs 13) (hN hs 14) big (hI hs 3) (hLn hs 15)) (y5g (hN hs 0) (hN hs 1) (hI hs 2) (hLn hs 4) (hLn hs 5) (hLn hs 6) (hLn hs 7) (hN hs 8) (hN hs 9) (hN hs 10) (hN hs 11) (hI hs 12) (hN hs 13) (hN hs 14) _ h1)
def tb27:List (Nat×(List PT→Option (Bool×AV×List Blk))):=(63,zn2)::tb25
def lt27:List ((Nat×Nat)×(Nat→St→Option (Bool×LO))):=((23,5),zqq)::lt25
def Γ27:Ctx:=⟨tyTab,fnTab,tblSum tb27,tblLp lt27⟩
theorem yci:SumL J tb27:=SumL.cons y5n (y6q)
theorem ycf:LpL J fnTab lt27:=LpL.cons zzv (y6r)
def zaf:St:=(.mk [(x0F 1 a0),(x0V 2 4 a1 1),(x0F 3 a2),(x0F 4 a3),(x0P 5 5 7),(x0S 13 6 a4 1),(x0I 29 c5),(x0I 30 c6)] [(x0L g7),(x0L g8),(x0L g9),(x0L g10),(x0L g11),(x0R true 0 1 2 3 a12 a13 a14 a15 c16 a17 a18),(x0T g19)])
def zfz(q0p q29 q0l q0s:Nat)(t29:Int)(b0 b1 b2 b3 b4:List Nat)(q1p q1o q1q q1k:Nat)(q22:Int)(q23 q24:Nat):St:=(.mk [(x0I 10 0),(x0F 11 0),(x0B 12 false)] [(x0L b0),(x0L b1),(x0L b2),(x0L b3),(x0L b4)])
def zfw:St:=(.mk [(x0F 1 a0),(x0V 2 4 a1 1),(x0F 3 a2),(x0F 4 a3),(x0P 5 5 7),(x0S 13 6 a17 1),(x0I 29 c4),(x0I 30 c18),(x0B 31 e19)] [(x0L g5),(x0L g6),(x0L g7),(x0L g8),(x0L g9),(x0R true 0 1 2 3 a10 a11 a12 a13 c14 a15 a16),(x0T g20)])
def zgc:Option ((Unit)⊕(Nat×Int×Bool×(List Nat)))→Option (Ex×St)
 | none=>none
 | some (Sum.inl r)=>some (.ret,(zfz a0 a1 a2 a3 c4 g5 g6 g7 g8 g9 a10 a11 a12 a13 c14 a15 a16))
 | some (Sum.inr r)=>some ((.exit 0),(zfw a0 a1 a2 a3 c4 g5 g6 g7 g8 g9 a10 a11 a12 a13 c14 a15 a16 r.1 r.2.1 r.2.2.1 r.2.2.2))
def zn1 (x:Option ((Unit)⊕(Nat×Int×Bool×(List Nat)))):LO:=(.two (oL x) (.one .ret (zfz a0 a1 a2 a3 c4 g5 g6 g7 g8 g9 a10 a11 a12 a13 c14 a15 a16)) (.one (.exit 0) (zfw a0 a1 a2 a3 c4 g5 g6 g7 g8 g9 a10 a11 a12 a13 c14 a15 a16 ((tR x).getD default).1 ((tR x).getD default).2.1 ((tR x).getD default).2.2.1 ((tR x).getD default).2.2.2)))
def zyt:Bool×LO:=sL (zn1 a0 a1 a2 a3 c5 g7 g8 g9 g10 g11 a12 a13 a14 a15 c16 a17 a18) (z0e a0 a1 a2 a3 c5 g7 g8 g9 g10 g11 a12 a13 a14 a15 c16 a17 a18 big a4 c6 g19)
def zp2:Nat→St→Option (Bool×LO):=lpT 5 (pSt [(x1F 1),(x1V 2 4 1),(x1F 3),(x1F 4),(x1P 5 5 7),(x1S 13 6 1),(x1I 29),(x1I 30)] [x1L,x1L,x1L,x1L,x1L,(x1R true 0 1 2 3),x1T]) (fun hs=>zyt (hN hs 0) (hN hs 1) (hN hs 2) (hN hs 3) (hN hs 4) (hI hs 5) (hI hs 6) (hLn hs 7) (hLn hs 8) (hLn hs 9) (hLn hs 10) (hLn hs 11) (hN hs 12) (hN hs 13) (hN hs 14) (hN hs 15) (hI hs 16) (hN hs 17) (hN hs 18) (hLn hs 19))
theorem y4a:∀ x:Option ((Unit)⊕(Nat×Int×Bool×(List Nat))),x.isSome=true→(zgc a0 a1 a2 a3 c4 g5 g6 g7 g8 g9 a10 a11 a12 a13 c14 a15 a16) x=some (pick (zn1 a0 a1 a2 a3 c4 g5 g6 g7 g8 g9 a10 a11 a12 a13 c14 a15 a16 x))
 | none,h=>by cases h
 | some (Sum.inl r),_=>rfl
 | some (Sum.inr r),_=>rfl
theorem y3l (K:Ex→St→Option (Ex×St)):ev9 Γ27 44 5 5 fi44 (zaf a0 a1 a2 a3 a4 c5 c6 g7 g8 g9 g10 g11 a12 a13 a14 a15 c16 a17 a18 g19) K=z2f a0 a1 a2 a3 c5 g7 g8 g9 g10 g11 a12 a13 a14 a15 c16 a17 a18 a4 c6 g19 (fun q1g' t30' b6'=>K .normal (zaf a0 a1 a2 a3 q1g' c5 t30' g7 g8 g9 g10 g11 a12 a13 a14 a15 c16 a17 a18 b6')) (fun _=>K .ret (zfz a0 a1 a2 a3 c5 g7 g8 g9 g10 g11 a12 a13 a14 a15 c16 a17 a18)) (fun c0_ c1_ c2_ c3_=>K (.exit 0) (zfw a0 a1 a2 a3 c5 g7 g8 g9 g10 g11 a12 a13 a14 a15 c16 a17 a18 c0_ c1_ c2_ c3_)):=by kernel_rfl
theorem y3p:∀ (n q1g:Nat) (t30:Int) (b6:List Nat),iter 44 5 5 (ev9 Γ27 44 5 5 fi44) n (zaf a0 a1 a2 a3 q1g c4 t30 g5 g6 g7 g8 g9 a10 a11 a12 a13 c14 a15 a16 b6) (fun e st=>some (e,st))=(zgc a0 a1 a2 a3 c4 g5 g6 g7 g8 g9 a10 a11 a12 a13 c14 a15 a16) (z0e a0 a1 a2 a3 c4 g5 g6 g7 g8 g9 a10 a11 a12 a13 c14 a15 a16 n q1g t30 b6):=by
 intro n
 induction n with
 | zero=>intros;rfl
 | succ n ih=>
  intro q1g t30 b6
  refine Eq.trans (iter_succ ..) (Eq.trans (y3l ..) (Eq.trans ?_ (zw4 a0 a1 a2 a3 c4 g5 g6 g7 g8 g9 a10 a11 a12 a13 c14 a15 a16 q1g t30 b6 (zgc a0 a1 a2 a3 c4 g5 g6 g7 g8 g9 a10 a11 a12 a13 c14 a15 a16) rfl (fun q1g' t30' b6'=>z0e a0 a1 a2 a3 c4 g5 g6 g7 g8 g9 a10 a11 a12 a13 c14 a15 a16 n q1g' t30' b6') (fun _=>some (Sum.inl ())) (fun c0_ c1_ c2_ c3_=>some (Sum.inr (c0_,c1_,c2_,c3_))))))
  exact congrArg (fun kn_=>z2f a0 a1 a2 a3 c4 g5 g6 g7 g8 g9 a10 a11 a12 a13 c14 a15 a16 q1g t30 b6 kn_ _ _) (funext fun q1g'=>funext fun t30'=>funext fun b6'=>ih ..)
theorem zya:LoopOne J fnTab 44 5 zp2:=lpK yci ycf (fi:=fi44) (by kernel_rfl) (by kernel_rfl) (q:=fun hs=>(zaf (hN hs 0) (hN hs 1) (hN hs 2) (hN hs 3) (hN hs 4) (hI hs 5) (hI hs 6) (hLn hs 7) (hLn hs 8) (hLn hs 9) (hLn hs 10) (hLn hs 11) (hN hs 12) (hN hs 13) (hN hs 14) (hN hs 15) (hI hs 16) (hN hs 17) (hN hs 18) (hLn hs 19))) (fun hs=>by kernel_rfl) fun hs h1=>Eq.trans (y3p (hN hs 0) (hN hs 1) (hN hs 2) (hN hs 3) (hI hs 5) (hLn hs 7) (hLn hs 8) (hLn hs 9) (hLn hs 10) (hLn hs 11) (hN hs 12) (hN hs 13) (hN hs 14) (hN hs 15) (hI hs 16) (hN hs 17) (hN hs 18) big (hN hs 4) (hI hs 6) (hLn hs 19)) (y4a (hN hs 0) (hN hs 1) (hN hs 2) (hN hs 3) (hI hs 5) (hLn hs 7) (hLn hs 8) (hLn hs 9) (hLn hs 10) (hLn hs 11) (hN hs 12) (hN hs 13) (hN hs 14) (hN hs 15) (hI hs 16) (hN hs 17) (hN hs 18) _ h1)
def tb28:List (Nat×(List PT→Option (Bool×AV×List Blk))):=tb27
def lt28:List ((Nat×Nat)×(Nat→St→Option (Bool×LO))):=((44,5),zp2)::lt27
def Γ28:Ctx:=⟨tyTab,fnTab,tblSum tb28,tblLp lt28⟩
theorem ydl:SumL J tb28:=yci
theorem yce:LpL J fnTab lt28:=LpL.cons zya (ycf)
def zkt  : Option (Int×Nat×Bool)→Option (AV×List Blk)
 | some r=>some ((.tup [(.one (.int .i64 r.1)),(.one (.flt .f32 r.2.1)),(.one (.bool r.2.2))]),[])
 | none=>none
def zlg:List PT→Option (Bool×AV×List Blk)
 | [.agg [.row 1 q00 (.fl .f32 q03),.row 1 q01 (.fl .f32 q05),.row 1 q02 (.fl .f32 q04),.row 3 q06 (.fl .f32 q0b),.s (.int .i64 q0g),.s (.flt .f32 q0o),.s (.flt .f32 q0n)],.one (.s (.flt .f32 q0p)),.one (.row 1 q20 (.fl .f32 q2h)),.one (.s (.flt .f32 q0l)),.one (.s (.flt .f32 q0s))]=>sF zkt (z40 q00 q03 q01 q05 q02 q04 q06 q0b q0g q0o q0n q0p q20 q2h q0l q0s)
 | _=>none
theorem ya0:ev8 Γ28 44 [.agg [.row 1 a0 (.fl .f32 g1),.row 1 a2 (.fl .f32 g3),.row 1 a4 (.fl .f32 g5),.row 3 a6 (.fl .f32 g7),.s (.int .i64 c8),.s (.flt .f32 a9),.s (.flt .f32 a10)],.one (.s (.flt .f32 a11)),.one (.row 1 a12 (.fl .f32 g13)),.one (.s (.flt .f32 a14)),.one (.s (.flt .f32 a15))]=zkt (z40 a0 g1 a2 g3 a4 g5 a6 g7 c8 a9 a10 a11 a12 g13 a14 a15):=tr2 (y0j a0 g1 a2 g3 a4 g5 a6 g7 c8 a9 a10 a11 a12 g13 a14 a15 zkt rfl (fun c0_ c1_ c2_=>some (c0_,c1_,c2_))) (by kernel_rfl)
theorem y4r:SumOne J 44 zlg:=mkT ydl yce fun pts v news hp=>by
 unfold zlg at hp
 split at hp
 ·exact fin3 (ya0 ..) hp
 ·cases hp
end
end Go.Proofs.YtijjhfailnmeoaaGreat
