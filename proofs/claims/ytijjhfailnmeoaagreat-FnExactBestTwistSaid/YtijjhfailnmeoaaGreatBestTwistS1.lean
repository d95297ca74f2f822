import Derived.Test.YtijjhfailnmeoaaGreatBestTwistS0
set_option linter.unusedVariables false
set_option linter.unusedSimpArgs false
set_option linter.unusedSectionVars false
set_option maxRecDepth 100000
set_option maxHeartbeats 4000000
namespace Go.Proofs.YtijjhfailnmeoaaGreat
open Go Go.Rf
variable {J:Jd Tryz.prog}
noncomputable section
variable (a0:Nat) (a1:Nat) (c1:Int) (g1:List Nat) (a2:Nat) (c2:Int) (g2:List Nat) (a3:Nat) (c3:Int) (g3:List Nat) (a4:Nat) (c4:Int) (g4:List Nat) (c5:Int) (g5:List Nat) (a6:Nat) (c6:Int) (g6:List Nat) (a7:Nat) (g7:List Nat) (a8:Nat) (c8:Int) (g8:List Nat) (a9:Nat) (g9:List Nat) (a10:Nat) (c10:Int) (g10:List Nat) (a11:Nat) (c11:Int) (g11:List Nat) (a12:Nat) (c12:Int) (a13:Nat) (c13:Int) (a14:Nat) (c14:Int) (e14:Bool) (g14:List Nat) (a15:Nat) (e15:Bool) (g15:List Nat) (a16:Nat) (c16:Int) (g16:List Nat) (a17:Nat) (a18:Nat) (c18:Int) (e19:Bool) (g19:List Nat) (g20:List Nat)
theorem ye5:ev8 Γ21 50 [.ptr [.row 1 a0 (.fl .f32 g1),.row 1 a2 (.fl .f32 g3),.row 1 a4 (.fl .f32 g5),.row 3 a6 (.fl .f32 g7),.s (.int .i64 c8),.s (.flt .f32 a9),.s (.flt .f32 a10)],.one (.s (.flt .f32 a11)),.one (.s (.flt .f32 a12)),.one (.s (.flt .f32 a13)),.one (.s (.flt .f32 a14))]=zs3 (z43 a0 g1 a2 g3 a4 g5 a6 g7 c8 a9 a10 a11 a12 a13 a14):=tr2 (y7a a0 g1 a2 g3 a4 g5 a6 g7 c8 a9 a10 a11 a12 a13 a14 zs3 rfl (fun c0_ c1_ c2_ c3_ c4_=>some (c0_,c1_,c2_,c3_,c4_))) (by kernel_rfl)
theorem yak:SumOne J 50 zrj:=mkT yde ycc fun pts v news hp=>by
 unfold zrj at hp
 split at hp
 ·exact fin3 (ye5 ..) hp
 ·cases hp
def tb23:List (Nat×(List PT→Option (Bool×AV×List Blk))):=(50,zrj)::tb21
def lt23:List ((Nat×Nat)×(Nat→St→Option (Bool×LO))):=lt21
def Γ23:Ctx:=⟨tyTab,fnTab,tblSum tb23,tblLp lt23⟩
theorem ybz:SumL J tb23:=SumL.cons yak (yde)
theorem yd9:LpL J fnTab lt23:=ycc
def zaj:St:=(.mk [(x0P 0 4 7),(x0S 13 5 a0 1),(x0I 29 c1),(x0I 30 c2)] [(x0L g3),(x0L g4),(x0L g5),(x0L g6),(x0R false 0 1 2 3 a7 a8 a9 a10 c11 a12 a13),(x0T g14)])
def zem:St:=(.mk [(x0P 0 4 7),(x0S 13 5 a0 1),(x0I 29 c1),(x0I 30 c13),(x0B 31 e14)] [(x0L g2),(x0L g3),(x0L g4),(x0L g5),(x0R false 0 1 2 3 a6 a7 a8 a9 c10 a11 a12),(x0T g15)])
def zgd:Option ((Int×Bool×(List Nat)))→Option (Ex×St)
 | none=>none
 | some r=>some ((.exit 0),(zem a0 c1 g2 g3 g4 g5 a6 a7 a8 a9 c10 a11 a12 r.1 r.2.1 r.2.2))
def zo1 (x:Option ((Int×Bool×(List Nat)))):LO:=(.one (.exit 0) (zem a0 c1 g2 g3 g4 g5 a6 a7 a8 a9 c10 a11 a12 (x.getD default).1 (x.getD default).2.1 (x.getD default).2.2))
def zzc:Bool×LO:=sL (zo1 a0 c1 g3 g4 g5 g6 a7 a8 a9 a10 c11 a12 a13) (z16 a0 c1 g6 a10 big c2 g14)
def zpc:Nat→St→Option (Bool×LO):=lpT 5 (pSt [(x1P 0 4 7),(x1S 13 5 1),(x1I 29),(x1I 30)] [x1L,x1L,x1L,x1L,(x1R false 0 1 2 3),x1T]) (fun hs=>zzc (hN hs 0) (hI hs 1) (hI hs 2) (hLn hs 3) (hLn hs 4) (hLn hs 5) (hLn hs 6) (hN hs 7) (hN hs 8) (hN hs 9) (hN hs 10) (hI hs 11) (hN hs 12) (hN hs 13) (hLn hs 14))
theorem y30:∀ x:Option ((Int×Bool×(List Nat))),x.isSome=true→(zgd a0 c1 g2 g3 g4 g5 a6 a7 a8 a9 c10 a11 a12) x=some (pick (zo1 a0 c1 g2 g3 g4 g5 a6 a7 a8 a9 c10 a11 a12 x))
 | none,h=>by cases h
 | some r,_=>rfl
theorem y37 (K:Ex→St→Option (Ex×St)):ev9 Γ23 80 5 5 fi80 (zaj a0 c1 c2 g3 g4 g5 g6 a7 a8 a9 a10 c11 a12 a13 g14) K=z2i a0 c1 g6 a10 c2 g14 (fun t30' b5'=>K .normal (zaj a0 c1 t30' g3 g4 g5 g6 a7 a8 a9 a10 c11 a12 a13 b5')) (fun c0_ c1_ c2_=>K (.exit 0) (zem a0 c1 g3 g4 g5 g6 a7 a8 a9 a10 c11 a12 a13 c0_ c1_ c2_)):=by kernel_rfl
theorem y3i:∀ (n:Nat) (t30:Int) (b5:List Nat),iter 80 5 5 (ev9 Γ23 80 5 5 fi80) n (zaj a0 c1 t30 g2 g3 g4 g5 a6 a7 a8 a9 c10 a11 a12 b5) (fun e st=>some (e,st))=(zgd a0 c1 g2 g3 g4 g5 a6 a7 a8 a9 c10 a11 a12) (z16 a0 c1 g5 a9 n t30 b5):=by
 intro n
 induction n with
 | zero=>intros;rfl
 | succ n ih=>
  intro t30 b5
  refine Eq.trans (iter_succ ..) (Eq.trans (y37 ..) (Eq.trans ?_ (zvs a0 c1 g5 a9 t30 b5 (zgd a0 c1 g2 g3 g4 g5 a6 a7 a8 a9 c10 a11 a12) rfl (fun t30' b5'=>z16 a0 c1 g5 a9 n t30' b5') (fun c0_ c1_ c2_=>some (c0_,c1_,c2_)))))
  exact congrArg (fun kn_=>z2i a0 c1 g5 a9 t30 b5 kn_ _) (funext fun t30'=>funext fun b5'=>ih ..)
theorem zxr:LoopOne J fnTab 80 5 zpc:=lpK ybz yd9 (fi:=fi80) (by kernel_rfl) (by kernel_rfl) (q:=fun hs=>(zaj (hN hs 0) (hI hs 1) (hI hs 2) (hLn hs 3) (hLn hs 4) (hLn hs 5) (hLn hs 6) (hN hs 7) (hN hs 8) (hN hs 9) (hN hs 10) (hI hs 11) (hN hs 12) (hN hs 13) (hLn hs 14))) (fun hs=>by kernel_rfl) fun hs h1=>Eq.trans (y3i (hN hs 0) (hI hs 1) (hLn hs 3) (hLn hs 4) (hLn hs 5) (hLn hs 6) (hN hs 7) (hN hs 8) (hN hs 9) (hN hs 10) (hI hs 11) (hN hs 12) (hN hs 13) big (hI hs 2) (hLn hs 14)) (y30 (hN hs 0) (hI hs 1) (hLn hs 3) (hLn hs 4) (hLn hs 5) (hLn hs 6) (hN hs 7) (hN hs 8) (hN hs 9) (hN hs 10) (hI hs 11) (hN hs 12) (hN hs 13) _ h1)
def tb24:List (Nat×(List PT→Option (Bool×AV×List Blk))):=tb23
def lt24:List ((Nat×Nat)×(Nat→St→Option (Bool×LO))):=((80,5),zpc)::lt23
def Γ24:Ctx:=⟨tyTab,fnTab,tblSum tb24,tblLp lt24⟩
theorem ycy:SumL J tb24:=ybz
theorem ydm:LpL J fnTab lt24:=LpL.cons zxr (yd9)
def zky  : Option (Nat×Bool)→Option (AV×List Blk)
 | some r=>some ((.tup [(.one (.flt .f32 r.1)),(.one (.bool r.2))]),[])
 | none=>none
def zkr:List PT→Option (Bool×AV×List Blk)
 | [.ptr [.row 1 q00 (.fl .f32 q03),.row 1 q02 (.fl .f32 q05),.row 1 q01 (.fl .f32 q04),.row 3 q06 (.fl .f32 q0b),.s (.int .i64 q0g),.s (.flt .f32 q0n),.s (.flt .f32 q0m)],.one (.s (.flt .f32 q0q)),.one (.s (.flt .f32 q0p)),.one (.s (.flt .f32 q0o)),.one (.s (.flt .f32 q0s))]=>sF zky (z4o q00 q03 q02 q05 q01 q04 q06 q0b q0g q0n q0m q0q q0p q0o q0s)
 | _=>none
theorem y9j:ev8 Γ24 80 [.ptr [.row 1 a0 (.fl .f32 g1),.row 1 a2 (.fl .f32 g3),.row 1 a4 (.fl .f32 g5),.row 3 a6 (.fl .f32 g7),.s (.int .i64 c8),.s (.flt .f32 a9),.s (.flt .f32 a10)],.one (.s (.flt .f32 a11)),.one (.s (.flt .f32 a12)),.one (.s (.flt .f32 a13)),.one (.s (.flt .f32 a14))]=zky (z4o a0 g1 a2 g3 a4 g5 a6 g7 c8 a9 a10 a11 a12 a13 a14):=tr2 (y24 a0 g1 a2 g3 a4 g5 a6 g7 c8 a9 a10 a11 a12 a13 a14 zky rfl (fun c0_ c1_=>some (c0_,c1_))) (by kernel_rfl)
theorem y4a:SumOne J 80 zkr:=mkT ycy ydm fun pts v news hp=>by
 unfold zkr at hp
 split at hp
 ·exact fin3 (y9j ..) hp
 ·cases hp
def tb25:List (Nat×(List PT→Option (Bool×AV×List Blk))):=(80,zkr)::tb24
def lt25:List ((Nat×Nat)×(Nat→St→Option (Bool×LO))):=lt24
def Γ25:Ctx:=⟨tyTab,fnTab,tblSum tb25,tblLp lt25⟩
theorem y6p:SumL J tb25:=SumL.cons y4a (ycy)
theorem y6t:LpL J fnTab lt25:=ydm
def zn1  : Option (Nat×Bool)→Option (AV×List Blk)
 | some r=>some ((.tup [(.one (.flt .f32 r.1)),(.one (.bool r.2))]),[])
 | none=>none
def znh:List PT→Option (Bool×AV×List Blk)
 | [.ptr [.row 1 q00 (.fl .f32 q03),.row 1 q02 (.fl .f32 q05),.row 1 q01 (.fl .f32 q04),.row 3 q06 (.fl .f32 q0b),.s (.int .i64 q0g),.s (.flt .f32 q0n),.s (.flt .f32 q0m)],.one (.s (.flt .f32 q0q)),.one (.s (.flt .f32 q0p)),.one (.s (.flt .f32 q0o)),.one (.s (.flt .f32 q0s))]=>sF zn1 (z5r q00 q03 q02 q05 q01 q04 q06 q0b q0g q0n q0m q0q q0p q0o q0s)
 | _=>none
theorem ybn:ev8 Γ25 63 [.ptr [.row 1 a0 (.fl .f32 g1),.row 1 a2 (.fl .f32 g3),.row 1 a4 (.fl .f32 g5),.row 3 a6 (.fl .f32 g7),.s (.int .i64 c8),.s (.flt .f32 a9),.s (.flt .f32 a10)],.one (.s (.flt .f32 a11)),.one (.s (.flt .f32 a12)),.one (.s (.flt .f32 a13)),.one (.s (.flt .f32 a14))]=zn1 (z5r a0 g1 a2 g3 a4 g5 a6 g7 c8 a9 a10 a11 a12 a13 a14):=tr2 (y3f a0 g1 a2 g3 a4 g5 a6 g7 c8 a9 a10 a11 a12 a13 a14 zn1 rfl (fun c0_ c1_=>some (c0_,c1_))) (by kernel_rfl)
theorem y4u:SumOne J 63 znh:=mkT y6p y6t fun pts v news hp=>by
 unfold znh at hp
 split at hp
 ·exact fin3 (ybn ..) hp
 ·cases hp
def zbp:St:=(.mk [(x0P 5 4 7),(x0S 13 5 a0 1),(x0V 30 3 a1 3),(x0I 31 c2),(x0I 32 c3)] [(x0L g4),(x0L g5),(x0L g6),(x0L g7),(x0R true 0 1 2 3 a8 a9 a10 a11 c12 a13 a14),(x0T g15)])
def zgw:St:=(.mk [(x0P 5 4 7),(x0S 13 5 a0 1),(x0V 30 3 a1 3),(x0I 31 c2),(x0I 32 c14),(x0B 33 e15)] [(x0L g3),(x0L g4),(x0L g5),(x0L g6),(x0R true 0 1 2 3 a7 a8 a9 a10 c11 a12 a13),(x0T g16)])
def zhq:Option ((Int×Bool×(List Nat)))→Option (Ex×St)
 | none=>none
 | some r=>some ((.exit 0),(zgw a0 a1 c2 g3 g4 g5 g6 a7 a8 a9 a10 c11 a12 a13 r.1 r.2.1 r.2.2))
def zoy (x:Option ((Int×Bool×(List Nat)))):LO:=(.one (.exit 0) (zgw a0 a1 c2 g3 g4 g5 g6 a7 a8 a9 a10 c11 a12 a13 (x.getD default).1 (x.getD default).2.1 (x.getD default).2.2))
def y1l:Bool×LO:=sL (zoy a0 a1 c2 g4 g5 g6 g7 a8 a9 a10 a11 c12 a13 a14) (z1b a0 a1 c2 g7 big c3 g15)
def zqs:Nat→St→Option (Bool×LO):=lpT 4 (pSt [(x1P 5 4 7),(x1S 13 5 1),(x1V 30 3 3),(x1I 31),(x1I 32)] [x1L,x1L,x1L,x1L,(x1R true 0 1 2 3),x1T]) (fun hs=>y1l (hN hs 0) (hN hs 1) (hI hs 2) (hI hs 3) (hLn hs 4) (hLn hs 5) (hLn hs 6) (hLn hs 7) (hN hs 8) (hN hs 9) (hN hs 10) (hN hs 11) (hI hs 12) (hN hs 13) (hN hs 14) (hLn hs 15))
theorem y5r:∀ x:Option ((Int×Bool×(List Nat))),x.isSome=true→(zhq a0 a1 c2 g3 g4 g5 g6 a7 a8 a9 a10 c11 a12 a13) x=some (pick (zoy a0 a1 c2 g3 g4 g5 g6 a7 a8 a9 a10 c11 a12 a13 x))
 | none,h=>by cases h
 | some r,_=>rfl
theorem y4x (K:Ex→St→Option (Ex×St)):ev9 Γ25 23 5 4 fi23 (zbp a0 a1 c2 c3 g4 g5 g6 g7 a8 a9 a10 a11 c12 a13 a14 g15) K=z2w a0 a1 c2 g7 c3 g15 (fun t32' b5'=>K .normal (zbp a0 a1 c2 t32' g4 g5 g6 g7 a8 a9 a10 a11 c12 a13 a14 b5')) (fun c0_ c1_ c2_=>K (.exit 0) (zgw a0 a1 c2 g4 g5 g6 g7 a8 a9 a10 a11 c12 a13 a14 c0_ c1_ c2_)):=by kernel_rfl
theorem y57:∀ (n:Nat) (t32:Int) (b5:List Nat),iter 23 5 4 (ev9 Γ25 23 5 4 fi23) n (zbp a0 a1 c2 t32 g3 g4 g5 g6 a7 a8 a9 a10 c11 a12 a13 b5) (fun e st=>some (e,st))=(zhq a0 a1 c2 g3 g4 g5 g6 a7 a8 a9 a10 c11 a12 a13) (z1b a0 a1 c2 g6 n t32 b5):=by
 intro n
 induction n with
 | zero=>intros;rfl
 | succ n ih=>
  intro t32 b5
  refine Eq.trans (iter_succ ..) (Eq.trans (y4x ..) (Eq.trans ?_ (zx9 a0 a1 c2 g6 t32 b5 (zhq a0 a1 c2 g3 g4 g5 g6 a7 a8 a9 a10 c11 a12 a13) rfl (fun t32' b5'=>z1b a0 a1 c2 g6 n t32' b5') (fun c0_ c1_ c2_=>some (c0_,c1_,c2_)))))
  exact congrArg (fun kn_=>z2w a0 a1 c2 g6 t32 b5 kn_ _) (funext fun t32'=>funext fun b5'=>ih ..)
theorem zzb:LoopOne J fnTab 23 5 zqs:=lpK y6p y6t (fi:=fi23) (by kernel_rfl) (by kernel_rfl) (q:=fun hs=>(zbp (hN hs 0) (hN hs 1) (hI hs 2) (hI hs 3) (hLn hs 4) (hLn hs 5) (hLn hs 6) (hLn hs 7) (hN hs 8) (hN hs 9) (hN hs 10) (hN hs 11) (hI hs 12) (hN hs 13) (hN hs 14) (hLn hs 15))) (fun hs=>by kernel_rfl) fun hs h1=>Eq.trans (y57 (hN hs 0) (hN hs 1) (hI hs 2) (hLn hs 4) (hLn hs 5) (hLn hs 6) (hLn hs 7) (hN hs 8) (hN hs 9) (hN hs 10) (hN hs 11) (hI hs 12) (hN hs 13) (hN hs 14) big (hI hs 3) (hLn hs 15)) (y5r (hN hs 0) (hN hs 1) (hI hs 2) (hLn hs 4) (hLn hs 5) (hLn hs 6) (hLn hs 7) (hN hs 8) (hN hs 9) (hN hs 10) (hN hs 11) (hI hs 12) (hN hs 13) (hN hs 14) _ h1)
def tb27:List (Nat×(List PT→Option (Bool×AV×List Blk))):=(63,znh)::tb25
def lt27:List ((Nat×Nat)×(Nat→St→Option (Bool×LO))):=((23,5),zqs)::lt25
def Γ27:Ctx:=⟨tyTab,fnTab,tblSum tb27,tblLp lt27⟩
theorem yc3:SumL J tb27:=SumL.cons y4u (y6p)
theorem yd8:LpL J fnTab lt27:=LpL.cons zzb (y6t)
def zai:St:=(.mk [(x0F 1 a0),(x0F 2 a1),(x0V 3 4 a2 1),(x0F 4 a3),(x0P 5 5 7),(x0S 13 6 a4 1),(x0I 29 c5),(x0I 30 c6)] [(x0L g7),(x0L g8),(x0L g9),(x0L g10),(x0L g11),(x0R true 0 1 2 3 a12 a13 a14 a15 c16 a17 a18),(x0T g19)])
def zg0(q0q q0p q29 q0s:Nat)(t29:Int)(b0 b1 b2 b3 b4:List Nat)(q1o q1q q1p q1k:Nat)(q24:Int)(q22 q23:Nat):St:=(.mk [(x0I 10 0),(x0F 11 0),(x0B 12 false)] [(x0L b0),(x0L b1),(x0L b2),(x0L b3),(x0L b4)])
def zfx:St:=(.mk [(x0F 1 a0),(x0F 2 a1),(x0V 3 4 a2 1),(x0F 4 a3),(x0P 5 5 7),(x0S 13 6 a17 1),(x0I 29 c4),(x0I 30 c18),(x0B 31 e19)] [(x0L g5),(x0L g6),(x0L g7),(x0L g8),(x0L g9),(x0R true 0 1 2 3 a10 a11 a12 a13 c14 a15 a16),(x0T g20)])
def zgr:Option ((Unit)⊕(Nat×Int×Bool×(List Nat)))→Option (Ex×St)
 | none=>none
 | some (Sum.inl r)=>some (.ret,(zg0 a0 a1 a2 a3 c4 g5 g6 g7 g8 g9 a10 a11 a12 a13 c14 a15 a16))
 | some (Sum.inr r)=>some ((.exit 0),(zfx a0 a1 a2 a3 c4 g5 g6 g7 g8 g9 a10 a11 a12 a13 c14 a15 a16 r.1 r.2.1 r.2.2.1 r.2.2.2))
def znt (x:Option ((Unit)⊕(Nat×Int×Bool×(List Nat)))):LO:=(.two (oL x) (.one .ret (zg0 a0 a1 a2 a3 c4 g5 g6 g7 g8 g9 a10 a11 a12 a13 c14 a15 a16)) (.one (.exit 0) (zfx a0 a1 a2 a3 c4 g5 g6 g7 g8 g9 a10 a11 a12 a13 c14 a15 a16 ((tR x).getD default).1 ((tR x).getD default).2.1 ((tR x).getD default).2.2.1 ((tR x).getD default).2.2.2)))
def y00:Bool×LO:=sL (znt a0 a1 a2 a3 c5 g7 g8 g9 g10 g11 a12 a13 a14 a15 c16 a17 a18) (z0e a0 a1 a2 a3 c5 g7 g8 g9 g10 g11 a12 a13 a14 a15 c16 a17 a18 big a4 c6 g19)
def zp0:Nat→St→Option (Bool×LO):=lpT 5 (pSt [(x1F 1),(x1F 2),(x1V 3 4 1),(x1F 4),(x1P 5 5 7),(x1S 13 6 1),(x1I 29),(x1I 30)] [x1L,x1L,x1L,x1L,x1L,(x1R true 0 1 2 3),x1T]) (fun hs=>y00 (hN hs 0) (hN hs 1) (hN hs 2) (hN hs 3) (hN hs 4) (hI hs 5) (hI hs 6) (hLn hs 7) (hLn hs 8) (hLn hs 9) (hLn hs 10) (hLn hs 11) (hN hs 12) (hN hs 13) (hN hs 14) (hN hs 15) (hI hs 16) (hN hs 17) (hN hs 18) (hLn hs 19))
theorem y3k:∀ x:Option ((Unit)⊕(Nat×Int×Bool×(List Nat))),x.isSome=true→(zgr a0 a1 a2 a3 c4 g5 g6 g7 g8 g9 a10 a11 a12 a13 c14 a15 a16) x=some (pick (znt a0 a1 a2 a3 c4 g5 g6 g7 g8 g9 a10 a11 a12 a13 c14 a15 a16 x))
 | none,h=>by cases h
 | some (Sum.inl r),_=>rfl
 | some (Sum.inr r),_=>rfl
theorem y3p (K:Ex→St→Option (Ex×St)):ev9 Γ27 46 5 5 fi46 (zai a0 a1 a2 a3 a4 c5 c6 g7 g8 g9 g10 g11 a12 a13 a14 a15 c16 a17 a18 g19) K=z2h a0 a1 a2 a3 c5 g7 g8 g9 g10 g11 a12 a13 a14 a15 c16 a17 a18 a4 c6 g19 (fun q1g' t30' b6'=>K .normal (zai a0 a1 a2 a3 q1g' c5 t30' g7 g8 g9 g10 g11 a12 a13 a14 a15 c16 a17 a18 b6')) (fun _=>K .ret (zg0 a0 a1 a2 a3 c5 g7 g8 g9 g10 g11 a12 a13 a14 a15 c16 a17 a18)) (fun c0_ c1_ c2_ c3_=>K (.exit 0) (zfx a0 a1 a2 a3 c5 g7 g8 g9 g10 g11 a12 a13 a14 a15 c16 a17 a18 c0_ c1_ c2_ c3_)):=by kernel_rfl
theorem y46:∀ (n q1g:Nat) (t30:Int) (b6:List Nat),iter 46 5 5 (ev9 Γ27 46 5 5 fi46) n (zai a0 a1 a2 a3 q1g c4 t30 g5 g6 g7 g8 g9 a10 a11 a12 a13 c14 a15 a16 b6) (fun e st=>some (e,st))=(zgr a0 a1 a2 a3 c4 g5 g6 g7 g8 g9 a10 a11 a12 a13 c14 a15 a16) (z0e a0 a1 a2 a3 c4 g5 g6 g7 g8 g9 a10 a11 a12 a13 c14 a15 a16 n q1g t30 b6):=by
 intro n
 induction n with
 | zero=>intros;rfl
 | succ n ih=>
  intro q1g t30 b6
  refine Eq.trans (iter_succ ..) (Eq.trans (y3p ..) (Eq.trans ?_ (zw0 a0 a1 a2 a3 c4 g5 g6 g7 g8 g9 a10 a11 a12 a13 c14 a15 a16 q1g t30 b6 (zgr a0 a1 a2 a3 c4 g5 g6 g7 g8 g9 a10 a11 a12 a13 c14 a15 a16) rfl (fun q1g' t30' b6'=>z0e a0 a1 a2 a3 c4 g5 g6 g7 g8 g9 a10 a11 a12 a13 c14 a15 a16 n q1g' t30' b6') (fun _=>some (Sum.inl ())) (fun c0_ c1_ c2_ c3_=>some (Sum.inr (c0_,c1_,c2_,c3_))))))
  exact congrArg (fun kn_=>z2h a0 a1 a2 a3 c4 g5 g6 g7 g8 g9 a10 a11 a12 a13 c14 a15 a16 q1g t30 b6 kn_ _ _) (funext fun q1g'=>funext fun t30'=>funext fun b6'=>ih ..)
theorem zy8:LoopOne J fnTab 46 5 zp0:=lpK yc3 yd8 (fi:=fi46) (by kernel_rfl) (by kernel_rfl) (q:=fun hs=>(zai (hN hs 0) (hN hs 1) (hN hs 2) (hN hs 3) (hN hs 4) (hI hs 5) (hI hs 6) (hLn hs 7) (hLn hs 8) (hLn hs 9) (hLn hs 10) (hLn hs 11) (hN hs 12) (hN hs 13) (hN hs 14) (hN hs 15) (hI hs 16) (hN hs 17) (hN hs 18) (hLn hs 19))) (fun hs=>by kernel_rfl) fun hs h1=>Eq.trans (y46 (hN hs 0) (hN hs 1) (hN hs 2) (hN hs 3) (hI hs 5) (hLn hs 7) (hLn hs 8) (hLn hs 9) (hLn hs 10) (hLn hs 11) (hN hs 12) (hN hs 13) (hN hs 14) (hN hs 15) (hI hs 16) (hN hs 17) (hN hs 18) big (hN hs 4) (hI hs 6) (hLn hs 19)) (y3k (hN hs 0) (hN hs 1) (hN hs 2) (hN hs 3) (hI hs 5) (hLn hs 7) (hLn hs 8) (hLn hs 9) (hLn hs 10) (hLn hs 11) (hN hs 12) (hN hs 13) (hN hs 14) (hN hs 15) (hI hs 16) (hN hs 17) (hN hs 18) _ h1)
def tb28:List (Nat×(List PT→Option (Bool×AV×List Blk))):=tb27
def lt28:List ((Nat×Nat)×(Nat→St→Option (Bool×LO))):=((46,5),zp0)::lt27
def Γ28:Ctx:=⟨tyTab,fnTab,tblSum tb28,tblLp lt28⟩
theorem ydc:SumL J tb28:=yc3
theorem ycj:LpL J fnTab lt28:=LpL.cons zy8 (yd8)
def zkz  : Option (Int×Nat×Bool)→Option (AV×List Blk)
 | some r=>some ((.tup [(.one (.int .i64 r.1)),(.one (.flt .f32 r.2.1)),(.one (.bool r.2.2))]),[])
 | none=>none
def zkq:List PT→Option (Bool×AV×List Blk)
 | [.agg [.row 1 q00 (.fl .f32 q03),.row 1 q02 (.fl .f32 q05),.row 1 q01 (.fl .f32 q04),.row 3 q06 (.fl .f32 q0b),.s (.int .i64 q0g),.s (.flt .f32 q0n),.s (.flt .f32 q0m)],.one (.s (.flt .f32 q0q)),.one (.s (.flt .f32 q0p)),.one (.row 1 q1x (.fl .f32 q2a)),.one (.s (.flt .f32 q0s))]=>sF zkz (z40 q00 q03 q02 q05 q01 q04 q06 q0b q0g q0n q0m q0q q0p q1x q2a q0s)
 | _=>none
theorem y99:ev8 Γ28 46 [.agg [.row 1 a0 (.fl .f32 g1),.row 1 a2 (.fl .f32 g3),.row 1 a4 (.fl .f32 g5),.row 3 a6 (.fl .f32 g7),.s (.int .i64 c8),.s (.flt .f32 a9),.s (.flt .f32 a10)],.one (.s (.flt .f32 a11)),.one (.s (.flt .f32 a12)),.one (.row 1 a13 (.fl .f32 g14)),.one (.s (.flt .f32 a15))]=zkz (z40 a0 g1 a2 g3 a4 g5 a6 g7 c8 a9 a10 a11 a12 a13 g14 a15):=tr2 (y1w a0 g1 a2 g3 a4 g5 a6 g7 c8 a9 a10 a11 a12 a13 g14 a15 zkz rfl (fun c0_ c1_ c2_=>some (c0_,c1_,c2_))) (by kernel_rfl)
theorem y4c:SumOne J 46 zkq:=mkT ydc ycj fun pts v news hp=>by
 unfold zkq at hp
 split at hp
 ·exact fin3 (y99 ..) hp
 ·cases hp
end
end Go.Proofs.YtijjhfailnmeoaaGreat
