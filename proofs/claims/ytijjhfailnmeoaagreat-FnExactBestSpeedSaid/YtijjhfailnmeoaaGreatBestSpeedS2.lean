import Derived.Test.YtijjhfailnmeoaaGreatBestSpeedF
set_option linter.unusedVariables false
set_option linter.unusedSimpArgs false
set_option linter.unusedSectionVars false
set_option maxRecDepth 100000
set_option maxHeartbeats 4000000
namespace Go.Proofs.YtijjhfailnmeoaaGreat
open Go Go.Rf
open Go.ConcR (Payload)
variable [Payload] {W:World} {Post:Value→World→Prop}
noncomputable section
variable (a0:Nat) (c0:Int) (a1:Nat) (c1:Int) (g1:List Nat) (a2:Nat) (g2:List Nat) (c3:Int) (g3:List Nat) (a4:Nat) (c4:Int) (g4:List Nat) (g5:List Nat) (a6:Nat) (g6:List Nat) (a7:Nat) (g7:List Nat) (a8:Nat) (c8:Int) (g8:List Nat) (a9:Nat) (g9:List Nat) (a10:Nat) (a11:Nat) (c11:Int) (a12:Nat) (a13:Nat) (g13:List Nat) (a14:Nat) (c14:Int) (a15:Nat) (a16:Nat) (a17:Nat) (c17:Int) (a18:Nat) (a19:Nat) (c19:Int) (e20:Bool)
def zgk:List PT→Option (Bool×AV×List Blk)
 | [.agg [.row 1 an (.fl .f32 al),.row 1 ln (.fl .f32 ll),.row 1 dn (.fl .f32 dl),.row 3 sn (.fl .f32 sl),.s (.int .i64 cc),.s (.flt .f32 hb),.s (.flt .f32 tp)],.one (.s (.flt .f32 x2)),.one (.s (.flt .f32 x3)),.one (.s (.flt .f32 x4)),.one (.s (.flt .f32 x5)),.one (.s (.int .i64 ws))]=>some ((z7m an al ln ll dn dl sn sl cc hb tp x2 x3 x4 x5 ws),((.tup [(.one (.sl 0 0 (z55 an al ln ll dn dl sn sl cc hb tp x2 x3 x4 x5 ws) 1)),(.one (.sl 1 0 (z50 an al ln ll dn dl sn sl cc hb tp x2 x3 x4 x5 ws) 1)),(.one (.bool (z18 an al ln ll dn dl sn sl cc hb tp x2 x3 x4 x5 ws)))]),[(.mk true (.fl .f32 (z51 an al ln ll dn dl sn sl cc hb tp x2 x3 x4 x5 ws))),(.mk true (.fl .f32 (z4z an al ln ll dn dl sn sl cc hb tp x2 x3 x4 x5 ws)))]))
 | _=>none
theorem zxx:SumOne (mainJ Tryz.prog W Post) 19 zgk:=by
 intro pts v news hp w vals hv
 unfold zgk at hp
 split at hp
 ·rename_i an al ln ll dn dl sn sl cc hb tp x2 x3 x4 x5 ws
  injection hp with hp
  injection hp with h1 hp
  injection hp with h2 h3
  subst h2
  subst h3
  have h:=core (W:=W) (Post:=Post) (p:=⟨an,al,ln,ll,dn,dl,sn,sl,cc,hb,tp,x2,x3,x4,x5,ws.toNat⟩) (ws:=ws) rfl h1 hv
  have e:FP.ans ⟨an,al,ln,ll,dn,dl,sn,sl,cc,hb,tp,x2,x3,x4,x5,ws.toNat⟩ ws=((AV.tup [(TV.one (At.sl 0 0 (z55 an al ln ll dn dl sn sl cc hb tp x2 x3 x4 x5 ws) 1)),(TV.one (At.sl 1 0 (z50 an al ln ll dn dl sn sl cc hb tp x2 x3 x4 x5 ws) 1)),(TV.one (At.bool (z18 an al ln ll dn dl sn sl cc hb tp x2 x3 x4 x5 ws)))]),[(Blk.mk Bool.true (Body.fl .f32 (z51 an al ln ll dn dl sn sl cc hb tp x2 x3 x4 x5 ws))),(Blk.mk Bool.true (Body.fl .f32 (z4z an al ln ll dn dl sn sl cc hb tp x2 x3 x4 x5 ws)))]):=by
   unfold z55 z50 z51 z4z
   show (match z18 an al ln ll dn dl sn sl cc hb tp x2 x3 x4 x5 ws with | true=>answer (z9j an al ln ll dn dl sn sl cc hb tp x2 x3 x4 x5 ws) (z9m an al ln ll dn dl sn sl cc hb tp x2 x3 x4 x5 ws) sn sn Bool.true | false=>answer [] [] 0 0 Bool.false)=_
   cases z18 an al ln ll dn dl sn sl cc hb tp x2 x3 x4 x5 ws<;>rfl
  rw[e] at h
  exact h
 ·cases hp
def tb32:List (Nat×(List PT→Option (Bool×AV×List Blk))):=(44,zlg)::(19,zgk)::tb28
def lt32:List ((Nat×Nat)×(Nat→St→Option (Bool×LO))):=lt28
def Γ32:Ctx:=⟨tyTab,fnTab,tblSum tb32,tblLp lt32⟩
theorem yd2:SumL (mainJ Tryz.prog W Post) tb32:=SumL.cons y4r (SumL.cons zxx (ydl))
theorem ycc:LpL (mainJ Tryz.prog W Post) fnTab lt32:=yce
def zf2  : Option (Nat×Nat×Bool×(List Nat)×(List Nat))→Option (AV×List Blk)
 | some r=>some ((.tup [(.one (.sl 0 0 r.1 1)),(.one (.sl 1 0 r.2.1 1)),(.one (.bool r.2.2.1))]),[(.mk true (.fl .f32 r.2.2.2.1)),(.mk true (.fl .f32 r.2.2.2.2))])
 | none=>none
def zfm:List PT→Option (Bool×AV×List Blk)
 | [.agg [.row 1 q00 (.fl .f32 q03),.row 1 q01 (.fl .f32 q05),.row 1 q02 (.fl .f32 q04),.row 3 q06 (.fl .f32 q0b),.s (.int .i64 q0g),.s (.flt .f32 q0o),.s (.flt .f32 q0n)],.one (.s (.flt .f32 q0p)),.one (.s (.flt .f32 q0q)),.one (.s (.flt .f32 q0l)),.one (.s (.flt .f32 q0s))]=>sF zf2 (z1d q00 q03 q01 q05 q02 q04 q06 q0b q0g q0o q0n q0p q0q q0l q0s)
 | _=>none
theorem y15:ev8 Γ32 18 [.agg [.row 1 a0 (.fl .f32 g1),.row 1 a2 (.fl .f32 g3),.row 1 a4 (.fl .f32 g5),.row 3 a6 (.fl .f32 g7),.s (.int .i64 c8),.s (.flt .f32 a9),.s (.flt .f32 a10)],.one (.s (.flt .f32 a11)),.one (.s (.flt .f32 a12)),.one (.s (.flt .f32 a13)),.one (.s (.flt .f32 a14))]=zf2 (z1d a0 g1 a2 g3 a4 g5 a6 g7 c8 a9 a10 a11 a12 a13 a14):=tr2 (zvf a0 g1 a2 g3 a4 g5 a6 g7 c8 a9 a10 a11 a12 a13 a14 zf2 rfl (fun c0_ c1_ c2_ c3_ c4_=>some (c0_,c1_,c2_,c3_,c4_))) (by kernel_rfl)
theorem zwe:SumOne (mainJ Tryz.prog W Post) 18 zfm:=mkT yd2 ycc fun pts v news hp=>by
 unfold zfm at hp
 split at hp
 ·exact fin3 (y15 ..) hp
 ·cases hp
def tb33:List (Nat×(List PT→Option (Bool×AV×List Blk))):=(18,zfm)::tb32
def lt33:List ((Nat×Nat)×(Nat→St→Option (Bool×LO))):=lt32
def Γ33:Ctx:=⟨tyTab,fnTab,tblSum tb33,tblLp lt33⟩
theorem yd5:SumL (mainJ Tryz.prog W Post) tb33:=SumL.cons zwe (yd2)
theorem yca:LpL (mainJ Tryz.prog W Post) fnTab lt33:=ycc
def zoi  : Option (Nat×Bool)→Option (AV×List Blk)
 | some r=>some ((.tup [(.one (.flt .f32 r.1)),(.one (.bool r.2))]),[])
 | none=>none
def zn8:List PT→Option (Bool×AV×List Blk)
 | [.agg [.row 1 q00 (.fl .f32 q03),.row 1 q01 (.fl .f32 q05),.row 1 q02 (.fl .f32 q04),.row 3 q06 (.fl .f32 q0b),.s (.int .i64 q0g),.s (.flt .f32 q0o),.s (.flt .f32 q0n)],.one (.s (.flt .f32 q0p)),.one (.s (.flt .f32 q0q)),.one (.s (.flt .f32 q0l)),.one (.s (.flt .f32 q0s))]=>sF zoi (z5p q00 q03 q01 q05 q02 q04 q06 q0b q0g q0o q0n q0p q0q q0l q0s)
 | _=>none
theorem yar:ev8 Γ33 23 [.agg [.row 1 a0 (.fl .f32 g1),.row 1 a2 (.fl .f32 g3),.row 1 a4 (.fl .f32 g5),.row 3 a6 (.fl .f32 g7),.s (.int .i64 c8),.s (.flt .f32 a9),.s (.flt .f32 a10)],.one (.s (.flt .f32 a11)),.one (.s (.flt .f32 a12)),.one (.s (.flt .f32 a13)),.one (.s (.flt .f32 a14))]=zoi (z5p a0 g1 a2 g3 a4 g5 a6 g7 c8 a9 a10 a11 a12 a13 a14):=tr2 (y45 a0 g1 a2 g3 a4 g5 a6 g7 c8 a9 a10 a11 a12 a13 a14 zoi rfl (fun c0_ c1_=>some (c0_,c1_))) (by kernel_rfl)
theorem y6g:SumOne (mainJ Tryz.prog W Post) 23 zn8:=mkT yd5 yca fun pts v news hp=>by
 unfold zn8 at hp
 split at hp
 ·exact fin3 (yar ..) hp
 ·cases hp
def tb34:List (Nat×(List PT→Option (Bool×AV×List Blk))):=(23,zn8)::tb33
def lt34:List ((Nat×Nat)×(Nat→St→Option (Bool×LO))):=lt33
def Γ34:Ctx:=⟨tyTab,fnTab,tblSum tb34,tblLp lt34⟩
theorem ycv:SumL (mainJ Tryz.prog W Post) tb34:=SumL.cons y6g (yd5)
theorem ycp:LpL (mainJ Tryz.prog W Post) fnTab lt34:=yca
def z5l:St:=(.mk [(1,(.v (.one (.fn 66 [(.ptr 5 0 7),(.ptr 6 0 1),(.ptr 7 0 1),(.ptr 8 0 1)])))),(x0I 7 c0),(x0F 8 a1),(x0V 21 4 a2 1),(x0I 22 c3),(x0I 23 c4)] [(x0L g5),(x0L g6),(x0L g7),(x0L g8),(x0L g9),(x0R true 0 1 2 3 a10 a11 a12 a13 c14 a15 a16),(.mk true (.cells [(.flt .f32 a17)])),(.mk true (.cells [(.flt .f32 a18)])),(.mk true (.cells [(.flt .f32 a19)]))])
def z84(q2u:Nat)(t22:Int)(b0 b1 b2 b3 b4:List Nat)(q1p q1o q1q q1k:Nat)(q22:Int)(q23 q24 b6 b7 b8:Nat):St:=(.mk [(x0I 4 0),(x0F 5 0),(x0B 6 false)] [(x0L b0),(x0L b1),(x0L b2),(x0L b3),(x0L b4),(x0R true 0 1 2 3 q1p q1o q1q q1k q22 q23 q24),(.mk true (.cells [(.flt .f32 b6)])),(.mk true (.cells [(.flt .f32 b7)])),(.mk true (.cells [(.flt .f32 b8)]))])
def z83:St:=(.mk [(1,(.v (.one (.fn 66 [(.ptr 5 0 7),(.ptr 6 0 1),(.ptr 7 0 1),(.ptr 8 0 1)])))),(x0I 7 c17),(x0F 8 a18),(x0V 21 4 a0 1),(x0I 22 c1),(x0I 23 c19),(x0B 24 e20)] [(x0L g2),(x0L g3),(x0L g4),(x0L g5),(x0L g6),(x0R true 0 1 2 3 a7 a8 a9 a10 c11 a12 a13),(.mk true (.cells [(.flt .f32 a14)])),(.mk true (.cells [(.flt .f32 a15)])),(.mk true (.cells [(.flt .f32 a16)]))])
def z8a:Option ((Unit)⊕(Int×Nat×Int×Bool))→Option (Ex×St)
 | none=>none
 | some (Sum.inl r)=>some (.ret,(z84 a0 c1 g2 g3 g4 g5 g6 a7 a8 a9 a10 c11 a12 a13 a14 a15 a16))
 | some (Sum.inr r)=>some ((.exit 0),(z83 a0 c1 g2 g3 g4 g5 g6 a7 a8 a9 a10 c11 a12 a13 a14 a15 a16 r.1 r.2.1 r.2.2.1 r.2.2.2))
def zdy (x:Option ((Unit)⊕(Int×Nat×Int×Bool))):LO:=(.two (oL x) (.one .ret (z84 a0 c1 g2 g3 g4 g5 g6 a7 a8 a9 a10 c11 a12 a13 a14 a15 a16)) (.one (.exit 0) (z83 a0 c1 g2 g3 g4 g5 g6 a7 a8 a9 a10 c11 a12 a13 a14 a15 a16 ((tR x).getD default).1 ((tR x).getD default).2.1 ((tR x).getD default).2.2.1 ((tR x).getD default).2.2.2)))
def zor:Bool×LO:=sL (zdy a2 c3 g5 g6 g7 g8 g9 a10 a11 a12 a13 c14 a15 a16 a17 a18 a19) (z04 a2 c3 g5 g6 g7 g8 g9 a10 a11 a12 a13 c14 a15 a16 a17 a18 a19 big c0 a1 c4)
def zej:Nat→St→Option (Bool×LO):=lpT 9 (pSt [(pTm 1 (pV (pOne (pFn 66 [(pPtr 5 (liN 0) 7),(pPtr 6 (liN 0) 1),(pPtr 7 (liN 0) 1),(pPtr 8 (liN 0) 1)])))),(x1I 7),(x1F 8),(x1V 21 4 1),(x1I 22),(x1I 23)] [x1L,x1L,x1L,x1L,x1L,(x1R true 0 1 2 3),(pBlk true (pCells [(pFlt .f32)])),(pBlk true (pCells [(pFlt .f32)])),(pBlk true (pCells [(pFlt .f32)]))]) (fun hs=>zor (hI hs 0) (hN hs 1) (hN hs 2) (hI hs 3) (hI hs 4) (hLn hs 5) (hLn hs 6) (hLn hs 7) (hLn hs 8) (hLn hs 9) (hN hs 10) (hN hs 11) (hN hs 12) (hN hs 13) (hI hs 14) (hN hs 15) (hN hs 16) (hN hs 17) (hN hs 18) (hN hs 19))
theorem zqr:∀ x:Option ((Unit)⊕(Int×Nat×Int×Bool)),x.isSome=true→(z8a a0 c1 g2 g3 g4 g5 g6 a7 a8 a9 a10 c11 a12 a13 a14 a15 a16) x=some (pick (zdy a0 c1 g2 g3 g4 g5 g6 a7 a8 a9 a10 c11 a12 a13 a14 a15 a16 x))
 | none,h=>by cases h
 | some (Sum.inl r),_=>rfl
 | some (Sum.inr r),_=>rfl
theorem zqs (K:Ex→St→Option (Ex×St)):ev9 Γ34 61 5 9 fi61 (z5l c0 a1 a2 c3 c4 g5 g6 g7 g8 g9 a10 a11 a12 a13 c14 a15 a16 a17 a18 a19) K=z13 a2 c3 g5 g6 g7 g8 g9 a10 a11 a12 a13 c14 a15 a16 a17 a18 a19 c0 a1 c4 (fun q2a' q2y' t23'=>K .normal (z5l q2a' q2y' a2 c3 t23' g5 g6 g7 g8 g9 a10 a11 a12 a13 c14 a15 a16 a17 a18 a19)) (fun _=>K .ret (z84 a2 c3 g5 g6 g7 g8 g9 a10 a11 a12 a13 c14 a15 a16 a17 a18 a19)) (fun c0_ c1_ c2_ c3_=>K (.exit 0) (z83 a2 c3 g5 g6 g7 g8 g9 a10 a11 a12 a13 c14 a15 a16 a17 a18 a19 c0_ c1_ c2_ c3_)):=by kernel_rfl
theorem zqv:∀ (n:Nat) (q2a:Int) (q2y:Nat) (t23:Int),iter 61 5 9 (ev9 Γ34 61 5 9 fi61) n (z5l q2a q2y a0 c1 t23 g2 g3 g4 g5 g6 a7 a8 a9 a10 c11 a12 a13 a14 a15 a16) (fun e st=>some (e,st))=(z8a a0 c1 g2 g3 g4 g5 g6 a7 a8 a9 a10 c11 a12 a13 a14 a15 a16) (z04 a0 c1 g2 g3 g4 g5 g6 a7 a8 a9 a10 c11 a12 a13 a14 a15 a16 n q2a q2y t23):=by
 intro n
 induction n with
 | zero=>intros;rfl
 | succ n ih=>
  intro q2a q2y t23
  refine Eq.trans (iter_succ ..) (Eq.trans (zqs ..) (Eq.trans ?_ (zmn a0 c1 g2 g3 g4 g5 g6 a7 a8 a9 a10 c11 a12 a13 a14 a15 a16 q2a q2y t23 (z8a a0 c1 g2 g3 g4 g5 g6 a7 a8 a9 a10 c11 a12 a13 a14 a15 a16) rfl (fun q2a' q2y' t23'=>z04 a0 c1 g2 g3 g4 g5 g6 a7 a8 a9 a10 c11 a12 a13 a14 a15 a16 n q2a' q2y' t23') (fun _=>some (Sum.inl ())) (fun c0_ c1_ c2_ c3_=>some (Sum.inr (c0_,c1_,c2_,c3_))))))
  exact congrArg (fun kn_=>z13 a0 c1 g2 g3 g4 g5 g6 a7 a8 a9 a10 c11 a12 a13 a14 a15 a16 q2a q2y t23 kn_ _ _) (funext fun q2a'=>funext fun q2y'=>funext fun t23'=>ih ..)
theorem zne:LoopOne (mainJ Tryz.prog W Post) fnTab 61 5 zej:=lpK ycv ycp (fi:=fi61) (by kernel_rfl) (by kernel_rfl) (q:=fun hs=>(z5l (hI hs 0) (hN hs 1) (hN hs 2) (hI hs 3) (hI hs 4) (hLn hs 5) (hLn hs 6) (hLn hs 7) (hLn hs 8) (hLn hs 9) (hN hs 10) (hN hs 11) (hN hs 12) (hN hs 13) (hI hs 14) (hN hs 15) (hN hs 16) (hN hs 17) (hN hs 18) (hN hs 19))) (fun hs=>by kernel_rfl) fun hs h1=>Eq.trans (zqv (hN hs 2) (hI hs 3) (hLn hs 5) (hLn hs 6) (hLn hs 7) (hLn hs 8) (hLn hs 9) (hN hs 10) (hN hs 11) (hN hs 12) (hN hs 13) (hI hs 14) (hN hs 15) (hN hs 16) (hN hs 17) (hN hs 18) (hN hs 19) big (hI hs 0) (hN hs 1) (hI hs 4)) (zqr (hN hs 2) (hI hs 3) (hLn hs 5) (hLn hs 6) (hLn hs 7) (hLn hs 8) (hLn hs 9) (hN hs 10) (hN hs 11) (hN hs 12) (hN hs 13) (hI hs 14) (hN hs 15) (hN hs 16) (hN hs 17) (hN hs 18) (hN hs 19) _ h1)
def tb35:List (Nat×(List PT→Option (Bool×AV×List Blk))):=tb34
def lt35:List ((Nat×Nat)×(Nat→St→Option (Bool×LO))):=((61,5),zej)::lt34
def Γ35:Ctx:=⟨tyTab,fnTab,tblSum tb35,tblLp lt35⟩
theorem ybu:SumL (mainJ Tryz.prog W Post) tb35:=ycv
theorem ycg:LpL (mainJ Tryz.prog W Post) fnTab lt35:=LpL.cons zne (ycp)
def zla  : Option (Int×Nat×Bool)→Option (AV×List Blk)
 | some r=>some ((.tup [(.one (.int .i64 r.1)),(.one (.flt .f32 r.2.1)),(.one (.bool r.2.2))]),[])
 | none=>none
def zks:List PT→Option (Bool×AV×List Blk)
 | [.agg [.row 1 q00 (.fl .f32 q03),.row 1 q01 (.fl .f32 q05),.row 1 q02 (.fl .f32 q04),.row 3 q06 (.fl .f32 q0b),.s (.int .i64 q0g),.s (.flt .f32 q0o),.s (.flt .f32 q0n)],.one (.s (.flt .f32 q0p)),.one (.row 1 q20 (.fl .f32 q2h)),.one (.s (.flt .f32 q0l)),.one (.s (.flt .f32 q0s))]=>sF zla (z3v q00 q03 q01 q05 q02 q04 q06 q0b q0g q0o q0n q0p q20 q2h q0l q0s)
 | _=>none
theorem y9k:ev8 Γ35 28 [.agg [.row 1 a0 (.fl .f32 g1),.row 1 a2 (.fl .f32 g3),.row 1 a4 (.fl .f32 g5),.row 3 a6 (.fl .f32 g7),.s (.int .i64 c8),.s (.flt .f32 a9),.s (.flt .f32 a10)],.one (.s (.flt .f32 a11)),.one (.row 1 a12 (.fl .f32 g13)),.one (.s (.flt .f32 a14)),.one (.s (.flt .f32 a15))]=zla (z3v a0 g1 a2 g3 a4 g5 a6 g7 c8 a9 a10 a11 a12 g13 a14 a15):=tr2 (y20 a0 g1 a2 g3 a4 g5 a6 g7 c8 a9 a10 a11 a12 g13 a14 a15 zla rfl (fun c0_ c1_ c2_=>some (c0_,c1_,c2_))) (by kernel_rfl)
theorem y3e:SumOne (mainJ Tryz.prog W Post) 28 zks:=mkT ybu ycg fun pts v news hp=>by
 unfold zks at hp
 split at hp
 ·exact fin3 (y9k ..) hp
 ·cases hp
def tb36:List (Nat×(List PT→Option (Bool×AV×List Blk))):=(28,zks)::tb35
def lt36:List ((Nat×Nat)×(Nat→St→Option (Bool×LO))):=lt35
def Γ36:Ctx:=⟨tyTab,fnTab,tblSum tb36,tblLp lt36⟩
theorem yfd:SumL (mainJ Tryz.prog W Post) tb36:=SumL.cons y3e (ybu)
theorem yf6:LpL (mainJ Tryz.prog W Post) fnTab lt36:=ycg
def zb5  : Option (Bool)→Option (AV×List Blk)
 | some r=>some ((.v (.one (.bool r))),[])
 | none=>none
def zb4:List PT→Option (Bool×AV×List Blk)
 | [.agg [.row 1 q07 (.fl .f32 q0a),.row 1 q09 (.fl .f32 q0c),.row 1 q08 (.fl .f32 q0d),.row 3 q0e (.fl .f32 q0f),.s (.int .i64 q0h),.s (.flt .f32 q0j),.s (.flt .f32 q0k)],.one (.s (.flt .f32 x1)),.one (.row 1 q2q (.fl .f32 x2)),.one (.s (.flt .f32 x3)),.one (.s (.flt .f32 x4))]=>sF zb5 (z2l q07 q0a q09 q0c q08 q0d q0e q0f q0h q0j q0k x1 q2q x2 x3 x4)
 | _=>none
theorem zw5:ev8 Γ36 11 [.agg [.row 1 a0 (.fl .f32 g1),.row 1 a2 (.fl .f32 g3),.row 1 a4 (.fl .f32 g5),.row 3 a6 (.fl .f32 g7),.s (.int .i64 c8),.s (.flt .f32 a9),.s (.flt .f32 a10)],.one (.s (.flt .f32 a11)),.one (.row 1 a12 (.fl .f32 g13)),.one (.s (.flt .f32 a14)),.one (.s (.flt .f32 a15))]=zb5 (z2l a0 g1 a2 g3 a4 g5 a6 g7 c8 a9 a10 a11 a12 g13 a14 a15):=tr2 (zr3 a0 g1 a2 g3 a4 g5 a6 g7 c8 a9 a10 a11 a12 g13 a14 a15 zb5 rfl (fun c0_=>some c0_)) (by kernel_rfl)
theorem zra:SumOne (mainJ Tryz.prog W Post) 11 zb4:=mkT yfd yf6 fun pts v news hp=>by
 unfold zb4 at hp
 split at hp
 ·exact fin3 (zw5 ..) hp
 ·cases hp
end
end Go.Proofs.YtijjhfailnmeoaaGreat
