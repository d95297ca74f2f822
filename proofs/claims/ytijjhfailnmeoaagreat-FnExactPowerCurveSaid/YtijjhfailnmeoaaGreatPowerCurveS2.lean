import Derived.Test.YtijjhfailnmeoaaGreatPowerCurveF
set_option linter.unusedVariables false
set_option linter.unusedSimpArgs false
set_option linter.unusedSectionVars false
set_option maxRecDepth 100000
set_option maxHeartbeats 4000000
namespace Go.Proofs.YtijjhfailnmeoaaGreat
open Go Go.Rf
open Go.ConcR (Payload)
variable [Payload] {W:World} {Post:Value→World→Prop}
noncomputable section
variable (a0:Nat) (a1:Nat) (c1:Int) (g1:List Nat) (a2:Nat) (c2:Int) (g2:List Nat) (a3:Nat) (g3:List Nat) (a4:Nat) (c4:Int) (g4:List Nat) (c5:Int) (g5:List Nat) (a6:Nat) (c6:Int) (g6:List Nat) (a7:Nat) (g7:List Nat) (a8:Nat) (c8:Int) (g8:List Nat) (a9:Nat) (g9:List Nat) (a10:Nat) (c10:Int) (g10:List Nat) (a11:Nat) (g11:List Nat) (a12:Nat) (c12:Int) (g12:List Nat) (a13:Nat) (g13:List Nat) (a14:Nat) (c14:Int) (g14:List Nat) (a15:Nat) (c15:Int) (g15:List Nat) (a16:Nat) (c16:Int) (e16:Bool) (g16:List Nat) (a17:Nat) (e17:Bool) (g17:List Nat) (a18:Nat) (c18:Int) (g18:List Nat) (a19:Nat) (e19:Bool) (g19:List Nat) (a20:Nat) (c20:Int) (g20:List Nat) (a21:Nat) (g21:List Nat) (a22:Nat) (g22:List Nat) (g23:List Nat) (g24:List Nat) (g25:List Nat) (a26:Nat) (g26:List Nat) (a27:Nat) (g27:List Nat) (a28:Nat) (g28:List Nat) (a29:Nat) (a30:Nat) (c30:Int) (a31:Nat) (a32:Nat) (a33:Nat) (c33:Int) (a34:Nat) (c34:Int) (a35:Nat) (e35:Bool) (a36:Nat) (c36:Int) (g36:List Nat) (a37:Nat) (c37:Int) (a38:Nat) (e38:Bool) (g39:List Nat)
def ziu:List PT→Option (Bool×AV×List Blk)
 | [.agg [.row 1 an (.fl .f32 al),.row 1 ln (.fl .f32 ll),.row 1 dn (.fl .f32 dl),.row 3 sn (.fl .f32 sl),.s (.int .i64 cc),.s (.flt .f32 hb),.s (.flt .f32 tp)],.one (.s (.flt .f32 x2)),.one (.s (.flt .f32 x3)),.one (.s (.flt .f32 x4)),.one (.s (.flt .f32 x5)),.one (.s (.int .i64 ws))]=>some ((z8z an al ln ll dn dl sn sl cc hb tp x2 x3 x4 x5 ws),((.tup [(.one (.sl 0 0 (z5w an al ln ll dn dl sn sl cc hb tp x2 x3 x4 x5 ws) 1)),(.one (.sl 1 0 (z5x an al ln ll dn dl sn sl cc hb tp x2 x3 x4 x5 ws) 1)),(.one (.bool (z1j an al ln ll dn dl sn sl cc hb tp x2 x3 x4 x5 ws)))]),[(.mk true (.fl .f32 (z5t an al ln ll dn dl sn sl cc hb tp x2 x3 x4 x5 ws))),(.mk true (.fl .f32 (z60 an al ln ll dn dl sn sl cc hb tp x2 x3 x4 x5 ws)))]))
 | _=>none
theorem y0w:SumOne (mainJ Tryz.prog W Post) 19 ziu:=by
 intro pts v news hp w vals hv
 unfold ziu at hp
 split at hp
 ·rename_i an al ln ll dn dl sn sl cc hb tp x2 x3 x4 x5 ws
  injection hp with hp
  injection hp with h1 hp
  injection hp with h2 h3
  subst h2
  subst h3
  have h:=core (W:=W) (Post:=Post) (p:=⟨an,al,ln,ll,dn,dl,sn,sl,cc,hb,tp,x2,x3,x4,x5,ws.toNat⟩) (ws:=ws) rfl h1 hv
  have e:FP.ans ⟨an,al,ln,ll,dn,dl,sn,sl,cc,hb,tp,x2,x3,x4,x5,ws.toNat⟩ ws=((AV.tup [(TV.one (At.sl 0 0 (z5w an al ln ll dn dl sn sl cc hb tp x2 x3 x4 x5 ws) 1)),(TV.one (At.sl 1 0 (z5x an al ln ll dn dl sn sl cc hb tp x2 x3 x4 x5 ws) 1)),(TV.one (At.bool (z1j an al ln ll dn dl sn sl cc hb tp x2 x3 x4 x5 ws)))]),[(Blk.mk Bool.true (Body.fl .f32 (z5t an al ln ll dn dl sn sl cc hb tp x2 x3 x4 x5 ws))),(Blk.mk Bool.true (Body.fl .f32 (z60 an al ln ll dn dl sn sl cc hb tp x2 x3 x4 x5 ws)))]):=by
   unfold z5w z5x z5t z60
   show (match z1j an al ln ll dn dl sn sl cc hb tp x2 x3 x4 x5 ws with | true=>answer (zaf an al ln ll dn dl sn sl cc hb tp x2 x3 x4 x5 ws) (zat an al ln ll dn dl sn sl cc hb tp x2 x3 x4 x5 ws) sn sn Bool.true | false=>answer [] [] 0 0 Bool.false)=_
   cases z1j an al ln ll dn dl sn sl cc hb tp x2 x3 x4 x5 ws<;>rfl
  rw[e] at h
  exact h
 ·cases hp
def tb32:List (Nat×(List PT→Option (Bool×AV×List Blk))):=(47,zls)::(19,ziu)::tb28
def lt32:List ((Nat×Nat)×(Nat→St→Option (Bool×LO))):=lt28
def Γ32:Ctx:=⟨tyTab,fnTab,tblSum tb32,tblLp lt32⟩
theorem yfo:SumL (mainJ Tryz.prog W Post) tb32:=SumL.cons y48 (SumL.cons y0w (yfm))
theorem ygq:LpL (mainJ Tryz.prog W Post) fnTab lt32:=yfy
def zib  : Option (Nat×Nat×Bool×(List Nat)×(List Nat))→Option (AV×List Blk)
 | some r=>some ((.tup [(.one (.sl 0 0 r.1 1)),(.one (.sl 1 0 r.2.1 1)),(.one (.bool r.2.2.1))]),[(.mk true (.fl .f32 r.2.2.2.1)),(.mk true (.fl .f32 r.2.2.2.2))])
 | none=>none
def zhi:List PT→Option (Bool×AV×List Blk)
 | [.agg [.row 1 q00 (.fl .f32 q03),.row 1 q02 (.fl .f32 q06),.row 1 q01 (.fl .f32 q05),.row 3 q09 (.fl .f32 q0e),.s (.int .i64 q0h),.s (.flt .f32 q0n),.s (.flt .f32 q0m)],.one (.s (.flt .f32 q0s)),.one (.s (.flt .f32 q0p)),.one (.s (.flt .f32 q0l)),.one (.s (.flt .f32 q0q))]=>sF zib (z1o q00 q03 q02 q06 q01 q05 q09 q0e q0h q0n q0m q0s q0p q0l q0q)
 | _=>none
theorem y3j:ev8 Γ32 18 [.agg [.row 1 a0 (.fl .f32 g1),.row 1 a2 (.fl .f32 g3),.row 1 a4 (.fl .f32 g5),.row 3 a6 (.fl .f32 g7),.s (.int .i64 c8),.s (.flt .f32 a9),.s (.flt .f32 a10)],.one (.s (.flt .f32 a11)),.one (.s (.flt .f32 a12)),.one (.s (.flt .f32 a13)),.one (.s (.flt .f32 a14))]=zib (z1o a0 g1 a2 g3 a4 g5 a6 g7 c8 a9 a10 a11 a12 a13 a14):=tr2 (zx1 a0 g1 a2 g3 a4 g5 a6 g7 c8 a9 a10 a11 a12 a13 a14 zib rfl (fun c0_ c1_ c2_ c3_ c4_=>some (c0_,c1_,c2_,c3_,c4_))) (by kernel_rfl)
theorem zz9:SumOne (mainJ Tryz.prog W Post) 18 zhi:=mkT yfo ygq fun pts v news hp=>by
 unfold zhi at hp
 split at hp
 ·exact fin3 (y3j ..) hp
 ·cases hp
def tb33:List (Nat×(List PT→Option (Bool×AV×List Blk))):=(18,zhi)::tb32
def lt33:List ((Nat×Nat)×(Nat→St→Option (Bool×LO))):=lt32
def Γ33:Ctx:=⟨tyTab,fnTab,tblSum tb33,tblLp lt33⟩
theorem yfb:SumL (mainJ Tryz.prog W Post) tb33:=SumL.cons zz9 (yfo)
theorem ygm:LpL (mainJ Tryz.prog W Post) fnTab lt33:=ygq
def zph  : Option (Nat×Bool)→Option (AV×List Blk)
 | some r=>some ((.tup [(.one (.flt .f32 r.1)),(.one (.bool r.2))]),[])
 | none=>none
def zq0:List PT→Option (Bool×AV×List Blk)
 | [.agg [.row 1 q00 (.fl .f32 q03),.row 1 q02 (.fl .f32 q06),.row 1 q01 (.fl .f32 q05),.row 3 q09 (.fl .f32 q0e),.s (.int .i64 q0h),.s (.flt .f32 q0n),.s (.flt .f32 q0m)],.one (.s (.flt .f32 q0s)),.one (.s (.flt .f32 q0p)),.one (.s (.flt .f32 q0l)),.one (.s (.flt .f32 q0q))]=>sF zph (z6j q00 q03 q02 q06 q01 q05 q09 q0e q0h q0n q0m q0s q0p q0l q0q)
 | _=>none
theorem ydk:ev8 Γ33 23 [.agg [.row 1 a0 (.fl .f32 g1),.row 1 a2 (.fl .f32 g3),.row 1 a4 (.fl .f32 g5),.row 3 a6 (.fl .f32 g7),.s (.int .i64 c8),.s (.flt .f32 a9),.s (.flt .f32 a10)],.one (.s (.flt .f32 a11)),.one (.s (.flt .f32 a12)),.one (.s (.flt .f32 a13)),.one (.s (.flt .f32 a14))]=zph (z6j a0 g1 a2 g3 a4 g5 a6 g7 c8 a9 a10 a11 a12 a13 a14):=tr2 (y75 a0 g1 a2 g3 a4 g5 a6 g7 c8 a9 a10 a11 a12 a13 a14 zph rfl (fun c0_ c1_=>some (c0_,c1_))) (by kernel_rfl)
theorem y80:SumOne (mainJ Tryz.prog W Post) 23 zq0:=mkT yfb ygm fun pts v news hp=>by
 unfold zq0 at hp
 split at hp
 ·exact fin3 (ydk ..) hp
 ·cases hp
def tb34:List (Nat×(List PT→Option (Bool×AV×List Blk))):=(23,zq0)::tb33
def lt34:List ((Nat×Nat)×(Nat→St→Option (Bool×LO))):=lt33
def Γ34:Ctx:=⟨tyTab,fnTab,tblSum tb34,tblLp lt34⟩
theorem yg7:SumL (mainJ Tryz.prog W Post) tb34:=SumL.cons y80 (yfb)
theorem yfk:LpL (mainJ Tryz.prog W Post) fnTab lt34:=ygm
def zll  : Option (Nat×Bool)→Option (AV×List Blk)
 | some r=>some ((.tup [(.one (.flt .f32 r.1)),(.one (.bool r.2))]),[])
 | none=>none
def zmp:List PT→Option (Bool×AV×List Blk)
 | [.agg [.row 1 q00 (.fl .f32 q03),.row 1 q02 (.fl .f32 q06),.row 1 q01 (.fl .f32 q05),.row 3 q09 (.fl .f32 q0e),.s (.int .i64 q0h),.s (.flt .f32 q0n),.s (.flt .f32 q0m)],.one (.s (.flt .f32 q0s)),.one (.s (.flt .f32 q0p)),.one (.s (.flt .f32 q0l)),.one (.s (.flt .f32 q0q))]=>sF zll (z53 q00 q03 q02 q06 q01 q05 q09 q0e q0h q0n q0m q0s q0p q0l q0q)
 | _=>none
theorem yb4:ev8 Γ34 24 [.agg [.row 1 a0 (.fl .f32 g1),.row 1 a2 (.fl .f32 g3),.row 1 a4 (.fl .f32 g5),.row 3 a6 (.fl .f32 g7),.s (.int .i64 c8),.s (.flt .f32 a9),.s (.flt .f32 a10)],.one (.s (.flt .f32 a11)),.one (.s (.flt .f32 a12)),.one (.s (.flt .f32 a13)),.one (.s (.flt .f32 a14))]=zll (z53 a0 g1 a2 g3 a4 g5 a6 g7 c8 a9 a10 a11 a12 a13 a14):=tr2 (y3g a0 g1 a2 g3 a4 g5 a6 g7 c8 a9 a10 a11 a12 a13 a14 zll rfl (fun c0_ c1_=>some (c0_,c1_))) (by kernel_rfl)
theorem y53:SumOne (mainJ Tryz.prog W Post) 24 zmp:=mkT yg7 yfk fun pts v news hp=>by
 unfold zmp at hp
 split at hp
 ·exact fin3 (yb4 ..) hp
 ·cases hp
def tb36:List (Nat×(List PT→Option (Bool×AV×List Blk))):=(24,zmp)::tb34
def lt36:List ((Nat×Nat)×(Nat→St→Option (Bool×LO))):=lt34
def Γ36:Ctx:=⟨tyTab,fnTab,tblSum tb36,tblLp lt36⟩
theorem yfn:SumL (mainJ Tryz.prog W Post) tb36:=SumL.cons y53 (yg7)
theorem yex:LpL (mainJ Tryz.prog W Post) fnTab lt36:=yfk
def z9h:St:=(.mk [(x0F 2 a0),(x0F 3 a1),(x0F 4 a2),(x0P 5 5 7),(x0S 12 6 a3 1),(x0V 38 4 a4 1),(x0I 39 c5),(x0I 40 c6)] [(x0L g7),(x0L g8),(x0L g9),(x0L g10),(x0L g11),(x0R true 0 1 2 3 a12 a13 a14 a15 c16 a17 a18),(x0T g19)])
def zc9(q0p q0l q0q q3a:Nat)(t39:Int)(b0 b1 b2 b3 b4:List Nat)(q18 q17 q16 q13:Nat)(q1k:Int)(q1l q1m:Nat):St:=(.mk [(10,(.v (.one .nilsl))),(x0B 11 false)] [(x0L b0),(x0L b1),(x0L b2),(x0L b3),(x0L b4)])
def zcg:St:=(.mk [(x0F 2 a0),(x0F 3 a1),(x0F 4 a2),(x0P 5 5 7),(x0S 12 6 a17 1),(x0V 38 4 a3 1),(x0I 39 c4),(x0I 40 c18),(x0B 41 e19)] [(x0L g5),(x0L g6),(x0L g7),(x0L g8),(x0L g9),(x0R true 0 1 2 3 a10 a11 a12 a13 c14 a15 a16),(x0T g20)])
def zed:Option ((Unit)⊕(Nat×Int×Bool×(List Nat)))→Option (Ex×St)
 | none=>none
 | some (Sum.inl r)=>some (.ret,(zc9 a0 a1 a2 a3 c4 g5 g6 g7 g8 g9 a10 a11 a12 a13 c14 a15 a16))
 | some (Sum.inr r)=>some ((.exit 0),(zcg a0 a1 a2 a3 c4 g5 g6 g7 g8 g9 a10 a11 a12 a13 c14 a15 a16 r.1 r.2.1 r.2.2.1 r.2.2.2))
def zle (x:Option ((Unit)⊕(Nat×Int×Bool×(List Nat)))):LO:=(.two (oL x) (.one .ret (zc9 a0 a1 a2 a3 c4 g5 g6 g7 g8 g9 a10 a11 a12 a13 c14 a15 a16)) (.one (.exit 0) (zcg a0 a1 a2 a3 c4 g5 g6 g7 g8 g9 a10 a11 a12 a13 c14 a15 a16 ((tR x).getD default).1 ((tR x).getD default).2.1 ((tR x).getD default).2.2.1 ((tR x).getD default).2.2.2)))
def zy3:Bool×LO:=sL (zle a0 a1 a2 a4 c5 g7 g8 g9 g10 g11 a12 a13 a14 a15 c16 a17 a18) (z0e a0 a1 a2 a4 c5 g7 g8 g9 g10 g11 a12 a13 a14 a15 c16 a17 a18 big a3 c6 g19)
def zmu:Nat→St→Option (Bool×LO):=lpT 5 (pSt [(x1F 2),(x1F 3),(x1F 4),(x1P 5 5 7),(x1S 12 6 1),(x1V 38 4 1),(x1I 39),(x1I 40)] [x1L,x1L,x1L,x1L,x1L,(x1R true 0 1 2 3),x1T]) (fun hs=>zy3 (hN hs 0) (hN hs 1) (hN hs 2) (hN hs 3) (hN hs 4) (hI hs 5) (hI hs 6) (hLn hs 7) (hLn hs 8) (hLn hs 9) (hLn hs 10) (hLn hs 11) (hN hs 12) (hN hs 13) (hN hs 14) (hN hs 15) (hI hs 16) (hN hs 17) (hN hs 18) (hLn hs 19))
theorem y12:∀ x:Option ((Unit)⊕(Nat×Int×Bool×(List Nat))),x.isSome=true→(zed a0 a1 a2 a3 c4 g5 g6 g7 g8 g9 a10 a11 a12 a13 c14 a15 a16) x=some (pick (zle a0 a1 a2 a3 c4 g5 g6 g7 g8 g9 a10 a11 a12 a13 c14 a15 a16 x))
 | none,h=>by cases h
 | some (Sum.inl r),_=>rfl
 | some (Sum.inr r),_=>rfl
theorem y1b (K:Ex→St→Option (Ex×St)):ev9 Γ36 27 5 5 fi27 (z9h a0 a1 a2 a3 a4 c5 c6 g7 g8 g9 g10 g11 a12 a13 a14 a15 c16 a17 a18 g19) K=z1z a0 a1 a2 a4 c5 g7 g8 g9 g10 g11 a12 a13 a14 a15 c16 a17 a18 a3 c6 g19 (fun q1s' t40' b6'=>K .normal (z9h a0 a1 a2 q1s' a4 c5 t40' g7 g8 g9 g10 g11 a12 a13 a14 a15 c16 a17 a18 b6')) (fun _=>K .ret (zc9 a0 a1 a2 a4 c5 g7 g8 g9 g10 g11 a12 a13 a14 a15 c16 a17 a18)) (fun c0_ c1_ c2_ c3_=>K (.exit 0) (zcg a0 a1 a2 a4 c5 g7 g8 g9 g10 g11 a12 a13 a14 a15 c16 a17 a18 c0_ c1_ c2_ c3_)):=by kernel_rfl
theorem y0a:∀ (n q1s:Nat) (t40:Int) (b6:List Nat),iter 27 5 5 (ev9 Γ36 27 5 5 fi27) n (z9h a0 a1 a2 q1s a3 c4 t40 g5 g6 g7 g8 g9 a10 a11 a12 a13 c14 a15 a16 b6) (fun e st=>some (e,st))=(zed a0 a1 a2 a3 c4 g5 g6 g7 g8 g9 a10 a11 a12 a13 c14 a15 a16) (z0e a0 a1 a2 a3 c4 g5 g6 g7 g8 g9 a10 a11 a12 a13 c14 a15 a16 n q1s t40 b6):=by
 intro n
 induction n with
 | zero=>intros;rfl
 | succ n ih=>
  intro q1s t40 b6
  refine Eq.trans (iter_succ ..) (Eq.trans (y1b ..) (Eq.trans ?_ (zue a0 a1 a2 a3 c4 g5 g6 g7 g8 g9 a10 a11 a12 a13 c14 a15 a16 q1s t40 b6 (zed a0 a1 a2 a3 c4 g5 g6 g7 g8 g9 a10 a11 a12 a13 c14 a15 a16) rfl (fun q1s' t40' b6'=>z0e a0 a1 a2 a3 c4 g5 g6 g7 g8 g9 a10 a11 a12 a13 c14 a15 a16 n q1s' t40' b6') (fun _=>some (Sum.inl ())) (fun c0_ c1_ c2_ c3_=>some (Sum.inr (c0_,c1_,c2_,c3_))))))
  exact congrArg (fun kn_=>z1z a0 a1 a2 a3 c4 g5 g6 g7 g8 g9 a10 a11 a12 a13 c14 a15 a16 q1s t40 b6 kn_ _ _) (funext fun q1s'=>funext fun t40'=>funext fun b6'=>ih ..)
theorem zwh:LoopOne (mainJ Tryz.prog W Post) fnTab 27 5 zmu:=lpK yfn yex (fi:=fi27) (by kernel_rfl) (by kernel_rfl) (q:=fun hs=>(z9h (hN hs 0) (hN hs 1) (hN hs 2) (hN hs 3) (hN hs 4) (hI hs 5) (hI hs 6) (hLn hs 7) (hLn hs 8) (hLn hs 9) (hLn hs 10) (hLn hs 11) (hN hs 12) (hN hs 13) (hN hs 14) (hN hs 15) (hI hs 16) (hN hs 17) (hN hs 18) (hLn hs 19))) (fun hs=>by kernel_rfl) fun hs h1=>Eq.trans (y0a (hN hs 0) (hN hs 1) (hN hs 2) (hN hs 4) (hI hs 5) (hLn hs 7) (hLn hs 8) (hLn hs 9) (hLn hs 10) (hLn hs 11) (hN hs 12) (hN hs 13) (hN hs 14) (hN hs 15) (hI hs 16) (hN hs 17) (hN hs 18) big (hN hs 3) (hI hs 6) (hLn hs 19)) (y12 (hN hs 0) (hN hs 1) (hN hs 2) (hN hs 4) (hI hs 5) (hLn hs 7) (hLn hs 8) (hLn hs 9) (hLn hs 10) (hLn hs 11) (hN hs 12) (hN hs 13) (hN hs 14) (hN hs 15) (hI hs 16) (hN hs 17) (hN hs 18) _ h1)
def tb37:List (Nat×(List PT→Option (Bool×AV×List Blk))):=tb36
def lt37:List ((Nat×Nat)×(Nat→St→Option (Bool×LO))):=((27,5),zmu)::lt36
def Γ37:Ctx:=⟨tyTab,fnTab,tblSum tb37,tblLp lt37⟩
theorem yge:SumL (mainJ Tryz.prog W Post) tb37:=yfn
theorem yfu:LpL (mainJ Tryz.prog W Post) fnTab lt37:=LpL.cons zwh (yex)
def zlh  : Option (Nat×Bool×(List Nat))→Option (AV×List Blk)
 | some r=>some ((.tup [(.one (.sl 0 0 r.1 1)),(.one (.bool r.2.1))]),[(.mk true (.fl .f32 r.2.2))])
 | none=>none
def zlk:List PT→Option (Bool×AV×List Blk)
 | [.agg [.row 1 q00 (.fl .f32 q03),.row 1 q02 (.fl .f32 q06),.row 1 q01 (.fl .f32 q05),.row 3 q09 (.fl .f32 q0e),.s (.int .i64 q0h),.s (.flt .f32 q0n),.s (.flt .f32 q0m)],.one (.row 1 q2e (.fl .f32 q36)),.one (.s (.flt .f32 q0p)),.one (.s (.flt .f32 q0l)),.one (.s (.flt .f32 q0q))]=>sF zlh (z3z q00 q03 q02 q06 q01 q05 q09 q0e q0h q0n q0m q2e q36 q0p q0l q0q)
 | _=>none
theorem yai:ev8 Γ37 27 [.agg [.row 1 a0 (.fl .f32 g1),.row 1 a2 (.fl .f32 g3),.row 1 a4 (.fl .f32 g5),.row 3 a6 (.fl .f32 g7),.s (.int .i64 c8),.s (.flt .f32 a9),.s (.flt .f32 a10)],.one (.row 1 a11 (.fl .f32 g12)),.one (.s (.flt .f32 a13)),.one (.s (.flt .f32 a14)),.one (.s (.flt .f32 a15))]=zlh (z3z a0 g1 a2 g3 a4 g5 a6 g7 c8 a9 a10 a11 g12 a13 a14 a15):=tr2 (y1r a0 g1 a2 g3 a4 g5 a6 g7 c8 a9 a10 a11 g12 a13 a14 a15 zlh rfl (fun c0_ c1_ c2_=>some (c0_,c1_,c2_))) (by kernel_rfl)
theorem y5b:SumOne (mainJ Tryz.prog W Post) 27 zlk:=mkT yge yfu fun pts v news hp=>by
 unfold zlk at hp
 split at hp
 ·exact fin3 (yai ..) hp
 ·cases hp
def tb39:List (Nat×(List PT→Option (Bool×AV×List Blk))):=(27,zlk)::tb37
def lt39:List ((Nat×Nat)×(Nat→St→Option (Bool×LO))):=lt37
def Γ39:Ctx:=⟨tyTab,fnTab,tblSum tb39,tblLp lt39⟩
theorem ygo:SumL (mainJ Tryz.prog W Post) tb39:=SumL.cons y5b (yge)
theorem yez:LpL (mainJ Tryz.prog W Post) fnTab lt39:=yfu
def z2l:St:=(.mk [(x0S 0 8 a0 1),(x0I 1 c1),(x0I 5 c2)] [(x0L g3),(x0L g4),(x0L g5),(x0L g6),(x0L g7),(x0R true 0 1 2 3 a8 a9 a10 a11 c12 a13 a14),(x0T g15),(.mk true (.cells [(.sl 8 0 a16 1),(.sl 9 0 a17 1),(.sl 10 0 a18 1),(.sl 11 0 a19 3),(.int .i64 c20),(.flt .f32 a21),(.flt .f32 a22)])),(x0T g23),(x0T g24),(x0T g25),(x0T g26),(x0T g27),(x0T g28),(.mk true (.cells [(.sl 8 0 a29 1),(.sl 9 0 a30 1),(.sl 10 0 a31 1),(.sl 11 0 a32 3),(.int .i64 c33),(.flt .f32 a34),(.flt .f32 a35)])),(.mk true (.cells [(.sl 8 0 a36 1),(.sl 9 0 a37 1),(.sl 10 0 a38 1)]))])
def z44:St:=(.mk [(x0S 0 8 a0 1),(x0I 1 c36),(x0I 5 c37),(x0B 9 e38)] [(x0L g1),(x0L g2),(x0L g3),(x0L g4),(x0L g5),(x0R true 0 1 2 3 a6 a7 a8 a9 c10 a11 a12),(x0T g13),(.mk true (.cells [(.sl 8 0 a14 1),(.sl 9 0 a15 1),(.sl 10 0 a16 1),(.sl 11 0 a17 3),(.int .i64 c18),(.flt .f32 a19),(.flt .f32 a20)])),(x0T g39),(x0T g21),(x0T g22),(x0T g23),(x0T g24),(x0T g25),(.mk true (.cells [(.sl 8 0 a26 1),(.sl 9 0 a27 1),(.sl 10 0 a28 1),(.sl 11 0 a29 3),(.int .i64 c30),(.flt .f32 a31),(.flt .f32 a32)])),(.mk true (.cells [(.sl 8 0 a33 1),(.sl 9 0 a34 1),(.sl 10 0 a35 1)]))])
def z4h:Option ((Int×Int×Bool×(List Nat)))→Option (Ex×St)
 | none=>none
 | some r=>some ((.exit 0),(z44 a0 g1 g2 g3 g4 g5 a6 a7 a8 a9 c10 a11 a12 g13 a14 a15 a16 a17 c18 a19 a20 g21 g22 g23 g24 g25 a26 a27 a28 a29 c30 a31 a32 a33 a34 a35 r.1 r.2.1 r.2.2.1 r.2.2.2))
def z7n (x:Option ((Int×Int×Bool×(List Nat)))):LO:=(.one (.exit 0) (z44 a0 g1 g2 g3 g4 g5 a6 a7 a8 a9 c10 a11 a12 g13 a14 a15 a16 a17 c18 a19 a20 g21 g22 g23 g24 g25 a26 a27 a28 a29 c30 a31 a32 a33 a34 a35 (x.getD default).1 (x.getD default).2.1 (x.getD default).2.2.1 (x.getD default).2.2.2))
def zex:Bool×LO:=sL (z7n a0 g3 g4 g5 g6 g7 a8 a9 a10 a11 c12 a13 a14 g15 a16 a17 a18 a19 c20 a21 a22 g24 g25 g26 g27 g28 a29 a30 a31 a32 c33 a34 a35 a36 a37 a38) (z09 a0 big c1 c2 g23)
def z82:Nat→St→Option (Bool×LO):=lpT 16 (pSt [(x1S 0 8 1),(x1I 1),(x1I 5)] [x1L,x1L,x1L,x1L,x1L,(x1R true 0 1 2 3),x1T,(pBlk true (pCells [(pSl 8 (liN 0) 1),(pSl 9 (liN 0) 1),(pSl 10 (liN 0) 1),(pSl 11 (liN 0) 3),(pInt .i64),(pFlt .f32),(pFlt .f32)])),x1T,x1T,x1T,x1T,x1T,x1T,(pBlk true (pCells [(pSl 8 (liN 0) 1),(pSl 9 (liN 0) 1),(pSl 10 (liN 0) 1),(pSl 11 (liN 0) 3),(pInt .i64),(pFlt .f32),(pFlt .f32)])),(pBlk true (pCells [(pSl 8 (liN 0) 1),(pSl 9 (liN 0) 1),(pSl 10 (liN 0) 1)]))]) (fun hs=>zex (hN hs 0) (hI hs 1) (hI hs 2) (hLn hs 3) (hLn hs 4) (hLn hs 5) (hLn hs 6) (hLn hs 7) (hN hs 8) (hN hs 9) (hN hs 10) (hN hs 11) (hI hs 12) (hN hs 13) (hN hs 14) (hLn hs 15) (hN hs 16) (hN hs 17) (hN hs 18) (hN hs 19) (hI hs 20) (hN hs 21) (hN hs 22) (hLn hs 23) (hLn hs 24) (hLn hs 25) (hLn hs 26) (hLn hs 27) (hLn hs 28) (hN hs 29) (hN hs 30) (hN hs 31) (hN hs 32) (hI hs 33) (hN hs 34) (hN hs 35) (hN hs 36) (hN hs 37) (hN hs 38))
theorem zgr:∀ x:Option ((Int×Int×Bool×(List Nat))),x.isSome=true→(z4h a0 g1 g2 g3 g4 g5 a6 a7 a8 a9 c10 a11 a12 g13 a14 a15 a16 a17 c18 a19 a20 g21 g22 g23 g24 g25 a26 a27 a28 a29 c30 a31 a32 a33 a34 a35) x=some (pick (z7n a0 g1 g2 g3 g4 g5 a6 a7 a8 a9 c10 a11 a12 g13 a14 a15 a16 a17 c18 a19 a20 g21 g22 g23 g24 g25 a26 a27 a28 a29 c30 a31 a32 a33 a34 a35 x))
 | none,h=>by cases h
 | some r,_=>rfl
theorem zgp (K:Ex→St→Option (Ex×St)):ev9 Γ39 39 2 16 fi39 (z2l a0 c1 c2 g3 g4 g5 g6 g7 a8 a9 a10 a11 c12 a13 a14 g15 a16 a17 a18 a19 c20 a21 a22 g23 g24 g25 g26 g27 g28 a29 a30 a31 a32 c33 a34 a35 a36 a37 a38) K=z0z a0 c1 c2 g23 (fun k' i' b8'=>K .normal (z2l a0 k' i' g3 g4 g5 g6 g7 a8 a9 a10 a11 c12 a13 a14 g15 a16 a17 a18 a19 c20 a21 a22 b8' g24 g25 g26 g27 g28 a29 a30 a31 a32 c33 a34 a35 a36 a37 a38)) (fun c0_ c1_ c2_ c3_=>K (.exit 0) (z44 a0 g3 g4 g5 g6 g7 a8 a9 a10 a11 c12 a13 a14 g15 a16 a17 a18 a19 c20 a21 a22 g24 g25 g26 g27 g28 a29 a30 a31 a32 c33 a34 a35 a36 a37 a38 c0_ c1_ c2_ c3_)):=by kernel_rfl
theorem zgs:∀ (n:Nat) (k i:Int) (b8:List Nat),iter 39 2 16 (ev9 Γ39 39 2 16 fi39) n (z2l a0 k i g1 g2 g3 g4 g5 a6 a7 a8 a9 c10 a11 a12 g13 a14 a15 a16 a17 c18 a19 a20 b8 g21 g22 g23 g24 g25 a26 a27 a28 a29 c30 a31 a32 a33 a34 a35) (fun e st=>some (e,st))=(z4h a0 g1 g2 g3 g4 g5 a6 a7 a8 a9 c10 a11 a12 g13 a14 a15 a16 a17 c18 a19 a20 g21 g22 g23 g24 g25 a26 a27 a28 a29 c30 a31 a32 a33 a34 a35) (z09 a0 n k i b8):=by
 intro n
 induction n with
 | zero=>intros;rfl
 | succ n ih=>
  intro k i b8
  refine Eq.trans (iter_succ ..) (Eq.trans (zgp ..) (Eq.trans ?_ (zdd a0 k i b8 (z4h a0 g1 g2 g3 g4 g5 a6 a7 a8 a9 c10 a11 a12 g13 a14 a15 a16 a17 c18 a19 a20 g21 g22 g23 g24 g25 a26 a27 a28 a29 c30 a31 a32 a33 a34 a35) rfl (fun k' i' b8'=>z09 a0 n k' i' b8') (fun c0_ c1_ c2_ c3_=>some (c0_,c1_,c2_,c3_)))))
  exact congrArg (fun kn_=>z0z a0 k i b8 kn_ _) (funext fun k'=>funext fun i'=>funext fun b8'=>ih ..)
theorem zdt:LoopOne (mainJ Tryz.prog W Post) fnTab 39 2 z82:=lpK ygo yez (fi:=fi39) (by kernel_rfl) (by kernel_rfl) (q:=fun hs=>(z2l (hN hs 0) (hI hs 1) (hI hs 2) (hLn hs 3) (hLn hs 4) (hLn hs 5) (hLn hs 6) (hLn hs 7) (hN hs 8) (hN hs 9) (hN hs 10) (hN hs 11) (hI hs 12) (hN hs 13) (hN hs 14) (hLn hs 15) (hN hs 16) (hN hs 17) (hN hs 18) (hN hs 19) (hI hs 20) (hN hs 21) (hN hs 22) (hLn hs 23) (hLn hs 24) (hLn hs 25) (hLn hs 26) (hLn hs 27) (hLn hs 28) (hN hs 29) (hN hs 30) (hN hs 31) (hN hs 32) (hI hs 33) (hN hs 34) (hN hs 35) (hN hs 36) (hN hs 37) (hN hs 38))) (fun hs=>by kernel_rfl) fun hs h1=>Eq.trans (zgs (hN hs 0) (hLn hs 3) (hLn hs 4) (hLn hs 5) (hLn hs 6) (hLn hs 7) (hN hs 8) (hN hs 9) (hN hs 10) (hN hs 11) (hI hs 12) (hN hs 13) (hN hs 14) (hLn hs 15) (hN hs 16) (hN hs 17) (hN hs 18) (hN hs 19) (hI hs 20) (hN hs 21) (hN hs 22) (hLn hs 24) (hLn hs 25) (hLn hs 26) (hLn hs 27) (hLn hs 28) (hN hs 29) (hN hs 30) (hN hs 31) (hN hs 32) (hI hs 33) (hN hs 34) (hN hs 35) (hN hs 36) (hN hs 37) (hN hs 38) big (hI hs 1) (hI hs 2) (hLn hs 23)) (zgr (hN hs 0) (hLn hs 3) (hLn hs 4) (hLn hs 5) (hLn hs 6) (hLn hs 7) (hN hs 8) (hN hs 9) (hN hs 10) (hN hs 11) (hI hs 12) (hN hs 13) (hN hs 14) (hLn hs 15) (hN hs 16) (hN hs 17) (hN hs 18) (hN hs 19) (hI hs 20) (hN hs 21) (hN hs 22) (hLn hs 24) (hLn hs 25) (hLn hs 26) (hLn hs 27) (hLn hs 28) (hN hs 29) (hN hs 30) (hN hs 31) (hN hs 32) (hI hs 33) (hN hs 34) (hN hs 35) (hN hs 36) (hN hs 37) (hN hs 38) _ h1)
def tb41:List (Nat×(List PT→Option (Bool×AV×List Blk))):=tb39
def lt41:List ((Nat×Nat)×(Nat→St→Option (Bool×LO))):=((39,2),z82)::lt39
def Γ41:Ctx:=⟨tyTab,fnTab,tblSum tb41,tblLp lt41⟩
theorem yfi:SumL (mainJ Tryz.prog W Post) tb41:=ygo
theorem yft:LpL (mainJ Tryz.prog W Post) fnTab lt41:=LpL.cons zdt (yez)
def z26:St:=(.mk [(x0S 0 9 a0 1),(x0I 1 c1),(x0I 5 c2)] [(x0L g3),(x0L g4),(x0L g5),(x0L g6),(x0L g7),(x0R true 0 1 2 3 a8 a9 a10 a11 c12 a13 a14),(x0T g15),(.mk true (.cells [(.sl 8 0 a16 1),(.sl 9 0 a17 1),(.sl 10 0 a18 1),(.sl 11 0 a19 3),(.int .i64 c20),(.flt .f32 a21),(.flt .f32 a22)])),(x0T g23),(x0T g24),(x0T g25),(x0T g26),(x0T g27),(x0T g28),(.mk true (.cells [(.sl 8 0 a29 1),(.sl 9 0 a30 1),(.sl 10 0 a31 1),(.sl 11 0 a32 3),(.int .i64 c33),(.flt .f32 a34),(.flt .f32 a35)])),(.mk true (.cells [(.sl 8 0 a36 1),(.sl 9 0 a37 1),(.sl 10 0 a38 1)]))])
def z3i:St:=(.mk [(x0S 0 9 a0 1),(x0I 1 c36),(x0I 5 c37),(x0B 9 e38)] [(x0L g1),(x0L g2),(x0L g3),(x0L g4),(x0L g5),(x0R true 0 1 2 3 a6 a7 a8 a9 c10 a11 a12),(x0T g13),(.mk true (.cells [(.sl 8 0 a14 1),(.sl 9 0 a15 1),(.sl 10 0 a16 1),(.sl 11 0 a17 3),(.int .i64 c18),(.flt .f32 a19),(.flt .f32 a20)])),(x0T g21),(x0T g39),(x0T g22),(x0T g23),(x0T g24),(x0T g25),(.mk true (.cells [(.sl 8 0 a26 1),(.sl 9 0 a27 1),(.sl 10 0 a28 1),(.sl 11 0 a29 3),(.int .i64 c30),(.flt .f32 a31),(.flt .f32 a32)])),(.mk true (.cells [(.sl 8 0 a33 1),(.sl 9 0 a34 1),(.sl 10 0 a35 1)]))])
def z3s:Option ((Int×Int×Bool×(List Nat)))→Option (Ex×St)
 | none=>none
 | some r=>some ((.exit 0),(z3i a0 g1 g2 g3 g4 g5 a6 a7 a8 a9 c10 a11 a12 g13 a14 a15 a16 a17 c18 a19 a20 g21 g22 g23 g24 g25 a26 a27 a28 a29 c30 a31 a32 a33 a34 a35 r.1 r.2.1 r.2.2.1 r.2.2.2))
def z6u (x:Option ((Int×Int×Bool×(List Nat)))):LO:=(.one (.exit 0) (z3i a0 g1 g2 g3 g4 g5 a6 a7 a8 a9 c10 a11 a12 g13 a14 a15 a16 a17 c18 a19 a20 g21 g22 g23 g24 g25 a26 a27 a28 a29 c30 a31 a32 a33 a34 a35 (x.getD default).1 (x.getD default).2.1 (x.getD default).2.2.1 (x.getD default).2.2.2))
def zda:Bool×LO:=sL (z6u a0 g3 g4 g5 g6 g7 a8 a9 a10 a11 c12 a13 a14 g15 a16 a17 a18 a19 c20 a21 a22 g23 g25 g26 g27 g28 a29 a30 a31 a32 c33 a34 a35 a36 a37 a38) (z06 a0 big c1 c2 g24)
def z74:Nat→St→Option (Bool×LO):=lpT 16 (pSt [(x1S 0 9 1),(x1I 1),(x1I 5)] [x1L,x1L,x1L,x1L,x1L,(x1R true 0 1 2 3),x1T,(pBlk true (pCells [(pSl 8 (liN 0) 1),(pSl 9 (liN 0) 1),(pSl 10 (liN 0) 1),(pSl 11 (liN 0) 3),(pInt .i64),(pFlt .f32),(pFlt .f32)])),x1T,x1T,x1T,x1T,x1T,x1T,(pBlk true (pCells [(pSl 8 (liN 0) 1),(pSl 9 (liN 0) 1),(pSl 10 (liN 0) 1),(pSl 11 (liN 0) 3),(pInt .i64),(pFlt .f32),(pFlt .f32)])),(pBlk true (pCells [(pSl 8 (liN 0) 1),(pSl 9 (liN 0) 1),(pSl 10 (liN 0) 1)]))]) (fun hs=>zda (hN hs 0) (hI hs 1) (hI hs 2) (hLn hs 3) (hLn hs 4) (hLn hs 5) (hLn hs 6) (hLn hs 7) (hN hs 8) (hN hs 9) (hN hs 10) (hN hs 11) (hI hs 12) (hN hs 13) (hN hs 14) (hLn hs 15) (hN hs 16) (hN hs 17) (hN hs 18) (hN hs 19) (hI hs 20) (hN hs 21) (hN hs 22) (hLn hs 23) (hLn hs 24) (hLn hs 25) (hLn hs 26) (hLn hs 27) (hLn hs 28) (hN hs 29) (hN hs 30) (hN hs 31) (hN hs 32) (hI hs 33) (hN hs 34) (hN hs 35) (hN hs 36) (hN hs 37) (hN hs 38))
theorem zet:∀ x:Option ((Int×Int×Bool×(List Nat))),x.isSome=true→(z3s a0 g1 g2 g3 g4 g5 a6 a7 a8 a9 c10 a11 a12 g13 a14 a15 a16 a17 c18 a19 a20 g21 g22 g23 g24 g25 a26 a27 a28 a29 c30 a31 a32 a33 a34 a35) x=some (pick (z6u a0 g1 g2 g3 g4 g5 a6 a7 a8 a9 c10 a11 a12 g13 a14 a15 a16 a17 c18 a19 a20 g21 g22 g23 g24 g25 a26 a27 a28 a29 c30 a31 a32 a33 a34 a35 x))
 | none,h=>by cases h
 | some r,_=>rfl
theorem zer (K:Ex→St→Option (Ex×St)):ev9 Γ41 39 2 16 fi39 (z26 a0 c1 c2 g3 g4 g5 g6 g7 a8 a9 a10 a11 c12 a13 a14 g15 a16 a17 a18 a19 c20 a21 a22 g23 g24 g25 g26 g27 g28 a29 a30 a31 a32 c33 a34 a35 a36 a37 a38) K=z0v a0 c1 c2 g24 (fun k' i' b9'=>K .normal (z26 a0 k' i' g3 g4 g5 g6 g7 a8 a9 a10 a11 c12 a13 a14 g15 a16 a17 a18 a19 c20 a21 a22 g23 b9' g25 g26 g27 g28 a29 a30 a31 a32 c33 a34 a35 a36 a37 a38)) (fun c0_ c1_ c2_ c3_=>K (.exit 0) (z3i a0 g3 g4 g5 g6 g7 a8 a9 a10 a11 c12 a13 a14 g15 a16 a17 a18 a19 c20 a21 a22 g23 g25 g26 g27 g28 a29 a30 a31 a32 c33 a34 a35 a36 a37 a38 c0_ c1_ c2_ c3_)):=by kernel_rfl
theorem zep:∀ (n:Nat) (k i:Int) (b9:List Nat),iter 39 2 16 (ev9 Γ41 39 2 16 fi39) n (z26 a0 k i g1 g2 g3 g4 g5 a6 a7 a8 a9 c10 a11 a12 g13 a14 a15 a16 a17 c18 a19 a20 g21 b9 g22 g23 g24 g25 a26 a27 a28 a29 c30 a31 a32 a33 a34 a35) (fun e st=>some (e,st))=(z3s a0 g1 g2 g3 g4 g5 a6 a7 a8 a9 c10 a11 a12 g13 a14 a15 a16 a17 c18 a19 a20 g21 g22 g23 g24 g25 a26 a27 a28 a29 c30 a31 a32 a33 a34 a35) (z06 a0 n k i b9):=by
 intro n
 induction n with
 | zero=>intros;rfl
 | succ n ih=>
  intro k i b9
  refine Eq.trans (iter_succ ..) (Eq.trans (zer ..) (Eq.trans ?_ (zbz a0 k i b9 (z3s a0 g1 g2 g3 g4 g5 a6 a7 a8 a9 c10 a11 a12 g13 a14 a15 a16 a17 c18 a19 a20 g21 g22 g23 g24 g25 a26 a27 a28 a29 c30 a31 a32 a33 a34 a35) rfl (fun k' i' b9'=>z06 a0 n k' i' b9') (fun c0_ c1_ c2_ c3_=>some (c0_,c1_,c2_,c3_)))))
  exact congrArg (fun kn_=>z0v a0 k i b9 kn_ _) (funext fun k'=>funext fun i'=>funext fun b9'=>ih ..)
theorem zcd:LoopOne (mainJ Tryz.prog W Post) fnTab 39 2 z74:=lpK yfi yft (fi:=fi39) (by kernel_rfl) (by kernel_rfl) (q:=fun hs=>(z26 (hN hs 0) (hI hs 1) (hI hs 2) (hLn hs 3) (hLn hs 4) (hLn hs 5) (hLn hs 6) (hLn hs 7) (hN hs 8) (hN hs 9) (hN hs 10) (hN hs 11) (hI hs 12) (hN hs 13) (hN hs 14) (hLn hs 15) (hN hs 16) (hN hs 17) (hN hs 18) (hN hs 19) (hI hs 20) (hN hs 21) (hN hs 22) (hLn hs 23) (hLn hs 24) (hLn hs 25) (hLn hs 26) (hLn hs 27) (hLn hs 28) (hN hs 29) (hN hs 30) (hN hs 31) (hN hs 32) (hI hs 33) (hN hs 34) (hN hs 35) (hN hs 36) (hN hs 37) (hN hs 38))) (fun hs=>by kernel_rfl) fun hs h1=>Eq.trans (zep (hN hs 0) (hLn hs 3) (hLn hs 4) (hLn hs 5) (hLn hs 6) (hLn hs 7) (hN hs 8) (hN hs 9) (hN hs 10) (hN hs 11) (hI hs 12) (hN hs 13) (hN hs 14) (hLn hs 15) (hN hs 16) (hN hs 17) (hN hs 18) (hN hs 19) (hI hs 20) (hN hs 21) (hN hs 22) (hLn hs 23) (hLn hs 25) (hLn hs 26) (hLn hs 27) (hLn hs 28) (hN hs 29) (hN hs 30) (hN hs 31) (hN hs 32) (hI hs 33) (hN hs 34) (hN hs 35) (hN hs 36) (hN hs 37) (hN hs 38) big (hI hs 1) (hI hs 2) (hLn hs 24)) (zet (hN hs 0) (hLn hs 3) (hLn hs 4) (hLn hs 5) (hLn hs 6) (hLn hs 7) (hN hs 8) (hN hs 9) (hN hs 10) (hN hs 11) (hI hs 12) (hN hs 13) (hN hs 14) (hLn hs 15) (hN hs 16) (hN hs 17) (hN hs 18) (hN hs 19) (hI hs 20) (hN hs 21) (hN hs 22) (hLn hs 23) (hLn hs 25) (hLn hs 26) (hLn hs 27) (hLn hs 28) (hN hs 29) (hN hs 30) (hN hs 31) (hN hs 32) (hI hs 33) (hN hs 34) (hN hs 35) (hN hs 36) (hN hs 37) (hN hs 38) _ h1)
def tb43:List (Nat×(List PT→Option (Bool×AV×List Blk))):=tb41
def lt43:List ((Nat×Nat)×(Nat→St→Option (Bool×LO))):=((39,2),z74)::lt41
def Γ43:Ctx:=⟨tyTab,fnTab,tblSum tb43,tblLp lt43⟩
theorem ygr:SumL (mainJ Tryz.prog W Post) tb43:=yfi
theorem ygj:LpL (mainJ Tryz.prog W Post) fnTab lt43:=LpL.cons zcd (yft)
def z25:St:=(.mk [(x0S 0 10 a0 1),(x0I 1 c1),(x0I 5 c2)] [(x0L g3),(x0L g4),(x0L g5),(x0L g6),(x0L g7),(x0R true 0 1 2 3 a8 a9 a10 a11 c12 a13 a14),(x0T g15),(.mk true (.cells [(.sl 8 0 a16 1),(.sl 9 0 a17 1),(.sl 10 0 a18 1),(.sl 11 0 a19 3),(.int .i64 c20),(.flt .f32 a21),(.flt .f32 a22)])),(x0T g23),(x0T g24),(x0T g25),(x0T g26),(x0T g27),(x0T g28),(.mk true (.cells [(.sl 8 0 a29 1),(.sl 9 0 a30 1),(.sl 10 0 a31 1),(.sl 11 0 a32 3),(.int .i64 c33),(.flt .f32 a34),(.flt .f32 a35)])),(.mk true (.cells [(.sl 8 0 a36 1),(.sl 9 0 a37 1),(.sl 10 0 a38 1)]))])
def z3j:St:=(.mk [(x0S 0 10 a0 1),(x0I 1 c36),(x0I 5 c37),(x0B 9 e38)] [(x0L g1),(x0L g2),(x0L g3),(x0L g4),(x0L g5),(x0R true 0 1 2 3 a6 a7 a8 a9 c10 a11 a12),(x0T g13),(.mk true (.cells [(.sl 8 0 a14 1),(.sl 9 0 a15 1),(.sl 10 0 a16 1),(.sl 11 0 a17 3),(.int .i64 c18),(.flt .f32 a19),(.flt .f32 a20)])),(x0T g21),(x0T g22),(x0T g39),(x0T g23),(x0T g24),(x0T g25),(.mk true (.cells [(.sl 8 0 a26 1),(.sl 9 0 a27 1),(.sl 10 0 a28 1),(.sl 11 0 a29 3),(.int .i64 c30),(.flt .f32 a31),(.flt .f32 a32)])),(.mk true (.cells [(.sl 8 0 a33 1),(.sl 9 0 a34 1),(.sl 10 0 a35 1)]))])
def z3r:Option ((Int×Int×Bool×(List Nat)))→Option (Ex×St)
 | none=>none
 | some r=>some ((.exit 0),(z3j a0 g1 g2 g3 g4 g5 a6 a7 a8 a9 c10 a11 a12 g13 a14 a15 a16 a17 c18 a19 a20 g21 g22 g23 g24 g25 a26 a27 a28 a29 c30 a31 a32 a33 a34 a35 r.1 r.2.1 r.2.2.1 r.2.2.2))
def z6q (x:Option ((Int×Int×Bool×(List Nat)))):LO:=(.one (.exit 0) (z3j a0 g1 g2 g3 g4 g5 a6 a7 a8 a9 c10 a11 a12 g13 a14 a15 a16 a17 c18 a19 a20 g21 g22 g23 g24 g25 a26 a27 a28 a29 c30 a31 a32 a33 a34 a35 (x.getD default).1 (x.getD default).2.1 (x.getD default).2.2.1 (x.getD default).2.2.2))
def zd5:Bool×LO:=sL (z6q a0 g3 g4 g5 g6 g7 a8 a9 a10 a11 c12 a13 a14 g15 a16 a17 a18 a19 c20 a21 a22 g23 g24 g26 g27 g28 a29 a30 a31 a32 c33 a34 a35 a36 a37 a38) (z04 a0 big c1 c2 g25)
def z70:Nat→St→Option (Bool×LO):=lpT 16 (pSt [(x1S 0 10 1),(x1I 1),(x1I 5)] [x1L,x1L,x1L,x1L,x1L,(x1R true 0 1 2 3),x1T,(pBlk true (pCells [(pSl 8 (liN 0) 1),(pSl 9 (liN 0) 1),(pSl 10 (liN 0) 1),(pSl 11 (liN 0) 3),(pInt .i64),(pFlt .f32),(pFlt .f32)])),x1T,x1T,x1T,x1T,x1T,x1T,(pBlk true (pCells [(pSl 8 (liN 0) 1),(pSl 9 (liN 0) 1),(pSl 10 (liN 0) 1),(pSl 11 (liN 0) 3),(pInt .i64),(pFlt .f32),(pFlt .f32)])),(pBlk true (pCells [(pSl 8 (liN 0) 1),(pSl 9 (liN 0) 1),(pSl 10 (liN 0) 1)]))]) (fun hs=>zd5 (hN hs 0) (hI hs 1) (hI hs 2) (hLn hs 3) (hLn hs 4) (hLn hs 5) (hLn hs 6) (hLn hs 7) (hN hs 8) (hN hs 9) (hN hs 10) (hN hs 11) (hI hs 12) (hN hs 13) (hN hs 14) (hLn hs 15) (hN hs 16) (hN hs 17) (hN hs 18) (hN hs 19) (hI hs 20) (hN hs 21) (hN hs 22) (hLn hs 23) (hLn hs 24) (hLn hs 25) (hLn hs 26) (hLn hs 27) (hLn hs 28) (hN hs 29) (hN hs 30) (hN hs 31) (hN hs 32) (hI hs 33) (hN hs 34) (hN hs 35) (hN hs 36) (hN hs 37) (hN hs 38))
theorem zek:∀ x:Option ((Int×Int×Bool×(List Nat))),x.isSome=true→(z3r a0 g1 g2 g3 g4 g5 a6 a7 a8 a9 c10 a11 a12 g13 a14 a15 a16 a17 c18 a19 a20 g21 g22 g23 g24 g25 a26 a27 a28 a29 c30 a31 a32 a33 a34 a35) x=some (pick (z6q a0 g1 g2 g3 g4 g5 a6 a7 a8 a9 c10 a11 a12 g13 a14 a15 a16 a17 c18 a19 a20 g21 g22 g23 g24 g25 a26 a27 a28 a29 c30 a31 a32 a33 a34 a35 x))
 | none,h=>by cases h
 | some r,_=>rfl
theorem zez (K:Ex→St→Option (Ex×St)):ev9 Γ43 39 2 16 fi39 (z25 a0 c1 c2 g3 g4 g5 g6 g7 a8 a9 a10 a11 c12 a13 a14 g15 a16 a17 a18 a19 c20 a21 a22 g23 g24 g25 g26 g27 g28 a29 a30 a31 a32 c33 a34 a35 a36 a37 a38) K=z0s a0 c1 c2 g25 (fun k' i' b10'=>K .normal (z25 a0 k' i' g3 g4 g5 g6 g7 a8 a9 a10 a11 c12 a13 a14 g15 a16 a17 a18 a19 c20 a21 a22 g23 g24 b10' g26 g27 g28 a29 a30 a31 a32 c33 a34 a35 a36 a37 a38)) (fun c0_ c1_ c2_ c3_=>K (.exit 0) (z3j a0 g3 g4 g5 g6 g7 a8 a9 a10 a11 c12 a13 a14 g15 a16 a17 a18 a19 c20 a21 a22 g23 g24 g26 g27 g28 a29 a30 a31 a32 c33 a34 a35 a36 a37 a38 c0_ c1_ c2_ c3_)):=by kernel_rfl
theorem zes:∀ (n:Nat) (k i:Int) (b10:List Nat),iter 39 2 16 (ev9 Γ43 39 2 16 fi39) n (z25 a0 k i g1 g2 g3 g4 g5 a6 a7 a8 a9 c10 a11 a12 g13 a14 a15 a16 a17 c18 a19 a20 g21 g22 b10 g23 g24 g25 a26 a27 a28 a29 c30 a31 a32 a33 a34 a35) (fun e st=>some (e,st))=(z3r a0 g1 g2 g3 g4 g5 a6 a7 a8 a9 c10 a11 a12 g13 a14 a15 a16 a17 c18 a19 a20 g21 g22 g23 g24 g25 a26 a27 a28 a29 c30 a31 a32 a33 a34 a35) (z04 a0 n k i b10):=by
 intro n
 induction n with
 | zero=>intros;rfl
 | succ n ih=>
  intro k i b10
  refine Eq.trans (iter_succ ..) (Eq.trans (zez ..) (Eq.trans ?_ (zbw a0 k i b10 (z3r a0 g1 g2 g3 g4 g5 a6 a7 a8 a9 c10 a11 a12 g13 a14 a15 a16 a17 c18 a19 a20 g21 g22 g23 g24 g25 a26 a27 a28 a29 c30 a31 a32 a33 a34 a35) rfl (fun k' i' b10'=>z04 a0 n k' i' b10') (fun c0_ c1_ c2_ c3_=>some (c0_,c1_,c2_,c3_)))))
  exact congrArg (fun kn_=>z0s a0 k i b10 kn_ _) (funext fun k'=>funext fun i'=>funext fun b10'=>ih ..)
theorem zce:LoopOne (mainJ Tryz.prog W Post) fnTab 39 2 z70:=lpK ygr ygj (fi:=fi39) (by kernel_rfl) (by kernel_rfl) (q:=fun hs=>(z25 (hN hs 0) (hI hs 1) (hI hs 2) (hLn hs 3) (hLn hs 4) (hLn hs 5) (hLn hs 6) (hLn hs 7) (hN hs 8) (hN hs 9) (hN hs 10) (hN hs 11) (hI hs 12) (hN hs 13) (hN hs 14) (hLn hs 15) (hN hs 16) (hN hs 17) (hN hs 18) (hN hs 19) (hI hs 20) (hN hs 21) (hN hs 22) (hLn hs 23) (hLn hs 24) (hLn hs 25) (hLn hs 26) (hLn hs 27) (hLn hs 28) (hN hs 29) (hN hs 30) (hN hs 31) (hN hs 32) (hI hs 33) (hN hs 34) (hN hs 35) (hN hs 36) (hN hs 37) (hN hs 38))) (fun hs=>by kernel_rfl) fun hs h1=>Eq.trans (zes (hN hs 0) (hLn hs 3) (hLn hs 4) (hLn hs 5) (hLn hs 6) (hLn hs 7) (hN hs 8) (hN hs 9) (hN hs 10) (hN hs 11) (hI hs 12) (hN hs 13) (hN hs 14) (hLn hs 15) (hN hs 16) (hN hs 17) (hN hs 18) (hN hs 19) (hI hs 20) (hN hs 21) (hN hs 22) (hLn hs 23) (hLn hs 24) (hLn hs 26) (hLn hs 27) (hLn hs 28) (hN hs 29) (hN hs 30) (hN hs 31) (hN hs 32) (hI hs 33) (hN hs 34) (hN hs 35) (hN hs 36) (hN hs 37) (hN hs 38) big (hI hs 1) (hI hs 2) (hLn hs 25)) (zek (hN hs 0) (hLn hs 3) (hLn hs 4) (hLn hs 5) (hLn hs 6) (hLn hs 7) (hN hs 8) (hN hs 9) (hN hs 10) (hN hs 11) (hI hs 12) (hN hs 13) (hN hs 14) (hLn hs 15) (hN hs 16) (hN hs 17) (hN hs 18) (hN hs 19) (hI hs 20) (hN hs 21) (hN hs 22) (hLn hs 23) (hLn hs 24) (hLn hs 26) (hLn hs 27) (hLn hs 28) (hN hs 29) (hN hs 30) (hN hs 31) (hN hs 32) (hI hs 33) (hN hs 34) (hN hs 35) (hN hs 36) (hN hs 37) (hN hs 38) _ h1)
def tb45:List (Nat×(List PT→Option (Bool×AV×List Blk))):=tb43
def lt45:List ((Nat×Nat)×(Nat→St→Option (Bool×LO))):=((39,2),z70)::lt43
def Γ45:Ctx:=⟨tyTab,fnTab,tblSum tb45,tblLp lt45⟩
theorem ygp:SumL (mainJ Tryz.prog W Post) tb45:=ygr
theorem yfh:LpL (mainJ Tryz.prog W Post) fnTab lt45:=LpL.cons zce (ygj)
def z2i:St:=(.mk [(x0S 0 11 a0 3),(x0I 1 c1),(x0I 5 c2)] [(x0L g3),(x0L g4),(x0L g5),(x0L g6),(x0L g7),(x0R true 0 1 2 3 a8 a9 a10 a11 c12 a13 a14),(x0T g15),(.mk true (.cells [(.sl 8 0 a16 1),(.sl 9 0 a17 1),(.sl 10 0 a18 1),(.sl 11 0 a19 3),(.int .i64 c20),(.flt .f32 a21),(.flt .f32 a22)])),(x0T g23),(x0T g24),(x0T g25),(x0T g26),(x0T g27),(x0T g28),(.mk true (.cells [(.sl 8 0 a29 1),(.sl 9 0 a30 1),(.sl 10 0 a31 1),(.sl 11 0 a32 3),(.int .i64 c33),(.flt .f32 a34),(.flt .f32 a35)]))])
def z4c:St:=(.mk [(x0S 0 11 a0 3),(x0I 1 c33),(x0I 5 c34),(x0B 9 e35)] [(x0L g1),(x0L g2),(x0L g3),(x0L g4),(x0L g5),(x0R true 0 1 2 3 a6 a7 a8 a9 c10 a11 a12),(x0T g13),(.mk true (.cells [(.sl 8 0 a14 1),(.sl 9 0 a15 1),(.sl 10 0 a16 1),(.sl 11 0 a17 3),(.int .i64 c18),(.flt .f32 a19),(.flt .f32 a20)])),(x0T g21),(x0T g22),(x0T g23),(x0T g36),(x0T g24),(x0T g25),(.mk true (.cells [(.sl 8 0 a26 1),(.sl 9 0 a27 1),(.sl 10 0 a28 1),(.sl 11 0 a29 3),(.int .i64 c30),(.flt .f32 a31),(.flt .f32 a32)]))])
def z4k:Option ((Int×Int×Bool×(List Nat)))→Option (Ex×St)
 | none=>none
 | some r=>some ((.exit 0),(z4c a0 g1 g2 g3 g4 g5 a6 a7 a8 a9 c10 a11 a12 g13 a14 a15 a16 a17 c18 a19 a20 g21 g22 g23 g24 g25 a26 a27 a28 a29 c30 a31 a32 r.1 r.2.1 r.2.2.1 r.2.2.2))
def z7z (x:Option ((Int×Int×Bool×(List Nat)))):LO:=(.one (.exit 0) (z4c a0 g1 g2 g3 g4 g5 a6 a7 a8 a9 c10 a11 a12 g13 a14 a15 a16 a17 c18 a19 a20 g21 g22 g23 g24 g25 a26 a27 a28 a29 c30 a31 a32 (x.getD default).1 (x.getD default).2.1 (x.getD default).2.2.1 (x.getD default).2.2.2))
def zen:Bool×LO:=sL (z7z a0 g3 g4 g5 g6 g7 a8 a9 a10 a11 c12 a13 a14 g15 a16 a17 a18 a19 c20 a21 a22 g23 g24 g25 g27 g28 a29 a30 a31 a32 c33 a34 a35) (z08 a0 big c1 c2 g26)
def z84:Nat→St→Option (Bool×LO):=lpT 15 (pSt [(x1S 0 11 3),(x1I 1),(x1I 5)] [x1L,x1L,x1L,x1L,x1L,(x1R true 0 1 2 3),x1T,(pBlk true (pCells [(pSl 8 (liN 0) 1),(pSl 9 (liN 0) 1),(pSl 10 (liN 0) 1),(pSl 11 (liN 0) 3),(pInt .i64),(pFlt .f32),(pFlt .f32)])),x1T,x1T,x1T,x1T,x1T,x1T,(pBlk true (pCells [(pSl 8 (liN 0) 1),(pSl 9 (liN 0) 1),(pSl 10 (liN 0) 1),(pSl 11 (liN 0) 3),(pInt .i64),(pFlt .f32),(pFlt .f32)]))]) (fun hs=>zen (hN hs 0) (hI hs 1) (hI hs 2) (hLn hs 3) (hLn hs 4) (hLn hs 5) (hLn hs 6) (hLn hs 7) (hN hs 8) (hN hs 9) (hN hs 10) (hN hs 11) (hI hs 12) (hN hs 13) (hN hs 14) (hLn hs 15) (hN hs 16) (hN hs 17) (hN hs 18) (hN hs 19) (hI hs 20) (hN hs 21) (hN hs 22) (hLn hs 23) (hLn hs 24) (hLn hs 25) (hLn hs 26) (hLn hs 27) (hLn hs 28) (hN hs 29) (hN hs 30) (hN hs 31) (hN hs 32) (hI hs 33) (hN hs 34) (hN hs 35))
theorem zgx:∀ x:Option ((Int×Int×Bool×(List Nat))),x.isSome=true→(z4k a0 g1 g2 g3 g4 g5 a6 a7 a8 a9 c10 a11 a12 g13 a14 a15 a16 a17 c18 a19 a20 g21 g22 g23 g24 g25 a26 a27 a28 a29 c30 a31 a32) x=some (pick (z7z a0 g1 g2 g3 g4 g5 a6 a7 a8 a9 c10 a11 a12 g13 a14 a15 a16 a17 c18 a19 a20 g21 g22 g23 g24 g25 a26 a27 a28 a29 c30 a31 a32 x))
 | none,h=>by cases h
 | some r,_=>rfl
theorem zgw (K:Ex→St→Option (Ex×St)):ev9 Γ45 79 2 15 fi79 (z2i a0 c1 c2 g3 g4 g5 g6 g7 a8 a9 a10 a11 c12 a13 a14 g15 a16 a17 a18 a19 c20 a21 a22 g23 g24 g25 g26 g27 g28 a29 a30 a31 a32 c33 a34 a35) K=z0l a0 c1 c2 g26 (fun k' i' b11'=>K .normal (z2i a0 k' i' g3 g4 g5 g6 g7 a8 a9 a10 a11 c12 a13 a14 g15 a16 a17 a18 a19 c20 a21 a22 g23 g24 g25 b11' g27 g28 a29 a30 a31 a32 c33 a34 a35)) (fun c0_ c1_ c2_ c3_=>K (.exit 0) (z4c a0 g3 g4 g5 g6 g7 a8 a9 a10 a11 c12 a13 a14 g15 a16 a17 a18 a19 c20 a21 a22 g23 g24 g25 g27 g28 a29 a30 a31 a32 c33 a34 a35 c0_ c1_ c2_ c3_)):=by kernel_rfl
theorem zgn:∀ (n:Nat) (k i:Int) (b11:List Nat),iter 79 2 15 (ev9 Γ45 79 2 15 fi79) n (z2i a0 k i g1 g2 g3 g4 g5 a6 a7 a8 a9 c10 a11 a12 g13 a14 a15 a16 a17 c18 a19 a20 g21 g22 g23 b11 g24 g25 a26 a27 a28 a29 c30 a31 a32) (fun e st=>some (e,st))=(z4k a0 g1 g2 g3 g4 g5 a6 a7 a8 a9 c10 a11 a12 g13 a14 a15 a16 a17 c18 a19 a20 g21 g22 g23 g24 g25 a26 a27 a28 a29 c30 a31 a32) (z08 a0 n k i b11):=by
 intro n
 induction n with
 | zero=>intros;rfl
 | succ n ih=>
  intro k i b11
  refine Eq.trans (iter_succ ..) (Eq.trans (zgw ..) (Eq.trans ?_ (zcy a0 k i b11 (z4k a0 g1 g2 g3 g4 g5 a6 a7 a8 a9 c10 a11 a12 g13 a14 a15 a16 a17 c18 a19 a20 g21 g22 g23 g24 g25 a26 a27 a28 a29 c30 a31 a32) rfl (fun k' i' b11'=>z08 a0 n k' i' b11') (fun c0_ c1_ c2_ c3_=>some (c0_,c1_,c2_,c3_)))))
  exact congrArg (fun kn_=>z0l a0 k i b11 kn_ _) (funext fun k'=>funext fun i'=>funext fun b11'=>ih ..)
theorem ze5:LoopOne (mainJ Tryz.prog W Post) fnTab 79 2 z84:=lpK ygp yfh (fi:=fi79) (by kernel_rfl) (by kernel_rfl) (q:=fun hs=>(z2i (hN hs 0) (hI hs 1) (hI hs 2) (hLn hs 3) (hLn hs 4) (hLn hs 5) (hLn hs 6) (hLn hs 7) (hN hs 8) (hN hs 9) (hN hs 10) (hN hs 11) (hI hs 12) (hN hs 13) (hN hs 14) (hLn hs 15) (hN hs 16) (hN hs 17) (hN hs 18) (hN hs 19) (hI hs 20) (hN hs 21) (hN hs 22) (hLn hs 23) (hLn hs 24) (hLn hs 25) (hLn hs 26) (hLn hs 27) (hLn hs 28) (hN hs 29) (hN hs 30) (hN hs 31) (hN hs 32) (hI hs 33) (hN hs 34) (hN hs 35))) (fun hs=>by kernel_rfl) fun hs h1=>Eq.trans (zgn (hN hs 0) (hLn hs 3) (hLn hs 4) (hLn hs 5) (hLn hs 6) (hLn hs 7) (hN hs 8) (hN hs 9) (hN hs 10) (hN hs 11) (hI hs 12) (hN hs 13) (hN hs 14) (hLn hs 15) (hN hs 16) (hN hs 17) (hN hs 18) (hN hs 19) (hI hs 20) (hN hs 21) (hN hs 22) (hLn hs 23) (hLn hs 24) (hLn hs 25) (hLn hs 27) (hLn hs 28) (hN hs 29) (hN hs 30) (hN hs 31) (hN hs 32) (hI hs 33) (hN hs 34) (hN hs 35) big (hI hs 1) (hI hs 2) (hLn hs 26)) (zgx (hN hs 0) (hLn hs 3) (hLn hs 4) (hLn hs 5) (hLn hs 6) (hLn hs 7) (hN hs 8) (hN hs 9) (hN hs 10) (hN hs 11) (hI hs 12) (hN hs 13) (hN hs 14) (hLn hs 15) (hN hs 16) (hN hs 17) (hN hs 18) (hN hs 19) (hI hs 20) (hN hs 21) (hN hs 22) (hLn hs 23) (hLn hs 24) (hLn hs 25) (hLn hs 27) (hLn hs 28) (hN hs 29) (hN hs 30) (hN hs 31) (hN hs 32) (hI hs 33) (hN hs 34) (hN hs 35) _ h1)
def tb47:List (Nat×(List PT→Option (Bool×AV×List Blk))):=tb45
def lt47:List ((Nat×Nat)×(Nat→St→Option (Bool×LO))):=((79,2),z84)::lt45
def Γ47:Ctx:=⟨tyTab,fnTab,tblSum tb47,tblLp lt47⟩
theorem yfv:SumL (mainJ Tryz.prog W Post) tb47:=ygp
theorem yfr:LpL (mainJ Tryz.prog W Post) fnTab lt47:=LpL.cons ze5 (yfh)
def z27:St:=(.mk [(x0S 0 7 a0 1),(x0I 1 c1),(x0I 5 c2)] [(x0L g3),(x0L g4),(x0L g5),(x0L g6),(x0L g7),(x0R true 0 1 2 3 a8 a9 a10 a11 c12 a13 a14),(x0T g15),(x0T g16),(x0T g17)])
def z3p:St:=(.mk [(x0S 0 7 a0 1),(x0I 1 c15),(x0I 5 c16),(x0B 9 e17)] [(x0L g1),(x0L g2),(x0L g3),(x0L g4),(x0L g5),(x0R true 0 1 2 3 a6 a7 a8 a9 c10 a11 a12),(x0T g13),(x0T g18),(x0T g14)])
def z3q:Option ((Int×Int×Bool×(List Nat)))→Option (Ex×St)
 | none=>none
 | some r=>some ((.exit 0),(z3p a0 g1 g2 g3 g4 g5 a6 a7 a8 a9 c10 a11 a12 g13 g14 r.1 r.2.1 r.2.2.1 r.2.2.2))
def z6x (x:Option ((Int×Int×Bool×(List Nat)))):LO:=(.one (.exit 0) (z3p a0 g1 g2 g3 g4 g5 a6 a7 a8 a9 c10 a11 a12 g13 g14 (x.getD default).1 (x.getD default).2.1 (x.getD default).2.2.1 (x.getD default).2.2.2))
def zd6:Bool×LO:=sL (z6x a0 g3 g4 g5 g6 g7 a8 a9 a10 a11 c12 a13 a14 g15 g17) (z07 a0 big c1 c2 g16)
def z72:Nat→St→Option (Bool×LO):=lpT 9 (pSt [(x1S 0 7 1),(x1I 1),(x1I 5)] [x1L,x1L,x1L,x1L,x1L,(x1R true 0 1 2 3),x1T,x1T,x1T]) (fun hs=>zd6 (hN hs 0) (hI hs 1) (hI hs 2) (hLn hs 3) (hLn hs 4) (hLn hs 5) (hLn hs 6) (hLn hs 7) (hN hs 8) (hN hs 9) (hN hs 10) (hN hs 11) (hI hs 12) (hN hs 13) (hN hs 14) (hLn hs 15) (hLn hs 16) (hLn hs 17))
theorem zew:∀ x:Option ((Int×Int×Bool×(List Nat))),x.isSome=true→(z3q a0 g1 g2 g3 g4 g5 a6 a7 a8 a9 c10 a11 a12 g13 g14) x=some (pick (z6x a0 g1 g2 g3 g4 g5 a6 a7 a8 a9 c10 a11 a12 g13 g14 x))
 | none,h=>by cases h
 | some r,_=>rfl
theorem zeu (K:Ex→St→Option (Ex×St)):ev9 Γ47 39 2 9 fi39 (z27 a0 c1 c2 g3 g4 g5 g6 g7 a8 a9 a10 a11 c12 a13 a14 g15 g16 g17) K=z0t a0 c1 c2 g16 (fun k' i' b7'=>K .normal (z27 a0 k' i' g3 g4 g5 g6 g7 a8 a9 a10 a11 c12 a13 a14 g15 b7' g17)) (fun c0_ c1_ c2_ c3_=>K (.exit 0) (z3p a0 g3 g4 g5 g6 g7 a8 a9 a10 a11 c12 a13 a14 g15 g17 c0_ c1_ c2_ c3_)):=by kernel_rfl
theorem zev:∀ (n:Nat) (k i:Int) (b7:List Nat),iter 39 2 9 (ev9 Γ47 39 2 9 fi39) n (z27 a0 k i g1 g2 g3 g4 g5 a6 a7 a8 a9 c10 a11 a12 g13 b7 g14) (fun e st=>some (e,st))=(z3q a0 g1 g2 g3 g4 g5 a6 a7 a8 a9 c10 a11 a12 g13 g14) (z07 a0 n k i b7):=by
 intro n
 induction n with
 | zero=>intros;rfl
 | succ n ih=>
  intro k i b7
  refine Eq.trans (iter_succ ..) (Eq.trans (zeu ..) (Eq.trans ?_ (zbx a0 k i b7 (z3q a0 g1 g2 g3 g4 g5 a6 a7 a8 a9 c10 a11 a12 g13 g14) rfl (fun k' i' b7'=>z07 a0 n k' i' b7') (fun c0_ c1_ c2_ c3_=>some (c0_,c1_,c2_,c3_)))))
  exact congrArg (fun kn_=>z0t a0 k i b7 kn_ _) (funext fun k'=>funext fun i'=>funext fun b7'=>ih ..)
theorem zco:LoopOne (mainJ Tryz.prog W Post) fnTab 39 2 z72:=lpK yfv yfr (fi:=fi39) (by kernel_rfl) (by kernel_rfl) (q:=fun hs=>(z27 (hN hs 0) (hI hs 1) (hI hs 2) (hLn hs 3) (hLn hs 4) (hLn hs 5) (hLn hs 6) (hLn hs 7) (hN hs 8) (hN hs 9) (hN hs 10) (hN hs 11) (hI hs 12) (hN hs 13) (hN hs 14) (hLn hs 15) (hLn hs 16) (hLn hs 17))) (fun hs=>by kernel_rfl) fun hs h1=>Eq.trans (zev (hN hs 0) (hLn hs 3) (hLn hs 4) (hLn hs 5) (hLn hs 6) (hLn hs 7) (hN hs 8) (hN hs 9) (hN hs 10) (hN hs 11) (hI hs 12) (hN hs 13) (hN hs 14) (hLn hs 15) (hLn hs 17) big (hI hs 1) (hI hs 2) (hLn hs 16)) (zew (hN hs 0) (hLn hs 3) (hLn hs 4) (hLn hs 5) (hLn hs 6) (hLn hs 7) (hN hs 8) (hN hs 9) (hN hs 10) (hN hs 11) (hI hs 12) (hN hs 13) (hN hs 14) (hLn hs 15) (hLn hs 17) _ h1)
def tb49:List (Nat×(List PT→Option (Bool×AV×List Blk))):=tb47
def lt49:List ((Nat×Nat)×(Nat→St→Option (Bool×LO))):=((39,2),z72)::lt47
def Γ49:Ctx:=⟨tyTab,fnTab,tblSum tb49,tblLp lt49⟩
theorem yg5:SumL (mainJ Tryz.prog W Post) tb49:=yfv
theorem ygn:LpL (mainJ Tryz.prog W Post) fnTab lt49:=LpL.cons zco (yfr)
def z28:St:=(.mk [(x0S 0 7 a0 1),(x0I 1 c1),(x0I 5 c2)] [(x0L g3),(x0L g4),(x0L g5),(x0L g6),(x0L g7),(x0R true 0 1 2 3 a8 a9 a10 a11 c12 a13 a14),(x0T g15),(x0T g16)])
def z3g:St:=(.mk [(x0S 0 7 a0 1),(x0I 1 c14),(x0I 5 c15),(x0B 9 e16)] [(x0L g1),(x0L g2),(x0L g3),(x0L g4),(x0L g5),(x0R true 0 1 2 3 a6 a7 a8 a9 c10 a11 a12),(x0T g13),(x0T g17)])
def z3t:Option ((Int×Int×Bool×(List Nat)))→Option (Ex×St)
 | none=>none
 | some r=>some ((.exit 0),(z3g a0 g1 g2 g3 g4 g5 a6 a7 a8 a9 c10 a11 a12 g13 r.1 r.2.1 r.2.2.1 r.2.2.2))
def z6v (x:Option ((Int×Int×Bool×(List Nat)))):LO:=(.one (.exit 0) (z3g a0 g1 g2 g3 g4 g5 a6 a7 a8 a9 c10 a11 a12 g13 (x.getD default).1 (x.getD default).2.1 (x.getD default).2.2.1 (x.getD default).2.2.2))
def zdb:Bool×LO:=sL (z6v a0 g3 g4 g5 g6 g7 a8 a9 a10 a11 c12 a13 a14 g15) (z05 a0 big c1 c2 g16)
def z75:Nat→St→Option (Bool×LO):=lpT 8 (pSt [(x1S 0 7 1),(x1I 1),(x1I 5)] [x1L,x1L,x1L,x1L,x1L,(x1R true 0 1 2 3),x1T,x1T]) (fun hs=>zdb (hN hs 0) (hI hs 1) (hI hs 2) (hLn hs 3) (hLn hs 4) (hLn hs 5) (hLn hs 6) (hLn hs 7) (hN hs 8) (hN hs 9) (hN hs 10) (hN hs 11) (hI hs 12) (hN hs 13) (hN hs 14) (hLn hs 15) (hLn hs 16))
theorem zeq:∀ x:Option ((Int×Int×Bool×(List Nat))),x.isSome=true→(z3t a0 g1 g2 g3 g4 g5 a6 a7 a8 a9 c10 a11 a12 g13) x=some (pick (z6v a0 g1 g2 g3 g4 g5 a6 a7 a8 a9 c10 a11 a12 g13 x))
 | none,h=>by cases h
 | some r,_=>rfl
theorem zey (K:Ex→St→Option (Ex×St)):ev9 Γ49 39 2 8 fi39 (z28 a0 c1 c2 g3 g4 g5 g6 g7 a8 a9 a10 a11 c12 a13 a14 g15 g16) K=z0u a0 c1 c2 g16 (fun k' i' b7'=>K .normal (z28 a0 k' i' g3 g4 g5 g6 g7 a8 a9 a10 a11 c12 a13 a14 g15 b7')) (fun c0_ c1_ c2_ c3_=>K (.exit 0) (z3g a0 g3 g4 g5 g6 g7 a8 a9 a10 a11 c12 a13 a14 g15 c0_ c1_ c2_ c3_)):=by kernel_rfl
theorem zem:∀ (n:Nat) (k i:Int) (b7:List Nat),iter 39 2 8 (ev9 Γ49 39 2 8 fi39) n (z28 a0 k i g1 g2 g3 g4 g5 a6 a7 a8 a9 c10 a11 a12 g13 b7) (fun e st=>some (e,st))=(z3t a0 g1 g2 g3 g4 g5 a6 a7 a8 a9 c10 a11 a12 g13) (z05 a0 n k i b7):=by
 intro n
 induction n with
 | zero=>intros;rfl
 | succ n ih=>
  intro k i b7
  refine Eq.trans (iter_succ ..) (Eq.trans (zey ..) (Eq.trans ?_ (zc3 a0 k i b7 (z3t a0 g1 g2 g3 g4 g5 a6 a7 a8 a9 c10 a11 a12 g13) rfl (fun k' i' b7'=>z05 a0 n k' i' b7') (fun c0_ c1_ c2_ c3_=>some (c0_,c1_,c2_,c3_)))))
  exact congrArg (fun kn_=>z0u a0 k i b7 kn_ _) (funext fun k'=>funext fun i'=>funext fun b7'=>ih ..)
theorem zct:LoopOne (mainJ Tryz.prog W Post) fnTab 39 2 z75:=lpK yg5 ygn (fi:=fi39) (by kernel_rfl) (by kernel_rfl) (q:=fun hs=>(z28 (hN hs 0) (hI hs 1) (hI hs 2) (hLn hs 3) (hLn hs 4) (hLn hs 5) (hLn hs 6) (hLn hs 7) (hN hs 8) (hN hs 9) (hN hs 10) (hN hs 11) (hI hs 12) (hN hs 13) (hN hs 14) (hLn hs 15) (hLn hs 16))) (fun hs=>by kernel_rfl) fun hs h1=>Eq.trans (zem (hN hs 0) (hLn hs 3) (hLn hs 4) (hLn hs 5) (hLn hs 6) (hLn hs 7) (hN hs 8) (hN hs 9) (hN hs 10) (hN hs 11) (hI hs 12) (hN hs 13) (hN hs 14) (hLn hs 15) big (hI hs 1) (hI hs 2) (hLn hs 16)) (zeq (hN hs 0) (hLn hs 3) (hLn hs 4) (hLn hs 5) (hLn hs 6) (hLn hs 7) (hN hs 8) (hN hs 9) (hN hs 10) (hN hs 11) (hI hs 12) (hN hs 13) (hN hs 14) (hLn hs 15) _ h1)
def tb50:List (Nat×(List PT→Option (Bool×AV×List Blk))):=tb49
def lt50:List ((Nat×Nat)×(Nat→St→Option (Bool×LO))):=((39,2),z75)::lt49
def Γ50:Ctx:=⟨tyTab,fnTab,tblSum tb50,tblLp lt50⟩
theorem yik:SumL (mainJ Tryz.prog W Post) tb50:=yg5
theorem yie:LpL (mainJ Tryz.prog W Post) fnTab lt50:=LpL.cons zct (ygn)
def zbb  : Option (Bool)→Option (AV×List Blk)
 | some r=>some ((.v (.one (.bool r))),[])
 | none=>none
def zbh:List PT→Option (Bool×AV×List Blk)
 | [.agg [.row 1 q04 (.fl .f32 q0a),.row 1 q08 (.fl .f32 q0b),.row 1 q07 (.fl .f32 q0c),.row 3 q0d (.fl .f32 q0f),.s (.int .i64 q0g),.s (.flt .f32 q0i),.s (.flt .f32 q0j)],.one (.row 1 q29 (.fl .f32 x1)),.one (.s (.flt .f32 x2)),.one (.s (.flt .f32 x3)),.one (.s (.flt .f32 x4))]=>sF zbb (z2w q04 q0a q08 q0b q07 q0c q0d q0f q0g q0i q0j q29 x1 x2 x3 x4)
 | _=>none
theorem zyb:ev8 Γ50 13 [.agg [.row 1 a0 (.fl .f32 g1),.row 1 a2 (.fl .f32 g3),.row 1 a4 (.fl .f32 g5),.row 3 a6 (.fl .f32 g7),.s (.int .i64 c8),.s (.flt .f32 a9),.s (.flt .f32 a10)],.one (.row 1 a11 (.fl .f32 g12)),.one (.s (.flt .f32 a13)),.one (.s (.flt .f32 a14)),.one (.s (.flt .f32 a15))]=zbb (z2w a0 g1 a2 g3 a4 g5 a6 g7 c8 a9 a10 a11 g12 a13 a14 a15):=tr2 (zsf a0 g1 a2 g3 a4 g5 a6 g7 c8 a9 a10 a11 g12 a13 a14 a15 zbb rfl (fun c0_=>some c0_)) (by kernel_rfl)
theorem ztp:SumOne (mainJ Tryz.prog W Post) 13 zbh:=mkT yik yie fun pts v news hp=>by
 unfold zbh at hp
 split at hp
 ·exact fin3 (zyb ..) hp
 ·cases hp
end
end Go.Proofs.YtijjhfailnmeoaaGreat
