import Derived.Test.YtijjhfailnmeoaaGreatRotorPowerF
set_option linter.unusedVariables false
set_option linter.unusedSimpArgs false
set_option linter.unusedSectionVars false
set_option maxRecDepth 100000
set_option maxHeartbeats 4000000
namespace Go.Proofs.YtijjhfailnmeoaaGreat
open Go Go.Rf
open Go.ConcR (Payload)
variable [Payload] {W:World} {Post:Value→World→Prop}
noncomputable section
variable (a0:Nat) (g1:List Nat) (a2:Nat) (g3:List Nat) (a4:Nat) (g5:List Nat) (a6:Nat) (g7:List Nat) (c8:Int) (a9:Nat) (a10:Nat) (a11:Nat) (a12:Nat) (a13:Nat) (a14:Nat)
def zfw:List PT→Option (Bool×AV×List Blk)
 | [.agg [.row 1 an (.fl .f32 al),.row 1 ln (.fl .f32 ll),.row 1 dn (.fl .f32 dl),.row 3 sn (.fl .f32 sl),.s (.int .i64 cc),.s (.flt .f32 hb),.s (.flt .f32 tp)],.one (.s (.flt .f32 x2)),.one (.s (.flt .f32 x3)),.one (.s (.flt .f32 x4)),.one (.s (.flt .f32 x5)),.one (.s (.int .i64 ws))]=>some ((z76 an al ln ll dn dl sn sl cc hb tp x2 x3 x4 x5 ws),((.tup [(.one (.sl 0 0 (z4x an al ln ll dn dl sn sl cc hb tp x2 x3 x4 x5 ws) 1)),(.one (.sl 1 0 (z4t an al ln ll dn dl sn sl cc hb tp x2 x3 x4 x5 ws) 1)),(.one (.bool (z12 an al ln ll dn dl sn sl cc hb tp x2 x3 x4 x5 ws)))]),[(.mk true (.fl .f32 (z4u an al ln ll dn dl sn sl cc hb tp x2 x3 x4 x5 ws))),(.mk true (.fl .f32 (z4w an al ln ll dn dl sn sl cc hb tp x2 x3 x4 x5 ws)))]))
 | _=>none
theorem zwc:SumOne (mainJ Tryz.prog W Post) 19 zfw:=by
 intro pts v news hp w vals hv
 unfold zfw at hp
 split at hp
 ·rename_i an al ln ll dn dl sn sl cc hb tp x2 x3 x4 x5 ws
  injection hp with hp
  injection hp with h1 hp
  injection hp with h2 h3
  subst h2
  subst h3
  have h:=core (W:=W) (Post:=Post) (p:=⟨an,al,ln,ll,dn,dl,sn,sl,cc,hb,tp,x2,x3,x4,x5,ws.toNat⟩) (ws:=ws) rfl h1 hv
  have e:FP.ans ⟨an,al,ln,ll,dn,dl,sn,sl,cc,hb,tp,x2,x3,x4,x5,ws.toNat⟩ ws=((AV.tup [(TV.one (At.sl 0 0 (z4x an al ln ll dn dl sn sl cc hb tp x2 x3 x4 x5 ws) 1)),(TV.one (At.sl 1 0 (z4t an al ln ll dn dl sn sl cc hb tp x2 x3 x4 x5 ws) 1)),(TV.one (At.bool (z12 an al ln ll dn dl sn sl cc hb tp x2 x3 x4 x5 ws)))]),[(Blk.mk Bool.true (Body.fl .f32 (z4u an al ln ll dn dl sn sl cc hb tp x2 x3 x4 x5 ws))),(Blk.mk Bool.true (Body.fl .f32 (z4w an al ln ll dn dl sn sl cc hb tp x2 x3 x4 x5 ws)))]):=by
   unfold z4x z4t z4u z4w
   show (match z12 an al ln ll dn dl sn sl cc hb tp x2 x3 x4 x5 ws with | true=>answer (z8u an al ln ll dn dl sn sl cc hb tp x2 x3 x4 x5 ws) (z93 an al ln ll dn dl sn sl cc hb tp x2 x3 x4 x5 ws) sn sn Bool.true | false=>answer [] [] 0 0 Bool.false)=_
   cases z12 an al ln ll dn dl sn sl cc hb tp x2 x3 x4 x5 ws<;>rfl
  rw[e] at h
  exact h
 ·cases hp
def tb32:List (Nat×(List PT→Option (Bool×AV×List Blk))):=(26,zj3)::(19,zfw)::tb26
def lt32:List ((Nat×Nat)×(Nat→St→Option (Bool×LO))):=lt26
def Γ32:Ctx:=⟨tyTab,fnTab,tblSum tb32,tblLp lt32⟩
theorem y9k:SumL (mainJ Tryz.prog W Post) tb32:=SumL.cons zzi (SumL.cons zwc (y9z))
theorem yaj:LpL (mainJ Tryz.prog W Post) fnTab lt32:=ya9
def zew  : Option (Nat×Nat×Bool×(List Nat)×(List Nat))→Option (AV×List Blk)
 | some r=>some ((.tup [(.one (.sl 0 0 r.1 1)),(.one (.sl 1 0 r.2.1 1)),(.one (.bool r.2.2.1))]),[(.mk true (.fl .f32 r.2.2.2.1)),(.mk true (.fl .f32 r.2.2.2.2))])
 | none=>none
def zds:List PT→Option (Bool×AV×List Blk)
 | [.agg [.row 1 q00 (.fl .f32 q03),.row 1 q02 (.fl .f32 q04),.row 1 q01 (.fl .f32 q05),.row 3 q06 (.fl .f32 q07),.s (.int .i64 q0b),.s (.flt .f32 q0j),.s (.flt .f32 q0i)],.one (.s (.flt .f32 q0x)),.one (.s (.flt .f32 q0q)),.one (.s (.flt .f32 q0k)),.one (.s (.flt .f32 q1e))]=>sF zew (z18 q00 q03 q02 q04 q01 q05 q06 q07 q0b q0j q0i q0x q0q q0k q1e)
 | _=>none
theorem zz8:ev8 Γ32 18 [.agg [.row 1 a0 (.fl .f32 g1),.row 1 a2 (.fl .f32 g3),.row 1 a4 (.fl .f32 g5),.row 3 a6 (.fl .f32 g7),.s (.int .i64 c8),.s (.flt .f32 a9),.s (.flt .f32 a10)],.one (.s (.flt .f32 a11)),.one (.s (.flt .f32 a12)),.one (.s (.flt .f32 a13)),.one (.s (.flt .f32 a14))]=zew (z18 a0 g1 a2 g3 a4 g5 a6 g7 c8 a9 a10 a11 a12 a13 a14):=tr2 (zta a0 g1 a2 g3 a4 g5 a6 g7 c8 a9 a10 a11 a12 a13 a14 zew rfl (fun c0_ c1_ c2_ c3_ c4_=>some (c0_,c1_,c2_,c3_,c4_))) (by kernel_rfl)
theorem zuo:SumOne (mainJ Tryz.prog W Post) 18 zds:=mkT y9k yaj fun pts v news hp=>by
 unfold zds at hp
 split at hp
 ·exact fin3 (zz8 ..) hp
 ·cases hp
def tb33:List (Nat×(List PT→Option (Bool×AV×List Blk))):=(18,zds)::tb32
def lt33:List ((Nat×Nat)×(Nat→St→Option (Bool×LO))):=lt32
def Γ33:Ctx:=⟨tyTab,fnTab,tblSum tb33,tblLp lt33⟩
theorem yag:SumL (mainJ Tryz.prog W Post) tb33:=SumL.cons zuo (y9k)
theorem ya6:LpL (mainJ Tryz.prog W Post) fnTab lt33:=yaj
def zm8  : Option (Nat×Bool)→Option (AV×List Blk)
 | some r=>some ((.tup [(.one (.flt .f32 r.1)),(.one (.bool r.2))]),[])
 | none=>none
def znl:List PT→Option (Bool×AV×List Blk)
 | [.agg [.row 1 q00 (.fl .f32 q03),.row 1 q02 (.fl .f32 q04),.row 1 q01 (.fl .f32 q05),.row 3 q06 (.fl .f32 q07),.s (.int .i64 q0b),.s (.flt .f32 q0j),.s (.flt .f32 q0i)],.one (.s (.flt .f32 q0x)),.one (.s (.flt .f32 q0q)),.one (.s (.flt .f32 q0k)),.one (.s (.flt .f32 q1e))]=>sF zm8 (z5h q00 q03 q02 q04 q01 q05 q06 q07 q0b q0j q0i q0x q0q q0k q1e)
 | _=>none
theorem y8v:ev8 Γ33 23 [.agg [.row 1 a0 (.fl .f32 g1),.row 1 a2 (.fl .f32 g3),.row 1 a4 (.fl .f32 g5),.row 3 a6 (.fl .f32 g7),.s (.int .i64 c8),.s (.flt .f32 a9),.s (.flt .f32 a10)],.one (.s (.flt .f32 a11)),.one (.s (.flt .f32 a12)),.one (.s (.flt .f32 a13)),.one (.s (.flt .f32 a14))]=zm8 (z5h a0 g1 a2 g3 a4 g5 a6 g7 c8 a9 a10 a11 a12 a13 a14):=tr2 (y2c a0 g1 a2 g3 a4 g5 a6 g7 c8 a9 a10 a11 a12 a13 a14 zm8 rfl (fun c0_ c1_=>some (c0_,c1_))) (by kernel_rfl)
theorem y49:SumOne (mainJ Tryz.prog W Post) 23 znl:=mkT yag ya6 fun pts v news hp=>by
 unfold znl at hp
 split at hp
 ·exact fin3 (y8v ..) hp
 ·cases hp
def tb34:List (Nat×(List PT→Option (Bool×AV×List Blk))):=(23,znl)::tb33
def lt34:List ((Nat×Nat)×(Nat→St→Option (Bool×LO))):=lt33
def Γ34:Ctx:=⟨tyTab,fnTab,tblSum tb34,tblLp lt34⟩
theorem ya8:SumL (mainJ Tryz.prog W Post) tb34:=SumL.cons y49 (yag)
theorem y9q:LpL (mainJ Tryz.prog W Post) fnTab lt34:=ya6
def zi3  : Option (Nat×Bool)→Option (AV×List Blk)
 | some r=>some ((.tup [(.one (.flt .f32 r.1)),(.one (.bool r.2))]),[])
 | none=>none
def zij:List PT→Option (Bool×AV×List Blk)
 | [.agg [.row 1 q00 (.fl .f32 q03),.row 1 q02 (.fl .f32 q04),.row 1 q01 (.fl .f32 q05),.row 3 q06 (.fl .f32 q07),.s (.int .i64 q0b),.s (.flt .f32 q0j),.s (.flt .f32 q0i)],.one (.s (.flt .f32 q0x)),.one (.s (.flt .f32 q0q)),.one (.s (.flt .f32 q0k)),.one (.s (.flt .f32 q1e))]=>sF zi3 (z3y q00 q03 q02 q04 q01 q05 q06 q07 q0b q0j q0i q0x q0q q0k q1e)
 | _=>none
theorem y66:ev8 Γ34 24 [.agg [.row 1 a0 (.fl .f32 g1),.row 1 a2 (.fl .f32 g3),.row 1 a4 (.fl .f32 g5),.row 3 a6 (.fl .f32 g7),.s (.int .i64 c8),.s (.flt .f32 a9),.s (.flt .f32 a10)],.one (.s (.flt .f32 a11)),.one (.s (.flt .f32 a12)),.one (.s (.flt .f32 a13)),.one (.s (.flt .f32 a14))]=zi3 (z3y a0 g1 a2 g3 a4 g5 a6 g7 c8 a9 a10 a11 a12 a13 a14):=tr2 (zxo a0 g1 a2 g3 a4 g5 a6 g7 c8 a9 a10 a11 a12 a13 a14 zi3 rfl (fun c0_ c1_=>some (c0_,c1_))) (by kernel_rfl)
theorem zz5:SumOne (mainJ Tryz.prog W Post) 24 zij:=mkT ya8 y9q fun pts v news hp=>by
 unfold zij at hp
 split at hp
 ·exact fin3 (y66 ..) hp
 ·cases hp
def tb35:List (Nat×(List PT→Option (Bool×AV×List Blk))):=(24,zij)::tb34
def lt35:List ((Nat×Nat)×(Nat→St→Option (Bool×LO))):=lt34
def Γ35:Ctx:=⟨tyTab,fnTab,tblSum tb35,tblLp lt35⟩
theorem ycx:SumL (mainJ Tryz.prog W Post) tb35:=SumL.cons zz5 (ya8)
theorem ycr:LpL (mainJ Tryz.prog W Post) fnTab lt35:=y9q
def z9q  : Option (Bool)→Option (AV×List Blk)
 | some r=>some ((.v (.one (.bool r))),[])
 | none=>none
def z9k:List PT→Option (Bool×AV×List Blk)
 | [.agg [.row 1 q0m (.fl .f32 q0s),.row 1 q0p (.fl .f32 q0w),.row 1 q0o (.fl .f32 q0v),.row 3 q0z (.fl .f32 q1d),.s (.int .i64 q1o),.s (.flt .f32 q1x),.s (.flt .f32 q1w)],.one (.s (.flt .f32 q38)),.one (.s (.flt .f32 q34)),.one (.s (.flt .f32 q35)),.one (.s (.flt .f32 q2x))]=>sF z9q (z26 q0m q0s q0p q0w q0o q0v q0z q1d q1o q1x q1w q38 q34 q35 q2x)
 | _=>none
theorem ztd:ev8 Γ35 10 [.agg [.row 1 a0 (.fl .f32 g1),.row 1 a2 (.fl .f32 g3),.row 1 a4 (.fl .f32 g5),.row 3 a6 (.fl .f32 g7),.s (.int .i64 c8),.s (.flt .f32 a9),.s (.flt .f32 a10)],.one (.s (.flt .f32 a11)),.one (.s (.flt .f32 a12)),.one (.s (.flt .f32 a13)),.one (.s (.flt .f32 a14))]=z9q (z26 a0 g1 a2 g3 a4 g5 a6 g7 c8 a9 a10 a11 a12 a13 a14):=tr2 (zpa a0 g1 a2 g3 a4 g5 a6 g7 c8 a9 a10 a11 a12 a13 a14 z9q rfl (fun c0_=>some c0_)) (by kernel_rfl)
theorem zpw:SumOne (mainJ Tryz.prog W Post) 10 z9k:=mkT ycx ycr fun pts v news hp=>by
 unfold z9k at hp
 split at hp
 ·exact fin3 (ztd ..) hp
 ·cases hp
end
end Go.Proofs.YtijjhfailnmeoaaGreat
