import Derived.Test.YtijjhfailnmeoaaGreatThrustOfF
set_option linter.unusedVariables false
set_option linter.unusedSimpArgs false
set_option linter.unusedSectionVars false
set_option maxRecDepth 100000
set_option maxHeartbeats 4000000
namespace Go.Proofs.YtijjhfailnmeoaaGreat
open Go Go.Rf
open Go.ConcR (Payload)
variable [Payload] {W:World} {Post:Value→World→Prop}
noncomputable section
variable (a0:Nat) (g1:List Nat) (a2:Nat) (g3:List Nat) (a4:Nat) (g5:List Nat) (a6:Nat) (g7:List Nat) (c8:Int) (a9:Nat) (a10:Nat) (a11:Nat) (a12:Nat) (a13:Nat) (a14:Nat)
def zf4:List PT→Option (Bool×AV×List Blk)
 | [.agg [.row 1 an (.fl .f32 al),.row 1 ln (.fl .f32 ll),.row 1 dn (.fl .f32 dl),.row 3 sn (.fl .f32 sl),.s (.int .i64 cc),.s (.flt .f32 hb),.s (.flt .f32 tp)],.one (.s (.flt .f32 x2)),.one (.s (.flt .f32 x3)),.one (.s (.flt .f32 x4)),.one (.s (.flt .f32 x5)),.one (.s (.int .i64 ws))]=>some ((z6z an al ln ll dn dl sn sl cc hb tp x2 x3 x4 x5 ws),((.tup [(.one (.sl 0 0 (z4k an al ln ll dn dl sn sl cc hb tp x2 x3 x4 x5 ws) 1)),(.one (.sl 1 0 (z4j an al ln ll dn dl sn sl cc hb tp x2 x3 x4 x5 ws) 1)),(.one (.bool (z0y an al ln ll dn dl sn sl cc hb tp x2 x3 x4 x5 ws)))]),[(.mk true (.fl .f32 (z4i an al ln ll dn dl sn sl cc hb tp x2 x3 x4 x5 ws))),(.mk true (.fl .f32 (z4p an al ln ll dn dl sn sl cc hb tp x2 x3 x4 x5 ws)))]))
 | _=>none
theorem zui:SumOne (mainJ Tryz.prog W Post) 19 zf4:=by
 intro pts v news hp w vals hv
 unfold zf4 at hp
 split at hp
 ·rename_i an al ln ll dn dl sn sl cc hb tp x2 x3 x4 x5 ws
  injection hp with hp
  injection hp with h1 hp
  injection hp with h2 h3
  subst h2
  subst h3
  have h:=core (W:=W) (Post:=Post) (p:=⟨an,al,ln,ll,dn,dl,sn,sl,cc,hb,tp,x2,x3,x4,x5,ws.toNat⟩) (ws:=ws) rfl h1 hv
  have e:FP.ans ⟨an,al,ln,ll,dn,dl,sn,sl,cc,hb,tp,x2,x3,x4,x5,ws.toNat⟩ ws=((AV.tup [(TV.one (At.sl 0 0 (z4k an al ln ll dn dl sn sl cc hb tp x2 x3 x4 x5 ws) 1)),(TV.one (At.sl 1 0 (z4j an al ln ll dn dl sn sl cc hb tp x2 x3 x4 x5 ws) 1)),(TV.one (At.bool (z0y an al ln ll dn dl sn sl cc hb tp x2 x3 x4 x5 ws)))]),[(Blk.mk Bool.true (Body.fl .f32 (z4i an al ln ll dn dl sn sl cc hb tp x2 x3 x4 x5 ws))),(Blk.mk Bool.true (Body.fl .f32 (z4p an al ln ll dn dl sn sl cc hb tp x2 x3 x4 x5 ws)))]):=by
   unfold z4k z4j z4i z4p
   show (match z0y an al ln ll dn dl sn sl cc hb tp x2 x3 x4 x5 ws with | true=>answer (z8p an al ln ll dn dl sn sl cc hb tp x2 x3 x4 x5 ws) (z8g an al ln ll dn dl sn sl cc hb tp x2 x3 x4 x5 ws) sn sn Bool.true | false=>answer [] [] 0 0 Bool.false)=_
   cases z0y an al ln ll dn dl sn sl cc hb tp x2 x3 x4 x5 ws<;>rfl
  rw[e] at h
  exact h
 ·cases hp
def tb32:List (Nat×(List PT→Option (Bool×AV×List Blk))):=(33,zky)::(19,zf4)::tb22
def lt32:List ((Nat×Nat)×(Nat→St→Option (Bool×LO))):=lt22
def Γ32:Ctx:=⟨tyTab,fnTab,tblSum tb32,tblLp lt32⟩
theorem y87:SumL (mainJ Tryz.prog W Post) tb32:=SumL.cons y1u (SumL.cons zui (y7u))
theorem y84:LpL (mainJ Tryz.prog W Post) fnTab lt32:=y7c
def ze4  : Option (Nat×Nat×Bool×(List Nat)×(List Nat))→Option (AV×List Blk)
 | some r=>some ((.tup [(.one (.sl 0 0 r.1 1)),(.one (.sl 1 0 r.2.1 1)),(.one (.bool r.2.2.1))]),[(.mk true (.fl .f32 r.2.2.2.1)),(.mk true (.fl .f32 r.2.2.2.2))])
 | none=>none
def zee:List PT→Option (Bool×AV×List Blk)
 | [.agg [.row 1 q00 (.fl .f32 q03),.row 1 q02 (.fl .f32 q05),.row 1 q01 (.fl .f32 q04),.row 3 q06 (.fl .f32 q07),.s (.int .i64 q0g),.s (.flt .f32 q0k),.s (.flt .f32 q0j)],.one (.s (.flt .f32 q14)),.one (.s (.flt .f32 q0v)),.one (.s (.flt .f32 q0l)),.one (.s (.flt .f32 q21))]=>sF ze4 (z14 q00 q03 q02 q05 q01 q04 q06 q07 q0g q0k q0j q14 q0v q0l q21)
 | _=>none
theorem zyr:ev8 Γ32 18 [.agg [.row 1 a0 (.fl .f32 g1),.row 1 a2 (.fl .f32 g3),.row 1 a4 (.fl .f32 g5),.row 3 a6 (.fl .f32 g7),.s (.int .i64 c8),.s (.flt .f32 a9),.s (.flt .f32 a10)],.one (.s (.flt .f32 a11)),.one (.s (.flt .f32 a12)),.one (.s (.flt .f32 a13)),.one (.s (.flt .f32 a14))]=ze4 (z14 a0 g1 a2 g3 a4 g5 a6 g7 c8 a9 a10 a11 a12 a13 a14):=tr2 (zrp a0 g1 a2 g3 a4 g5 a6 g7 c8 a9 a10 a11 a12 a13 a14 ze4 rfl (fun c0_ c1_ c2_ c3_ c4_=>some (c0_,c1_,c2_,c3_,c4_))) (by kernel_rfl)
theorem ztb:SumOne (mainJ Tryz.prog W Post) 18 zee:=mkT y87 y84 fun pts v news hp=>by
 unfold zee at hp
 split at hp
 ·exact fin3 (zyr ..) hp
 ·cases hp
def tb33:List (Nat×(List PT→Option (Bool×AV×List Blk))):=(18,zee)::tb32
def lt33:List ((Nat×Nat)×(Nat→St→Option (Bool×LO))):=lt32
def Γ33:Ctx:=⟨tyTab,fnTab,tblSum tb33,tblLp lt33⟩
theorem y83:SumL (mainJ Tryz.prog W Post) tb33:=SumL.cons ztb (y87)
theorem y7w:LpL (mainJ Tryz.prog W Post) fnTab lt33:=y84
def zlf  : Option (Nat×Bool)→Option (AV×List Blk)
 | some r=>some ((.tup [(.one (.flt .f32 r.1)),(.one (.bool r.2))]),[])
 | none=>none
def zm8:List PT→Option (Bool×AV×List Blk)
 | [.agg [.row 1 q00 (.fl .f32 q03),.row 1 q02 (.fl .f32 q05),.row 1 q01 (.fl .f32 q04),.row 3 q06 (.fl .f32 q07),.s (.int .i64 q0g),.s (.flt .f32 q0k),.s (.flt .f32 q0j)],.one (.s (.flt .f32 q14)),.one (.s (.flt .f32 q0v)),.one (.s (.flt .f32 q0l)),.one (.s (.flt .f32 q21))]=>sF zlf (z54 q00 q03 q02 q05 q01 q04 q06 q07 q0g q0k q0j q14 q0v q0l q21)
 | _=>none
theorem y6u:ev8 Γ33 22 [.agg [.row 1 a0 (.fl .f32 g1),.row 1 a2 (.fl .f32 g3),.row 1 a4 (.fl .f32 g5),.row 3 a6 (.fl .f32 g7),.s (.int .i64 c8),.s (.flt .f32 a9),.s (.flt .f32 a10)],.one (.s (.flt .f32 a11)),.one (.s (.flt .f32 a12)),.one (.s (.flt .f32 a13)),.one (.s (.flt .f32 a14))]=zlf (z54 a0 g1 a2 g3 a4 g5 a6 g7 c8 a9 a10 a11 a12 a13 a14):=tr2 (zzy a0 g1 a2 g3 a4 g5 a6 g7 c8 a9 a10 a11 a12 a13 a14 zlf rfl (fun c0_ c1_=>some (c0_,c1_))) (by kernel_rfl)
theorem y10:SumOne (mainJ Tryz.prog W Post) 22 zm8:=mkT y83 y7w fun pts v news hp=>by
 unfold zm8 at hp
 split at hp
 ·exact fin3 (y6u ..) hp
 ·cases hp
def tb34:List (Nat×(List PT→Option (Bool×AV×List Blk))):=(22,zm8)::tb33
def lt34:List ((Nat×Nat)×(Nat→St→Option (Bool×LO))):=lt33
def Γ34:Ctx:=⟨tyTab,fnTab,tblSum tb34,tblLp lt34⟩
theorem yae:SumL (mainJ Tryz.prog W Post) tb34:=SumL.cons y10 (y83)
theorem yal:LpL (mainJ Tryz.prog W Post) fnTab lt34:=y7w
def zba  : Option (Bool)→Option (AV×List Blk)
 | some r=>some ((.v (.one (.bool r))),[])
 | none=>none
def zav:List PT→Option (Bool×AV×List Blk)
 | [.agg [.row 1 q0m (.fl .f32 q0q),.row 1 q0p (.fl .f32 q0u),.row 1 q0o (.fl .f32 q0t),.row 3 q0y (.fl .f32 q1d),.s (.int .i64 q1n),.s (.flt .f32 q1v),.s (.flt .f32 q1w)],.one (.s (.flt .f32 q35)),.one (.s (.flt .f32 q32)),.one (.s (.flt .f32 q31)),.one (.s (.flt .f32 q2v))]=>sF zba (z2k q0m q0q q0p q0u q0o q0t q0y q1d q1n q1v q1w q35 q32 q31 q2v)
 | _=>none
theorem zv9:ev8 Γ34 5 [.agg [.row 1 a0 (.fl .f32 g1),.row 1 a2 (.fl .f32 g3),.row 1 a4 (.fl .f32 g5),.row 3 a6 (.fl .f32 g7),.s (.int .i64 c8),.s (.flt .f32 a9),.s (.flt .f32 a10)],.one (.s (.flt .f32 a11)),.one (.s (.flt .f32 a12)),.one (.s (.flt .f32 a13)),.one (.s (.flt .f32 a14))]=zba (z2k a0 g1 a2 g3 a4 g5 a6 g7 c8 a9 a10 a11 a12 a13 a14):=tr2 (zot a0 g1 a2 g3 a4 g5 a6 g7 c8 a9 a10 a11 a12 a13 a14 zba rfl (fun c0_=>some c0_)) (by kernel_rfl)
theorem zqy:SumOne (mainJ Tryz.prog W Post) 5 zav:=mkT yae yal fun pts v news hp=>by
 unfold zav at hp
 split at hp
 ·exact fin3 (zv9 ..) hp
 ·cases hp
end
end Go.Proofs.YtijjhfailnmeoaaGreat
