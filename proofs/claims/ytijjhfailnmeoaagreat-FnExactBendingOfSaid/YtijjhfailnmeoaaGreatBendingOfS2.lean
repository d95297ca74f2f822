import Derived.Test.YtijjhfailnmeoaaGreatBendingOfF
set_option linter.unusedVariables false
set_option linter.unusedSimpArgs false
set_option linter.unusedSectionVars false
set_option maxRecDepth 100000
set_option maxHeartbeats 4000000
namespace Go.Proofs.YtijjhfailnmeoaaGreat
open Go Go.Rf
open Go.ConcR (Payload)
variable [Payload] {W:World} {Post:Value→World→Prop}
noncomputable section
variable (a0:Nat) (g1:List Nat) (a2:Nat) (g3:List Nat) (a4:Nat) (g5:List Nat) (a6:Nat) (g7:List Nat) (c8:Int) (a9:Nat) (a10:Nat) (a11:Nat) (a12:Nat) (a13:Nat) (a14:Nat)
def zff:List PT→Option (Bool×AV×List Blk)
 | [.agg [.row 1 an (.fl .f32 al),.row 1 ln (.fl .f32 ll),.row 1 dn (.fl .f32 dl),.row 3 sn (.fl .f32 sl),.s (.int .i64 cc),.s (.flt .f32 hb),.s (.flt .f32 tp)],.one (.s (.flt .f32 x2)),.one (.s (.flt .f32 x3)),.one (.s (.flt .f32 x4)),.one (.s (.flt .f32 x5)),.one (.s (.int .i64 ws))]=>some ((z74 an al ln ll dn dl sn sl cc hb tp x2 x3 x4 x5 ws),((.tup [(.one (.sl 0 0 (z4q an al ln ll dn dl sn sl cc hb tp x2 x3 x4 x5 ws) 1)),(.one (.sl 1 0 (z4r an al ln ll dn dl sn sl cc hb tp x2 x3 x4 x5 ws) 1)),(.one (.bool (z13 an al ln ll dn dl sn sl cc hb tp x2 x3 x4 x5 ws)))]),[(.mk true (.fl .f32 (z4w an al ln ll dn dl sn sl cc hb tp x2 x3 x4 x5 ws))),(.mk true (.fl .f32 (z4x an al ln ll dn dl sn sl cc hb tp x2 x3 x4 x5 ws)))]))
 | _=>none
theorem zvb:SumOne (mainJ Tryz.prog W Post) 19 zff:=by
 intro pts v news hp w vals hv
 unfold zff at hp
 split at hp
 ·rename_i an al ln ll dn dl sn sl cc hb tp x2 x3 x4 x5 ws
  injection hp with hp
  injection hp with h1 hp
  injection hp with h2 h3
  subst h2
  subst h3
  have h:=core (W:=W) (Post:=Post) (p:=⟨an,al,ln,ll,dn,dl,sn,sl,cc,hb,tp,x2,x3,x4,x5,ws.toNat⟩) (ws:=ws) rfl h1 hv
  have e:FP.ans ⟨an,al,ln,ll,dn,dl,sn,sl,cc,hb,tp,x2,x3,x4,x5,ws.toNat⟩ ws=((AV.tup [(TV.one (At.sl 0 0 (z4q an al ln ll dn dl sn sl cc hb tp x2 x3 x4 x5 ws) 1)),(TV.one (At.sl 1 0 (z4r an al ln ll dn dl sn sl cc hb tp x2 x3 x4 x5 ws) 1)),(TV.one (At.bool (z13 an al ln ll dn dl sn sl cc hb tp x2 x3 x4 x5 ws)))]),[(Blk.mk Bool.true (Body.fl .f32 (z4w an al ln ll dn dl sn sl cc hb tp x2 x3 x4 x5 ws))),(Blk.mk Bool.true (Body.fl .f32 (z4x an al ln ll dn dl sn sl cc hb tp x2 x3 x4 x5 ws)))]):=by
   unfold z4q z4r z4w z4x
   show (match z13 an al ln ll dn dl sn sl cc hb tp x2 x3 x4 x5 ws with | true=>answer (z8k an al ln ll dn dl sn sl cc hb tp x2 x3 x4 x5 ws) (z8v an al ln ll dn dl sn sl cc hb tp x2 x3 x4 x5 ws) sn sn Bool.true | false=>answer [] [] 0 0 Bool.false)=_
   cases z13 an al ln ll dn dl sn sl cc hb tp x2 x3 x4 x5 ws<;>rfl
  rw[e] at h
  exact h
 ·cases hp
def tb32:List (Nat×(List PT→Option (Bool×AV×List Blk))):=(19,zff)::tb25
def lt32:List ((Nat×Nat)×(Nat→St→Option (Bool×LO))):=((42,5),znl)::lt25
def Γ32:Ctx:=⟨tyTab,fnTab,tblSum tb32,tblLp lt32⟩
theorem y8y:SumL (mainJ Tryz.prog W Post) tb32:=SumL.cons zvb (y9s)
theorem y8o:LpL (mainJ Tryz.prog W Post) fnTab lt32:=LpL.cons zvm (y94)
def ze5  : Option (Nat×Nat×Bool×(List Nat)×(List Nat))→Option (AV×List Blk)
 | some r=>some ((.tup [(.one (.sl 0 0 r.1 1)),(.one (.sl 1 0 r.2.1 1)),(.one (.bool r.2.2.1))]),[(.mk true (.fl .f32 r.2.2.2.1)),(.mk true (.fl .f32 r.2.2.2.2))])
 | none=>none
def zer:List PT→Option (Bool×AV×List Blk)
 | [.agg [.row 1 q00 (.fl .f32 q03),.row 1 q02 (.fl .f32 q04),.row 1 q01 (.fl .f32 q05),.row 3 q06 (.fl .f32 q07),.s (.int .i64 q0e),.s (.flt .f32 q0j),.s (.flt .f32 q0k)],.one (.s (.flt .f32 q17)),.one (.s (.flt .f32 q0u)),.one (.s (.flt .f32 q0l)),.one (.s (.flt .f32 q1u))]=>sF ze5 (z18 q00 q03 q02 q04 q01 q05 q06 q07 q0e q0j q0k q17 q0u q0l q1u)
 | _=>none
theorem zya:ev8 Γ32 18 [.agg [.row 1 a0 (.fl .f32 g1),.row 1 a2 (.fl .f32 g3),.row 1 a4 (.fl .f32 g5),.row 3 a6 (.fl .f32 g7),.s (.int .i64 c8),.s (.flt .f32 a9),.s (.flt .f32 a10)],.one (.s (.flt .f32 a11)),.one (.s (.flt .f32 a12)),.one (.s (.flt .f32 a13)),.one (.s (.flt .f32 a14))]=ze5 (z18 a0 g1 a2 g3 a4 g5 a6 g7 c8 a9 a10 a11 a12 a13 a14):=tr2 (zti a0 g1 a2 g3 a4 g5 a6 g7 c8 a9 a10 a11 a12 a13 a14 ze5 rfl (fun c0_ c1_ c2_ c3_ c4_=>some (c0_,c1_,c2_,c3_,c4_))) (by kernel_rfl)
theorem ztq:SumOne (mainJ Tryz.prog W Post) 18 zer:=mkT y8y y8o fun pts v news hp=>by
 unfold zer at hp
 split at hp
 ·exact fin3 (zya ..) hp
 ·cases hp
def tb33:List (Nat×(List PT→Option (Bool×AV×List Blk))):=(18,zer)::tb32
def lt33:List ((Nat×Nat)×(Nat→St→Option (Bool×LO))):=lt32
def Γ33:Ctx:=⟨tyTab,fnTab,tblSum tb33,tblLp lt33⟩
theorem y9e:SumL (mainJ Tryz.prog W Post) tb33:=SumL.cons ztq (y8y)
theorem y8j:LpL (mainJ Tryz.prog W Post) fnTab lt33:=y8o
def zjd  : Option (Nat×Bool)→Option (AV×List Blk)
 | some r=>some ((.tup [(.one (.flt .f32 r.1)),(.one (.bool r.2))]),[])
 | none=>none
def zjo:List PT→Option (Bool×AV×List Blk)
 | [.agg [.row 1 q00 (.fl .f32 q03),.row 1 q02 (.fl .f32 q04),.row 1 q01 (.fl .f32 q05),.row 3 q06 (.fl .f32 q07),.s (.int .i64 q0e),.s (.flt .f32 q0j),.s (.flt .f32 q0k)],.one (.s (.flt .f32 q17)),.one (.s (.flt .f32 q0u)),.one (.s (.flt .f32 q0l)),.one (.s (.flt .f32 q1u))]=>sF zjd (z4i q00 q03 q02 q04 q01 q05 q06 q07 q0e q0j q0k q17 q0u q0l q1u)
 | _=>none
theorem y7a:ev8 Γ33 42 [.agg [.row 1 a0 (.fl .f32 g1),.row 1 a2 (.fl .f32 g3),.row 1 a4 (.fl .f32 g5),.row 3 a6 (.fl .f32 g7),.s (.int .i64 c8),.s (.flt .f32 a9),.s (.flt .f32 a10)],.one (.s (.flt .f32 a11)),.one (.s (.flt .f32 a12)),.one (.s (.flt .f32 a13)),.one (.s (.flt .f32 a14))]=zjd (z4i a0 g1 a2 g3 a4 g5 a6 g7 c8 a9 a10 a11 a12 a13 a14):=tr2 (zzi a0 g1 a2 g3 a4 g5 a6 g7 c8 a9 a10 a11 a12 a13 a14 zjd rfl (fun c0_ c1_=>some (c0_,c1_))) (by kernel_rfl)
theorem y14:SumOne (mainJ Tryz.prog W Post) 42 zjo:=mkT y9e y8j fun pts v news hp=>by
 unfold zjo at hp
 split at hp
 ·exact fin3 (y7a ..) hp
 ·cases hp
def tb34:List (Nat×(List PT→Option (Bool×AV×List Blk))):=(42,zjo)::tb33
def lt34:List ((Nat×Nat)×(Nat→St→Option (Bool×LO))):=lt33
def Γ34:Ctx:=⟨tyTab,fnTab,tblSum tb34,tblLp lt34⟩
theorem ybs:SumL (mainJ Tryz.prog W Post) tb34:=SumL.cons y14 (y9e)
theorem ybp:LpL (mainJ Tryz.prog W Post) fnTab lt34:=y8j
def za4  : Option (Bool)→Option (AV×List Blk)
 | some r=>some ((.v (.one (.bool r))),[])
 | none=>none
def za2:List PT→Option (Bool×AV×List Blk)
 | [.agg [.row 1 q0m (.fl .f32 q0r),.row 1 q0o (.fl .f32 q0w),.row 1 q0p (.fl .f32 q0v),.row 3 q0y (.fl .f32 q1e),.s (.int .i64 q1n),.s (.flt .f32 q1w),.s (.flt .f32 q1x)],.one (.s (.flt .f32 q38)),.one (.s (.flt .f32 q35)),.one (.s (.flt .f32 q34)),.one (.s (.flt .f32 q2x))]=>sF za4 (z2e q0m q0r q0o q0w q0p q0v q0y q1e q1n q1w q1x q38 q35 q34 q2x)
 | _=>none
theorem ztv:ev8 Γ34 8 [.agg [.row 1 a0 (.fl .f32 g1),.row 1 a2 (.fl .f32 g3),.row 1 a4 (.fl .f32 g5),.row 3 a6 (.fl .f32 g7),.s (.int .i64 c8),.s (.flt .f32 a9),.s (.flt .f32 a10)],.one (.s (.flt .f32 a11)),.one (.s (.flt .f32 a12)),.one (.s (.flt .f32 a13)),.one (.s (.flt .f32 a14))]=za4 (z2e a0 g1 a2 g3 a4 g5 a6 g7 c8 a9 a10 a11 a12 a13 a14):=tr2 (zoz a0 g1 a2 g3 a4 g5 a6 g7 c8 a9 a10 a11 a12 a13 a14 za4 rfl (fun c0_=>some c0_)) (by kernel_rfl)
theorem zpx:SumOne (mainJ Tryz.prog W Post) 8 za2:=mkT ybs ybp fun pts v news hp=>by
 unfold za2 at hp
 split at hp
 ·exact fin3 (ztv ..) hp
 ·cases hp
end
end Go.Proofs.YtijjhfailnmeoaaGreat
