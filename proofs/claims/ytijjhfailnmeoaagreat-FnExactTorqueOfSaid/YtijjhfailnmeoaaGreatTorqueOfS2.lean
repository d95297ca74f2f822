import Derived.Test.YtijjhfailnmeoaaGreatTorqueOfF
set_option linter.unusedVariables false
set_option linter.unusedSimpArgs false
set_option linter.unusedSectionVars false
set_option maxRecDepth 100000
set_option maxHeartbeats 4000000
namespace Go.Proofs.YtijjhfailnmeoaaGreat
open Go Go.Rf
open Go.ConcR (Payload)
variable [Payload] {W:World} {Post:Value→World→Prop}
noncomputable section
variable (a0:Nat) (g1:List Nat) (a2:Nat) (g3:List Nat) (a4:Nat) (g5:List Nat) (a6:Nat) (g7:List Nat) (c8:Int) (a9:Nat) (a10:Nat) (a11:Nat) (a12:Nat) (a13:Nat) (a14:Nat)
def zfq:List PT→Option (Bool×AV×List Blk)
 | [.agg [.row 1 an (.fl .f32 al),.row 1 ln (.fl .f32 ll),.row 1 dn (.fl .f32 dl),.row 3 sn (.fl .f32 sl),.s (.int .i64 cc),.s (.flt .f32 hb),.s (.flt .f32 tp)],.one (.s (.flt .f32 x2)),.one (.s (.flt .f32 x3)),.one (.s (.flt .f32 x4)),.one (.s (.flt .f32 x5)),.one (.s (.int .i64 ws))]=>some ((z74 an al ln ll dn dl sn sl cc hb tp x2 x3 x4 x5 ws),((.tup [(.one (.sl 0 0 (z4q an al ln ll dn dl sn sl cc hb tp x2 x3 x4 x5 ws) 1)),(.one (.sl 1 0 (z4t an al ln ll dn dl sn sl cc hb tp x2 x3 x4 x5 ws) 1)),(.one (.bool (z13 an al ln ll dn dl sn sl cc hb tp x2 x3 x4 x5 ws)))]),[(.mk true (.fl .f32 (z4u an al ln ll dn dl sn sl cc hb tp x2 x3 x4 x5 ws))),(.mk true (.fl .f32 (z4r an al ln ll dn dl sn sl cc hb tp x2 x3 x4 x5 ws)))]))
 | _=>none
theorem zvw:SumOne (mainJ Tryz.prog W Post) 19 zfq:=by
 intro pts v news hp w vals hv
 unfold zfq at hp
 split at hp
 ·rename_i an al ln ll dn dl sn sl cc hb tp x2 x3 x4 x5 ws
  injection hp with hp
  injection hp with h1 hp
  injection hp with h2 h3
  subst h2
  subst h3
  have h:=core (W:=W) (Post:=Post) (p:=⟨an,al,ln,ll,dn,dl,sn,sl,cc,hb,tp,x2,x3,x4,x5,ws.toNat⟩) (ws:=ws) rfl h1 hv
  have e:FP.ans ⟨an,al,ln,ll,dn,dl,sn,sl,cc,hb,tp,x2,x3,x4,x5,ws.toNat⟩ ws=((AV.tup [(TV.one (At.sl 0 0 (z4q an al ln ll dn dl sn sl cc hb tp x2 x3 x4 x5 ws) 1)),(TV.one (At.sl 1 0 (z4t an al ln ll dn dl sn sl cc hb tp x2 x3 x4 x5 ws) 1)),(TV.one (At.bool (z13 an al ln ll dn dl sn sl cc hb tp x2 x3 x4 x5 ws)))]),[(Blk.mk Bool.true (Body.fl .f32 (z4u an al ln ll dn dl sn sl cc hb tp x2 x3 x4 x5 ws))),(Blk.mk Bool.true (Body.fl .f32 (z4r an al ln ll dn dl sn sl cc hb tp x2 x3 x4 x5 ws)))]):=by
   unfold z4q z4t z4u z4r
   show (match z13 an al ln ll dn dl sn sl cc hb tp x2 x3 x4 x5 ws with | true=>answer (z8v an al ln ll dn dl sn sl cc hb tp x2 x3 x4 x5 ws) (z8u an al ln ll dn dl sn sl cc hb tp x2 x3 x4 x5 ws) sn sn Bool.true | false=>answer [] [] 0 0 Bool.false)=_
   cases z13 an al ln ll dn dl sn sl cc hb tp x2 x3 x4 x5 ws<;>rfl
  rw[e] at h
  exact h
 ·cases hp
def tb32:List (Nat×(List PT→Option (Bool×AV×List Blk))):=(43,zlg)::(19,zfq)::tb25
def lt32:List ((Nat×Nat)×(Nat→St→Option (Bool×LO))):=((23,5),zp7)::lt25
def Γ32:Ctx:=⟨tyTab,fnTab,tblSum tb32,tblLp lt32⟩
theorem y9m:SumL (mainJ Tryz.prog W Post) tb32:=SumL.cons y28 (SumL.cons zvw (y40))
theorem y9p:LpL (mainJ Tryz.prog W Post) fnTab lt32:=LpL.cons zwn (y43)
def zdp  : Option (Nat×Nat×Bool×(List Nat)×(List Nat))→Option (AV×List Blk)
 | some r=>some ((.tup [(.one (.sl 0 0 r.1 1)),(.one (.sl 1 0 r.2.1 1)),(.one (.bool r.2.2.1))]),[(.mk true (.fl .f32 r.2.2.2.1)),(.mk true (.fl .f32 r.2.2.2.2))])
 | none=>none
def zdq:List PT→Option (Bool×AV×List Blk)
 | [.agg [.row 1 q00 (.fl .f32 q03),.row 1 q02 (.fl .f32 q04),.row 1 q01 (.fl .f32 q05),.row 3 q06 (.fl .f32 q07),.s (.int .i64 q0c),.s (.flt .f32 q0k),.s (.flt .f32 q0j)],.one (.s (.flt .f32 q0z)),.one (.s (.flt .f32 q0r)),.one (.s (.flt .f32 q0l)),.one (.s (.flt .f32 q1q))]=>sF zdp (z18 q00 q03 q02 q04 q01 q05 q06 q07 q0c q0k q0j q0z q0r q0l q1q)
 | _=>none
theorem zzv:ev8 Γ32 18 [.agg [.row 1 a0 (.fl .f32 g1),.row 1 a2 (.fl .f32 g3),.row 1 a4 (.fl .f32 g5),.row 3 a6 (.fl .f32 g7),.s (.int .i64 c8),.s (.flt .f32 a9),.s (.flt .f32 a10)],.one (.s (.flt .f32 a11)),.one (.s (.flt .f32 a12)),.one (.s (.flt .f32 a13)),.one (.s (.flt .f32 a14))]=zdp (z18 a0 g1 a2 g3 a4 g5 a6 g7 c8 a9 a10 a11 a12 a13 a14):=tr2 (zsv a0 g1 a2 g3 a4 g5 a6 g7 c8 a9 a10 a11 a12 a13 a14 zdp rfl (fun c0_ c1_ c2_ c3_ c4_=>some (c0_,c1_,c2_,c3_,c4_))) (by kernel_rfl)
theorem zuf:SumOne (mainJ Tryz.prog W Post) 18 zdq:=mkT y9m y9p fun pts v news hp=>by
 unfold zdq at hp
 split at hp
 ·exact fin3 (zzv ..) hp
 ·cases hp
def tb33:List (Nat×(List PT→Option (Bool×AV×List Blk))):=(18,zdq)::tb32
def lt33:List ((Nat×Nat)×(Nat→St→Option (Bool×LO))):=lt32
def Γ33:Ctx:=⟨tyTab,fnTab,tblSum tb33,tblLp lt33⟩
theorem y9e:SumL (mainJ Tryz.prog W Post) tb33:=SumL.cons zuf (y9m)
theorem y9q:LpL (mainJ Tryz.prog W Post) fnTab lt33:=y9p
def zlv  : Option (Nat×Bool)→Option (AV×List Blk)
 | some r=>some ((.tup [(.one (.flt .f32 r.1)),(.one (.bool r.2))]),[])
 | none=>none
def zla:List PT→Option (Bool×AV×List Blk)
 | [.agg [.row 1 q00 (.fl .f32 q03),.row 1 q02 (.fl .f32 q04),.row 1 q01 (.fl .f32 q05),.row 3 q06 (.fl .f32 q07),.s (.int .i64 q0c),.s (.flt .f32 q0k),.s (.flt .f32 q0j)],.one (.s (.flt .f32 q0z)),.one (.s (.flt .f32 q0r)),.one (.s (.flt .f32 q0l)),.one (.s (.flt .f32 q1q))]=>sF zlv (z5c q00 q03 q02 q04 q01 q05 q06 q07 q0c q0k q0j q0z q0r q0l q1q)
 | _=>none
theorem y8k:ev8 Γ33 23 [.agg [.row 1 a0 (.fl .f32 g1),.row 1 a2 (.fl .f32 g3),.row 1 a4 (.fl .f32 g5),.row 3 a6 (.fl .f32 g7),.s (.int .i64 c8),.s (.flt .f32 a9),.s (.flt .f32 a10)],.one (.s (.flt .f32 a11)),.one (.s (.flt .f32 a12)),.one (.s (.flt .f32 a13)),.one (.s (.flt .f32 a14))]=zlv (z5c a0 g1 a2 g3 a4 g5 a6 g7 c8 a9 a10 a11 a12 a13 a14):=tr2 (y23 a0 g1 a2 g3 a4 g5 a6 g7 c8 a9 a10 a11 a12 a13 a14 zlv rfl (fun c0_ c1_=>some (c0_,c1_))) (by kernel_rfl)
theorem y3j:SumOne (mainJ Tryz.prog W Post) 23 zla:=mkT y9e y9q fun pts v news hp=>by
 unfold zla at hp
 split at hp
 ·exact fin3 (y8k ..) hp
 ·cases hp
def tb34:List (Nat×(List PT→Option (Bool×AV×List Blk))):=(23,zla)::tb33
def lt34:List ((Nat×Nat)×(Nat→St→Option (Bool×LO))):=lt33
def Γ34:Ctx:=⟨tyTab,fnTab,tblSum tb34,tblLp lt34⟩
theorem yc1:SumL (mainJ Tryz.prog W Post) tb34:=SumL.cons y3j (y9e)
theorem yc5:LpL (mainJ Tryz.prog W Post) fnTab lt34:=y9q
def zbh  : Option (Bool)→Option (AV×List Blk)
 | some r=>some ((.v (.one (.bool r))),[])
 | none=>none
def zbf:List PT→Option (Bool×AV×List Blk)
 | [.agg [.row 1 q0m (.fl .f32 q0s),.row 1 q0o (.fl .f32 q0v),.row 1 q0p (.fl .f32 q0w),.row 3 q0y (.fl .f32 q1d),.s (.int .i64 q1n),.s (.flt .f32 q1x),.s (.flt .f32 q1w)],.one (.s (.flt .f32 q38)),.one (.s (.flt .f32 q35)),.one (.s (.flt .f32 q34)),.one (.s (.flt .f32 q2x))]=>sF zbh (z2p q0m q0s q0o q0v q0p q0w q0y q1d q1n q1x q1w q38 q35 q34 q2x)
 | _=>none
theorem zv8:ev8 Γ34 9 [.agg [.row 1 a0 (.fl .f32 g1),.row 1 a2 (.fl .f32 g3),.row 1 a4 (.fl .f32 g5),.row 3 a6 (.fl .f32 g7),.s (.int .i64 c8),.s (.flt .f32 a9),.s (.flt .f32 a10)],.one (.s (.flt .f32 a11)),.one (.s (.flt .f32 a12)),.one (.s (.flt .f32 a13)),.one (.s (.flt .f32 a14))]=zbh (z2p a0 g1 a2 g3 a4 g5 a6 g7 c8 a9 a10 a11 a12 a13 a14):=tr2 (zpy a0 g1 a2 g3 a4 g5 a6 g7 c8 a9 a10 a11 a12 a13 a14 zbh rfl (fun c0_=>some c0_)) (by kernel_rfl)
theorem zro:SumOne (mainJ Tryz.prog W Post) 9 zbf:=mkT yc1 yc5 fun pts v news hp=>by
 unfold zbf at hp
 split at hp
 ·exact fin3 (zv8 ..) hp
 ·cases hp
end
end Go.Proofs.YtijjhfailnmeoaaGreat
