import Derived.Test.YtijjhfailnmeoaaGreatForcesSharedOfAllF
set_option linter.unusedVariables false
set_option linter.unusedSimpArgs false
set_option linter.unusedSectionVars false
set_option maxRecDepth 100000
set_option maxHeartbeats 4000000
namespace Go.Proofs.YtijjhfailnmeoaaGreat
open Go Go.Rf
open Go.ConcR (Payload)
variable [Payload] {W:World} {Post:Value→World→Prop}
noncomputable section
variable (a0:Nat) (g1:List Nat) (a2:Nat) (g3:List Nat) (a4:Nat) (g5:List Nat) (a6:Nat) (g7:List Nat) (c8:Int) (a9:Nat) (a10:Nat) (a11:Nat) (a12:Nat) (a13:Nat) (a14:Nat) (c15:Int) (c16:Int)
def zgm:List PT→Option (Bool×AV×List Blk)
 | [.agg [.row 1 an (.fl .f32 al),.row 1 ln (.fl .f32 ll),.row 1 dn (.fl .f32 dl),.row 3 sn (.fl .f32 sl),.s (.int .i64 cc),.s (.flt .f32 hb),.s (.flt .f32 tp)],.one (.s (.flt .f32 x2)),.one (.s (.flt .f32 x3)),.one (.s (.flt .f32 x4)),.one (.s (.flt .f32 x5)),.one (.s (.int .i64 ws))]=>some ((z3r an al ln ll dn dl sn sl cc hb tp x2 x3 x4 x5 ws),((.tup [(.one (.sl 0 0 (z2k an al ln ll dn dl sn sl cc hb tp x2 x3 x4 x5 ws) 1)),(.one (.sl 1 0 (z2m an al ln ll dn dl sn sl cc hb tp x2 x3 x4 x5 ws) 1)),(.one (.bool (z0d an al ln ll dn dl sn sl cc hb tp x2 x3 x4 x5 ws)))]),[(.mk true (.fl .f32 (z2n an al ln ll dn dl sn sl cc hb tp x2 x3 x4 x5 ws))),(.mk true (.fl .f32 (z2p an al ln ll dn dl sn sl cc hb tp x2 x3 x4 x5 ws)))]))
 | _=>none
theorem zpe:SumOne (mainJ Tryz.prog W Post) 19 zgm:=by
 intro pts v news hp w vals hv
 unfold zgm at hp
 split at hp
 ·rename_i an al ln ll dn dl sn sl cc hb tp x2 x3 x4 x5 ws
  injection hp with hp
  injection hp with h1 hp
  injection hp with h2 h3
  subst h2
  subst h3
  have h:=core (W:=W) (Post:=Post) (p:=⟨an,al,ln,ll,dn,dl,sn,sl,cc,hb,tp,x2,x3,x4,x5,ws.toNat⟩) (ws:=ws) rfl h1 hv
  have e:FP.ans ⟨an,al,ln,ll,dn,dl,sn,sl,cc,hb,tp,x2,x3,x4,x5,ws.toNat⟩ ws=((AV.tup [(TV.one (At.sl 0 0 (z2k an al ln ll dn dl sn sl cc hb tp x2 x3 x4 x5 ws) 1)),(TV.one (At.sl 1 0 (z2m an al ln ll dn dl sn sl cc hb tp x2 x3 x4 x5 ws) 1)),(TV.one (At.bool (z0d an al ln ll dn dl sn sl cc hb tp x2 x3 x4 x5 ws)))]),[(Blk.mk Bool.true (Body.fl .f32 (z2n an al ln ll dn dl sn sl cc hb tp x2 x3 x4 x5 ws))),(Blk.mk Bool.true (Body.fl .f32 (z2p an al ln ll dn dl sn sl cc hb tp x2 x3 x4 x5 ws)))]):=by
   unfold z2k z2m z2n z2p
   show (match z0d an al ln ll dn dl sn sl cc hb tp x2 x3 x4 x5 ws with | true=>answer (z9z an al ln ll dn dl sn sl cc hb tp x2 x3 x4 x5 ws) (z9m an al ln ll dn dl sn sl cc hb tp x2 x3 x4 x5 ws) sn sn Bool.true | false=>answer [] [] 0 0 Bool.false)=_
   cases z0d an al ln ll dn dl sn sl cc hb tp x2 x3 x4 x5 ws<;>rfl
  rw[e] at h
  exact h
 ·cases hp
def tb32:List (Nat×(List PT→Option (Bool×AV×List Blk))):=(30,zgn)::(19,zgm)::tb22
def lt32:List ((Nat×Nat)×(Nat→St→Option (Bool×LO))):=lt22
def Γ32:Ctx:=⟨tyTab,fnTab,tblSum tb32,tblLp lt32⟩
theorem y3n:SumL (mainJ Tryz.prog W Post) tb32:=SumL.cons zph (SumL.cons zpe (y1o))
theorem y3a:LpL (mainJ Tryz.prog W Post) fnTab lt32:=y1m
theorem mk32{g:FuncId} {F:List PT→Option (Bool×AV×List Blk)} (h:∀ pts v news,F pts=some (true,v,news)→ev8 Γ32 g pts=some (v,news)):SumOne (mainJ Tryz.prog W Post) g F:=sum_of (Γ:=Γ32) (fuel:=8) (d:=8) tyTab_ok (FnL.ok fnTab_ok _ _) (LpL.ok y3a) (SumL.ok y3n _) mixed fun pts v news hp _=>h pts v news hp
def z8x  : Option (Bool)→Option (AV×List Blk)
 | some r=>some ((.v (.one (.bool r))),[])
 | none=>none
def z8w:List PT→Option (Bool×AV×List Blk)
 | [.agg [.row 1 q03 (.fl .f32 q09),.row 1 q04 (.fl .f32 q0b),.row 1 q05 (.fl .f32 q0a),.row 3 q0c (.fl .f32 q0e),.s (.int .i64 q0h),.s (.flt .f32 q0i),.s (.flt .f32 q0j)],.one (.s (.flt .f32 x1)),.one (.s (.flt .f32 x2)),.one (.s (.flt .f32 x3)),.one (.s (.flt .f32 x4)),.one (.s (.int .i64 x5)),.one (.s (.int .i64 x6))]=>sP (laws_FnForcesSharedOfAll_p q03 q09 q04 q0b q05 q0a q0c q0e q0h q0i q0j x1 x2 x3 x4 x5 x6) z8x (laws_FnForcesSharedOfAll_v0 q03 q09 q04 q0b q05 q0a q0c q0e q0h q0i q0j x1 x2 x3 x4 x5 x6)
 | _=>none
theorem zmo:ev8 Γ32 4 [.agg [.row 1 a0 (.fl .f32 g1),.row 1 a2 (.fl .f32 g3),.row 1 a4 (.fl .f32 g5),.row 3 a6 (.fl .f32 g7),.s (.int .i64 c8),.s (.flt .f32 a9),.s (.flt .f32 a10)],.one (.s (.flt .f32 a11)),.one (.s (.flt .f32 a12)),.one (.s (.flt .f32 a13)),.one (.s (.flt .f32 a14)),.one (.s (.int .i64 c15)),.one (.s (.int .i64 c16))]=z8x (z3c a0 g1 a2 g3 a4 g5 a6 g7 c8 a9 a10 a11 a12 a13 a14 c15 c16):=tr2 (zl3 a0 g1 a2 g3 a4 g5 a6 g7 c8 a9 a10 a11 a12 a13 a14 c15 c16 z8x rfl (fun c0_=>some c0_)) (by kernel_rfl)
theorem zlg:SumOne (mainJ Tryz.prog W Post) 4 z8w:=mk32 fun pts v news hp=>by
 unfold z8w at hp
 split at hp
 ·rename_i q03 q09 q04 q0b q05 q0a q0c q0e q0h q0i q0j x1 x2 x3 x4 x5 x6
  exact fin2 (zmo q03 q09 q04 q0b q05 q0a q0c q0e q0h q0i q0j x1 x2 x3 x4 x5 x6) hp
 ·cases hp
end
end Go.Proofs.YtijjhfailnmeoaaGreat
