/-
 What functions answer: that the evaluator answers so. Printed by a program.
-/
import Derived.Test.YtijjhfailnmeoaaGreatForcesSharedOfAllF
set_option linter.unusedVariables false
set_option linter.unusedSimpArgs false
set_option maxRecDepth 100000
set_option maxHeartbeats 4000000
namespace Go.Proofs.YtijjhfailnmeoaaGreat
open Go Go.Rf
open Go.ConcR (Payload)
variable [Payload] {W:World} {Post:Value→World→Prop}
noncomputable def ziu:List PT→Option (Bool×AV×List Blk)
 | [.agg [.row 1 an (.fl .f32 al),.row 1 ln (.fl .f32 ll),.row 1 dn (.fl .f32 dl),.row 3 sn (.fl .f32 sl),.s (.int .i64 cc),.s (.flt .f32 hb),.s (.flt .f32 tp)],.one (.s (.flt .f32 x2)),.one (.s (.flt .f32 x3)),.one (.s (.flt .f32 x4)),.one (.s (.flt .f32 x5)),.one (.s (.int .i64 ws))]=>some ((z45 an al ln ll dn dl sn sl cc hb tp x2 x3 x4 x5 ws),((AV.tup [(TV.one (At.sl 0 0 (z31 an al ln ll dn dl sn sl cc hb tp x2 x3 x4 x5 ws) 1)),(TV.one (At.sl 1 0 (z2z an al ln ll dn dl sn sl cc hb tp x2 x3 x4 x5 ws) 1)),(TV.one (At.bool (z0i an al ln ll dn dl sn sl cc hb tp x2 x3 x4 x5 ws)))]),[(Blk.mk Bool.true (Body.fl .f32 (z30 an al ln ll dn dl sn sl cc hb tp x2 x3 x4 x5 ws))),(Blk.mk Bool.true (Body.fl .f32 (z2y an al ln ll dn dl sn sl cc hb tp x2 x3 x4 x5 ws)))]))
 | _=>none
theorem ztu:SumOne (mainJ Tryz.prog W Post) 19 ziu:=by
 intro pts v news hp w vals hv
 unfold ziu at hp
 split at hp
 ·rename_i an al ln ll dn dl sn sl cc hb tp x2 x3 x4 x5 ws
  injection hp with hp
  injection hp with h1 hp
  injection hp with h2 h3
  subst h2
  subst h3
  have h:=core (W:=W) (Post:=Post) (p:=⟨an,al,ln,ll,dn,dl,sn,sl,cc,hb,tp,x2,x3,x4,x5,ws.toNat⟩) (ws:=ws) rfl h1 hv
  have e:FP.ans ⟨an,al,ln,ll,dn,dl,sn,sl,cc,hb,tp,x2,x3,x4,x5,ws.toNat⟩ ws=((AV.tup [(TV.one (At.sl 0 0 (z31 an al ln ll dn dl sn sl cc hb tp x2 x3 x4 x5 ws) 1)),(TV.one (At.sl 1 0 (z2z an al ln ll dn dl sn sl cc hb tp x2 x3 x4 x5 ws) 1)),(TV.one (At.bool (z0i an al ln ll dn dl sn sl cc hb tp x2 x3 x4 x5 ws)))]),[(Blk.mk Bool.true (Body.fl .f32 (z30 an al ln ll dn dl sn sl cc hb tp x2 x3 x4 x5 ws))),(Blk.mk Bool.true (Body.fl .f32 (z2y an al ln ll dn dl sn sl cc hb tp x2 x3 x4 x5 ws)))]):=by
   unfold z31 z2z z30 z2y
   show (match z0i an al ln ll dn dl sn sl cc hb tp x2 x3 x4 x5 ws with | true=>answer (zb0 an al ln ll dn dl sn sl cc hb tp x2 x3 x4 x5 ws) (zb8 an al ln ll dn dl sn sl cc hb tp x2 x3 x4 x5 ws) sn sn Bool.true | false=>answer [] [] 0 0 Bool.false)=_
   cases z0i an al ln ll dn dl sn sl cc hb tp x2 x3 x4 x5 ws<;>rfl
  rw[e] at h
  exact h
 ·cases hp
noncomputable def tb32:List (Nat×(List PT→Option (Bool×AV×List Blk))):=(30,zik)::(19,ziu)::tb22
noncomputable def lt32:List ((Nat×Nat)×(Nat→St→Option (Bool×LO))):=lt22
noncomputable def Γ32:Ctx:=⟨tyTab,fnTab,tblSum tb32,tblLp lt32⟩
theorem ygb:SumL (mainJ Tryz.prog W Post) tb32:=SumL.cons ztj (SumL.cons ztu (ybj))
theorem yfk:LpL (mainJ Tryz.prog W Post) fnTab lt32:=yb2
theorem mk32 {g:FuncId} {F:List PT→Option (Bool×AV×List Blk)} (h:∀ pts v news,F pts=some (true,v,news)→ev8 Γ32 g pts=some (v,news)):SumOne (mainJ Tryz.prog W Post) g F:=z59 (Γ:=Γ32) (fuel:=8) (d:=8) tyTab_ok (FnL.ok fnTab_ok _ _) (LpL.ok yfk) (SumL.ok ygb _) mixed fun pts v news hp _=>h pts v news hp
def zab (q03:Nat) (q09:List Nat) (q06:Nat) (q0b:List Nat) (q05:Nat) (q0c:List Nat) (q0d:Nat) (q0f:List Nat) (q0h:Int) (q0j q0k x1 x2 x3 x4:Nat) (x5 x6:Int):Option (Bool)→Option (AV×List Blk)
 | some r=>some ((AV.v (TV.one (At.bool r))),[])
 | none=>none
noncomputable def za9:List PT→Option (Bool×AV×List Blk)
 | [.agg [.row 1 q03 (.fl .f32 q09),.row 1 q06 (.fl .f32 q0b),.row 1 q05 (.fl .f32 q0c),.row 3 q0d (.fl .f32 q0f),.s (.int .i64 q0h),.s (.flt .f32 q0j),.s (.flt .f32 q0k)],.one (.s (.flt .f32 x1)),.one (.s (.flt .f32 x2)),.one (.s (.flt .f32 x3)),.one (.s (.flt .f32 x4)),.one (.s (.int .i64 x5)),.one (.s (.int .i64 x6))]=>sP (laws_FnForcesSharedOfAll_p q03 q09 q06 q0b q05 q0c q0d q0f q0h q0j q0k x1 x2 x3 x4 x5 x6) (zab q03 q09 q06 q0b q05 q0c q0d q0f q0h q0j q0k x1 x2 x3 x4 x5 x6) (laws_FnForcesSharedOfAll_v0 q03 q09 q06 q0b q05 q0c q0d q0f q0h q0j q0k x1 x2 x3 x4 x5 x6)
 | _=>none
theorem zq3 (q03:Nat) (q09:List Nat) (q06:Nat) (q0b:List Nat) (q05:Nat) (q0c:List Nat) (q0d:Nat) (q0f:List Nat) (q0h:Int) (q0j q0k x1 x2 x3 x4:Nat) (x5 x6:Int):ev8 Γ32 4 [.agg [.row 1 q03 (.fl .f32 q09),.row 1 q06 (.fl .f32 q0b),.row 1 q05 (.fl .f32 q0c),.row 3 q0d (.fl .f32 q0f),.s (.int .i64 q0h),.s (.flt .f32 q0j),.s (.flt .f32 q0k)],.one (.s (.flt .f32 x1)),.one (.s (.flt .f32 x2)),.one (.s (.flt .f32 x3)),.one (.s (.flt .f32 x4)),.one (.s (.int .i64 x5)),.one (.s (.int .i64 x6))]=(zab q03 q09 q06 q0b q05 q0c q0d q0f q0h q0j q0k x1 x2 x3 x4 x5 x6) (z3q q03 q09 q06 q0b q05 q0c q0d q0f q0h q0j q0k x1 x2 x3 x4 x5 x6):=tr2 (znk (zab q03 q09 q06 q0b q05 q0c q0d q0f q0h q0j q0k x1 x2 x3 x4 x5 x6) rfl q03 q09 q06 q0b q05 q0c q0d q0f q0h q0j q0k x1 x2 x3 x4 x5 x6 (fun c0_=>some c0_)) (by kernel_rfl)
theorem zo5:SumOne (mainJ Tryz.prog W Post) 4 za9:=mk32 fun pts v news hp=>by
 unfold za9 at hp
 split at hp
 ·rename_i q03 q09 q06 q0b q05 q0c q0d q0f q0h q0j q0k x1 x2 x3 x4 x5 x6
  exact fin2 (zq3 q03 q09 q06 q0b q05 q0c q0d q0f q0h q0j q0k x1 x2 x3 x4 x5 x6) hp
 ·cases hp
end Go.Proofs.YtijjhfailnmeoaaGreat
