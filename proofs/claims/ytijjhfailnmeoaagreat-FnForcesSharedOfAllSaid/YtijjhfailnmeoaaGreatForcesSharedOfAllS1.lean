/-
 What functions answer: that the evaluator answers so. Printed by a program.
-/
import Derived.Test.YtijjhfailnmeoaaGreatForcesSharedOfAllS0
set_option linter.unusedVariables false
set_option linter.unusedSimpArgs false
set_option maxRecDepth 100000
set_option maxHeartbeats 4000000
namespace Go.Proofs.YtijjhfailnmeoaaGreat
open Go Go.Rf
variable {J:Jd Tryz.prog}
def zqo (q03:Nat) (q09:List Nat) (q06:Nat) (q0b:List Nat) (q05:Nat) (q0c:List Nat) (q0d:Nat) (q0f:List Nat) (q0h:Int) (q0j q0k x1 x2 x3 x4:Nat):Option (Nat×Nat×Bool×(List Nat)×(List Nat))→Option (AV×List Blk)
 | some r=>some ((AV.tup [(TV.one (At.sl 0 0 r.1 1)),(TV.one (At.sl 1 0 r.2.1 1)),(TV.one (At.bool r.2.2.1))]),[(Blk.mk Bool.true (Body.fl .f32 r.2.2.2.1)),(Blk.mk Bool.true (Body.fl .f32 r.2.2.2.2))])
 | none=>none
noncomputable def zqp:List PT→Option (Bool×AV×List Blk)
 | [.ptr [.row 1 q03 (.fl .f32 q09),.row 1 q06 (.fl .f32 q0b),.row 1 q05 (.fl .f32 q0c),.row 3 q0d (.fl .f32 q0f),.s (.int .i64 q0h),.s (.flt .f32 q0j),.s (.flt .f32 q0k)],.one (.s (.flt .f32 x1)),.one (.s (.flt .f32 x2)),.one (.s (.flt .f32 x3)),.one (.s (.flt .f32 x4))]=>sP (zlw q03 q09 q06 q0b q05 q0c q0d q0f q0h q0j q0k x1 x2 x3 x4) (zqo q03 q09 q06 q0b q05 q0c q0d q0f q0h q0j q0k x1 x2 x3 x4) (zki q03 q09 q06 q0b q05 q0c q0d q0f q0h q0j q0k x1 x2 x3 x4,zkl q03 q09 q06 q0b q05 q0c q0d q0f q0h q0j q0k x1 x2 x3 x4,zkg q03 q09 q06 q0b q05 q0c q0d q0f q0h q0j q0k x1 x2 x3 x4,zkh q03 q09 q06 q0b q05 q0c q0d q0f q0h q0j q0k x1 x2 x3 x4,zka q03 q09 q06 q0b q05 q0c q0d q0f q0h q0j q0k x1 x2 x3 x4)
 | _=>none
theorem y7d (q03:Nat) (q09:List Nat) (q06:Nat) (q0b:List Nat) (q05:Nat) (q0c:List Nat) (q0d:Nat) (q0f:List Nat) (q0h:Int) (q0j q0k x1 x2 x3 x4:Nat):ev8 Γ21 50 [.ptr [.row 1 q03 (.fl .f32 q09),.row 1 q06 (.fl .f32 q0b),.row 1 q05 (.fl .f32 q0c),.row 3 q0d (.fl .f32 q0f),.s (.int .i64 q0h),.s (.flt .f32 q0j),.s (.flt .f32 q0k)],.one (.s (.flt .f32 x1)),.one (.s (.flt .f32 x2)),.one (.s (.flt .f32 x3)),.one (.s (.flt .f32 x4))]=(zqo q03 q09 q06 q0b q05 q0c q0d q0f q0h q0j q0k x1 x2 x3 x4) (z47 q03 q09 q06 q0b q05 q0c q0d q0f q0h q0j q0k x1 x2 x3 x4):=tr2 (y0n (zqo q03 q09 q06 q0b q05 q0c q0d q0f q0h q0j q0k x1 x2 x3 x4) rfl q03 q09 q06 q0b q05 q0c q0d q0f q0h q0j q0k x1 x2 x3 x4 (fun c0_ c1_ c2_ c3_ c4_=>some (c0_,c1_,c2_,c3_,c4_))) (by kernel_rfl)
theorem y31:SumOne J 50 zqp:=mk21 fun pts v news hp=>by
 unfold zqp at hp
 split at hp
 ·rename_i q03 q09 q06 q0b q05 q0c q0d q0f q0h q0j q0k x1 x2 x3 x4
  exact fin2 (y7d q03 q09 q06 q0b q05 q0c q0d q0f q0h q0j q0k x1 x2 x3 x4) hp
 ·cases hp
noncomputable def tb22:List (Nat×(List PT→Option (Bool×AV×List Blk))):=(50,zqp)::tb21
noncomputable def lt22:List ((Nat×Nat)×(Nat→St→Option (Bool×LO))):=lt21
noncomputable def Γ22:Ctx:=⟨tyTab,fnTab,tblSum tb22,tblLp lt22⟩
theorem ybj:SumL J tb22:=SumL.cons y31 (ybu)
theorem yb2:LpL J fnTab lt22:=ybs
theorem mk22 {g:FuncId} {F:List PT→Option (Bool×AV×List Blk)} (h:∀ pts v news,F pts=some (true,v,news)→ev8 Γ22 g pts=some (v,news)):SumOne J g F:=z59 (Γ:=Γ22) (fuel:=8) (d:=8) tyTab_ok (FnL.ok fnTab_ok _ _) (LpL.ok yb2) (SumL.ok ybj _) mixed fun pts v news hp _=>h pts v news hp
def zip (q00:Nat) (q04:List Nat) (q02:Nat) (q07:List Nat) (q01:Nat) (q08:List Nat) (q0a:Nat) (q0e:List Nat) (q0i:Int) (q0n q0m q0w q0r q0o q1l:Nat) (q1m:Int):Option (Nat×Nat×Bool×(List Nat)×(List Nat))→Option (AV×List Blk)
 | some r=>some ((AV.tup [(TV.one (At.sl 0 0 r.1 1)),(TV.one (At.sl 1 0 r.2.1 1)),(TV.one (At.bool r.2.2.1))]),[(Blk.mk Bool.true (Body.fl .f32 r.2.2.2.1)),(Blk.mk Bool.true (Body.fl .f32 r.2.2.2.2))])
 | none=>none
noncomputable def zik:List PT→Option (Bool×AV×List Blk)
 | [.agg [.row 1 q00 (.fl .f32 q04),.row 1 q02 (.fl .f32 q07),.row 1 q01 (.fl .f32 q08),.row 3 q0a (.fl .f32 q0e),.s (.int .i64 q0i),.s (.flt .f32 q0n),.s (.flt .f32 q0m)],.one (.s (.flt .f32 q0w)),.one (.s (.flt .f32 q0r)),.one (.s (.flt .f32 q0o)),.one (.s (.flt .f32 q1l)),.one (.s (.int .i64 q1m))]=>sP (zcj q00 q04 q02 q07 q01 q08 q0a q0e q0i q0n q0m q0w q0r q0o q1l q1m) (zip q00 q04 q02 q07 q01 q08 q0a q0e q0i q0n q0m q0w q0r q0o q1l q1m) (zbb q00 q04 q02 q07 q01 q08 q0a q0e q0i q0n q0m q0w q0r q0o q1l q1m,zb1 q00 q04 q02 q07 q01 q08 q0a q0e q0i q0n q0m q0w q0r q0o q1l q1m,zb4 q00 q04 q02 q07 q01 q08 q0a q0e q0i q0n q0m q0w q0r q0o q1l q1m,zbf q00 q04 q02 q07 q01 q08 q0a q0e q0i q0n q0m q0w q0r q0o q1l q1m,zb3 q00 q04 q02 q07 q01 q08 q0a q0e q0i q0n q0m q0w q0r q0o q1l q1m)
 | _=>none
theorem zxi (q00:Nat) (q04:List Nat) (q02:Nat) (q07:List Nat) (q01:Nat) (q08:List Nat) (q0a:Nat) (q0e:List Nat) (q0i:Int) (q0n q0m q0w q0r q0o q1l:Nat) (q1m:Int):ev8 Γ22 30 [.agg [.row 1 q00 (.fl .f32 q04),.row 1 q02 (.fl .f32 q07),.row 1 q01 (.fl .f32 q08),.row 3 q0a (.fl .f32 q0e),.s (.int .i64 q0i),.s (.flt .f32 q0n),.s (.flt .f32 q0m)],.one (.s (.flt .f32 q0w)),.one (.s (.flt .f32 q0r)),.one (.s (.flt .f32 q0o)),.one (.s (.flt .f32 q1l)),.one (.s (.int .i64 q1m))]=(zip q00 q04 q02 q07 q01 q08 q0a q0e q0i q0n q0m q0w q0r q0o q1l q1m) (z1k q00 q04 q02 q07 q01 q08 q0a q0e q0i q0n q0m q0w q0r q0o q1l q1m):=tr2 (zt1 (zip q00 q04 q02 q07 q01 q08 q0a q0e q0i q0n q0m q0w q0r q0o q1l q1m) rfl q00 q04 q02 q07 q01 q08 q0a q0e q0i q0n q0m q0w q0r q0o q1l q1m (fun c0_ c1_ c2_ c3_ c4_=>some (c0_,c1_,c2_,c3_,c4_))) (by kernel_rfl)
theorem ztj:SumOne J 30 zik:=mk22 fun pts v news hp=>by
 unfold zik at hp
 split at hp
 ·rename_i q00 q04 q02 q07 q01 q08 q0a q0e q0i q0n q0m q0w q0r q0o q1l q1m
  exact fin2 (zxi q00 q04 q02 q07 q01 q08 q0a q0e q0i q0n q0m q0w q0r q0o q1l q1m) hp
 ·cases hp
end Go.Proofs.YtijjhfailnmeoaaGreat
