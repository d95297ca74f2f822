/-
 What functions answer: that the evaluator answers so. Printed by a program.
-/
import Derived.Test.YtijjhfailnmeoaaGreatForcesSharedOfAllC
set_option linter.unusedVariables false
set_option linter.unusedSimpArgs false
set_option maxRecDepth 100000
set_option maxHeartbeats 4000000
namespace Go.Proofs.YtijjhfailnmeoaaGreat
open Go Go.Rf
variable {J:Jd Tryz.prog}
def zjm:List PT→Option (Bool×AV×List Blk)
 | [.one (.s (.flt .f32 x))]=>some (bnot (nanQ .f32 x),A1 (.int .u32 x),[])
 | _=>none
theorem zv8:SumOne J 147 zjm:=by
 intro pts v news hp w vals hv
 unfold zjm at hp
 split at hp
 ·rename_i x
  injection hp with hp
  injection hp with h1 hp
  injection hp with h2 h3
  subst h2
  subst h3
  obtain⟨l,hl⟩:∃ l,l=vals.toList:=⟨_,rfl⟩
  rw[← hl] at hv
  cases hv with
  | cons a1 a2=>
   cases a2
   obtain⟨b,hb1,hb2,hb3⟩:=a1
   subst hb1
   rename_i hx
   have hvals:vals=#[.float .f32 b]:=by rw[← Array.toList_inj,← hl]
   subst hvals
   have hn:nanB .f32 b=false:=by rw[← zmy,hb3];simpa [bnot,nanQ] using h1
   rw[z1p hn] at hb3
   subst hb3
   refine⟨zsb Tryz.func147 (Eq.mpr (by kernel_rfl:_=(Mute (.extern 147)∧True)) ⟨.inr ⟨_,rfl⟩,trivial⟩),.inl ⟨_,w,by (simp only[callFunc,Sem.run_bind,run_program,Result.andThen_ok,Tryz.func147];rfl),NoB,⟨⟨(fun t b' h=>by cases t<;>cases h),(fun t t' b1 b2 x x' _ h=>by cases t<;>cases h)⟩,(fun t x h=>by cases h),Fr.refl _ w⟩,rfl⟩⟩
 ·cases hp
def zel:List PT→Option (Bool×AV×List Blk)
 | [.one (.s (.int .u64 x))]=>some (okU .f64 x,A1 (.flt .f64 (cnI .f64 x)),[])
 | _=>none
theorem zr5:SumOne J 167 zel:=by
 intro pts v news hp w vals hv
 unfold zel at hp
 split at hp
 ·rename_i x
  injection hp with hp
  injection hp with h1 hp
  injection hp with h2 h3
  subst h2
  subst h3
  obtain⟨l,hl⟩:∃ l,l=vals.toList:=⟨_,rfl⟩
  rw[← hl] at hv
  cases hv with
  | cons a1 a2=>
   cases a2
   have hb1:_=Value.int .u64 x:=a1
   subst hb1
   rename_i hx
   have hvals:vals=#[.int .u64 x]:=by rw[← Array.toList_inj,← hl]
   subst hvals
   have hw:=ygk h1
   refine⟨zsb Tryz.func167 (Eq.mpr (by kernel_rfl:_=(Mute (.extern 167)∧True)) ⟨.inr ⟨_,rfl⟩,trivial⟩),.inl ⟨_,w,by (simp only[callFunc,Sem.run_bind,run_program,Result.andThen_ok,Tryz.func167];rfl),NoB,⟨⟨(fun t b' h=>by cases t<;>cases h),(fun t t' b1 b2 x x' _ h=>by cases t<;>cases h)⟩,(fun t x h=>by cases h),Fr.refl _ w⟩,⟨_,rfl,hw,rfl⟩⟩⟩
 ·cases hp
def zjx:List PT→Option (Bool×AV×List Blk)
 | [.one (.s (.flt .f64 x))]=>some (bnot (nanQ .f64 x),A1 (.int .u64 x),[])
 | _=>none
theorem zuh:SumOne J 173 zjx:=by
 intro pts v news hp w vals hv
 unfold zjx at hp
 split at hp
 ·rename_i x
  injection hp with hp
  injection hp with h1 hp
  injection hp with h2 h3
  subst h2
  subst h3
  obtain⟨l,hl⟩:∃ l,l=vals.toList:=⟨_,rfl⟩
  rw[← hl] at hv
  cases hv with
  | cons a1 a2=>
   cases a2
   obtain⟨b,hb1,hb2,hb3⟩:=a1
   subst hb1
   rename_i hx
   have hvals:vals=#[.float .f64 b]:=by rw[← Array.toList_inj,← hl]
   subst hvals
   have hn:nanB .f64 b=false:=by rw[← zmy,hb3];simpa [bnot,nanQ] using h1
   rw[z1p hn] at hb3
   subst hb3
   refine⟨zsb Tryz.func173 (Eq.mpr (by kernel_rfl:_=(Mute (.extern 173)∧True)) ⟨.inr ⟨_,rfl⟩,trivial⟩),.inl ⟨_,w,by (simp only[callFunc,Sem.run_bind,run_program,Result.andThen_ok,Tryz.func173];rfl),NoB,⟨⟨(fun t b' h=>by cases t<;>cases h),(fun t t' b1 b2 x x' _ h=>by cases t<;>cases h)⟩,(fun t x h=>by cases h),Fr.refl _ w⟩,rfl⟩⟩
 ·cases hp
def zm8:List PT→Option (Bool×AV×List Blk)
 | [.one (.s (.flt .f64 x))]=>some (bnot (nanQ .f64 x),A1 (.flt .f64 (fint .zero x)),[])
 | _=>none
theorem zxr:SumOne J 177 zm8:=by
 intro pts v news hp w vals hv
 unfold zm8 at hp
 split at hp
 ·rename_i x
  injection hp with hp
  injection hp with h1 hp
  injection hp with h2 h3
  subst h2
  subst h3
  obtain⟨l,hl⟩:∃ l,l=vals.toList:=⟨_,rfl⟩
  rw[← hl] at hv
  cases hv with
  | cons a1 a2=>
   cases a2
   obtain⟨b,hb1,hb2,hb3⟩:=a1
   subst hb1
   rename_i hx
   have hvals:vals=#[.float .f64 b]:=by rw[← Array.toList_inj,← hl]
   subst hvals
   have hn:nanB .f64 b=false:=by rw[← zmy,hb3];simpa [bnot,nanQ] using h1
   rw[z1p hn] at hb3
   subst hb3
   refine⟨zsb Tryz.func177 (Eq.mpr (by kernel_rfl:_=(Mute (.extern 177)∧Tame Tryz.prog (do let v ← Extern.MathFloor.toIntegral "math.archTrunc" .zero #[.float .f64 b];pure (.value v):Sem Next))) ⟨.inr ⟨_,rfl⟩,tv (y3f _ _ _)⟩),.inl ⟨_,w,by (simp only[callFunc,Sem.run_bind,run_program,Result.andThen_ok,Tryz.func177];change (do let v ← Extern.MathFloor.toIntegral "math.archTrunc" .zero #[.float .f64 b];pure (.value v):Sem Next).run Tryz.prog w=_;rw[Sem.run_bind,y88 hn];rfl),NoB,⟨⟨(fun t b' h=>by cases t<;>cases h),(fun t t' b1 b2 x x' _ h=>by cases t<;>cases h)⟩,(fun t x h=>by cases h),Fr.refl _ w⟩,ya2 hn⟩⟩
 ·cases hp
def zm9:List PT→Option (Bool×AV×List Blk)
 | [.one (.s (.flt .f64 x))]=>some (bnot (nanQ .f64 x),A1 (.flt .f64 (fint .down x)),[])
 | _=>none
theorem zxj:SumOne J 179 zm9:=by
 intro pts v news hp w vals hv
 unfold zm9 at hp
 split at hp
 ·rename_i x
  injection hp with hp
  injection hp with h1 hp
  injection hp with h2 h3
  subst h2
  subst h3
  obtain⟨l,hl⟩:∃ l,l=vals.toList:=⟨_,rfl⟩
  rw[← hl] at hv
  cases hv with
  | cons a1 a2=>
   cases a2
   obtain⟨b,hb1,hb2,hb3⟩:=a1
   subst hb1
   rename_i hx
   have hvals:vals=#[.float .f64 b]:=by rw[← Array.toList_inj,← hl]
   subst hvals
   have hn:nanB .f64 b=false:=by rw[← zmy,hb3];simpa [bnot,nanQ] using h1
   rw[z1p hn] at hb3
   subst hb3
   refine⟨zsb Tryz.func179 (Eq.mpr (by kernel_rfl:_=(Mute (.extern 179)∧Tame Tryz.prog (do let v ← Extern.MathFloor.toIntegral "math.archFloor" .down #[.float .f64 b];pure (.value v):Sem Next))) ⟨.inr ⟨_,rfl⟩,tv (y3f _ _ _)⟩),.inl ⟨_,w,by (simp only[callFunc,Sem.run_bind,run_program,Result.andThen_ok,Tryz.func179];change (do let v ← Extern.MathFloor.toIntegral "math.archFloor" .down #[.float .f64 b];pure (.value v):Sem Next).run Tryz.prog w=_;rw[Sem.run_bind,y88 hn];rfl),NoB,⟨⟨(fun t b' h=>by cases t<;>cases h),(fun t t' b1 b2 x x' _ h=>by cases t<;>cases h)⟩,(fun t x h=>by cases h),Fr.refl _ w⟩,ya2 hn⟩⟩
 ·cases hp
noncomputable def tb0:List (Nat×(List PT→Option (Bool×AV×List Blk))):=[(147,zjm),(167,zel),(173,zjx),(177,zm8),(179,zm9)]
noncomputable def lt0:List ((Nat×Nat)×(Nat→St→Option (Bool×LO))):=[]
noncomputable def Γ0:Ctx:=⟨tyTab,fnTab,tblSum tb0,tblLp lt0⟩
theorem ydd:SumL J tb0:=SumL.cons zv8 (SumL.cons zr5 (SumL.cons zuh (SumL.cons zxr (SumL.cons zxj (SumL.nil)))))
theorem ydk:LpL J fnTab lt0:=LpL.nil
theorem mk0 {g:FuncId} {F:List PT→Option (Bool×AV×List Blk)} (h:∀ pts v news,F pts=some (true,v,news)→ev8 Γ0 g pts=some (v,news)):SumOne J g F:=z59 (Γ:=Γ0) (fuel:=8) (d:=8) tyTab_ok (FnL.ok fnTab_ok _ _) (LpL.ok ydk) (SumL.ok ydd _) mixed fun pts v news hp _=>h pts v news hp
def zpz (n_ low q1f:Int):Option (Bool)→Option (AV×List Blk)
 | some r=>some ((AV.v (TV.one (At.bool r))),[])
 | none=>none
noncomputable def zpw:List PT→Option (Bool×AV×List Blk)
 | [.one (.s (.int .i64 n_)),.one (.s (.int .i64 low)),.one (.s (.int .i64 q1f))]=>sP (z6r n_ low q1f) (zpz n_ low q1f) (z3p n_ low q1f)
 | _=>none
theorem y7m (n_ low q1f:Int):ev8 Γ0 52 [.one (.s (.int .i64 n_)),.one (.s (.int .i64 low)),.one (.s (.int .i64 q1f))]=(zpz n_ low q1f) (zd5 n_ low q1f):=tr2 (y11 (zpz n_ low q1f) rfl n_ low q1f (fun c0_=>some c0_)) (by kernel_rfl)
theorem y1k:SumOne J 52 zpw:=mk0 fun pts v news hp=>by
 unfold zpw at hp
 split at hp
 ·rename_i n_ low q1f
  exact fin2 (y7m n_ low q1f) hp
 ·cases hp
def zo2 (x:Nat):Option (Bool)→Option (AV×List Blk)
 | some r=>some ((AV.v (TV.one (At.bool r))),[])
 | none=>none
noncomputable def znj:List PT→Option (Bool×AV×List Blk)
 | [.one (.s (.flt .f32 x))]=>sP (z2i x) (zo2 x) (z22 x)
 | _=>none
theorem y3h (x:Nat):ev8 Γ0 65 [.one (.s (.flt .f32 x))]=(zo2 x) (zde x):=tr2 (zxp (zo2 x) rfl x (fun c0_=>some c0_)) (by kernel_rfl)
theorem zyc:SumOne J 65 znj:=mk0 fun pts v news hp=>by
 unfold znj at hp
 split at hp
 ·rename_i x
  exact fin2 (y3h x) hp
 ·cases hp
def zsr (n_ low q1f:Int):Option (Bool)→Option (AV×List Blk)
 | some r=>some ((AV.v (TV.one (At.bool r))),[])
 | none=>none
noncomputable def zry:List PT→Option (Bool×AV×List Blk)
 | [.one (.s (.int .i64 n_)),.one (.s (.int .i64 low)),.one (.s (.int .i64 q1f))]=>sP (zgf n_ low q1f) (zsr n_ low q1f) (zd9 n_ low q1f)
 | _=>none
theorem y8l (n_ low q1f:Int):ev8 Γ0 68 [.one (.s (.int .i64 n_)),.one (.s (.int .i64 low)),.one (.s (.int .i64 q1f))]=(zsr n_ low q1f) (zgc n_ low q1f):=tr2 (y2v (zsr n_ low q1f) rfl n_ low q1f (fun c0_=>some c0_)) (by kernel_rfl)
theorem y4j:SumOne J 68 zry:=mk0 fun pts v news hp=>by
 unfold zry at hp
 split at hp
 ·rename_i n_ low q1f
  exact fin2 (y8l n_ low q1f) hp
 ·cases hp
def zpy (x y:Nat):Option (Bool)→Option (AV×List Blk)
 | some r=>some ((AV.v (TV.one (At.bool r))),[])
 | none=>none
noncomputable def zqq:List PT→Option (Bool×AV×List Blk)
 | [.one (.s (.flt .f32 x)),.one (.s (.flt .f32 y))]=>sP (zlp x y) (zpy x y) (zkc x y)
 | _=>none
theorem y7w (x y:Nat):ev8 Γ0 69 [.one (.s (.flt .f32 x)),.one (.s (.flt .f32 y))]=(zpy x y) (zd8 x y):=tr2 (y0e (zpy x y) rfl x y (fun c0_=>some c0_)) (by kernel_rfl)
theorem y2f:SumOne J 69 zqq:=mk0 fun pts v news hp=>by
 unfold zqq at hp
 split at hp
 ·rename_i x y
  exact fin2 (y7w x y) hp
 ·cases hp
def zm0 (x:Nat):Option (Bool)→Option (AV×List Blk)
 | some r=>some ((AV.v (TV.one (At.bool r))),[])
 | none=>none
noncomputable def zmm:List PT→Option (Bool×AV×List Blk)
 | [.one (.s (.flt .f32 x))]=>sP (z10 x) (zm0 x) (z0u x)
 | _=>none
theorem y2i (x:Nat):ev8 Γ0 84 [.one (.s (.flt .f32 x))]=(zm0 x) (zca x):=tr2 (zwp (zm0 x) rfl x (fun c0_=>some c0_)) (by kernel_rfl)
theorem zxd:SumOne J 84 zmm:=mk0 fun pts v news hp=>by
 unfold zmm at hp
 split at hp
 ·rename_i x
  exact fin2 (y2i x) hp
 ·cases hp
def zn2 (x low q1f:Nat):Option (Bool)→Option (AV×List Blk)
 | some r=>some ((AV.v (TV.one (At.bool r))),[])
 | none=>none
noncomputable def zny:List PT→Option (Bool×AV×List Blk)
 | [.one (.s (.flt .f32 x)),.one (.s (.flt .f32 low)),.one (.s (.flt .f32 q1f))]=>sP (zeh x low q1f) (zn2 x low q1f) (zbx x low q1f)
 | _=>none
theorem y47 (x low q1f:Nat):ev8 Γ0 134 [.one (.s (.flt .f32 x)),.one (.s (.flt .f32 low)),.one (.s (.flt .f32 q1f))]=(zn2 x low q1f) (z9w x low q1f):=tr2 (zx0 (zn2 x low q1f) rfl x low q1f (fun c0_=>some c0_)) (by kernel_rfl)
theorem zy2:SumOne J 134 zny:=mk0 fun pts v news hp=>by
 unfold zny at hp
 split at hp
 ·rename_i x low q1f
  exact fin2 (y47 x low q1f) hp
 ·cases hp
def zg9 (q00:Nat) (q04:List Nat) (q02:Nat) (q07:List Nat) (q01:Nat) (q08:List Nat) (q0a:Nat) (q0e:List Nat) (q0i:Int) (q0n q0m:Nat) (i:Int):Option (Nat)→Option (AV×List Blk)
 | some r=>some ((AV.v (TV.one (At.flt .f32 r))),[])
 | none=>none
noncomputable def zgm:List PT→Option (Bool×AV×List Blk)
 | [.agg [.row 1 q00 (.fl .f32 q04),.row 1 q02 (.fl .f32 q07),.row 1 q01 (.fl .f32 q08),.row 3 q0a (.fl .f32 q0e),.s (.int .i64 q0i),.s (.flt .f32 q0n),.s (.flt .f32 q0m)],.one (.s (.int .i64 i))]=>sP (z9r q00 q04 q02 q07 q01 q08 q0a q0e q0i q0n q0m i) (zg9 q00 q04 q02 q07 q01 q08 q0a q0e q0i q0n q0m i) (z6k q00 q04 q02 q07 q01 q08 q0a q0e q0i q0n q0m i)
 | _=>none
theorem zus (q00:Nat) (q04:List Nat) (q02:Nat) (q07:List Nat) (q01:Nat) (q08:List Nat) (q0a:Nat) (q0e:List Nat) (q0i:Int) (q0n q0m:Nat) (i:Int):ev8 Γ0 142 [.agg [.row 1 q00 (.fl .f32 q04),.row 1 q02 (.fl .f32 q07),.row 1 q01 (.fl .f32 q08),.row 3 q0a (.fl .f32 q0e),.s (.int .i64 q0i),.s (.flt .f32 q0n),.s (.flt .f32 q0m)],.one (.s (.int .i64 i))]=(zg9 q00 q04 q02 q07 q01 q08 q0a q0e q0i q0n q0m i) (z5j q00 q04 q02 q07 q01 q08 q0a q0e q0i q0n q0m i):=tr2 (zrg (zg9 q00 q04 q02 q07 q01 q08 q0a q0e q0i q0n q0m i) rfl q00 q04 q02 q07 q01 q08 q0a q0e q0i q0n q0m i (fun c0_=>some c0_)) (by kernel_rfl)
theorem zru:SumOne J 142 zgm:=mk0 fun pts v news hp=>by
 unfold zgm at hp
 split at hp
 ·rename_i q00 q04 q02 q07 q01 q08 q0a q0e q0i q0n q0m i
  exact fin2 (zus q00 q04 q02 q07 q01 q08 q0a q0e q0i q0n q0m i) hp
 ·cases hp
def zq5 (q00:Nat) (q04:List Nat) (q02:Nat) (q07:List Nat) (q01:Nat) (q08:List Nat) (q0a:Nat) (q0e:List Nat) (q0i:Int) (q0n q0m:Nat) (i:Int) (q1s:Nat):Option (Nat)→Option (AV×List Blk)
 | some r=>some ((AV.v (TV.one (At.flt .f32 r))),[])
 | none=>none
noncomputable def zq7:List PT→Option (Bool×AV×List Blk)
 | [.ptr [.row 1 q00 (.fl .f32 q04),.row 1 q02 (.fl .f32 q07),.row 1 q01 (.fl .f32 q08),.row 3 q0a (.fl .f32 q0e),.s (.int .i64 q0i),.s (.flt .f32 q0n),.s (.flt .f32 q0m)],.one (.s (.int .i64 i)),.one (.s (.flt .f32 q1s))]=>sP (zln q00 q04 q02 q07 q01 q08 q0a q0e q0i q0n q0m i q1s) (zq5 q00 q04 q02 q07 q01 q08 q0a q0e q0i q0n q0m i q1s) (zfx q00 q04 q02 q07 q01 q08 q0a q0e q0i q0n q0m i q1s)
 | _=>none
theorem y7r (q00:Nat) (q04:List Nat) (q02:Nat) (q07:List Nat) (q01:Nat) (q08:List Nat) (q0a:Nat) (q0e:List Nat) (q0i:Int) (q0n q0m:Nat) (i:Int) (q1s:Nat):ev8 Γ0 151 [.ptr [.row 1 q00 (.fl .f32 q04),.row 1 q02 (.fl .f32 q07),.row 1 q01 (.fl .f32 q08),.row 3 q0a (.fl .f32 q0e),.s (.int .i64 q0i),.s (.flt .f32 q0n),.s (.flt .f32 q0m)],.one (.s (.int .i64 i)),.one (.s (.flt .f32 q1s))]=(zq5 q00 q04 q02 q07 q01 q08 q0a q0e q0i q0n q0m i q1s) (zda q00 q04 q02 q07 q01 q08 q0a q0e q0i q0n q0m i q1s):=tr2 (y07 (zq5 q00 q04 q02 q07 q01 q08 q0a q0e q0i q0n q0m i q1s) rfl q00 q04 q02 q07 q01 q08 q0a q0e q0i q0n q0m i q1s (fun c0_=>some c0_)) (by kernel_rfl)
theorem y1s:SumOne J 151 zq7:=mk0 fun pts v news hp=>by
 unfold zq7 at hp
 split at hp
 ·rename_i q00 q04 q02 q07 q01 q08 q0a q0e q0i q0n q0m i q1s
  exact fin2 (y7r q00 q04 q02 q07 q01 q08 q0a q0e q0i q0n q0m i q1s) hp
 ·cases hp
def zj9 (q00:Nat) (q04:List Nat) (q02:Nat) (q07:List Nat) (q01:Nat) (q08:List Nat) (q0a:Nat) (q0e:List Nat) (q0i:Int) (q0n q0m:Nat) (i:Int):Option (Nat)→Option (AV×List Blk)
 | some r=>some ((AV.v (TV.one (At.flt .f32 r))),[])
 | none=>none
noncomputable def zk4:List PT→Option (Bool×AV×List Blk)
 | [.ptr [.row 1 q00 (.fl .f32 q04),.row 1 q02 (.fl .f32 q07),.row 1 q01 (.fl .f32 q08),.row 3 q0a (.fl .f32 q0e),.s (.int .i64 q0i),.s (.flt .f32 q0n),.s (.flt .f32 q0m)],.one (.s (.int .i64 i))]=>sP (zdg q00 q04 q02 q07 q01 q08 q0a q0e q0i q0n q0m i) (zj9 q00 q04 q02 q07 q01 q08 q0a q0e q0i q0n q0m i) (z8s q00 q04 q02 q07 q01 q08 q0a q0e q0i q0n q0m i)
 | _=>none
theorem zyq (q00:Nat) (q04:List Nat) (q02:Nat) (q07:List Nat) (q01:Nat) (q08:List Nat) (q0a:Nat) (q0e:List Nat) (q0i:Int) (q0n q0m:Nat) (i:Int):ev8 Γ0 152 [.ptr [.row 1 q00 (.fl .f32 q04),.row 1 q02 (.fl .f32 q07),.row 1 q01 (.fl .f32 q08),.row 3 q0a (.fl .f32 q0e),.s (.int .i64 q0i),.s (.flt .f32 q0n),.s (.flt .f32 q0m)],.one (.s (.int .i64 i))]=(zj9 q00 q04 q02 q07 q01 q08 q0a q0e q0i q0n q0m i) (z79 q00 q04 q02 q07 q01 q08 q0a q0e q0i q0n q0m i):=tr2 (zu5 (zj9 q00 q04 q02 q07 q01 q08 q0a q0e q0i q0n q0m i) rfl q00 q04 q02 q07 q01 q08 q0a q0e q0i q0n q0m i (fun c0_=>some c0_)) (by kernel_rfl)
theorem zv0:SumOne J 152 zk4:=mk0 fun pts v news hp=>by
 unfold zk4 at hp
 split at hp
 ·rename_i q00 q04 q02 q07 q01 q08 q0a q0e q0i q0n q0m i
  exact fin2 (zyq q00 q04 q02 q07 q01 q08 q0a q0e q0i q0n q0m i) hp
 ·cases hp
def zvy  : Option (Nat)→Option (AV×List Blk)
 | some r=>some ((AV.v (TV.one (At.flt .f64 r))),[])
 | none=>none
noncomputable def zw6:List PT→Option (Bool×AV×List Blk)
 | []=>sP zn3 zvy zic
 | _=>none
theorem yc9  : ev8 Γ0 158 []=zvy (zkn):=tr2 (y5m zvy rfl  (fun c0_=>some c0_)) (by kernel_rfl)
theorem y7v:SumOne J 158 zw6:=mk0 fun pts v news hp=>by
 unfold zw6 at hp
 split at hp
 ·exact fin2 (yc9) hp
 ·cases hp
def zsj (a b q1r:Nat):Option (Nat)→Option (AV×List Blk)
 | some r=>some ((AV.v (TV.one (At.flt .f32 r))),[])
 | none=>none
noncomputable def zsk:List PT→Option (Bool×AV×List Blk)
 | [.one (.s (.flt .f32 a)),.one (.s (.flt .f32 b)),.one (.s (.flt .f32 q1r))]=>sP (zjp a b q1r) (zsj a b q1r) (zi2 a b q1r)
 | _=>none
theorem y8g (a b q1r:Nat):ev8 Γ0 162 [.one (.s (.flt .f32 a)),.one (.s (.flt .f32 b)),.one (.s (.flt .f32 q1r))]=(zsj a b q1r) (zj8 a b q1r):=tr2 (y1t (zsj a b q1r) rfl a b q1r (fun c0_=>some c0_)) (by kernel_rfl)
theorem y4k:SumOne J 162 zsk:=mk0 fun pts v news hp=>by
 unfold zsk at hp
 split at hp
 ·rename_i a b q1r
  exact fin2 (y8g a b q1r) hp
 ·cases hp
def zme (x:Nat):Option (Nat)→Option (AV×List Blk)
 | some r=>some ((AV.v (TV.one (At.flt .f32 r))),[])
 | none=>none
noncomputable def zmj:List PT→Option (Bool×AV×List Blk)
 | [.one (.s (.flt .f64 x))]=>sP (zc8 x) (zme x) (z7z x)
 | _=>none
theorem y34 (x:Nat):ev8 Γ0 163 [.one (.s (.flt .f64 x))]=(zme x) (z8y x):=tr2 (zvd (zme x) rfl x (fun c0_=>some c0_)) (by kernel_rfl)
theorem zxf:SumOne J 163 zmj:=mk0 fun pts v news hp=>by
 unfold zmj at hp
 split at hp
 ·rename_i x
  exact fin2 (y34 x) hp
 ·cases hp
def zw3 (x:Nat):Option (Nat)→Option (AV×List Blk)
 | some r=>some ((AV.v (TV.one (At.flt .f64 r))),[])
 | none=>none
noncomputable def zw0:List PT→Option (Bool×AV×List Blk)
 | [.one (.s (.flt .f64 x))]=>sP (zrl x) (zw3 x) (zph x)
 | _=>none
theorem ycm (x:Nat):ev8 Γ0 168 [.one (.s (.flt .f64 x))]=(zw3 x) (zks x):=tr2 (y5g (zw3 x) rfl x (fun c0_=>some c0_)) (by kernel_rfl)
theorem y7k:SumOne J 168 zw0:=mk0 fun pts v news hp=>by
 unfold zw0 at hp
 split at hp
 ·rename_i x
  exact fin2 (ycm x) hp
 ·cases hp
noncomputable def tb1:List (Nat×(List PT→Option (Bool×AV×List Blk))):=(52,zpw)::(65,znj)::(68,zry)::(69,zqq)::(84,zmm)::(134,zny)::(142,zgm)::(151,zq7)::(152,zk4)::(158,zw6)::(162,zsk)::(163,zmj)::(168,zw0)::tb0
noncomputable def lt1:List ((Nat×Nat)×(Nat→St→Option (Bool×LO))):=lt0
noncomputable def Γ1:Ctx:=⟨tyTab,fnTab,tblSum tb1,tblLp lt1⟩
theorem y9x:SumL J tb1:=SumL.cons y1k (SumL.cons zyc (SumL.cons y4j (SumL.cons y2f (SumL.cons zxd (SumL.cons zy2 (SumL.cons zru (SumL.cons y1s (SumL.cons zv0 (SumL.cons y7v (SumL.cons y4k (SumL.cons zxf (SumL.cons y7k (ydd)))))))))))))
theorem ya0:LpL J fnTab lt1:=ydk
theorem mk1 {g:FuncId} {F:List PT→Option (Bool×AV×List Blk)} (h:∀ pts v news,F pts=some (true,v,news)→ev8 Γ1 g pts=some (v,news)):SumOne J g F:=z59 (Γ:=Γ1) (fuel:=8) (d:=8) tyTab_ok (FnL.ok fnTab_ok _ _) (LpL.ok ya0) (SumL.ok y9x _) mixed fun pts v news hp _=>h pts v news hp
def zos (x:Nat):Option (Nat×Bool)→Option (AV×List Blk)
 | some r=>some ((AV.tup [(TV.one (At.flt .f32 r.1)),(TV.one (At.bool r.2))]),[])
 | none=>none
noncomputable def zoy:List PT→Option (Bool×AV×List Blk)
 | [.one (.s (.flt .f32 x))]=>sP (zkp x) (zos x) (zj3 x,zj1 x)
 | _=>none
theorem y69 (x:Nat):ev8 Γ1 59 [.one (.s (.flt .f32 x))]=(zos x) (z97 x):=tr2 (zyt (zos x) rfl x (fun c0_ c1_=>some (c0_,c1_))) (by kernel_rfl)
theorem zzv:SumOne J 59 zoy:=mk1 fun pts v news hp=>by
 unfold zoy at hp
 split at hp
 ·rename_i x
  exact fin2 (y69 x) hp
 ·cases hp
def zn8 (x:Nat):Option (Bool)→Option (AV×List Blk)
 | some r=>some ((AV.v (TV.one (At.bool r))),[])
 | none=>none
noncomputable def zng:List PT→Option (Bool×AV×List Blk)
 | [.one (.s (.flt .f32 x))]=>sP (z7x x) (zn8 x) (z71 x)
 | _=>none
theorem y4t (x:Nat):ev8 Γ1 83 [.one (.s (.flt .f32 x))]=(zn8 x) (z9u x):=tr2 (zwz (zn8 x) rfl x (fun c0_=>some c0_)) (by kernel_rfl)
theorem zyf:SumOne J 83 zng:=mk1 fun pts v news hp=>by
 unfold zng at hp
 split at hp
 ·rename_i x
  exact fin2 (y4t x) hp
 ·cases hp
def zp0 (x:Nat):Option (Bool)→Option (AV×List Blk)
 | some r=>some ((AV.v (TV.one (At.bool r))),[])
 | none=>none
noncomputable def zp5:List PT→Option (Bool×AV×List Blk)
 | [.one (.s (.flt .f32 x))]=>sP (zgu x) (zp0 x) (zdo x)
 | _=>none
theorem y5k (x:Nat):ev8 Γ1 90 [.one (.s (.flt .f32 x))]=(zp0 x) (zbl x):=tr2 (zzg (zp0 x) rfl x (fun c0_=>some c0_)) (by kernel_rfl)
theorem y0h:SumOne J 90 zp5:=mk1 fun pts v news hp=>by
 unfold zp5 at hp
 split at hp
 ·rename_i x
  exact fin2 (y5k x) hp
 ·cases hp
def zh9 (x:Nat):Option (Bool)→Option (AV×List Blk)
 | some r=>some ((AV.v (TV.one (At.bool r))),[])
 | none=>none
noncomputable def zhl:List PT→Option (Bool×AV×List Blk)
 | [.one (.s (.flt .f32 x))]=>sP (zar x) (zh9 x) (z9v x)
 | _=>none
theorem zw5 (x:Nat):ev8 Γ1 115 [.one (.s (.flt .f32 x))]=(zh9 x) (z64 x):=tr2 (zs1 (zh9 x) rfl x (fun c0_=>some c0_)) (by kernel_rfl)
theorem zsu:SumOne J 115 zhl:=mk1 fun pts v news hp=>by
 unfold zhl at hp
 split at hp
 ·rename_i x
  exact fin2 (zw5 x) hp
 ·cases hp
def zn9 (x:Nat):Option (Bool)→Option (AV×List Blk)
 | some r=>some ((AV.v (TV.one (At.bool r))),[])
 | none=>none
noncomputable def znr:List PT→Option (Bool×AV×List Blk)
 | [.one (.s (.flt .f32 x))]=>sP (z6e x) (zn9 x) (z5q x)
 | _=>none
theorem y3m (x:Nat):ev8 Γ1 121 [.one (.s (.flt .f32 x))]=(zn9 x) (za5 x):=tr2 (zx8 (zn9 x) rfl x (fun c0_=>some c0_)) (by kernel_rfl)
theorem zz6:SumOne J 121 znr:=mk1 fun pts v news hp=>by
 unfold znr at hp
 split at hp
 ·rename_i x
  exact fin2 (y3m x) hp
 ·cases hp
def zni (q00:Nat) (q04:List Nat) (q02:Nat) (q07:List Nat) (q01:Nat) (q08:List Nat) (q0a:Nat) (q0e:List Nat) (q0i:Int) (q0n q0m:Nat) (i:Int) (q0o:Nat):Option (Bool)→Option (AV×List Blk)
 | some r=>some ((AV.v (TV.one (At.bool r))),[])
 | none=>none
noncomputable def znf:List PT→Option (Bool×AV×List Blk)
 | [.ptr [.row 1 q00 (.fl .f32 q04),.row 1 q02 (.fl .f32 q07),.row 1 q01 (.fl .f32 q08),.row 3 q0a (.fl .f32 q0e),.s (.int .i64 q0i),.s (.flt .f32 q0n),.s (.flt .f32 q0m)],.one (.s (.int .i64 i)),.one (.s (.flt .f32 q0o))]=>sP (zj4 q00 q04 q02 q07 q01 q08 q0a q0e q0i q0n q0m i q0o) (zni q00 q04 q02 q07 q01 q08 q0a q0e q0i q0n q0m i q0o) (zhm q00 q04 q02 q07 q01 q08 q0a q0e q0i q0n q0m i q0o)
 | _=>none
theorem y3a (q00:Nat) (q04:List Nat) (q02:Nat) (q07:List Nat) (q01:Nat) (q08:List Nat) (q0a:Nat) (q0e:List Nat) (q0i:Int) (q0n q0m:Nat) (i:Int) (q0o:Nat):ev8 Γ1 128 [.ptr [.row 1 q00 (.fl .f32 q04),.row 1 q02 (.fl .f32 q07),.row 1 q01 (.fl .f32 q08),.row 3 q0a (.fl .f32 q0e),.s (.int .i64 q0i),.s (.flt .f32 q0n),.s (.flt .f32 q0m)],.one (.s (.int .i64 i)),.one (.s (.flt .f32 q0o))]=(zni q00 q04 q02 q07 q01 q08 q0a q0e q0i q0n q0m i q0o) (za3 q00 q04 q02 q07 q01 q08 q0a q0e q0i q0n q0m i q0o):=tr2 (zxe (zni q00 q04 q02 q07 q01 q08 q0a q0e q0i q0n q0m i q0o) rfl q00 q04 q02 q07 q01 q08 q0a q0e q0i q0n q0m i q0o (fun c0_=>some c0_)) (by kernel_rfl)
theorem zzm:SumOne J 128 znf:=mk1 fun pts v news hp=>by
 unfold znf at hp
 split at hp
 ·rename_i q00 q04 q02 q07 q01 q08 q0a q0e q0i q0n q0m i q0o
  exact fin2 (y3a q00 q04 q02 q07 q01 q08 q0a q0e q0i q0n q0m i q0o) hp
 ·cases hp
def zqf (x y:Nat):Option (Nat×Nat×Bool)→Option (AV×List Blk)
 | some r=>some ((AV.tup [(TV.one (At.flt .f32 r.1)),(TV.one (At.flt .f32 r.2.1)),(TV.one (At.bool r.2.2))]),[])
 | none=>none
noncomputable def zqm:List PT→Option (Bool×AV×List Blk)
 | [.one (.s (.flt .f32 x)),.one (.s (.flt .f32 y))]=>sP (zi9 x y) (zqf x y) (zbo x y,zbm x y,zbs x y)
 | _=>none
theorem y7l (x y:Nat):ev8 Γ1 131 [.one (.s (.flt .f32 x)),.one (.s (.flt .f32 y))]=(zqf x y) (z8e x y):=tr2 (zzw (zqf x y) rfl x y (fun c0_ c1_ c2_=>some (c0_,c1_,c2_))) (by kernel_rfl)
theorem y1q:SumOne J 131 zqm:=mk1 fun pts v news hp=>by
 unfold zqm at hp
 split at hp
 ·rename_i x y
  exact fin2 (y7l x y) hp
 ·cases hp
def zk2 (x:Nat):Option (Bool)→Option (AV×List Blk)
 | some r=>some ((AV.v (TV.one (At.bool r))),[])
 | none=>none
noncomputable def zja:List PT→Option (Bool×AV×List Blk)
 | [.one (.s (.flt .f32 x))]=>sP (zdm x) (zk2 x) (zci x)
 | _=>none
theorem zz9 (x:Nat):ev8 Γ1 153 [.one (.s (.flt .f32 x))]=(zk2 x) (z77 x):=tr2 (ztv (zk2 x) rfl x (fun c0_=>some c0_)) (by kernel_rfl)
theorem zva:SumOne J 153 zja:=mk1 fun pts v news hp=>by
 unfold zja at hp
 split at hp
 ·rename_i x
  exact fin2 (zz9 x) hp
 ·cases hp
def zep (q00:Nat) (q04:List Nat) (q02:Nat) (q07:List Nat) (q01:Nat) (q08:List Nat) (q0a:Nat) (q0e:List Nat) (q0i:Int) (q0n q0m:Nat) (i:Int):Option (Bool)→Option (AV×List Blk)
 | some r=>some ((AV.v (TV.one (At.bool r))),[])
 | none=>none
noncomputable def zeq:List PT→Option (Bool×AV×List Blk)
 | [.agg [.row 1 q00 (.fl .f32 q04),.row 1 q02 (.fl .f32 q07),.row 1 q01 (.fl .f32 q08),.row 3 q0a (.fl .f32 q0e),.s (.int .i64 q0i),.s (.flt .f32 q0n),.s (.flt .f32 q0m)],.one (.s (.int .i64 i))]=>sP (z9f q00 q04 q02 q07 q01 q08 q0a q0e q0i q0n q0m i) (zep q00 q04 q02 q07 q01 q08 q0a q0e q0i q0n q0m i) (z8j q00 q04 q02 q07 q01 q08 q0a q0e q0i q0n q0m i)
 | _=>none
theorem zu1 (q00:Nat) (q04:List Nat) (q02:Nat) (q07:List Nat) (q01:Nat) (q08:List Nat) (q0a:Nat) (q0e:List Nat) (q0i:Int) (q0n q0m:Nat) (i:Int):ev8 Γ1 155 [.agg [.row 1 q00 (.fl .f32 q04),.row 1 q02 (.fl .f32 q07),.row 1 q01 (.fl .f32 q08),.row 3 q0a (.fl .f32 q0e),.s (.int .i64 q0i),.s (.flt .f32 q0n),.s (.flt .f32 q0m)],.one (.s (.int .i64 i))]=(zep q00 q04 q02 q07 q01 q08 q0a q0e q0i q0n q0m i) (z4t q00 q04 q02 q07 q01 q08 q0a q0e q0i q0n q0m i):=tr2 (zqc (zep q00 q04 q02 q07 q01 q08 q0a q0e q0i q0n q0m i) rfl q00 q04 q02 q07 q01 q08 q0a q0e q0i q0n q0m i (fun c0_=>some c0_)) (by kernel_rfl)
theorem zrb:SumOne J 155 zeq:=mk1 fun pts v news hp=>by
 unfold zeq at hp
 split at hp
 ·rename_i q00 q04 q02 q07 q01 q08 q0a q0e q0i q0n q0m i
  exact fin2 (zu1 q00 q04 q02 q07 q01 q08 q0a q0e q0i q0n q0m i) hp
 ·cases hp
def zpx (q16:Nat):Option (Bool)→Option (AV×List Blk)
 | some r=>some ((AV.v (TV.one (At.bool r))),[])
 | none=>none
noncomputable def zql:List PT→Option (Bool×AV×List Blk)
 | [.one (.s (.flt .f32 q16))]=>sP (zlv q16) (zpx q16) (zkz q16)
 | _=>none
theorem y7e (q16:Nat):ev8 Γ1 156 [.one (.s (.flt .f32 q16))]=(zpx q16) (zdb q16):=tr2 (y04 (zpx q16) rfl q16 (fun c0_=>some c0_)) (by kernel_rfl)
theorem y1n:SumOne J 156 zql:=mk1 fun pts v news hp=>by
 unfold zql at hp
 split at hp
 ·rename_i q16
  exact fin2 (y7e q16) hp
 ·cases hp
def zq6 (x:Nat):Option (Bool)→Option (AV×List Blk)
 | some r=>some ((AV.v (TV.one (At.bool r))),[])
 | none=>none
noncomputable def zqb:List PT→Option (Bool×AV×List Blk)
 | [.one (.s (.flt .f64 x))]=>sP (zlx x) (zq6 x) (zkv x)
 | _=>none
theorem y7p (x:Nat):ev8 Γ1 159 [.one (.s (.flt .f64 x))]=(zq6 x) (zd6 x):=tr2 (y03 (zq6 x) rfl x (fun c0_=>some c0_)) (by kernel_rfl)
theorem y2d:SumOne J 159 zqb:=mk1 fun pts v news hp=>by
 unfold zqb at hp
 split at hp
 ·rename_i x
  exact fin2 (y7p x) hp
 ·cases hp
def z63 (sn:Nat) (v:Bool) (t7 t8:Int) (b0:List Bool):St:=(St.mk [(0,(AV.v (TV.one (At.vw 0 0 sn 1)))),(1,(AV.v (TV.one (At.bool v)))),(7,(AV.v (TV.one (At.int .i64 t7)))),(8,(AV.v (TV.one (At.int .i64 t8))))] [(Blk.mk Bool.false (Body.bl b0))])
def z5n (sn:Nat) (v:Bool) (t7:Int) (b0:List Bool) (c0_:Int):St:=(St.mk [(4,(AV.v (TV.one (At.int .i64 c0_))))] [(Blk.mk Bool.false (Body.bl b0))])
def z5m (sn:Nat) (v:Bool) (t7:Int) (b0:List Bool) (c0_:Int) (c1_:Bool):St:=(St.mk [(0,(AV.v (TV.one (At.vw 0 0 sn 1)))),(1,(AV.v (TV.one (At.bool v)))),(7,(AV.v (TV.one (At.int .i64 t7)))),(8,(AV.v (TV.one (At.int .i64 c0_)))),(9,(AV.v (TV.one (At.bool c1_))))] [(Blk.mk Bool.false (Body.bl b0))])
noncomputable def zdx (sn:Nat) (v:Bool) (t7 t8:Int) (b0:List Bool):Bool×LO:=((z36 sn v t7 b0 t8),(LO.two (z2u sn v t7 b0 t8) (LO.one Ex.ret (z5n sn v t7 b0 (z4s sn v t7 b0 t8))) (LO.one (Ex.exit 0) (z5m sn v t7 b0 (z7j sn v t7 b0 t8) (z7i sn v t7 b0 t8)))))
noncomputable def zg2:Nat→St→Option (Bool×LO):=lpT 1 (pSt [(pTm 0 (pV (pOne (pVw 0 (liN 0) 1)))),(pTm 1 (pV (pOne pBool))),(pTm 7 (pV (pOne (pInt .i64)))),(pTm 8 (pV (pOne (pInt .i64))))] [(pBlk Bool.false pBl)]) (fun hs=>zdx (hvN (hGet hs 0)) (hvB (hGet hs 1)) (hvI (hGet hs 2)) (hvI (hGet hs 3)) (hvLb (hGet hs 4)))
def z4d (sn:Nat) (v:Bool) (t7:Int) (b0:List Bool):Option ((Int)⊕(Int×Bool))→Option (Ex×St)
 | none=>none
 | some (Sum.inl r)=>some (Ex.ret,(z5n sn v t7 b0 r))
 | some (Sum.inr r)=>some ((Ex.exit 0),(z5m sn v t7 b0 r.1 r.2))
def zo6 (sn:Nat) (v:Bool) (t7:Int) (b0:List Bool) (x:Option ((Int)⊕(Int×Bool))):LO:=(LO.two (oL x) (LO.one Ex.ret (z5n sn v t7 b0 ((tL x).getD default))) (LO.one (Ex.exit 0) (z5m sn v t7 b0 ((tR x).getD default).1 ((tR x).getD default).2)))
theorem zp7 (sn:Nat) (v:Bool) (t7:Int) (b0:List Bool):∀ x:Option ((Int)⊕(Int×Bool)),x.isSome=true→(z4d sn v t7 b0) x=some (pick (zo6 sn v t7 b0 x))
 | none,h=>by cases h
 | some (Sum.inl r),_=>rfl
 | some (Sum.inr r),_=>rfl
theorem zor (sn:Nat) (v:Bool) (t7 t8:Int) (b0:List Bool) (K:Ex→St→Option (Ex×St)):ev9 Γ1 113 2 1 fi113 (z63 sn v t7 t8 b0) K=z16 sn v t7 b0 t8 (fun t8'=>K .normal (z63 sn v t7 t8' b0)) (fun c0_=>K Ex.ret (z5n sn v t7 b0 c0_)) (fun c0_ c1_=>K (Ex.exit 0) (z5m sn v t7 b0 c0_ c1_)):=by kernel_rfl
theorem zox (sn:Nat) (v:Bool) (t7:Int) (b0:List Bool):∀ (n:Nat) (t8:Int),iter 113 2 1 (ev9 Γ1 113 2 1 fi113) n (z63 sn v t7 t8 b0) (fun e st=>some (e,st))=(z4d sn v t7 b0) (z0b sn v t7 b0 n t8):=by
 intro n
 induction n with
 | zero=>intros;rfl
 | succ n ih=>
  intro t8
  refine Eq.trans (z4y ..) (Eq.trans (zor sn v t7 t8 b0 _) (Eq.trans ?_ (zm1 (z4d sn v t7 b0) rfl sn v t7 b0 t8 (fun t8'=>z0b sn v t7 b0 n t8') (fun c0_=>some (Sum.inl c0_)) (fun c0_ c1_=>some (Sum.inr (c0_,c1_))))))
  exact congrArg (fun kn_=>z16 sn v t7 b0 t8 kn_ (fun c0_=>(z4d sn v t7 b0) (some (Sum.inl c0_))) (fun c0_ c1_=>(z4d sn v t7 b0) (some (Sum.inr (c0_,c1_))))) (funext fun t8'=>ih t8')
theorem zmz:LoopOne J fnTab 113 2 zg2:=lp_of (Γ:=Γ1) tyTab_ok (FnL.ok fnTab_ok _ _) (LpL.ok ya0) (SumL.ok y9x _) mixed (fi:=fi113) (by kernel_rfl) (by kernel_rfl) (by
 intro lo st out hp
 obtain⟨hs,e1,e2,e3⟩:=z8d hp
 clear hp
 obtain rfl:st=(z63 (hvN (hGet hs 0)) (hvB (hGet hs 1)) (hvI (hGet hs 2)) (hvI (hGet hs 3)) (hvLb (hGet hs 4))):=e2.trans (by kernel_rfl)
 clear e2
 subst e1
 unfold zdx at e3
 injection e3 with h1 h2
 subst h2
 exact⟨8,8,big,Eq.trans (zox (hvN (hGet hs 0)) (hvB (hGet hs 1)) (hvI (hGet hs 2)) (hvLb (hGet hs 4)) big (hvI (hGet hs 3))) (zp7 (hvN (hGet hs 0)) (hvB (hGet hs 1)) (hvI (hGet hs 2)) (hvLb (hGet hs 4)) _ h1)⟩)
noncomputable def tb2:List (Nat×(List PT→Option (Bool×AV×List Blk))):=(59,zoy)::(83,zng)::(90,zp5)::(115,zhl)::(121,znr)::(128,znf)::(131,zqm)::(153,zja)::(155,zeq)::(156,zql)::(159,zqb)::tb1
noncomputable def lt2:List ((Nat×Nat)×(Nat→St→Option (Bool×LO))):=((113,2),zg2)::lt1
noncomputable def Γ2:Ctx:=⟨tyTab,fnTab,tblSum tb2,tblLp lt2⟩
theorem y3z:SumL J tb2:=SumL.cons zzv (SumL.cons zyf (SumL.cons y0h (SumL.cons zsu (SumL.cons zz6 (SumL.cons zzm (SumL.cons y1q (SumL.cons zva (SumL.cons zrb (SumL.cons y1n (SumL.cons y2d (y9x)))))))))))
theorem y46:LpL J fnTab lt2:=LpL.cons zmz (ya0)
theorem mk2 {g:FuncId} {F:List PT→Option (Bool×AV×List Blk)} (h:∀ pts v news,F pts=some (true,v,news)→ev8 Γ2 g pts=some (v,news)):SumOne J g F:=z59 (Γ:=Γ2) (fuel:=8) (d:=8) tyTab_ok (FnL.ok fnTab_ok _ _) (LpL.ok y46) (SumL.ok y3z _) mixed fun pts v news hp _=>h pts v news hp
def zb9 (s_n:Nat) (s:List Bool) (v:Bool):Option (Int)→Option (AV×List Blk)
 | some r=>some ((AV.v (TV.one (At.int .i64 r))),[])
 | none=>none
noncomputable def zba:List PT→Option (Bool×AV×List Blk)
 | [.one (.row 1 s_n (.bl s)),.one (.s (.bool v))]=>sP (z7h s_n s v) (zb9 s_n s v) (z6s s_n s v)
 | _=>none
theorem zr4 (s_n:Nat) (s:List Bool) (v:Bool):ev8 Γ2 113 [.one (.row 1 s_n (.bl s)),.one (.s (.bool v))]=(zb9 s_n s v) (z43 s_n s v):=tr2 (zo8 (zb9 s_n s v) rfl s_n s v (fun c0_=>some c0_)) (by kernel_rfl)
theorem zp9:SumOne J 113 zba:=mk2 fun pts v news hp=>by
 unfold zba at hp
 split at hp
 ·rename_i s_n s v
  exact fin2 (zr4 s_n s v) hp
 ·cases hp
def zl9 (x:Nat):Option (Bool)→Option (AV×List Blk)
 | some r=>some ((AV.v (TV.one (At.bool r))),[])
 | none=>none
noncomputable def zld:List PT→Option (Bool×AV×List Blk)
 | [.one (.s (.flt .f32 x))]=>sP (zfq x) (zl9 x) (zdw x)
 | _=>none
theorem y0u (x:Nat):ev8 Γ2 154 [.one (.s (.flt .f32 x))]=(zl9 x) (z88 x):=tr2 (zvb (zl9 x) rfl x (fun c0_=>some c0_)) (by kernel_rfl)
theorem zwm:SumOne J 154 zld:=mk2 fun pts v news hp=>by
 unfold zld at hp
 split at hp
 ·rename_i x
  exact fin2 (y0u x) hp
 ·cases hp
def zsq (x:Nat):Option (Nat)→Option (AV×List Blk)
 | some r=>some ((AV.v (TV.one (At.flt .f64 r))),[])
 | none=>none
noncomputable def zrv:List PT→Option (Bool×AV×List Blk)
 | [.one (.s (.flt .f64 x))]=>sP (znw x) (zsq x) (zac x)
 | _=>none
theorem y9o (x:Nat):ev8 Γ2 174 [.one (.s (.flt .f64 x))]=(zsq x) (zgw x):=tr2 (y1i (zsq x) rfl x (fun c0_=>some c0_)) (by kernel_rfl)
theorem y4b:SumOne J 174 zrv:=mk2 fun pts v news hp=>by
 unfold zrv at hp
 split at hp
 ·rename_i x
  exact fin2 (y9o x) hp
 ·cases hp
def zcl (an bn:Nat) (i:Int) (b0 b1:List Nat):St:=(St.mk [(0,(AV.v (TV.one (At.vw 0 0 an 1)))),(1,(AV.v (TV.one (At.vw 1 0 bn 1)))),(5,(AV.v (TV.one (At.int .i64 i))))] [(Blk.mk Bool.false (Body.fl .f32 b0)),(Blk.mk Bool.false (Body.fl .f32 b1))])
def zbd (an bn:Nat) (b0 b1:List Nat):St:=(St.mk [(4,(AV.v (TV.one (At.bool Bool.false))))] [(Blk.mk Bool.false (Body.fl .f32 b0)),(Blk.mk Bool.false (Body.fl .f32 b1))])
def zaz (an bn:Nat) (b0 b1:List Nat) (c0_:Int) (c1_:Bool):St:=(St.mk [(0,(AV.v (TV.one (At.vw 0 0 an 1)))),(1,(AV.v (TV.one (At.vw 1 0 bn 1)))),(5,(AV.v (TV.one (At.int .i64 c0_)))),(14,(AV.v (TV.one (At.bool c1_))))] [(Blk.mk Bool.false (Body.fl .f32 b0)),(Blk.mk Bool.false (Body.fl .f32 b1))])
noncomputable def zmv (an bn:Nat) (i:Int) (b0 b1:List Nat):Bool×LO:=((zcq an bn b0 b1 i),(LO.two (zav an bn b0 b1 i) (LO.one Ex.ret (zbd an bn b0 b1)) (LO.one (Ex.exit 0) (zaz an bn b0 b1 (zey an bn b0 b1 i) (zf6 an bn b0 b1 i)))))
noncomputable def zof:Nat→St→Option (Bool×LO):=lpT 2 (pSt [(pTm 0 (pV (pOne (pVw 0 (liN 0) 1)))),(pTm 1 (pV (pOne (pVw 1 (liN 0) 1)))),(pTm 5 (pV (pOne (pInt .i64))))] [(pBlk Bool.false (pFl .f32)),(pBlk Bool.false (pFl .f32))]) (fun hs=>zmv (hvN (hGet hs 0)) (hvN (hGet hs 1)) (hvI (hGet hs 2)) (hvLn (hGet hs 3)) (hvLn (hGet hs 4)))
def z8o (an bn:Nat) (b0 b1:List Nat):Option ((Unit)⊕(Int×Bool))→Option (Ex×St)
 | none=>none
 | some (Sum.inl r)=>some (Ex.ret,(zbd an bn b0 b1))
 | some (Sum.inr r)=>some ((Ex.exit 0),(zaz an bn b0 b1 r.1 r.2))
def zvp (an bn:Nat) (b0 b1:List Nat) (x:Option ((Unit)⊕(Int×Bool))):LO:=(LO.two (oL x) (LO.one Ex.ret (zbd an bn b0 b1)) (LO.one (Ex.exit 0) (zaz an bn b0 b1 ((tR x).getD default).1 ((tR x).getD default).2)))
theorem zxq (an bn:Nat) (b0 b1:List Nat):∀ x:Option ((Unit)⊕(Int×Bool)),x.isSome=true→(z8o an bn b0 b1) x=some (pick (zvp an bn b0 b1 x))
 | none,h=>by cases h
 | some (Sum.inl r),_=>rfl
 | some (Sum.inr r),_=>rfl
theorem zx3 (an bn:Nat) (i:Int) (b0 b1:List Nat) (K:Ex→St→Option (Ex×St)):ev9 Γ2 31 4 2 fi31 (zcl an bn i b0 b1) K=z3i an bn b0 b1 i (fun i'=>K .normal (zcl an bn i' b0 b1)) (fun _=>K Ex.ret (zbd an bn b0 b1)) (fun c0_ c1_=>K (Ex.exit 0) (zaz an bn b0 b1 c0_ c1_)):=by kernel_rfl
theorem zxn (an bn:Nat) (b0 b1:List Nat):∀ (n:Nat) (i:Int),iter 31 4 2 (ev9 Γ2 31 4 2 fi31) n (zcl an bn i b0 b1) (fun e st=>some (e,st))=(z8o an bn b0 b1) (z1v an bn b0 b1 n i):=by
 intro n
 induction n with
 | zero=>intros;rfl
 | succ n ih=>
  intro i
  refine Eq.trans (z4y ..) (Eq.trans (zx3 an bn i b0 b1 _) (Eq.trans ?_ (zsz (z8o an bn b0 b1) rfl an bn b0 b1 i (fun i'=>z1v an bn b0 b1 n i') (fun _=>some (Sum.inl ())) (fun c0_ c1_=>some (Sum.inr (c0_,c1_))))))
  exact congrArg (fun kn_=>z3i an bn b0 b1 i kn_ (fun _=>(z8o an bn b0 b1) (some (Sum.inl ()))) (fun c0_ c1_=>(z8o an bn b0 b1) (some (Sum.inr (c0_,c1_))))) (funext fun i'=>ih i')
theorem zu6:LoopOne J fnTab 31 4 zof:=lp_of (Γ:=Γ2) tyTab_ok (FnL.ok fnTab_ok _ _) (LpL.ok y46) (SumL.ok y3z _) mixed (fi:=fi31) (by kernel_rfl) (by kernel_rfl) (by
 intro lo st out hp
 obtain⟨hs,e1,e2,e3⟩:=z8d hp
 clear hp
 obtain rfl:st=(zcl (hvN (hGet hs 0)) (hvN (hGet hs 1)) (hvI (hGet hs 2)) (hvLn (hGet hs 3)) (hvLn (hGet hs 4))):=e2.trans (by kernel_rfl)
 clear e2
 subst e1
 unfold zmv at e3
 injection e3 with h1 h2
 subst h2
 exact⟨8,8,big,Eq.trans (zxn (hvN (hGet hs 0)) (hvN (hGet hs 1)) (hvLn (hGet hs 3)) (hvLn (hGet hs 4)) big (hvI (hGet hs 2))) (zxq (hvN (hGet hs 0)) (hvN (hGet hs 1)) (hvLn (hGet hs 3)) (hvLn (hGet hs 4)) _ h1)⟩)
def z9c (t4:Bool) (t5 t6 t7:Nat) (t8:Int):St:=(St.mk [(4,(AV.v (TV.one (At.bool t4)))),(5,(AV.v (TV.one (At.flt .f64 t5)))),(6,(AV.v (TV.one (At.flt .f64 t6)))),(7,(AV.v (TV.one (At.flt .f64 t7)))),(8,(AV.v (TV.one (At.int .i64 t8))))] [])
def z8h (t4:Bool) (t5 t6 c0_:Nat) (c1_:Int) (c2_:Bool):St:=(St.mk [(4,(AV.v (TV.one (At.bool t4)))),(5,(AV.v (TV.one (At.flt .f64 t5)))),(6,(AV.v (TV.one (At.flt .f64 t6)))),(7,(AV.v (TV.one (At.flt .f64 c0_)))),(8,(AV.v (TV.one (At.int .i64 c1_)))),(44,(AV.v (TV.one (At.bool c2_))))] [])
noncomputable def zjd (t4:Bool) (t5 t6 t7:Nat) (t8:Int):Bool×LO:=((z15 t6 t7 t8),(LO.one (Ex.exit 0) (z8h t4 t5 t6 (z0a t6 t7 t8) (zb6 t6 t7 t8) (zay t6 t7 t8))))
noncomputable def zli:Nat→St→Option (Bool×LO):=lpT 0 (pSt [(pTm 4 (pV (pOne pBool))),(pTm 5 (pV (pOne (pFlt .f64)))),(pTm 6 (pV (pOne (pFlt .f64)))),(pTm 7 (pV (pOne (pFlt .f64)))),(pTm 8 (pV (pOne (pInt .i64))))] []) (fun hs=>zjd (hvB (hGet hs 0)) (hvN (hGet hs 1)) (hvN (hGet hs 2)) (hvN (hGet hs 3)) (hvI (hGet hs 4)))
def z9d (t4:Bool) (t5 t6:Nat):Option ((Nat×Int×Bool))→Option (Ex×St)
 | none=>none
 | some r=>some ((Ex.exit 0),(z8h t4 t5 t6 r.1 r.2.1 r.2.2))
def zsx (t4:Bool) (t5 t6:Nat) (x:Option ((Nat×Int×Bool))):LO:=(LO.one (Ex.exit 0) (z8h t4 t5 t6 (x.getD default).1 (x.getD default).2.1 (x.getD default).2.2))
theorem zts (t4:Bool) (t5 t6:Nat):∀ x:Option ((Nat×Int×Bool)),x.isSome=true→(z9d t4 t5 t6) x=some (pick (zsx t4 t5 t6 x))
 | none,h=>by cases h
 | some r,_=>rfl
theorem zty (t4:Bool) (t5 t6 t7:Nat) (t8:Int) (K:Ex→St→Option (Ex×St)):ev9 Γ2 164 17 0 fi164 (z9c t4 t5 t6 t7 t8) K=z27 t6 t7 t8 (fun t7' t8'=>K .normal (z9c t4 t5 t6 t7' t8')) (fun c0_ c1_ c2_=>K (Ex.exit 0) (z8h t4 t5 t6 c0_ c1_ c2_)):=by kernel_rfl
theorem ztr (t4:Bool) (t5 t6:Nat):∀ (n t7:Nat) (t8:Int),iter 164 17 0 (ev9 Γ2 164 17 0 fi164) n (z9c t4 t5 t6 t7 t8) (fun e st=>some (e,st))=(z9d t4 t5 t6) (z0q t6 n t7 t8):=by
 intro n
 induction n with
 | zero=>intros;rfl
 | succ n ih=>
  intro t7 t8
  refine Eq.trans (z4y ..) (Eq.trans (zty t4 t5 t6 t7 t8 _) (Eq.trans ?_ (zq1 (z9d t4 t5 t6) rfl t6 t7 t8 (fun t7' t8'=>z0q t6 n t7' t8') (fun c0_ c1_ c2_=>some (c0_,c1_,c2_)))))
  exact congrArg (fun kn_=>z27 t6 t7 t8 kn_ (fun c0_ c1_ c2_=>(z9d t4 t5 t6) (some (c0_,c1_,c2_)))) (funext fun t7'=>funext fun t8'=>ih t7' t8')
theorem zr3:LoopOne J fnTab 164 17 zli:=lp_of (Γ:=Γ2) tyTab_ok (FnL.ok fnTab_ok _ _) (LpL.ok y46) (SumL.ok y3z _) mixed (fi:=fi164) (by kernel_rfl) (by kernel_rfl) (by
 intro lo st out hp
 obtain⟨hs,e1,e2,e3⟩:=z8d hp
 clear hp
 obtain rfl:st=(z9c (hvB (hGet hs 0)) (hvN (hGet hs 1)) (hvN (hGet hs 2)) (hvN (hGet hs 3)) (hvI (hGet hs 4))):=e2.trans (by kernel_rfl)
 clear e2
 subst e1
 unfold zjd at e3
 injection e3 with h1 h2
 subst h2
 exact⟨8,8,big,Eq.trans (ztr (hvB (hGet hs 0)) (hvN (hGet hs 1)) (hvN (hGet hs 2)) big (hvN (hGet hs 3)) (hvI (hGet hs 4))) (zts (hvB (hGet hs 0)) (hvN (hGet hs 1)) (hvN (hGet hs 2)) _ h1)⟩)
noncomputable def tb3:List (Nat×(List PT→Option (Bool×AV×List Blk))):=(113,zba)::(154,zld)::(174,zrv)::tb2
noncomputable def lt3:List ((Nat×Nat)×(Nat→St→Option (Bool×LO))):=((31,4),zof)::((164,17),zli)::lt2
noncomputable def Γ3:Ctx:=⟨tyTab,fnTab,tblSum tb3,tblLp lt3⟩
theorem zy1:SumL J tb3:=SumL.cons zp9 (SumL.cons zwm (SumL.cons y4b (y3z)))
theorem zym:LpL J fnTab lt3:=LpL.cons zu6 (LpL.cons zr3 (y46))
theorem mk3 {g:FuncId} {F:List PT→Option (Bool×AV×List Blk)} (h:∀ pts v news,F pts=some (true,v,news)→ev8 Γ3 g pts=some (v,news)):SumOne J g F:=z59 (Γ:=Γ3) (fuel:=8) (d:=8) tyTab_ok (FnL.ok fnTab_ok _ _) (LpL.ok zym) (SumL.ok zy1 _) mixed fun pts v news hp _=>h pts v news hp
def zmn (a_n:Nat) (a:List Nat) (b_n:Nat) (b:List Nat):Option (Bool)→Option (AV×List Blk)
 | some r=>some ((AV.v (TV.one (At.bool r))),[])
 | none=>none
noncomputable def zm7:List PT→Option (Bool×AV×List Blk)
 | [.one (.row 1 a_n (.fl .f32 a)),.one (.row 1 b_n (.fl .f32 b))]=>sP (z3f a_n a b_n b) (zmn a_n a b_n b) (z2r a_n a b_n b)
 | _=>none
theorem y32 (a_n:Nat) (a:List Nat) (b_n:Nat) (b:List Nat):ev8 Γ3 31 [.one (.row 1 a_n (.fl .f32 a)),.one (.row 1 b_n (.fl .f32 b))]=(zmn a_n a b_n b) (z8v a_n a b_n b):=tr2 (zwf (zmn a_n a b_n b) rfl a_n a b_n b (fun c0_=>some c0_)) (by kernel_rfl)
theorem zx1:SumOne J 31 zm7:=mk3 fun pts v news hp=>by
 unfold zm7 at hp
 split at hp
 ·rename_i a_n a b_n b
  exact fin2 (y32 a_n a b_n b) hp
 ·cases hp
def z92 (s_n:Nat) (s:List Bool) (v:Bool):Option (Bool)→Option (AV×List Blk)
 | some r=>some ((AV.v (TV.one (At.bool r))),[])
 | none=>none
noncomputable def z8w:List PT→Option (Bool×AV×List Blk)
 | [.one (.row 1 s_n (.bl s)),.one (.s (.bool v))]=>sP (z34 s_n s v) (z92 s_n s v) (z2t s_n s v)
 | _=>none
theorem zon (s_n:Nat) (s:List Bool) (v:Bool):ev8 Γ3 58 [.one (.row 1 s_n (.bl s)),.one (.s (.bool v))]=(z92 s_n s v) (z37 s_n s v):=tr2 (zm6 (z92 s_n s v) rfl s_n s v (fun c0_=>some c0_)) (by kernel_rfl)
theorem zn1:SumOne J 58 z8w:=mk3 fun pts v news hp=>by
 unfold z8w at hp
 split at hp
 ·rename_i s_n s v
  exact fin2 (zon s_n s v) hp
 ·cases hp
def zju (q17:Nat):Option (Nat)→Option (AV×List Blk)
 | some r=>some ((AV.v (TV.one (At.flt .f64 r))),[])
 | none=>none
noncomputable def zji:List PT→Option (Bool×AV×List Blk)
 | [.one (.s (.flt .f64 q17))]=>sP (zdq q17) (zju q17) (z8u q17)
 | _=>none
theorem zzb (q17:Nat):ev8 Γ3 164 [.one (.s (.flt .f64 q17))]=(zju q17) (z3t q17):=tr2 (zti (zju q17) rfl q17 (fun c0_=>some c0_)) (by kernel_rfl)
theorem zun:SumOne J 164 zji:=mk3 fun pts v news hp=>by
 unfold zji at hp
 split at hp
 ·rename_i q17
  exact fin2 (zzb q17) hp
 ·cases hp
def zl5 (q1k:Nat):Option (Nat)→Option (AV×List Blk)
 | some r=>some ((AV.v (TV.one (At.flt .f64 r))),[])
 | none=>none
noncomputable def zlb:List PT→Option (Bool×AV×List Blk)
 | [.one (.s (.flt .f64 q1k))]=>sP (zfp q1k) (zl5 q1k) (z0c q1k)
 | _=>none
theorem y0o (q1k:Nat):ev8 Γ3 169 [.one (.s (.flt .f64 q1k))]=(zl5 q1k) (z7y q1k):=tr2 (zuf (zl5 q1k) rfl q1k (fun c0_=>some c0_)) (by kernel_rfl)
theorem zvn:SumOne J 169 zlb:=mk3 fun pts v news hp=>by
 unfold zlb at hp
 split at hp
 ·rename_i q1k
  exact fin2 (y0o q1k) hp
 ·cases hp
def ziz (t3 t4:Int) (b0 b1 b2:List Nat) (q1b q1g q1h:Nat):St:=(St.mk [(0,(AV.v (TV.one (At.ptr 3 0 3)))),(3,(AV.v (TV.one (At.int .i64 t3)))),(4,(AV.v (TV.one (At.int .i64 t4))))] [(Blk.mk Bool.false (Body.fl .f32 b0)),(Blk.mk Bool.false (Body.fl .f32 b1)),(Blk.mk Bool.false (Body.fl .f32 b2)),(Blk.mk Bool.false (Body.cells [(At.vw 0 0 q1b 1),(At.vw 1 0 q1g 1),(At.vw 2 0 q1h 1)]))])
def zha (t3:Int) (b0 b1 b2:List Nat) (q1b q1g q1h:Nat):St:=(St.mk [(2,(AV.v (TV.one (At.bool Bool.false))))] [(Blk.mk Bool.false (Body.fl .f32 b0)),(Blk.mk Bool.false (Body.fl .f32 b1)),(Blk.mk Bool.false (Body.fl .f32 b2)),(Blk.mk Bool.false (Body.cells [(At.vw 0 0 q1b 1),(At.vw 1 0 q1g 1),(At.vw 2 0 q1h 1)]))])
def zhi (t3:Int) (b0 b1 b2:List Nat) (q1b q1g q1h:Nat) (c0_:Int) (c1_:Bool):St:=(St.mk [(0,(AV.v (TV.one (At.ptr 3 0 3)))),(3,(AV.v (TV.one (At.int .i64 t3)))),(4,(AV.v (TV.one (At.int .i64 c0_)))),(36,(AV.v (TV.one (At.bool c1_))))] [(Blk.mk Bool.false (Body.fl .f32 b0)),(Blk.mk Bool.false (Body.fl .f32 b1)),(Blk.mk Bool.false (Body.fl .f32 b2)),(Blk.mk Bool.false (Body.cells [(At.vw 0 0 q1b 1),(At.vw 1 0 q1g 1),(At.vw 2 0 q1h 1)]))])
noncomputable def zqt (t3 t4:Int) (b0 b1 b2:List Nat) (q1b q1g q1h:Nat):Bool×LO:=((z6c t3 b0 b1 b2 q1b q1g q1h t4),(LO.two (z5t t3 b0 b1 b2 q1b q1g q1h t4) (LO.one Ex.ret (zha t3 b0 b1 b2 q1b q1g q1h)) (LO.one (Ex.exit 0) (zhi t3 b0 b1 b2 q1b q1g q1h (zk3 t3 b0 b1 b2 q1b q1g q1h t4) (zjn t3 b0 b1 b2 q1b q1g q1h t4)))))
noncomputable def ztb:Nat→St→Option (Bool×LO):=lpT 4 (pSt [(pTm 0 (pV (pOne (pPtr 3 (liN 0) 3)))),(pTm 3 (pV (pOne (pInt .i64)))),(pTm 4 (pV (pOne (pInt .i64))))] [(pBlk Bool.false (pFl .f32)),(pBlk Bool.false (pFl .f32)),(pBlk Bool.false (pFl .f32)),(pBlk Bool.false (pCells [(pVw 0 (liN 0) 1),(pVw 1 (liN 0) 1),(pVw 2 (liN 0) 1)]))]) (fun hs=>zqt (hvI (hGet hs 0)) (hvI (hGet hs 1)) (hvLn (hGet hs 2)) (hvLn (hGet hs 3)) (hvLn (hGet hs 4)) (hvN (hGet hs 5)) (hvN (hGet hs 6)) (hvN (hGet hs 7)))
def zdy (t3:Int) (b0 b1 b2:List Nat) (q1b q1g q1h:Nat):Option ((Unit)⊕(Int×Bool))→Option (Ex×St)
 | none=>none
 | some (Sum.inl r)=>some (Ex.ret,(zha t3 b0 b1 b2 q1b q1g q1h))
 | some (Sum.inr r)=>some ((Ex.exit 0),(zhi t3 b0 b1 b2 q1b q1g q1h r.1 r.2))
def y2k (t3:Int) (b0 b1 b2:List Nat) (q1b q1g q1h:Nat) (x:Option ((Unit)⊕(Int×Bool))):LO:=(LO.two (oL x) (LO.one Ex.ret (zha t3 b0 b1 b2 q1b q1g q1h)) (LO.one (Ex.exit 0) (zhi t3 b0 b1 b2 q1b q1g q1h ((tR x).getD default).1 ((tR x).getD default).2)))
theorem y3w (t3:Int) (b0 b1 b2:List Nat) (q1b q1g q1h:Nat):∀ x:Option ((Unit)⊕(Int×Bool)),x.isSome=true→(zdy t3 b0 b1 b2 q1b q1g q1h) x=some (pick (y2k t3 b0 b1 b2 q1b q1g q1h x))
 | none,h=>by cases h
 | some (Sum.inl r),_=>rfl
 | some (Sum.inr r),_=>rfl
theorem y3e (t3 t4:Int) (b0 b1 b2:List Nat) (q1b q1g q1h:Nat) (K:Ex→St→Option (Ex×St)):ev9 Γ3 120 5 4 fi120 (ziz t3 t4 b0 b1 b2 q1b q1g q1h) K=z5a t3 b0 b1 b2 q1b q1g q1h t4 (fun t4'=>K .normal (ziz t3 t4' b0 b1 b2 q1b q1g q1h)) (fun _=>K Ex.ret (zha t3 b0 b1 b2 q1b q1g q1h)) (fun c0_ c1_=>K (Ex.exit 0) (zhi t3 b0 b1 b2 q1b q1g q1h c0_ c1_)):=by kernel_rfl
theorem y37 (t3:Int) (b0 b1 b2:List Nat) (q1b q1g q1h:Nat):∀ (n:Nat) (t4:Int),iter 120 5 4 (ev9 Γ3 120 5 4 fi120) n (ziz t3 t4 b0 b1 b2 q1b q1g q1h) (fun e st=>some (e,st))=(zdy t3 b0 b1 b2 q1b q1g q1h) (z39 t3 b0 b1 b2 q1b q1g q1h n t4):=by
 intro n
 induction n with
 | zero=>intros;rfl
 | succ n ih=>
  intro t4
  refine Eq.trans (z4y ..) (Eq.trans (y3e t3 t4 b0 b1 b2 q1b q1g q1h _) (Eq.trans ?_ (zxh (zdy t3 b0 b1 b2 q1b q1g q1h) rfl t3 b0 b1 b2 q1b q1g q1h t4 (fun t4'=>z39 t3 b0 b1 b2 q1b q1g q1h n t4') (fun _=>some (Sum.inl ())) (fun c0_ c1_=>some (Sum.inr (c0_,c1_))))))
  exact congrArg (fun kn_=>z5a t3 b0 b1 b2 q1b q1g q1h t4 kn_ (fun _=>(zdy t3 b0 b1 b2 q1b q1g q1h) (some (Sum.inl ()))) (fun c0_ c1_=>(zdy t3 b0 b1 b2 q1b q1g q1h) (some (Sum.inr (c0_,c1_))))) (funext fun t4'=>ih t4')
theorem zyv:LoopOne J fnTab 120 5 ztb:=lp_of (Γ:=Γ3) tyTab_ok (FnL.ok fnTab_ok _ _) (LpL.ok zym) (SumL.ok zy1 _) mixed (fi:=fi120) (by kernel_rfl) (by kernel_rfl) (by
 intro lo st out hp
 obtain⟨hs,e1,e2,e3⟩:=z8d hp
 clear hp
 obtain rfl:st=(ziz (hvI (hGet hs 0)) (hvI (hGet hs 1)) (hvLn (hGet hs 2)) (hvLn (hGet hs 3)) (hvLn (hGet hs 4)) (hvN (hGet hs 5)) (hvN (hGet hs 6)) (hvN (hGet hs 7))):=e2.trans (by kernel_rfl)
 clear e2
 subst e1
 unfold zqt at e3
 injection e3 with h1 h2
 subst h2
 exact⟨8,8,big,Eq.trans (y37 (hvI (hGet hs 0)) (hvLn (hGet hs 2)) (hvLn (hGet hs 3)) (hvLn (hGet hs 4)) (hvN (hGet hs 5)) (hvN (hGet hs 6)) (hvN (hGet hs 7)) big (hvI (hGet hs 1))) (y3w (hvI (hGet hs 0)) (hvLn (hGet hs 2)) (hvLn (hGet hs 3)) (hvLn (hGet hs 4)) (hvN (hGet hs 5)) (hvN (hGet hs 6)) (hvN (hGet hs 7)) _ h1)⟩)
def z23 (sn:Nat) (t7 t8:Int) (b0:List Nat):St:=(St.mk [(0,(AV.v (TV.one (At.vw 0 0 sn 1)))),(1,(AV.v (TV.one (At.fn 115 [])))),(7,(AV.v (TV.one (At.int .i64 t7)))),(8,(AV.v (TV.one (At.int .i64 t8))))] [(Blk.mk Bool.false (Body.fl .f32 b0))])
def z21 (sn:Nat) (t7:Int) (b0:List Nat) (c0_:Int):St:=(St.mk [(4,(AV.v (TV.one (At.int .i64 c0_))))] [(Blk.mk Bool.false (Body.fl .f32 b0))])
def z1z (sn:Nat) (t7:Int) (b0:List Nat) (c0_:Int) (c1_:Bool):St:=(St.mk [(0,(AV.v (TV.one (At.vw 0 0 sn 1)))),(1,(AV.v (TV.one (At.fn 115 [])))),(7,(AV.v (TV.one (At.int .i64 t7)))),(8,(AV.v (TV.one (At.int .i64 c0_)))),(9,(AV.v (TV.one (At.bool c1_))))] [(Blk.mk Bool.false (Body.fl .f32 b0))])
noncomputable def z66 (sn:Nat) (t7 t8:Int) (b0:List Nat):Bool×LO:=((z0p sn t7 b0 t8),(LO.two (z0o sn t7 b0 t8) (LO.one Ex.ret (z21 sn t7 b0 (z1o sn t7 b0 t8))) (LO.one (Ex.exit 0) (z1z sn t7 b0 (z3m sn t7 b0 t8) (z3n sn t7 b0 t8)))))
noncomputable def z6j:Nat→St→Option (Bool×LO):=lpT 1 (pSt [(pTm 0 (pV (pOne (pVw 0 (liN 0) 1)))),(pTm 1 (pV (pOne (pFn 115 [])))),(pTm 7 (pV (pOne (pInt .i64)))),(pTm 8 (pV (pOne (pInt .i64))))] [(pBlk Bool.false (pFl .f32))]) (fun hs=>z66 (hvN (hGet hs 0)) (hvI (hGet hs 1)) (hvI (hGet hs 2)) (hvLn (hGet hs 3)))
def z1b (sn:Nat) (t7:Int) (b0:List Nat):Option ((Int)⊕(Int×Bool))→Option (Ex×St)
 | none=>none
 | some (Sum.inl r)=>some (Ex.ret,(z21 sn t7 b0 r))
 | some (Sum.inr r)=>some ((Ex.exit 0),(z1z sn t7 b0 r.1 r.2))
def ze9 (sn:Nat) (t7:Int) (b0:List Nat) (x:Option ((Int)⊕(Int×Bool))):LO:=(LO.two (oL x) (LO.one Ex.ret (z21 sn t7 b0 ((tL x).getD default))) (LO.one (Ex.exit 0) (z1z sn t7 b0 ((tR x).getD default).1 ((tR x).getD default).2)))
theorem zeu (sn:Nat) (t7:Int) (b0:List Nat):∀ x:Option ((Int)⊕(Int×Bool)),x.isSome=true→(z1b sn t7 b0) x=some (pick (ze9 sn t7 b0 x))
 | none,h=>by cases h
 | some (Sum.inl r),_=>rfl
 | some (Sum.inr r),_=>rfl
theorem zf1 (sn:Nat) (t7 t8:Int) (b0:List Nat) (K:Ex→St→Option (Ex×St)):ev9 Γ3 146 2 1 fi146 (z23 sn t7 t8 b0) K=z0e sn t7 b0 t8 (fun t8'=>K .normal (z23 sn t7 t8' b0)) (fun c0_=>K Ex.ret (z21 sn t7 b0 c0_)) (fun c0_ c1_=>K (Ex.exit 0) (z1z sn t7 b0 c0_ c1_)):=by kernel_rfl
theorem zes (sn:Nat) (t7:Int) (b0:List Nat):∀ (n:Nat) (t8:Int),iter 146 2 1 (ev9 Γ3 146 2 1 fi146) n (z23 sn t7 t8 b0) (fun e st=>some (e,st))=(z1b sn t7 b0) (z03 sn t7 b0 n t8):=by
 intro n
 induction n with
 | zero=>intros;rfl
 | succ n ih=>
  intro t8
  refine Eq.trans (z4y ..) (Eq.trans (zf1 sn t7 t8 b0 _) (Eq.trans ?_ (zcc (z1b sn t7 b0) rfl sn t7 b0 t8 (fun t8'=>z03 sn t7 b0 n t8') (fun c0_=>some (Sum.inl c0_)) (fun c0_ c1_=>some (Sum.inr (c0_,c1_))))))
  exact congrArg (fun kn_=>z0e sn t7 b0 t8 kn_ (fun c0_=>(z1b sn t7 b0) (some (Sum.inl c0_))) (fun c0_ c1_=>(z1b sn t7 b0) (some (Sum.inr (c0_,c1_))))) (funext fun t8'=>ih t8')
theorem zcu:LoopOne J fnTab 146 2 z6j:=lp_of (Γ:=Γ3) tyTab_ok (FnL.ok fnTab_ok _ _) (LpL.ok zym) (SumL.ok zy1 _) mixed (fi:=fi146) (by kernel_rfl) (by kernel_rfl) (by
 intro lo st out hp
 obtain⟨hs,e1,e2,e3⟩:=z8d hp
 clear hp
 obtain rfl:st=(z23 (hvN (hGet hs 0)) (hvI (hGet hs 1)) (hvI (hGet hs 2)) (hvLn (hGet hs 3))):=e2.trans (by kernel_rfl)
 clear e2
 subst e1
 unfold z66 at e3
 injection e3 with h1 h2
 subst h2
 exact⟨8,8,big,Eq.trans (zes (hvN (hGet hs 0)) (hvI (hGet hs 1)) (hvLn (hGet hs 3)) big (hvI (hGet hs 2))) (zeu (hvN (hGet hs 0)) (hvI (hGet hs 1)) (hvLn (hGet hs 3)) _ h1)⟩)
def z2f (sn:Nat) (t7 t8:Int) (b0:List Nat):St:=(St.mk [(0,(AV.v (TV.one (At.vw 0 0 sn 1)))),(1,(AV.v (TV.one (At.fn 153 [])))),(7,(AV.v (TV.one (At.int .i64 t7)))),(8,(AV.v (TV.one (At.int .i64 t8))))] [(Blk.mk Bool.false (Body.fl .f32 b0))])
def z29 (sn:Nat) (t7:Int) (b0:List Nat) (c0_:Int):St:=(St.mk [(4,(AV.v (TV.one (At.int .i64 c0_))))] [(Blk.mk Bool.false (Body.fl .f32 b0))])
def z2a (sn:Nat) (t7:Int) (b0:List Nat) (c0_:Int) (c1_:Bool):St:=(St.mk [(0,(AV.v (TV.one (At.vw 0 0 sn 1)))),(1,(AV.v (TV.one (At.fn 153 [])))),(7,(AV.v (TV.one (At.int .i64 t7)))),(8,(AV.v (TV.one (At.int .i64 c0_)))),(9,(AV.v (TV.one (At.bool c1_))))] [(Blk.mk Bool.false (Body.fl .f32 b0))])
noncomputable def z6o (sn:Nat) (t7 t8:Int) (b0:List Nat):Bool×LO:=((z0z sn t7 b0 t8),(LO.two (z0v sn t7 b0 t8) (LO.one Ex.ret (z29 sn t7 b0 (z20 sn t7 b0 t8))) (LO.one (Ex.exit 0) (z2a sn t7 b0 (z3s sn t7 b0 t8) (z3r sn t7 b0 t8)))))
noncomputable def z7c:Nat→St→Option (Bool×LO):=lpT 1 (pSt [(pTm 0 (pV (pOne (pVw 0 (liN 0) 1)))),(pTm 1 (pV (pOne (pFn 153 [])))),(pTm 7 (pV (pOne (pInt .i64)))),(pTm 8 (pV (pOne (pInt .i64))))] [(pBlk Bool.false (pFl .f32))]) (fun hs=>z6o (hvN (hGet hs 0)) (hvI (hGet hs 1)) (hvI (hGet hs 2)) (hvLn (hGet hs 3)))
def z1j (sn:Nat) (t7:Int) (b0:List Nat):Option ((Int)⊕(Int×Bool))→Option (Ex×St)
 | none=>none
 | some (Sum.inl r)=>some (Ex.ret,(z29 sn t7 b0 r))
 | some (Sum.inr r)=>some ((Ex.exit 0),(z2a sn t7 b0 r.1 r.2))
def zf8 (sn:Nat) (t7:Int) (b0:List Nat) (x:Option ((Int)⊕(Int×Bool))):LO:=(LO.two (oL x) (LO.one Ex.ret (z29 sn t7 b0 ((tL x).getD default))) (LO.one (Ex.exit 0) (z2a sn t7 b0 ((tR x).getD default).1 ((tR x).getD default).2)))
theorem zgb (sn:Nat) (t7:Int) (b0:List Nat):∀ x:Option ((Int)⊕(Int×Bool)),x.isSome=true→(z1j sn t7 b0) x=some (pick (zf8 sn t7 b0 x))
 | none,h=>by cases h
 | some (Sum.inl r),_=>rfl
 | some (Sum.inr r),_=>rfl
theorem zg5 (sn:Nat) (t7 t8:Int) (b0:List Nat) (K:Ex→St→Option (Ex×St)):ev9 Γ3 146 2 1 fi146 (z2f sn t7 t8 b0) K=z0g sn t7 b0 t8 (fun t8'=>K .normal (z2f sn t7 t8' b0)) (fun c0_=>K Ex.ret (z29 sn t7 b0 c0_)) (fun c0_ c1_=>K (Ex.exit 0) (z2a sn t7 b0 c0_ c1_)):=by kernel_rfl
theorem zg0 (sn:Nat) (t7:Int) (b0:List Nat):∀ (n:Nat) (t8:Int),iter 146 2 1 (ev9 Γ3 146 2 1 fi146) n (z2f sn t7 t8 b0) (fun e st=>some (e,st))=(z1j sn t7 b0) (z04 sn t7 b0 n t8):=by
 intro n
 induction n with
 | zero=>intros;rfl
 | succ n ih=>
  intro t8
  refine Eq.trans (z4y ..) (Eq.trans (zg5 sn t7 t8 b0 _) (Eq.trans ?_ (zcx (z1j sn t7 b0) rfl sn t7 b0 t8 (fun t8'=>z04 sn t7 b0 n t8') (fun c0_=>some (Sum.inl c0_)) (fun c0_ c1_=>some (Sum.inr (c0_,c1_))))))
  exact congrArg (fun kn_=>z0g sn t7 b0 t8 kn_ (fun c0_=>(z1j sn t7 b0) (some (Sum.inl c0_))) (fun c0_ c1_=>(z1j sn t7 b0) (some (Sum.inr (c0_,c1_))))) (funext fun t8'=>ih t8')
theorem zec:LoopOne J fnTab 146 2 z7c:=lp_of (Γ:=Γ3) tyTab_ok (FnL.ok fnTab_ok _ _) (LpL.ok zym) (SumL.ok zy1 _) mixed (fi:=fi146) (by kernel_rfl) (by kernel_rfl) (by
 intro lo st out hp
 obtain⟨hs,e1,e2,e3⟩:=z8d hp
 clear hp
 obtain rfl:st=(z2f (hvN (hGet hs 0)) (hvI (hGet hs 1)) (hvI (hGet hs 2)) (hvLn (hGet hs 3))):=e2.trans (by kernel_rfl)
 clear e2
 subst e1
 unfold z6o at e3
 injection e3 with h1 h2
 subst h2
 exact⟨8,8,big,Eq.trans (zg0 (hvN (hGet hs 0)) (hvI (hGet hs 1)) (hvLn (hGet hs 3)) big (hvI (hGet hs 2))) (zgb (hvN (hGet hs 0)) (hvI (hGet hs 1)) (hvLn (hGet hs 3)) _ h1)⟩)
noncomputable def tb4:List (Nat×(List PT→Option (Bool×AV×List Blk))):=(31,zm7)::(58,z8w)::(164,zji)::(169,zlb)::tb3
noncomputable def lt4:List ((Nat×Nat)×(Nat→St→Option (Bool×LO))):=((120,5),ztb)::((146,2),z6j)::((146,2),z7c)::lt3
noncomputable def Γ4:Ctx:=⟨tyTab,fnTab,tblSum tb4,tblLp lt4⟩
theorem y8u:SumL J tb4:=SumL.cons zx1 (SumL.cons zn1 (SumL.cons zun (SumL.cons zvn (zy1))))
theorem y9d:LpL J fnTab lt4:=LpL.cons zyv (LpL.cons zcu (LpL.cons zec (zym)))
theorem mk4 {g:FuncId} {F:List PT→Option (Bool×AV×List Blk)} (h:∀ pts v news,F pts=some (true,v,news)→ev8 Γ4 g pts=some (v,news)):SumOne J g F:=z59 (Γ:=Γ4) (fuel:=8) (d:=8) tyTab_ok (FnL.ok fnTab_ok _ _) (LpL.ok y9d) (SumL.ok y8u _) mixed fun pts v news hp _=>h pts v news hp
def zrz (q0g:Nat) (q0l:List Nat) (q0q:Nat) (q0t:List Nat) (q0p:Nat) (q0u:List Nat):Option (Bool)→Option (AV×List Blk)
 | some r=>some ((AV.v (TV.one (At.bool r))),[])
 | none=>none
noncomputable def zrx:List PT→Option (Bool×AV×List Blk)
 | [.ptr [.row 1 q0g (.fl .f32 q0l),.row 1 q0q (.fl .f32 q0t),.row 1 q0p (.fl .f32 q0u)]]=>sP (znp q0g q0l q0q q0t q0p q0u) (zrz q0g q0l q0q q0t q0p q0u) (zlq q0g q0l q0q q0t q0p q0u)
 | _=>none
theorem y8w (q0g:Nat) (q0l:List Nat) (q0q:Nat) (q0t:List Nat) (q0p:Nat) (q0u:List Nat):ev8 Γ4 120 [.ptr [.row 1 q0g (.fl .f32 q0l),.row 1 q0q (.fl .f32 q0t),.row 1 q0p (.fl .f32 q0u)]]=(zrz q0g q0l q0q q0t q0p q0u) (zg8 q0g q0l q0q q0t q0p q0u):=tr2 (y1p (zrz q0g q0l q0q q0t q0p q0u) rfl q0g q0l q0q q0t q0p q0u (fun c0_=>some c0_)) (by kernel_rfl)
theorem y3r:SumOne J 120 zrx:=mk4 fun pts v news hp=>by
 unfold zrx at hp
 split at hp
 ·rename_i q0g q0l q0q q0t q0p q0u
  exact fin2 (y8w q0g q0l q0q q0t q0p q0u) hp
 ·cases hp
def z4g (s_n:Nat) (s:List Nat):Option (Int)→Option (AV×List Blk)
 | some r=>some ((AV.v (TV.one (At.int .i64 r))),[])
 | none=>none
noncomputable def z4i:List PT→Option (Bool×AV×List Blk)
 | [.one (.row 1 s_n (.fl .f32 s)),.fn 115 []]=>sP (z2n s_n s) (z4g s_n s) (z2d s_n s)
 | _=>none
theorem zgy (s_n:Nat) (s:List Nat):ev8 Γ4 146 [.one (.row 1 s_n (.fl .f32 s)),.fn 115 []]=(z4g s_n s) (z12 s_n s):=tr2 (ze8 (z4g s_n s) rfl s_n s (fun c0_=>some c0_)) (by kernel_rfl)
theorem zf0:SumOne J 146 z4i:=mk4 fun pts v news hp=>by
 unfold z4i at hp
 split at hp
 ·rename_i s_n s
  exact fin2 (zgy s_n s) hp
 ·cases hp
def z4p (s_n:Nat) (s:List Nat):Option (Int)→Option (AV×List Blk)
 | some r=>some ((AV.v (TV.one (At.int .i64 r))),[])
 | none=>none
noncomputable def z4o:List PT→Option (Bool×AV×List Blk)
 | [.one (.row 1 s_n (.fl .f32 s)),.fn 153 []]=>sP (z38 s_n s) (z4p s_n s) (z2w s_n s)
 | _=>none
theorem zi4 (s_n:Nat) (s:List Nat):ev8 Γ4 146 [.one (.row 1 s_n (.fl .f32 s)),.fn 153 []]=(z4p s_n s) (z17 s_n s):=tr2 (zf9 (z4p s_n s) rfl s_n s (fun c0_=>some c0_)) (by kernel_rfl)
theorem zgh:SumOne J 146 z4o:=mk4 fun pts v news hp=>by
 unfold z4o at hp
 split at hp
 ·rename_i s_n s
  exact fin2 (zi4 s_n s) hp
 ·cases hp
def zow (x:Nat):Option (Nat)→Option (AV×List Blk)
 | some r=>some ((AV.v (TV.one (At.flt .f32 r))),[])
 | none=>none
noncomputable def zoz:List PT→Option (Bool×AV×List Blk)
 | [.one (.s (.flt .f32 x))]=>sP (z61 x) (zow x) (z1f x)
 | _=>none
theorem y64 (x:Nat):ev8 Γ4 148 [.one (.s (.flt .f32 x))]=(zow x) (z8x x):=tr2 (zyz (zow x) rfl x (fun c0_=>some c0_)) (by kernel_rfl)
theorem y0r:SumOne J 148 zoz:=mk4 fun pts v news hp=>by
 unfold zoz at hp
 split at hp
 ·rename_i x
  exact fin2 (y64 x) hp
 ·cases hp
def z2o (sn:Nat) (t7 t8:Int) (b0:List Nat):St:=(St.mk [(0,(AV.v (TV.one (At.vw 0 0 sn 1)))),(1,(AV.v (TV.one (At.fn 154 [])))),(7,(AV.v (TV.one (At.int .i64 t7)))),(8,(AV.v (TV.one (At.int .i64 t8))))] [(Blk.mk Bool.false (Body.fl .f32 b0))])
def z2b (sn:Nat) (t7:Int) (b0:List Nat) (c0_:Int):St:=(St.mk [(4,(AV.v (TV.one (At.int .i64 c0_))))] [(Blk.mk Bool.false (Body.fl .f32 b0))])
def z2g (sn:Nat) (t7:Int) (b0:List Nat) (c0_:Int) (c1_:Bool):St:=(St.mk [(0,(AV.v (TV.one (At.vw 0 0 sn 1)))),(1,(AV.v (TV.one (At.fn 154 [])))),(7,(AV.v (TV.one (At.int .i64 t7)))),(8,(AV.v (TV.one (At.int .i64 c0_)))),(9,(AV.v (TV.one (At.bool c1_))))] [(Blk.mk Bool.false (Body.fl .f32 b0))])
noncomputable def z6t (sn:Nat) (t7 t8:Int) (b0:List Nat):Bool×LO:=((z11 sn t7 b0 t8),(LO.two (z0w sn t7 b0 t8) (LO.one Ex.ret (z2b sn t7 b0 (z26 sn t7 b0 t8))) (LO.one (Ex.exit 0) (z2g sn t7 b0 (z3z sn t7 b0 t8) (z41 sn t7 b0 t8)))))
noncomputable def z7k:Nat→St→Option (Bool×LO):=lpT 1 (pSt [(pTm 0 (pV (pOne (pVw 0 (liN 0) 1)))),(pTm 1 (pV (pOne (pFn 154 [])))),(pTm 7 (pV (pOne (pInt .i64)))),(pTm 8 (pV (pOne (pInt .i64))))] [(pBlk Bool.false (pFl .f32))]) (fun hs=>z6t (hvN (hGet hs 0)) (hvI (hGet hs 1)) (hvI (hGet hs 2)) (hvLn (hGet hs 3)))
def z1m (sn:Nat) (t7:Int) (b0:List Nat):Option ((Int)⊕(Int×Bool))→Option (Ex×St)
 | none=>none
 | some (Sum.inl r)=>some (Ex.ret,(z2b sn t7 b0 r))
 | some (Sum.inr r)=>some ((Ex.exit 0),(z2g sn t7 b0 r.1 r.2))
def zg6 (sn:Nat) (t7:Int) (b0:List Nat) (x:Option ((Int)⊕(Int×Bool))):LO:=(LO.two (oL x) (LO.one Ex.ret (z2b sn t7 b0 ((tL x).getD default))) (LO.one (Ex.exit 0) (z2g sn t7 b0 ((tR x).getD default).1 ((tR x).getD default).2)))
theorem zgz (sn:Nat) (t7:Int) (b0:List Nat):∀ x:Option ((Int)⊕(Int×Bool)),x.isSome=true→(z1m sn t7 b0) x=some (pick (zg6 sn t7 b0 x))
 | none,h=>by cases h
 | some (Sum.inl r),_=>rfl
 | some (Sum.inr r),_=>rfl
theorem zh0 (sn:Nat) (t7 t8:Int) (b0:List Nat) (K:Ex→St→Option (Ex×St)):ev9 Γ4 146 2 1 fi146 (z2o sn t7 t8 b0) K=z0h sn t7 b0 t8 (fun t8'=>K .normal (z2o sn t7 t8' b0)) (fun c0_=>K Ex.ret (z2b sn t7 b0 c0_)) (fun c0_ c1_=>K (Ex.exit 0) (z2g sn t7 b0 c0_ c1_)):=by kernel_rfl
theorem zh3 (sn:Nat) (t7:Int) (b0:List Nat):∀ (n:Nat) (t8:Int),iter 146 2 1 (ev9 Γ4 146 2 1 fi146) n (z2o sn t7 t8 b0) (fun e st=>some (e,st))=(z1m sn t7 b0) (z06 sn t7 b0 n t8):=by
 intro n
 induction n with
 | zero=>intros;rfl
 | succ n ih=>
  intro t8
  refine Eq.trans (z4y ..) (Eq.trans (zh0 sn t7 t8 b0 _) (Eq.trans ?_ (ze3 (z1m sn t7 b0) rfl sn t7 b0 t8 (fun t8'=>z06 sn t7 b0 n t8') (fun c0_=>some (Sum.inl c0_)) (fun c0_ c1_=>some (Sum.inr (c0_,c1_))))))
  exact congrArg (fun kn_=>z0h sn t7 b0 t8 kn_ (fun c0_=>(z1m sn t7 b0) (some (Sum.inl c0_))) (fun c0_ c1_=>(z1m sn t7 b0) (some (Sum.inr (c0_,c1_))))) (funext fun t8'=>ih t8')
theorem zeo:LoopOne J fnTab 146 2 z7k:=lp_of (Γ:=Γ4) tyTab_ok (FnL.ok fnTab_ok _ _) (LpL.ok y9d) (SumL.ok y8u _) mixed (fi:=fi146) (by kernel_rfl) (by kernel_rfl) (by
 intro lo st out hp
 obtain⟨hs,e1,e2,e3⟩:=z8d hp
 clear hp
 obtain rfl:st=(z2o (hvN (hGet hs 0)) (hvI (hGet hs 1)) (hvI (hGet hs 2)) (hvLn (hGet hs 3))):=e2.trans (by kernel_rfl)
 clear e2
 subst e1
 unfold z6t at e3
 injection e3 with h1 h2
 subst h2
 exact⟨8,8,big,Eq.trans (zh3 (hvN (hGet hs 0)) (hvI (hGet hs 1)) (hvLn (hGet hs 3)) big (hvI (hGet hs 2))) (zgz (hvN (hGet hs 0)) (hvI (hGet hs 1)) (hvLn (hGet hs 3)) _ h1)⟩)
noncomputable def tb5:List (Nat×(List PT→Option (Bool×AV×List Blk))):=(120,zrx)::(146,z4i)::(146,z4o)::(148,zoz)::tb4
noncomputable def lt5:List ((Nat×Nat)×(Nat→St→Option (Bool×LO))):=((146,2),z7k)::lt4
noncomputable def Γ5:Ctx:=⟨tyTab,fnTab,tblSum tb5,tblLp lt5⟩
theorem y9u:SumL J tb5:=SumL.cons y3r (SumL.cons zf0 (SumL.cons zgh (SumL.cons y0r (y8u))))
theorem y90:LpL J fnTab lt5:=LpL.cons zeo (y9d)
theorem mk5 {g:FuncId} {F:List PT→Option (Bool×AV×List Blk)} (h:∀ pts v news,F pts=some (true,v,news)→ev8 Γ5 g pts=some (v,news)):SumOne J g F:=z59 (Γ:=Γ5) (fuel:=8) (d:=8) tyTab_ok (FnL.ok fnTab_ok _ _) (LpL.ok y90) (SumL.ok y9u _) mixed fun pts v news hp _=>h pts v news hp
def z54 (s_n:Nat) (s:List Nat):Option (Int)→Option (AV×List Blk)
 | some r=>some ((AV.v (TV.one (At.int .i64 r))),[])
 | none=>none
noncomputable def z55:List PT→Option (Bool×AV×List Blk)
 | [.one (.row 1 s_n (.fl .f32 s)),.fn 154 []]=>sP (z3l s_n s) (z54 s_n s) (z3a s_n s)
 | _=>none
theorem zii (s_n:Nat) (s:List Nat):ev8 Γ5 146 [.one (.row 1 s_n (.fl .f32 s)),.fn 154 []]=(z54 s_n s) (z1a s_n s):=tr2 (zgd (z54 s_n s) rfl s_n s (fun c0_=>some c0_)) (by kernel_rfl)
theorem zh1:SumOne J 146 z55:=mk5 fun pts v news hp=>by
 unfold z55 at hp
 split at hp
 ·rename_i s_n s
  exact fin2 (zii s_n s) hp
 ·cases hp
def zsa (x:Nat):Option (Nat)→Option (AV×List Blk)
 | some r=>some ((AV.v (TV.one (At.flt .f64 r))),[])
 | none=>none
noncomputable def zsg:List PT→Option (Bool×AV×List Blk)
 | [.one (.s (.flt .f64 x))]=>sP (zjv x) (zsa x) (z6p x)
 | _=>none
theorem y84 (x:Nat):ev8 Γ5 175 [.one (.s (.flt .f64 x))]=(zsa x) (zgn x):=tr2 (y2h (zsa x) rfl x (fun c0_=>some c0_)) (by kernel_rfl)
theorem y38:SumOne J 175 zsg:=mk5 fun pts v news hp=>by
 unfold zsg at hp
 split at hp
 ·rename_i x
  exact fin2 (y84 x) hp
 ·cases hp
def zkq (q1t:Bool) (z u p k:Nat):St:=(St.mk [(4,(AV.v (TV.one (At.bool q1t)))),(5,(AV.v (TV.one (At.flt .f64 z)))),(6,(AV.v (TV.one (At.flt .f64 u)))),(7,(AV.v (TV.one (At.flt .f64 p)))),(8,(AV.v (TV.one (At.flt .f64 k))))] [])
def zix (q1t:Bool) (z u c0_ c1_:Nat) (c2_:Bool):St:=(St.mk [(4,(AV.v (TV.one (At.bool q1t)))),(5,(AV.v (TV.one (At.flt .f64 z)))),(6,(AV.v (TV.one (At.flt .f64 u)))),(7,(AV.v (TV.one (At.flt .f64 c0_)))),(8,(AV.v (TV.one (At.flt .f64 c1_)))),(25,(AV.v (TV.one (At.bool c2_))))] [])
noncomputable def zs8 (q1t:Bool) (z u p k:Nat):Bool×LO:=((z7f u p k),(LO.one (Ex.exit 0) (zix q1t z u (z4z u p k) (zl3 u p k) (zlc u p k))))
noncomputable def zuw:Nat→St→Option (Bool×LO):=lpT 0 (pSt [(pTm 4 (pV (pOne pBool))),(pTm 5 (pV (pOne (pFlt .f64)))),(pTm 6 (pV (pOne (pFlt .f64)))),(pTm 7 (pV (pOne (pFlt .f64)))),(pTm 8 (pV (pOne (pFlt .f64))))] []) (fun hs=>zs8 (hvB (hGet hs 0)) (hvN (hGet hs 1)) (hvN (hGet hs 2)) (hvN (hGet hs 3)) (hvN (hGet hs 4)))
def zkb (q1t:Bool) (z u:Nat):Option ((Nat×Nat×Bool))→Option (Ex×St)
 | none=>none
 | some r=>some ((Ex.exit 0),(zix q1t z u r.1 r.2.1 r.2.2))
def y41 (q1t:Bool) (z u:Nat) (x:Option ((Nat×Nat×Bool))):LO:=(LO.one (Ex.exit 0) (zix q1t z u (x.getD default).1 (x.getD default).2.1 (x.getD default).2.2))
theorem y5f (q1t:Bool) (z u:Nat):∀ x:Option ((Nat×Nat×Bool)),x.isSome=true→(zkb q1t z u) x=some (pick (y41 q1t z u x))
 | none,h=>by cases h
 | some r,_=>rfl
theorem y5n (q1t:Bool) (z u p k:Nat) (K:Ex→St→Option (Ex×St)):ev9 Γ5 160 9 0 fi160 (zkq q1t z u p k) K=z5x u p k (fun p' k'=>K .normal (zkq q1t z u p' k')) (fun c0_ c1_ c2_=>K (Ex.exit 0) (zix q1t z u c0_ c1_ c2_)):=by kernel_rfl
theorem y5x (q1t:Bool) (z u:Nat):∀ (n p k:Nat),iter 160 9 0 (ev9 Γ5 160 9 0 fi160) n (zkq q1t z u p k) (fun e st=>some (e,st))=(zkb q1t z u) (z35 u n p k):=by
 intro n
 induction n with
 | zero=>intros;rfl
 | succ n ih=>
  intro p k
  refine Eq.trans (z4y ..) (Eq.trans (y5n q1t z u p k _) (Eq.trans ?_ (zz3 (zkb q1t z u) rfl u p k (fun p' k'=>z35 u n p' k') (fun c0_ c1_ c2_=>some (c0_,c1_,c2_)))))
  exact congrArg (fun kn_=>z5x u p k kn_ (fun c0_ c1_ c2_=>(zkb q1t z u) (some (c0_,c1_,c2_)))) (funext fun p'=>funext fun k'=>ih p' k')
theorem y05:LoopOne J fnTab 160 9 zuw:=lp_of (Γ:=Γ5) tyTab_ok (FnL.ok fnTab_ok _ _) (LpL.ok y90) (SumL.ok y9u _) mixed (fi:=fi160) (by kernel_rfl) (by kernel_rfl) (by
 intro lo st out hp
 obtain⟨hs,e1,e2,e3⟩:=z8d hp
 clear hp
 obtain rfl:st=(zkq (hvB (hGet hs 0)) (hvN (hGet hs 1)) (hvN (hGet hs 2)) (hvN (hGet hs 3)) (hvN (hGet hs 4))):=e2.trans (by kernel_rfl)
 clear e2
 subst e1
 unfold zs8 at e3
 injection e3 with h1 h2
 subst h2
 exact⟨8,8,big,Eq.trans (y5x (hvB (hGet hs 0)) (hvN (hGet hs 1)) (hvN (hGet hs 2)) big (hvN (hGet hs 3)) (hvN (hGet hs 4))) (y5f (hvB (hGet hs 0)) (hvN (hGet hs 1)) (hvN (hGet hs 2)) _ h1)⟩)
noncomputable def tb6:List (Nat×(List PT→Option (Bool×AV×List Blk))):=(146,z55)::(175,zsg)::tb5
noncomputable def lt6:List ((Nat×Nat)×(Nat→St→Option (Bool×LO))):=((160,9),zuw)::lt5
noncomputable def Γ6:Ctx:=⟨tyTab,fnTab,tblSum tb6,tblLp lt6⟩
theorem ya5:SumL J tb6:=SumL.cons zh1 (SumL.cons y38 (y9u))
theorem y9l:LpL J fnTab lt6:=LpL.cons y05 (y90)
theorem mk6 {g:FuncId} {F:List PT→Option (Bool×AV×List Blk)} (h:∀ pts v news,F pts=some (true,v,news)→ev8 Γ6 g pts=some (v,news)):SumOne J g F:=z59 (Γ:=Γ6) (fuel:=8) (d:=8) tyTab_ok (FnL.ok fnTab_ok _ _) (LpL.ok y9l) (SumL.ok ya5 _) mixed fun pts v news hp _=>h pts v news hp
def z3y (s_n:Nat) (s:List Nat):Option (Bool)→Option (AV×List Blk)
 | some r=>some ((AV.v (TV.one (At.bool r))),[])
 | none=>none
noncomputable def z3v:List PT→Option (Bool×AV×List Blk)
 | [.one (.row 1 s_n (.fl .f32 s)),.fn 115 []]=>sP (z24 s_n s) (z3y s_n s) (z1x s_n s)
 | _=>none
theorem zen (s_n:Nat) (s:List Nat):ev8 Γ6 114 [.one (.row 1 s_n (.fl .f32 s)),.fn 115 []]=(z3y s_n s) (z0r s_n s):=tr2 (zbw (z3y s_n s) rfl s_n s (fun c0_=>some c0_)) (by kernel_rfl)
theorem zct:SumOne J 114 z3v:=mk6 fun pts v news hp=>by
 unfold z3v at hp
 split at hp
 ·rename_i s_n s
  exact fin2 (zen s_n s) hp
 ·cases hp
def z4b (s_n:Nat) (s:List Nat):Option (Bool)→Option (AV×List Blk)
 | some r=>some ((AV.v (TV.one (At.bool r))),[])
 | none=>none
noncomputable def z48:List PT→Option (Bool×AV×List Blk)
 | [.one (.row 1 s_n (.fl .f32 s)),.fn 153 []]=>sP (z2c s_n s) (z4b s_n s) (z28 s_n s)
 | _=>none
theorem zgl (s_n:Nat) (s:List Nat):ev8 Γ6 114 [.one (.row 1 s_n (.fl .f32 s)),.fn 153 []]=(z4b s_n s) (z0y s_n s):=tr2 (zcz (z4b s_n s) rfl s_n s (fun c0_=>some c0_)) (by kernel_rfl)
theorem zdz:SumOne J 114 z48:=mk6 fun pts v news hp=>by
 unfold z48 at hp
 split at hp
 ·rename_i s_n s
  exact fin2 (zgl s_n s) hp
 ·cases hp
def z4h (s_n:Nat) (s:List Nat):Option (Bool)→Option (AV×List Blk)
 | some r=>some ((AV.v (TV.one (At.bool r))),[])
 | none=>none
noncomputable def z4f:List PT→Option (Bool×AV×List Blk)
 | [.one (.row 1 s_n (.fl .f32 s)),.fn 154 []]=>sP (z2m s_n s) (z4h s_n s) (z2e s_n s)
 | _=>none
theorem zh2 (s_n:Nat) (s:List Nat):ev8 Γ6 114 [.one (.row 1 s_n (.fl .f32 s)),.fn 154 []]=(z4h s_n s) (z13 s_n s):=tr2 (zdn (z4h s_n s) rfl s_n s (fun c0_=>some c0_)) (by kernel_rfl)
theorem zf3:SumOne J 114 z4f:=mk6 fun pts v news hp=>by
 unfold z4f at hp
 split at hp
 ·rename_i s_n s
  exact fin2 (zh2 s_n s) hp
 ·cases hp
def ztt (q1k:Nat):Option (Nat)→Option (AV×List Blk)
 | some r=>some ((AV.v (TV.one (At.flt .f64 r))),[])
 | none=>none
noncomputable def ztm:List PT→Option (Bool×AV×List Blk)
 | [.one (.s (.flt .f64 q1k))]=>sP (zpe q1k) (ztt q1k) (zk6 q1k)
 | _=>none
theorem yaf (q1k:Nat):ev8 Γ6 160 [.one (.s (.flt .f64 q1k))]=(ztt q1k) (zib q1k):=tr2 (y50 (ztt q1k) rfl q1k (fun c0_=>some c0_)) (by kernel_rfl)
theorem y5q:SumOne J 160 ztm:=mk6 fun pts v news hp=>by
 unfold ztm at hp
 split at hp
 ·rename_i q1k
  exact fin2 (yaf q1k) hp
 ·cases hp
def zm3 (x:Nat):Option (Nat)→Option (AV×List Blk)
 | some r=>some ((AV.v (TV.one (At.flt .f32 r))),[])
 | none=>none
noncomputable def zm5:List PT→Option (Bool×AV×List Blk)
 | [.one (.s (.flt .f32 x))]=>sP (zhf x) (zm3 x) (z0s x)
 | _=>none
theorem y2m (x:Nat):ev8 Γ6 170 [.one (.s (.flt .f32 x))]=(zm3 x) (z94 x):=tr2 (zwk (zm3 x) rfl x (fun c0_=>some c0_)) (by kernel_rfl)
theorem zx9:SumOne J 170 zm5:=mk6 fun pts v news hp=>by
 unfold zm5 at hp
 split at hp
 ·rename_i x
  exact fin2 (y2m x) hp
 ·cases hp
def zov (x:Nat):Option (Nat)→Option (AV×List Blk)
 | some r=>some ((AV.v (TV.one (At.flt .f32 r))),[])
 | none=>none
noncomputable def zoo:List PT→Option (Bool×AV×List Blk)
 | [.one (.s (.flt .f32 x))]=>sP (zky x) (zov x) (z3u x)
 | _=>none
theorem y67 (x:Nat):ev8 Γ6 181 [.one (.s (.flt .f32 x))]=(zov x) (zbi x):=tr2 (zzn (zov x) rfl x (fun c0_=>some c0_)) (by kernel_rfl)
theorem y0m:SumOne J 181 zoo:=mk6 fun pts v news hp=>by
 unfold zoo at hp
 split at hp
 ·rename_i x
  exact fin2 (y67 x) hp
 ·cases hp
def zj6 (t4:Nat) (t57 t58:Int) (b0 b1 b2 b3:List Nat) (q13 q14 q0z q0s:Nat) (q19:Int) (q18 q15:Nat):St:=(St.mk [(0,(AV.v (TV.one (At.ptr 4 0 7)))),(4,(AV.v (TV.one (At.flt .f32 t4)))),(57,(AV.v (TV.one (At.int .i64 t57)))),(58,(AV.v (TV.one (At.int .i64 t58))))] [(Blk.mk Bool.false (Body.fl .f32 b0)),(Blk.mk Bool.false (Body.fl .f32 b1)),(Blk.mk Bool.false (Body.fl .f32 b2)),(Blk.mk Bool.false (Body.fl .f32 b3)),(Blk.mk Bool.false (Body.cells [(At.vw 0 0 q13 1),(At.vw 1 0 q14 1),(At.vw 2 0 q0z 1),(At.vw 3 0 q0s 3),(At.int .i64 q19),(At.flt .f32 q18),(At.flt .f32 q15)]))])
def zh8 (t57:Int) (b0 b1 b2 b3:List Nat) (q13 q14 q0z q0s:Nat) (q19:Int) (q18 q15:Nat):St:=(St.mk [(2,(AV.v (TV.one (At.bool Bool.false))))] [(Blk.mk Bool.false (Body.fl .f32 b0)),(Blk.mk Bool.false (Body.fl .f32 b1)),(Blk.mk Bool.false (Body.fl .f32 b2)),(Blk.mk Bool.false (Body.fl .f32 b3)),(Blk.mk Bool.false (Body.cells [(At.vw 0 0 q13 1),(At.vw 1 0 q14 1),(At.vw 2 0 q0z 1),(At.vw 3 0 q0s 3),(At.int .i64 q19),(At.flt .f32 q18),(At.flt .f32 q15)]))])
def zhg (t57:Int) (b0 b1 b2 b3:List Nat) (q13 q14 q0z q0s:Nat) (q19:Int) (q18 q15 c0_:Nat) (c1_:Int) (c2_:Bool):St:=(St.mk [(0,(AV.v (TV.one (At.ptr 4 0 7)))),(4,(AV.v (TV.one (At.flt .f32 c0_)))),(57,(AV.v (TV.one (At.int .i64 t57)))),(58,(AV.v (TV.one (At.int .i64 c1_)))),(59,(AV.v (TV.one (At.bool c2_))))] [(Blk.mk Bool.false (Body.fl .f32 b0)),(Blk.mk Bool.false (Body.fl .f32 b1)),(Blk.mk Bool.false (Body.fl .f32 b2)),(Blk.mk Bool.false (Body.fl .f32 b3)),(Blk.mk Bool.false (Body.cells [(At.vw 0 0 q13 1),(At.vw 1 0 q14 1),(At.vw 2 0 q0z 1),(At.vw 3 0 q0s 3),(At.int .i64 q19),(At.flt .f32 q18),(At.flt .f32 q15)]))])
noncomputable def zqy (t4:Nat) (t57 t58:Int) (b0 b1 b2 b3:List Nat) (q13 q14 q0z q0s:Nat) (q19:Int) (q18 q15:Nat):Bool×LO:=((z7r t57 b3 q0s q15 t4 t58),(LO.two (z6z t57 b3 q0s q15 t4 t58) (LO.one Ex.ret (zh8 t57 b0 b1 b2 b3 q13 q14 q0z q0s q19 q18 q15)) (LO.one (Ex.exit 0) (zhg t57 b0 b1 b2 b3 q13 q14 q0z q0s q19 q18 q15 (zk8 t57 b3 q0s q15 t4 t58) (zjw t57 b3 q0s q15 t4 t58) (zjl t57 b3 q0s q15 t4 t58)))))
noncomputable def zt6:Nat→St→Option (Bool×LO):=lpT 5 (pSt [(pTm 0 (pV (pOne (pPtr 4 (liN 0) 7)))),(pTm 4 (pV (pOne (pFlt .f32)))),(pTm 57 (pV (pOne (pInt .i64)))),(pTm 58 (pV (pOne (pInt .i64))))] [(pBlk Bool.false (pFl .f32)),(pBlk Bool.false (pFl .f32)),(pBlk Bool.false (pFl .f32)),(pBlk Bool.false (pFl .f32)),(pBlk Bool.false (pCells [(pVw 0 (liN 0) 1),(pVw 1 (liN 0) 1),(pVw 2 (liN 0) 1),(pVw 3 (liN 0) 3),(pInt .i64),(pFlt .f32),(pFlt .f32)]))]) (fun hs=>zqy (hvN (hGet hs 0)) (hvI (hGet hs 1)) (hvI (hGet hs 2)) (hvLn (hGet hs 3)) (hvLn (hGet hs 4)) (hvLn (hGet hs 5)) (hvLn (hGet hs 6)) (hvN (hGet hs 7)) (hvN (hGet hs 8)) (hvN (hGet hs 9)) (hvN (hGet hs 10)) (hvI (hGet hs 11)) (hvN (hGet hs 12)) (hvN (hGet hs 13)))
def zef (t57:Int) (b0 b1 b2 b3:List Nat) (q13 q14 q0z q0s:Nat) (q19:Int) (q18 q15:Nat):Option ((Unit)⊕(Nat×Int×Bool))→Option (Ex×St)
 | none=>none
 | some (Sum.inl r)=>some (Ex.ret,(zh8 t57 b0 b1 b2 b3 q13 q14 q0z q0s q19 q18 q15))
 | some (Sum.inr r)=>some ((Ex.exit 0),(zhg t57 b0 b1 b2 b3 q13 q14 q0z q0s q19 q18 q15 r.1 r.2.1 r.2.2))
def y2o (t57:Int) (b0 b1 b2 b3:List Nat) (q13 q14 q0z q0s:Nat) (q19:Int) (q18 q15:Nat) (x:Option ((Unit)⊕(Nat×Int×Bool))):LO:=(LO.two (oL x) (LO.one Ex.ret (zh8 t57 b0 b1 b2 b3 q13 q14 q0z q0s q19 q18 q15)) (LO.one (Ex.exit 0) (zhg t57 b0 b1 b2 b3 q13 q14 q0z q0s q19 q18 q15 ((tR x).getD default).1 ((tR x).getD default).2.1 ((tR x).getD default).2.2)))
theorem y35 (t57:Int) (b0 b1 b2 b3:List Nat) (q13 q14 q0z q0s:Nat) (q19:Int) (q18 q15:Nat):∀ x:Option ((Unit)⊕(Nat×Int×Bool)),x.isSome=true→(zef t57 b0 b1 b2 b3 q13 q14 q0z q0s q19 q18 q15) x=some (pick (y2o t57 b0 b1 b2 b3 q13 q14 q0z q0s q19 q18 q15 x))
 | none,h=>by cases h
 | some (Sum.inl r),_=>rfl
 | some (Sum.inr r),_=>rfl
theorem y3b (t4:Nat) (t57 t58:Int) (b0 b1 b2 b3:List Nat) (q13 q14 q0z q0s:Nat) (q19:Int) (q18 q15:Nat) (K:Ex→St→Option (Ex×St)):ev9 Γ6 82 6 5 fi82 (zj6 t4 t57 t58 b0 b1 b2 b3 q13 q14 q0z q0s q19 q18 q15) K=z5e t57 b3 q0s q15 t4 t58 (fun t4' t58'=>K .normal (zj6 t4' t57 t58' b0 b1 b2 b3 q13 q14 q0z q0s q19 q18 q15)) (fun _=>K Ex.ret (zh8 t57 b0 b1 b2 b3 q13 q14 q0z q0s q19 q18 q15)) (fun c0_ c1_ c2_=>K (Ex.exit 0) (zhg t57 b0 b1 b2 b3 q13 q14 q0z q0s q19 q18 q15 c0_ c1_ c2_)):=by kernel_rfl
theorem y40 (t57:Int) (b0 b1 b2 b3:List Nat) (q13 q14 q0z q0s:Nat) (q19:Int) (q18 q15:Nat):∀ (n t4:Nat) (t58:Int),iter 82 6 5 (ev9 Γ6 82 6 5 fi82) n (zj6 t4 t57 t58 b0 b1 b2 b3 q13 q14 q0z q0s q19 q18 q15) (fun e st=>some (e,st))=(zef t57 b0 b1 b2 b3 q13 q14 q0z q0s q19 q18 q15) (z1g t57 b3 q0s q15 n t4 t58):=by
 intro n
 induction n with
 | zero=>intros;rfl
 | succ n ih=>
  intro t4 t58
  refine Eq.trans (z4y ..) (Eq.trans (y3b t4 t57 t58 b0 b1 b2 b3 q13 q14 q0z q0s q19 q18 q15 _) (Eq.trans ?_ (zxz (zef t57 b0 b1 b2 b3 q13 q14 q0z q0s q19 q18 q15) rfl t57 b3 q0s q15 t4 t58 (fun t4' t58'=>z1g t57 b3 q0s q15 n t4' t58') (fun _=>some (Sum.inl ())) (fun c0_ c1_ c2_=>some (Sum.inr (c0_,c1_,c2_))))))
  exact congrArg (fun kn_=>z5e t57 b3 q0s q15 t4 t58 kn_ (fun _=>(zef t57 b0 b1 b2 b3 q13 q14 q0z q0s q19 q18 q15) (some (Sum.inl ()))) (fun c0_ c1_ c2_=>(zef t57 b0 b1 b2 b3 q13 q14 q0z q0s q19 q18 q15) (some (Sum.inr (c0_,c1_,c2_))))) (funext fun t4'=>funext fun t58'=>ih t4' t58')
theorem zz2:LoopOne J fnTab 82 6 zt6:=lp_of (Γ:=Γ6) tyTab_ok (FnL.ok fnTab_ok _ _) (LpL.ok y9l) (SumL.ok ya5 _) mixed (fi:=fi82) (by kernel_rfl) (by kernel_rfl) (by
 intro lo st out hp
 obtain⟨hs,e1,e2,e3⟩:=z8d hp
 clear hp
 obtain rfl:st=(zj6 (hvN (hGet hs 0)) (hvI (hGet hs 1)) (hvI (hGet hs 2)) (hvLn (hGet hs 3)) (hvLn (hGet hs 4)) (hvLn (hGet hs 5)) (hvLn (hGet hs 6)) (hvN (hGet hs 7)) (hvN (hGet hs 8)) (hvN (hGet hs 9)) (hvN (hGet hs 10)) (hvI (hGet hs 11)) (hvN (hGet hs 12)) (hvN (hGet hs 13))):=e2.trans (by kernel_rfl)
 clear e2
 subst e1
 unfold zqy at e3
 injection e3 with h1 h2
 subst h2
 exact⟨8,8,big,Eq.trans (y40 (hvI (hGet hs 1)) (hvLn (hGet hs 3)) (hvLn (hGet hs 4)) (hvLn (hGet hs 5)) (hvLn (hGet hs 6)) (hvN (hGet hs 7)) (hvN (hGet hs 8)) (hvN (hGet hs 9)) (hvN (hGet hs 10)) (hvI (hGet hs 11)) (hvN (hGet hs 12)) (hvN (hGet hs 13)) big (hvN (hGet hs 0)) (hvI (hGet hs 2))) (y35 (hvI (hGet hs 1)) (hvLn (hGet hs 3)) (hvLn (hGet hs 4)) (hvLn (hGet hs 5)) (hvLn (hGet hs 6)) (hvN (hGet hs 7)) (hvN (hGet hs 8)) (hvN (hGet hs 9)) (hvN (hGet hs 10)) (hvI (hGet hs 11)) (hvN (hGet hs 12)) (hvN (hGet hs 13)) _ h1)⟩)
noncomputable def tb7:List (Nat×(List PT→Option (Bool×AV×List Blk))):=(114,z3v)::(114,z48)::(114,z4f)::(160,ztm)::(170,zm5)::(181,zoo)::tb6
noncomputable def lt7:List ((Nat×Nat)×(Nat→St→Option (Bool×LO))):=((82,6),zt6)::lt6
noncomputable def Γ7:Ctx:=⟨tyTab,fnTab,tblSum tb7,tblLp lt7⟩
theorem yda:SumL J tb7:=SumL.cons zct (SumL.cons zdz (SumL.cons zf3 (SumL.cons y5q (SumL.cons zx9 (SumL.cons y0m (ya5))))))
theorem yea:LpL J fnTab lt7:=LpL.cons zz2 (y9l)
theorem mk7 {g:FuncId} {F:List PT→Option (Bool×AV×List Blk)} (h:∀ pts v news,F pts=some (true,v,news)→ev8 Γ7 g pts=some (v,news)):SumOne J g F:=z59 (Γ:=Γ7) (fuel:=8) (d:=8) tyTab_ok (FnL.ok fnTab_ok _ _) (LpL.ok yea) (SumL.ok yda _) mixed fun pts v news hp _=>h pts v news hp
def zk7 (q1e:Nat) (q1j:List Nat):Option (Bool)→Option (AV×List Blk)
 | some r=>some ((AV.v (TV.one (At.bool r))),[])
 | none=>none
noncomputable def zjc:List PT→Option (Bool×AV×List Blk)
 | [.one (.row 1 q1e (.fl .f32 q1j))]=>sP (z5p q1e q1j) (zk7 q1e q1j) (z56 q1e q1j)
 | _=>none
theorem zzi (q1e:Nat) (q1j:List Nat):ev8 Γ7 64 [.one (.row 1 q1e (.fl .f32 q1j))]=(zk7 q1e q1j) (z33 q1e q1j):=tr2 (ztp (zk7 q1e q1j) rfl q1e q1j (fun c0_=>some c0_)) (by kernel_rfl)
theorem zv5:SumOne J 64 zjc:=mk7 fun pts v news hp=>by
 unfold zjc at hp
 split at hp
 ·rename_i q1e q1j
  exact fin2 (zzi q1e q1j) hp
 ·cases hp
def zsf (q03:Nat) (q09:List Nat) (q06:Nat) (q0b:List Nat) (q05:Nat) (q0c:List Nat) (q0d:Nat) (q0f:List Nat) (q0h:Int) (q0j q0k:Nat):Option (Bool)→Option (AV×List Blk)
 | some r=>some ((AV.v (TV.one (At.bool r))),[])
 | none=>none
noncomputable def zrp:List PT→Option (Bool×AV×List Blk)
 | [.ptr [.row 1 q03 (.fl .f32 q09),.row 1 q06 (.fl .f32 q0b),.row 1 q05 (.fl .f32 q0c),.row 3 q0d (.fl .f32 q0f),.s (.int .i64 q0h),.s (.flt .f32 q0j),.s (.flt .f32 q0k)]]=>sP (zje q03 q09 q06 q0b q05 q0c q0d q0f q0h q0j q0k) (zsf q03 q09 q06 q0b q05 q0c q0d q0f q0h q0j q0k) (zi6 q03 q09 q06 q0b q05 q0c q0d q0f q0h q0j q0k)
 | _=>none
theorem y9y (q03:Nat) (q09:List Nat) (q06:Nat) (q0b:List Nat) (q05:Nat) (q0c:List Nat) (q0d:Nat) (q0f:List Nat) (q0h:Int) (q0j q0k:Nat):ev8 Γ7 82 [.ptr [.row 1 q03 (.fl .f32 q09),.row 1 q06 (.fl .f32 q0b),.row 1 q05 (.fl .f32 q0c),.row 3 q0d (.fl .f32 q0f),.s (.int .i64 q0h),.s (.flt .f32 q0j),.s (.flt .f32 q0k)]]=(zsf q03 q09 q06 q0b q05 q0c q0d q0f q0h q0j q0k) (zgk q03 q09 q06 q0b q05 q0c q0d q0f q0h q0j q0k):=tr2 (y2z (zsf q03 q09 q06 q0b q05 q0c q0d q0f q0h q0j q0k) rfl q03 q09 q06 q0b q05 q0c q0d q0f q0h q0j q0k (fun c0_=>some c0_)) (by kernel_rfl)
theorem y3d:SumOne J 82 zrp:=mk7 fun pts v news hp=>by
 unfold zrp at hp
 split at hp
 ·rename_i q03 q09 q06 q0b q05 q0c q0d q0f q0h q0j q0k
  exact fin2 (y9y q03 q09 q06 q0b q05 q0c q0d q0f q0h q0j q0k) hp
 ·cases hp
def zma (q1e:Nat) (q1j:List Nat):Option (Bool)→Option (AV×List Blk)
 | some r=>some ((AV.v (TV.one (At.bool r))),[])
 | none=>none
noncomputable def zmi:List PT→Option (Bool×AV×List Blk)
 | [.one (.row 1 q1e (.fl .f32 q1j))]=>sP (zc4 q1e q1j) (zma q1e q1j) (zao q1e q1j)
 | _=>none
theorem y2w (q1e:Nat) (q1j:List Nat):ev8 Γ7 132 [.one (.row 1 q1e (.fl .f32 q1j))]=(zma q1e q1j) (z6w q1e q1j):=tr2 (zwd (zma q1e q1j) rfl q1e q1j (fun c0_=>some c0_)) (by kernel_rfl)
theorem zxk:SumOne J 132 zmi:=mk7 fun pts v news hp=>by
 unfold zmi at hp
 split at hp
 ·rename_i q1e q1j
  exact fin2 (y2w q1e q1j) hp
 ·cases hp
def znu (q1e:Nat) (q1j:List Nat):Option (Bool)→Option (AV×List Blk)
 | some r=>some ((AV.v (TV.one (At.bool r))),[])
 | none=>none
noncomputable def znx:List PT→Option (Bool×AV×List Blk)
 | [.one (.row 1 q1e (.fl .f32 q1j))]=>sP (zj5 q1e q1j) (znu q1e q1j) (zhb q1e q1j)
 | _=>none
theorem y44 (q1e:Nat) (q1j:List Nat):ev8 Γ7 133 [.one (.row 1 q1e (.fl .f32 q1j))]=(znu q1e q1j) (za1 q1e q1j):=tr2 (zxb (znu q1e q1j) rfl q1e q1j (fun c0_=>some c0_)) (by kernel_rfl)
theorem zzd:SumOne J 133 znx:=mk7 fun pts v news hp=>by
 unfold znx at hp
 split at hp
 ·rename_i q1e q1j
  exact fin2 (y44 q1e q1j) hp
 ·cases hp
def zlz (x:Nat):Option (Nat)→Option (AV×List Blk)
 | some r=>some ((AV.v (TV.one (At.flt .f32 r))),[])
 | none=>none
noncomputable def zm4:List PT→Option (Bool×AV×List Blk)
 | [.one (.s (.flt .f32 x))]=>sP (z3w x) (zlz x) (z1h x)
 | _=>none
theorem y2a (x:Nat):ev8 Γ7 141 [.one (.s (.flt .f32 x))]=(zlz x) (z96 x):=tr2 (zvo (zlz x) rfl x (fun c0_=>some c0_)) (by kernel_rfl)
theorem zx4:SumOne J 141 zm4:=mk7 fun pts v news hp=>by
 unfold zm4 at hp
 split at hp
 ·rename_i x
  exact fin2 (y2a x) hp
 ·cases hp
noncomputable def tb8:List (Nat×(List PT→Option (Bool×AV×List Blk))):=(64,zjc)::(82,zrp)::(132,zmi)::(133,znx)::(141,zm4)::tb7
noncomputable def lt8:List ((Nat×Nat)×(Nat→St→Option (Bool×LO))):=lt7
noncomputable def Γ8:Ctx:=⟨tyTab,fnTab,tblSum tb8,tblLp lt8⟩
theorem y39:SumL J tb8:=SumL.cons zv5 (SumL.cons y3d (SumL.cons zxk (SumL.cons zzd (SumL.cons zx4 (yda)))))
theorem y3i:LpL J fnTab lt8:=yea
theorem mk8 {g:FuncId} {F:List PT→Option (Bool×AV×List Blk)} (h:∀ pts v news,F pts=some (true,v,news)→ev8 Γ8 g pts=some (v,news)):SumOne J g F:=z59 (Γ:=Γ8) (fuel:=8) (d:=8) tyTab_ok (FnL.ok fnTab_ok _ _) (LpL.ok y3i) (SumL.ok y39 _) mixed fun pts v news hp _=>h pts v news hp
def zl6 (x y:Nat):Option (Nat×Nat×Bool)→Option (AV×List Blk)
 | some r=>some ((AV.tup [(TV.one (At.flt .f32 r.1)),(TV.one (At.flt .f32 r.2.1)),(TV.one (At.bool r.2.2))]),[])
 | none=>none
noncomputable def zlg:List PT→Option (Bool×AV×List Blk)
 | [.one (.s (.flt .f32 x)),.one (.s (.flt .f32 y))]=>sP (zaf x y) (zl6 x y) (z9o x y,z9q x y,z9n x y)
 | _=>none
theorem y01 (x y:Nat):ev8 Γ8 107 [.one (.s (.flt .f32 x)),.one (.s (.flt .f32 y))]=(zl6 x y) (z52 x y):=tr2 (zug (zl6 x y) rfl x y (fun c0_ c1_ c2_=>some (c0_,c1_,c2_))) (by kernel_rfl)
theorem zvk:SumOne J 107 zlg:=mk8 fun pts v news hp=>by
 unfold zlg at hp
 split at hp
 ·rename_i x y
  exact fin2 (y01 x y) hp
 ·cases hp
def zlf (q00:Nat) (q04:List Nat) (q02:Nat) (q07:List Nat) (q01:Nat) (q08:List Nat) (q0a:Nat) (q0e:List Nat) (q0i:Int) (q0n q0m:Nat) (i:Int):Option (Bool)→Option (AV×List Blk)
 | some r=>some ((AV.v (TV.one (At.bool r))),[])
 | none=>none
noncomputable def zl4:List PT→Option (Bool×AV×List Blk)
 | [.ptr [.row 1 q00 (.fl .f32 q04),.row 1 q02 (.fl .f32 q07),.row 1 q01 (.fl .f32 q08),.row 3 q0a (.fl .f32 q0e),.s (.int .i64 q0i),.s (.flt .f32 q0n),.s (.flt .f32 q0m)],.one (.s (.int .i64 i))]=>sP (zfm q00 q04 q02 q07 q01 q08 q0a q0e q0i q0n q0m i) (zlf q00 q04 q02 q07 q01 q08 q0a q0e q0i q0n q0m i) (zds q00 q04 q02 q07 q01 q08 q0a q0e q0i q0n q0m i)
 | _=>none
theorem y09 (q00:Nat) (q04:List Nat) (q02:Nat) (q07:List Nat) (q01:Nat) (q08:List Nat) (q0a:Nat) (q0e:List Nat) (q0i:Int) (q0n q0m:Nat) (i:Int):ev8 Γ8 127 [.ptr [.row 1 q00 (.fl .f32 q04),.row 1 q02 (.fl .f32 q07),.row 1 q01 (.fl .f32 q08),.row 3 q0a (.fl .f32 q0e),.s (.int .i64 q0i),.s (.flt .f32 q0n),.s (.flt .f32 q0m)],.one (.s (.int .i64 i))]=(zlf q00 q04 q02 q07 q01 q08 q0a q0e q0i q0n q0m i) (z8a q00 q04 q02 q07 q01 q08 q0a q0e q0i q0n q0m i):=tr2 (zuc (zlf q00 q04 q02 q07 q01 q08 q0a q0e q0i q0n q0m i) rfl q00 q04 q02 q07 q01 q08 q0a q0e q0i q0n q0m i (fun c0_=>some c0_)) (by kernel_rfl)
theorem zw4:SumOne J 127 zl4:=mk8 fun pts v news hp=>by
 unfold zl4 at hp
 split at hp
 ·rename_i q00 q04 q02 q07 q01 q08 q0a q0e q0i q0n q0m i
  exact fin2 (y09 q00 q04 q02 q07 q01 q08 q0a q0e q0i q0n q0m i) hp
 ·cases hp
def zga (q00:Nat) (q04:List Nat) (q02:Nat) (q07:List Nat) (q01:Nat) (q08:List Nat) (q0a:Nat) (q0e:List Nat) (q0i:Int) (q0n q0m:Nat) (i:Int) (q16:Nat):Option (Nat)→Option (AV×List Blk)
 | some r=>some ((AV.v (TV.one (At.flt .f32 r))),[])
 | none=>none
noncomputable def zg1:List PT→Option (Bool×AV×List Blk)
 | [.agg [.row 1 q00 (.fl .f32 q04),.row 1 q02 (.fl .f32 q07),.row 1 q01 (.fl .f32 q08),.row 3 q0a (.fl .f32 q0e),.s (.int .i64 q0i),.s (.flt .f32 q0n),.s (.flt .f32 q0m)],.one (.s (.int .i64 i)),.one (.s (.flt .f32 q16))]=>sP (za0 q00 q04 q02 q07 q01 q08 q0a q0e q0i q0n q0m i q16) (zga q00 q04 q02 q07 q01 q08 q0a q0e q0i q0n q0m i q16) (z6l q00 q04 q02 q07 q01 q08 q0a q0e q0i q0n q0m i q16)
 | _=>none
theorem zv1 (q00:Nat) (q04:List Nat) (q02:Nat) (q07:List Nat) (q01:Nat) (q08:List Nat) (q0a:Nat) (q0e:List Nat) (q0i:Int) (q0n q0m:Nat) (i:Int) (q16:Nat):ev8 Γ8 143 [.agg [.row 1 q00 (.fl .f32 q04),.row 1 q02 (.fl .f32 q07),.row 1 q01 (.fl .f32 q08),.row 3 q0a (.fl .f32 q0e),.s (.int .i64 q0i),.s (.flt .f32 q0n),.s (.flt .f32 q0m)],.one (.s (.int .i64 i)),.one (.s (.flt .f32 q16))]=(zga q00 q04 q02 q07 q01 q08 q0a q0e q0i q0n q0m i q16) (z5l q00 q04 q02 q07 q01 q08 q0a q0e q0i q0n q0m i q16):=tr2 (zrj (zga q00 q04 q02 q07 q01 q08 q0a q0e q0i q0n q0m i q16) rfl q00 q04 q02 q07 q01 q08 q0a q0e q0i q0n q0m i q16 (fun c0_=>some c0_)) (by kernel_rfl)
theorem zs4:SumOne J 143 zg1:=mk8 fun pts v news hp=>by
 unfold zg1 at hp
 split at hp
 ·rename_i q00 q04 q02 q07 q01 q08 q0a q0e q0i q0n q0m i q16
  exact fin2 (zv1 q00 q04 q02 q07 q01 q08 q0a q0e q0i q0n q0m i q16) hp
 ·cases hp
def z1y (sn:Nat) (t7 t8:Int) (b0 b1 b2:List Nat) (q1b q1g q1h b4:Nat):St:=(St.mk [(0,(AV.v (TV.one (At.vw 0 0 sn 1)))),(1,(AV.v (TV.one (At.fn 171 [(At.ptr 4 0 1)])))),(7,(AV.v (TV.one (At.int .i64 t7)))),(8,(AV.v (TV.one (At.int .i64 t8))))] [(Blk.mk Bool.false (Body.fl .f32 b0)),(Blk.mk Bool.false (Body.fl .f32 b1)),(Blk.mk Bool.false (Body.fl .f32 b2)),(Blk.mk Bool.true (Body.cells [(At.vw 0 0 q1b 1),(At.vw 1 0 q1g 1),(At.vw 2 0 q1h 1)])),(Blk.mk Bool.true (Body.cells [(At.flt .f32 b4)]))])
def z1t (sn:Nat) (t7:Int) (b0 b1 b2:List Nat) (q1b q1g q1h b4:Nat) (c0_:Int):St:=(St.mk [(4,(AV.v (TV.one (At.int .i64 c0_))))] [(Blk.mk Bool.false (Body.fl .f32 b0)),(Blk.mk Bool.false (Body.fl .f32 b1)),(Blk.mk Bool.false (Body.fl .f32 b2)),(Blk.mk Bool.true (Body.cells [(At.vw 0 0 q1b 1),(At.vw 1 0 q1g 1),(At.vw 2 0 q1h 1)])),(Blk.mk Bool.true (Body.cells [(At.flt .f32 b4)]))])
def z1s (sn:Nat) (t7:Int) (b0 b1 b2:List Nat) (q1b q1g q1h b4:Nat) (c0_:Int) (c1_:Bool):St:=(St.mk [(0,(AV.v (TV.one (At.vw 0 0 sn 1)))),(1,(AV.v (TV.one (At.fn 171 [(At.ptr 4 0 1)])))),(7,(AV.v (TV.one (At.int .i64 t7)))),(8,(AV.v (TV.one (At.int .i64 c0_)))),(9,(AV.v (TV.one (At.bool c1_))))] [(Blk.mk Bool.false (Body.fl .f32 b0)),(Blk.mk Bool.false (Body.fl .f32 b1)),(Blk.mk Bool.false (Body.fl .f32 b2)),(Blk.mk Bool.true (Body.cells [(At.vw 0 0 q1b 1),(At.vw 1 0 q1g 1),(At.vw 2 0 q1h 1)])),(Blk.mk Bool.true (Body.cells [(At.flt .f32 b4)]))])
noncomputable def z5w (sn:Nat) (t7 t8:Int) (b0 b1 b2:List Nat) (q1b q1g q1h b4:Nat):Bool×LO:=((z0n sn t7 b0 b4 t8),(LO.two (z0m sn t7 b0 b4 t8) (LO.one Ex.ret (z1t sn t7 b0 b1 b2 q1b q1g q1h b4 (z05 sn t7 b0 b4 t8))) (LO.one (Ex.exit 0) (z1s sn t7 b0 b1 b2 q1b q1g q1h b4 (z3c sn t7 b0 b4 t8) (z3h sn t7 b0 b4 t8)))))
noncomputable def z6d:Nat→St→Option (Bool×LO):=lpT 5 (pSt [(pTm 0 (pV (pOne (pVw 0 (liN 0) 1)))),(pTm 1 (pV (pOne (pFn 171 [(pPtr 4 (liN 0) 1)])))),(pTm 7 (pV (pOne (pInt .i64)))),(pTm 8 (pV (pOne (pInt .i64))))] [(pBlk Bool.false (pFl .f32)),(pBlk Bool.false (pFl .f32)),(pBlk Bool.false (pFl .f32)),(pBlk Bool.true (pCells [(pVw 0 (liN 0) 1),(pVw 1 (liN 0) 1),(pVw 2 (liN 0) 1)])),(pBlk Bool.true (pCells [(pFlt .f32)]))]) (fun hs=>z5w (hvN (hGet hs 0)) (hvI (hGet hs 1)) (hvI (hGet hs 2)) (hvLn (hGet hs 3)) (hvLn (hGet hs 4)) (hvLn (hGet hs 5)) (hvN (hGet hs 6)) (hvN (hGet hs 7)) (hvN (hGet hs 8)) (hvN (hGet hs 9)))
def z19 (sn:Nat) (t7:Int) (b0 b1 b2:List Nat) (q1b q1g q1h b4:Nat):Option ((Int)⊕(Int×Bool))→Option (Ex×St)
 | none=>none
 | some (Sum.inl r)=>some (Ex.ret,(z1t sn t7 b0 b1 b2 q1b q1g q1h b4 r))
 | some (Sum.inr r)=>some ((Ex.exit 0),(z1s sn t7 b0 b1 b2 q1b q1g q1h b4 r.1 r.2))
def zcy (sn:Nat) (t7:Int) (b0 b1 b2:List Nat) (q1b q1g q1h b4:Nat) (x:Option ((Int)⊕(Int×Bool))):LO:=(LO.two (oL x) (LO.one Ex.ret (z1t sn t7 b0 b1 b2 q1b q1g q1h b4 ((tL x).getD default))) (LO.one (Ex.exit 0) (z1s sn t7 b0 b1 b2 q1b q1g q1h b4 ((tR x).getD default).1 ((tR x).getD default).2)))
theorem zdi (sn:Nat) (t7:Int) (b0 b1 b2:List Nat) (q1b q1g q1h b4:Nat):∀ x:Option ((Int)⊕(Int×Bool)),x.isSome=true→(z19 sn t7 b0 b1 b2 q1b q1g q1h b4) x=some (pick (zcy sn t7 b0 b1 b2 q1b q1g q1h b4 x))
 | none,h=>by cases h
 | some (Sum.inl r),_=>rfl
 | some (Sum.inr r),_=>rfl
theorem zdd (sn:Nat) (t7 t8:Int) (b0 b1 b2:List Nat) (q1b q1g q1h b4:Nat) (K:Ex→St→Option (Ex×St)):ev9 Γ8 146 2 5 fi146 (z1y sn t7 t8 b0 b1 b2 q1b q1g q1h b4) K=z0d sn t7 b0 b4 t8 (fun t8'=>K .normal (z1y sn t7 t8' b0 b1 b2 q1b q1g q1h b4)) (fun c0_=>K Ex.ret (z1t sn t7 b0 b1 b2 q1b q1g q1h b4 c0_)) (fun c0_ c1_=>K (Ex.exit 0) (z1s sn t7 b0 b1 b2 q1b q1g q1h b4 c0_ c1_)):=by kernel_rfl
theorem zdj (sn:Nat) (t7:Int) (b0 b1 b2:List Nat) (q1b q1g q1h b4:Nat):∀ (n:Nat) (t8:Int),iter 146 2 5 (ev9 Γ8 146 2 5 fi146) n (z1y sn t7 t8 b0 b1 b2 q1b q1g q1h b4) (fun e st=>some (e,st))=(z19 sn t7 b0 b1 b2 q1b q1g q1h b4) (z01 sn t7 b0 b4 n t8):=by
 intro n
 induction n with
 | zero=>intros;rfl
 | succ n ih=>
  intro t8
  refine Eq.trans (z4y ..) (Eq.trans (zdd sn t7 t8 b0 b1 b2 q1b q1g q1h b4 _) (Eq.trans ?_ (zbq (z19 sn t7 b0 b1 b2 q1b q1g q1h b4) rfl sn t7 b0 b4 t8 (fun t8'=>z01 sn t7 b0 b4 n t8') (fun c0_=>some (Sum.inl c0_)) (fun c0_ c1_=>some (Sum.inr (c0_,c1_))))))
  exact congrArg (fun kn_=>z0d sn t7 b0 b4 t8 kn_ (fun c0_=>(z19 sn t7 b0 b1 b2 q1b q1g q1h b4) (some (Sum.inl c0_))) (fun c0_ c1_=>(z19 sn t7 b0 b1 b2 q1b q1g q1h b4) (some (Sum.inr (c0_,c1_))))) (funext fun t8'=>ih t8')
theorem zcg:LoopOne J fnTab 146 2 z6d:=lp_of (Γ:=Γ8) tyTab_ok (FnL.ok fnTab_ok _ _) (LpL.ok y3i) (SumL.ok y39 _) mixed (fi:=fi146) (by kernel_rfl) (by kernel_rfl) (by
 intro lo st out hp
 obtain⟨hs,e1,e2,e3⟩:=z8d hp
 clear hp
 obtain rfl:st=(z1y (hvN (hGet hs 0)) (hvI (hGet hs 1)) (hvI (hGet hs 2)) (hvLn (hGet hs 3)) (hvLn (hGet hs 4)) (hvLn (hGet hs 5)) (hvN (hGet hs 6)) (hvN (hGet hs 7)) (hvN (hGet hs 8)) (hvN (hGet hs 9))):=e2.trans (by kernel_rfl)
 clear e2
 subst e1
 unfold z5w at e3
 injection e3 with h1 h2
 subst h2
 exact⟨8,8,big,Eq.trans (zdj (hvN (hGet hs 0)) (hvI (hGet hs 1)) (hvLn (hGet hs 3)) (hvLn (hGet hs 4)) (hvLn (hGet hs 5)) (hvN (hGet hs 6)) (hvN (hGet hs 7)) (hvN (hGet hs 8)) (hvN (hGet hs 9)) big (hvI (hGet hs 2))) (zdi (hvN (hGet hs 0)) (hvI (hGet hs 1)) (hvLn (hGet hs 3)) (hvLn (hGet hs 4)) (hvLn (hGet hs 5)) (hvN (hGet hs 6)) (hvN (hGet hs 7)) (hvN (hGet hs 8)) (hvN (hGet hs 9)) _ h1)⟩)
def zfd (t8:Nat) (t9 t10:Int) (b0 b1 b2:List Nat) (q1b q1g q1h:Nat):St:=(St.mk [(0,(AV.v (TV.one (At.ptr 3 0 3)))),(8,(AV.v (TV.one (At.flt .f32 t8)))),(9,(AV.v (TV.one (At.int .i64 t9)))),(10,(AV.v (TV.one (At.int .i64 t10))))] [(Blk.mk Bool.false (Body.fl .f32 b0)),(Blk.mk Bool.false (Body.fl .f32 b1)),(Blk.mk Bool.false (Body.fl .f32 b2)),(Blk.mk Bool.false (Body.cells [(At.vw 0 0 q1b 1),(At.vw 1 0 q1g 1),(At.vw 2 0 q1h 1)]))])
def zdr (t8:Nat) (t9:Int) (b0 b1 b2:List Nat) (q1b q1g q1h:Nat) (c0_:Int) (c1_:Bool):St:=(St.mk [(0,(AV.v (TV.one (At.ptr 3 0 3)))),(8,(AV.v (TV.one (At.flt .f32 t8)))),(9,(AV.v (TV.one (At.int .i64 t9)))),(10,(AV.v (TV.one (At.int .i64 c0_)))),(36,(AV.v (TV.one (At.bool c1_))))] [(Blk.mk Bool.false (Body.fl .f32 b0)),(Blk.mk Bool.false (Body.fl .f32 b1)),(Blk.mk Bool.false (Body.fl .f32 b2)),(Blk.mk Bool.false (Body.cells [(At.vw 0 0 q1b 1),(At.vw 1 0 q1g 1),(At.vw 2 0 q1h 1)]))])
noncomputable def zob (t8:Nat) (t9 t10:Int) (b0 b1 b2:List Nat) (q1b q1g q1h:Nat):Bool×LO:=((zfg t8 b0 q1b t10),(LO.one (Ex.exit 0) (zdr t8 t9 b0 b1 b2 q1b q1g q1h (zas t8 b0 q1b t10) (zhr t8 b0 q1b t10))))
noncomputable def zr0:Nat→St→Option (Bool×LO):=lpT 4 (pSt [(pTm 0 (pV (pOne (pPtr 3 (liN 0) 3)))),(pTm 8 (pV (pOne (pFlt .f32)))),(pTm 9 (pV (pOne (pInt .i64)))),(pTm 10 (pV (pOne (pInt .i64))))] [(pBlk Bool.false (pFl .f32)),(pBlk Bool.false (pFl .f32)),(pBlk Bool.false (pFl .f32)),(pBlk Bool.false (pCells [(pVw 0 (liN 0) 1),(pVw 1 (liN 0) 1),(pVw 2 (liN 0) 1)]))]) (fun hs=>zob (hvN (hGet hs 0)) (hvI (hGet hs 1)) (hvI (hGet hs 2)) (hvLn (hGet hs 3)) (hvLn (hGet hs 4)) (hvLn (hGet hs 5)) (hvN (hGet hs 6)) (hvN (hGet hs 7)) (hvN (hGet hs 8)))
def zfl (t8:Nat) (t9:Int) (b0 b1 b2:List Nat) (q1b q1g q1h:Nat):Option ((Int×Bool))→Option (Ex×St)
 | none=>none
 | some r=>some ((Ex.exit 0),(zdr t8 t9 b0 b1 b2 q1b q1g q1h r.1 r.2))
def zzf (t8:Nat) (t9:Int) (b0 b1 b2:List Nat) (q1b q1g q1h:Nat) (x:Option ((Int×Bool))):LO:=(LO.one (Ex.exit 0) (zdr t8 t9 b0 b1 b2 q1b q1g q1h (x.getD default).1 (x.getD default).2))
theorem y0t (t8:Nat) (t9:Int) (b0 b1 b2:List Nat) (q1b q1g q1h:Nat):∀ x:Option ((Int×Bool)),x.isSome=true→(zfl t8 t9 b0 b1 b2 q1b q1g q1h) x=some (pick (zzf t8 t9 b0 b1 b2 q1b q1g q1h x))
 | none,h=>by cases h
 | some r,_=>rfl
theorem y0j (t8:Nat) (t9 t10:Int) (b0 b1 b2:List Nat) (q1b q1g q1h:Nat) (K:Ex→St→Option (Ex×St)):ev9 Γ8 176 4 4 fi176 (zfd t8 t9 t10 b0 b1 b2 q1b q1g q1h) K=z46 t8 b0 q1b t10 (fun t10'=>K .normal (zfd t8 t9 t10' b0 b1 b2 q1b q1g q1h)) (fun c0_ c1_=>K (Ex.exit 0) (zdr t8 t9 b0 b1 b2 q1b q1g q1h c0_ c1_)):=by kernel_rfl
theorem y0w (t8:Nat) (t9:Int) (b0 b1 b2:List Nat) (q1b q1g q1h:Nat):∀ (n:Nat) (t10:Int),iter 176 4 4 (ev9 Γ8 176 4 4 fi176) n (zfd t8 t9 t10 b0 b1 b2 q1b q1g q1h) (fun e st=>some (e,st))=(zfl t8 t9 b0 b1 b2 q1b q1g q1h) (z2p t8 b0 q1b n t10):=by
 intro n
 induction n with
 | zero=>intros;rfl
 | succ n ih=>
  intro t10
  refine Eq.trans (z4y ..) (Eq.trans (y0j t8 t9 t10 b0 b1 b2 q1b q1g q1h _) (Eq.trans ?_ (zut (zfl t8 t9 b0 b1 b2 q1b q1g q1h) rfl t8 b0 q1b t10 (fun t10'=>z2p t8 b0 q1b n t10') (fun c0_ c1_=>some (c0_,c1_)))))
  exact congrArg (fun kn_=>z46 t8 b0 q1b t10 kn_ (fun c0_ c1_=>(zfl t8 t9 b0 b1 b2 q1b q1g q1h) (some (c0_,c1_)))) (funext fun t10'=>ih t10')
theorem zvz:LoopOne J fnTab 176 4 zr0:=lp_of (Γ:=Γ8) tyTab_ok (FnL.ok fnTab_ok _ _) (LpL.ok y3i) (SumL.ok y39 _) mixed (fi:=fi176) (by kernel_rfl) (by kernel_rfl) (by
 intro lo st out hp
 obtain⟨hs,e1,e2,e3⟩:=z8d hp
 clear hp
 obtain rfl:st=(zfd (hvN (hGet hs 0)) (hvI (hGet hs 1)) (hvI (hGet hs 2)) (hvLn (hGet hs 3)) (hvLn (hGet hs 4)) (hvLn (hGet hs 5)) (hvN (hGet hs 6)) (hvN (hGet hs 7)) (hvN (hGet hs 8))):=e2.trans (by kernel_rfl)
 clear e2
 subst e1
 unfold zob at e3
 injection e3 with h1 h2
 subst h2
 exact⟨8,8,big,Eq.trans (y0w (hvN (hGet hs 0)) (hvI (hGet hs 1)) (hvLn (hGet hs 3)) (hvLn (hGet hs 4)) (hvLn (hGet hs 5)) (hvN (hGet hs 6)) (hvN (hGet hs 7)) (hvN (hGet hs 8)) big (hvI (hGet hs 2))) (y0t (hvN (hGet hs 0)) (hvI (hGet hs 1)) (hvLn (hGet hs 3)) (hvLn (hGet hs 4)) (hvLn (hGet hs 5)) (hvN (hGet hs 6)) (hvN (hGet hs 7)) (hvN (hGet hs 8)) _ h1)⟩)
noncomputable def tb9:List (Nat×(List PT→Option (Bool×AV×List Blk))):=(107,zlg)::(127,zl4)::(143,zg1)::tb8
noncomputable def lt9:List ((Nat×Nat)×(Nat→St→Option (Bool×LO))):=((146,2),z6d)::((176,4),zr0)::lt8
noncomputable def Γ9:Ctx:=⟨tyTab,fnTab,tblSum tb9,tblLp lt9⟩
theorem y8a:SumL J tb9:=SumL.cons zvk (SumL.cons zw4 (SumL.cons zs4 (y39)))
theorem ya7:LpL J fnTab lt9:=LpL.cons zcg (LpL.cons zvz (y3i))
theorem mk9 {g:FuncId} {F:List PT→Option (Bool×AV×List Blk)} (h:∀ pts v news,F pts=some (true,v,news)→ev8 Γ9 g pts=some (v,news)):SumOne J g F:=z59 (Γ:=Γ9) (fuel:=8) (d:=8) tyTab_ok (FnL.ok fnTab_ok _ _) (LpL.ok ya7) (SumL.ok y8a _) mixed fun pts v news hp _=>h pts v news hp
def zqd (q00:Nat) (q04:List Nat) (q02:Nat) (q07:List Nat) (q01:Nat) (q08:List Nat) (q0a:Nat) (q0e:List Nat) (q0i:Int) (q0n q0m:Nat) (i:Int) (q0w q0r q0o:Nat):Option (Bool)→Option (AV×List Blk)
 | some r=>some ((AV.v (TV.one (At.bool r))),[])
 | none=>none
noncomputable def zqr:List PT→Option (Bool×AV×List Blk)
 | [.ptr [.row 1 q00 (.fl .f32 q04),.row 1 q02 (.fl .f32 q07),.row 1 q01 (.fl .f32 q08),.row 3 q0a (.fl .f32 q0e),.s (.int .i64 q0i),.s (.flt .f32 q0n),.s (.flt .f32 q0m)],.one (.s (.int .i64 i)),.one (.s (.flt .f32 q0w)),.one (.s (.flt .f32 q0r)),.one (.s (.flt .f32 q0o))]=>sP (zlu q00 q04 q02 q07 q01 q08 q0a q0e q0i q0n q0m i q0w q0r q0o) (zqd q00 q04 q02 q07 q01 q08 q0a q0e q0i q0n q0m i q0w q0r q0o) (zl0 q00 q04 q02 q07 q01 q08 q0a q0e q0i q0n q0m i q0w q0r q0o)
 | _=>none
theorem y7s (q00:Nat) (q04:List Nat) (q02:Nat) (q07:List Nat) (q01:Nat) (q08:List Nat) (q0a:Nat) (q0e:List Nat) (q0i:Int) (q0n q0m:Nat) (i:Int) (q0w q0r q0o:Nat):ev8 Γ9 87 [.ptr [.row 1 q00 (.fl .f32 q04),.row 1 q02 (.fl .f32 q07),.row 1 q01 (.fl .f32 q08),.row 3 q0a (.fl .f32 q0e),.s (.int .i64 q0i),.s (.flt .f32 q0n),.s (.flt .f32 q0m)],.one (.s (.int .i64 i)),.one (.s (.flt .f32 q0w)),.one (.s (.flt .f32 q0r)),.one (.s (.flt .f32 q0o))]=(zqd q00 q04 q02 q07 q01 q08 q0a q0e q0i q0n q0m i q0w q0r q0o) (zd4 q00 q04 q02 q07 q01 q08 q0a q0e q0i q0n q0m i q0w q0r q0o):=tr2 (y0p (zqd q00 q04 q02 q07 q01 q08 q0a q0e q0i q0n q0m i q0w q0r q0o) rfl q00 q04 q02 q07 q01 q08 q0a q0e q0i q0n q0m i q0w q0r q0o (fun c0_=>some c0_)) (by kernel_rfl)
theorem y21:SumOne J 87 zqr:=mk9 fun pts v news hp=>by
 unfold zqr at hp
 split at hp
 ·rename_i q00 q04 q02 q07 q01 q08 q0a q0e q0i q0n q0m i q0w q0r q0o
  exact fin2 (y7s q00 q04 q02 q07 q01 q08 q0a q0e q0i q0n q0m i q0w q0r q0o) hp
 ·cases hp
def zek (q0g:Nat) (q0l:List Nat) (q0q:Nat) (q0t:List Nat) (q0p:Nat) (q0u:List Nat) (x1:Nat):Option (Int×Int×Nat×Nat×Nat)→Option (AV×List Blk)
 | some r=>some ((AV.tup [(TV.one (At.int .i64 r.1)),(TV.one (At.int .i64 r.2.1)),(TV.one (At.flt .f32 r.2.2.1)),(TV.one (At.flt .f32 r.2.2.2.1)),(TV.one (At.flt .f32 r.2.2.2.2))]),[])
 | none=>none
noncomputable def zev:List PT→Option (Bool×AV×List Blk)
 | [.agg [.row 1 q0g (.fl .f32 q0l),.row 1 q0q (.fl .f32 q0t),.row 1 q0p (.fl .f32 q0u)],.one (.s (.flt .f32 x1))]=>sP (z9i q0g q0l q0q q0t q0p q0u x1) (zek q0g q0l q0q q0t q0p q0u x1) (z1u q0g q0l q0q q0t q0p q0u x1,z1r q0g q0l q0q q0t q0p q0u x1,z2l q0g q0l q0q q0t q0p q0u x1,z4j q0g q0l q0q q0t q0p q0u x1,z65 q0g q0l q0q q0t q0p q0u x1)
 | _=>none
theorem zto (q0g:Nat) (q0l:List Nat) (q0q:Nat) (q0t:List Nat) (q0p:Nat) (q0u:List Nat) (x1:Nat):ev8 Γ9 161 [.agg [.row 1 q0g (.fl .f32 q0l),.row 1 q0q (.fl .f32 q0t),.row 1 q0p (.fl .f32 q0u)],.one (.s (.flt .f32 x1))]=(zek q0g q0l q0q q0t q0p q0u x1) (z1c q0g q0l q0q q0t q0p q0u x1):=tr2 (zqe (zek q0g q0l q0q q0t q0p q0u x1) rfl q0g q0l q0q q0t q0p q0u x1 (fun c0_ c1_ c2_ c3_ c4_=>some (c0_,c1_,c2_,c3_,c4_))) (by kernel_rfl)
theorem zrh:SumOne J 161 zev:=mk9 fun pts v news hp=>by
 unfold zev at hp
 split at hp
 ·rename_i q0g q0l q0q q0t q0p q0u x1
  exact fin2 (zto q0g q0l q0q q0t q0p q0u x1) hp
 ·cases hp
def zpd (q0g:Nat) (q0l:List Nat) (q0q:Nat) (q0t:List Nat) (q0p:Nat) (q0u:List Nat) (x1:Nat):Option (Int×Int×Nat×Nat)→Option (AV×List Blk)
 | some r=>some ((AV.tup [(TV.one (At.int .i64 r.1)),(TV.one (At.int .i64 r.2.1)),(TV.one (At.flt .f32 r.2.2.1)),(TV.one (At.flt .f32 r.2.2.2))]),[])
 | none=>none
noncomputable def zpb:List PT→Option (Bool×AV×List Blk)
 | [.ptr [.row 1 q0g (.fl .f32 q0l),.row 1 q0q (.fl .f32 q0t),.row 1 q0p (.fl .f32 q0u)],.one (.s (.flt .f32 x1))]=>sP (zkw q0g q0l q0q q0t q0p q0u x1) (zpd q0g q0l q0q q0t q0p q0u x1) (z7o q0g q0l q0q q0t q0p q0u x1,ze6 q0g q0l q0q q0t q0p q0u x1,zj7 q0g q0l q0q q0t q0p q0u x1,znd q0g q0l q0q q0t q0p q0u x1)
 | _=>none
theorem y54 (q0g:Nat) (q0l:List Nat) (q0q:Nat) (q0t:List Nat) (q0p:Nat) (q0u:List Nat) (x1:Nat):ev8 Γ9 176 [.ptr [.row 1 q0g (.fl .f32 q0l),.row 1 q0q (.fl .f32 q0t),.row 1 q0p (.fl .f32 q0u)],.one (.s (.flt .f32 x1))]=(zpd q0g q0l q0q q0t q0p q0u x1) (z4w q0g q0l q0q q0t q0p q0u x1):=tr2 (zys (zpd q0g q0l q0q q0t q0p q0u x1) rfl q0g q0l q0q q0t q0p q0u x1 (fun c0_ c1_ c2_ c3_=>some (c0_,c1_,c2_,c3_))) (by kernel_rfl)
theorem y0q:SumOne J 176 zpb:=mk9 fun pts v news hp=>by
 unfold zpb at hp
 split at hp
 ·rename_i q0g q0l q0q q0t q0p q0u x1
  exact fin2 (y54 q0g q0l q0q q0t q0p q0u x1) hp
 ·cases hp
def z9h (q1q:Nat) (t43 t44:Int) (b0 b1 b2:List Nat) (q1b q1g q1h:Nat):St:=(St.mk [(1,(AV.v (TV.one (At.ptr 3 0 3)))),(42,(AV.v (TV.one (At.vw 0 0 q1q 1)))),(43,(AV.v (TV.one (At.int .i64 t43)))),(44,(AV.v (TV.one (At.int .i64 t44))))] [(Blk.mk Bool.false (Body.fl .f32 b0)),(Blk.mk Bool.false (Body.fl .f32 b1)),(Blk.mk Bool.false (Body.fl .f32 b2)),(Blk.mk Bool.true (Body.cells [(At.vw 0 0 q1b 1),(At.vw 1 0 q1g 1),(At.vw 2 0 q1h 1)]))])
def z8i (q1q:Nat) (t43:Int) (b0 b1 b2:List Nat) (q1b q1g q1h:Nat):St:=(St.mk [(2,(AV.v (TV.one (At.bool Bool.false))))] [(Blk.mk Bool.false (Body.fl .f32 b0)),(Blk.mk Bool.false (Body.fl .f32 b1)),(Blk.mk Bool.false (Body.fl .f32 b2))])
def z8g (q1q:Nat) (t43:Int) (b0 b1 b2:List Nat) (q1b q1g q1h:Nat) (c0_:Int) (c1_:Bool):St:=(St.mk [(1,(AV.v (TV.one (At.ptr 3 0 3)))),(42,(AV.v (TV.one (At.vw 0 0 q1q 1)))),(43,(AV.v (TV.one (At.int .i64 t43)))),(44,(AV.v (TV.one (At.int .i64 c0_)))),(45,(AV.v (TV.one (At.bool c1_))))] [(Blk.mk Bool.false (Body.fl .f32 b0)),(Blk.mk Bool.false (Body.fl .f32 b1)),(Blk.mk Bool.false (Body.fl .f32 b2)),(Blk.mk Bool.true (Body.cells [(At.vw 0 0 q1b 1),(At.vw 1 0 q1g 1),(At.vw 2 0 q1h 1)]))])
noncomputable def zjk (q1q:Nat) (t43 t44:Int) (b0 b1 b2:List Nat) (q1b q1g q1h:Nat):Bool×LO:=((z42 q1q t43 b0 q1b t44),(LO.two (z3o q1q t43 b0 q1b t44) (LO.one Ex.ret (z8i q1q t43 b0 b1 b2 q1b q1g q1h)) (LO.one (Ex.exit 0) (z8g q1q t43 b0 b1 b2 q1b q1g q1h (zax q1q t43 b0 q1b t44) (zbe q1q t43 b0 q1b t44)))))
noncomputable def zll:Nat→St→Option (Bool×LO):=lpT 3 (pSt [(pTm 1 (pV (pOne (pPtr 3 (liN 0) 3)))),(pTm 42 (pV (pOne (pVw 0 (liN 0) 1)))),(pTm 43 (pV (pOne (pInt .i64)))),(pTm 44 (pV (pOne (pInt .i64))))] [(pBlk Bool.false (pFl .f32)),(pBlk Bool.false (pFl .f32)),(pBlk Bool.false (pFl .f32)),(pBlk Bool.true (pCells [(pVw 0 (liN 0) 1),(pVw 1 (liN 0) 1),(pVw 2 (liN 0) 1)]))]) (fun hs=>zjk (hvN (hGet hs 0)) (hvI (hGet hs 1)) (hvI (hGet hs 2)) (hvLn (hGet hs 3)) (hvLn (hGet hs 4)) (hvLn (hGet hs 5)) (hvN (hGet hs 6)) (hvN (hGet hs 7)) (hvN (hGet hs 8)))
def z6m (q1q:Nat) (t43:Int) (b0 b1 b2:List Nat) (q1b q1g q1h:Nat):Option ((Unit)⊕(Int×Bool))→Option (Ex×St)
 | none=>none
 | some (Sum.inl r)=>some (Ex.ret,(z8i q1q t43 b0 b1 b2 q1b q1g q1h))
 | some (Sum.inr r)=>some ((Ex.exit 0),(z8g q1q t43 b0 b1 b2 q1b q1g q1h r.1 r.2))
def zsw (q1q:Nat) (t43:Int) (b0 b1 b2:List Nat) (q1b q1g q1h:Nat) (x:Option ((Unit)⊕(Int×Bool))):LO:=(LO.two (oL x) (LO.one Ex.ret (z8i q1q t43 b0 b1 b2 q1b q1g q1h)) (LO.one (Ex.exit 0) (z8g q1q t43 b0 b1 b2 q1b q1g q1h ((tR x).getD default).1 ((tR x).getD default).2)))
theorem ztl (q1q:Nat) (t43:Int) (b0 b1 b2:List Nat) (q1b q1g q1h:Nat):∀ x:Option ((Unit)⊕(Int×Bool)),x.isSome=true→(z6m q1q t43 b0 b1 b2 q1b q1g q1h) x=some (pick (zsw q1q t43 b0 b1 b2 q1b q1g q1h x))
 | none,h=>by cases h
 | some (Sum.inl r),_=>rfl
 | some (Sum.inr r),_=>rfl
theorem ztn (q1q:Nat) (t43 t44:Int) (b0 b1 b2:List Nat) (q1b q1g q1h:Nat) (K:Ex→St→Option (Ex×St)):ev9 Γ9 89 5 3 fi89 (z9h q1q t43 t44 b0 b1 b2 q1b q1g q1h) K=z25 q1q t43 b0 q1b t44 (fun t44'=>K .normal (z9h q1q t43 t44' b0 b1 b2 q1b q1g q1h)) (fun _=>K Ex.ret (z8i q1q t43 b0 b1 b2 q1b q1g q1h)) (fun c0_ c1_=>K (Ex.exit 0) (z8g q1q t43 b0 b1 b2 q1b q1g q1h c0_ c1_)):=by kernel_rfl
theorem ztq (q1q:Nat) (t43:Int) (b0 b1 b2:List Nat) (q1b q1g q1h:Nat):∀ (n:Nat) (t44:Int),iter 89 5 3 (ev9 Γ9 89 5 3 fi89) n (z9h q1q t43 t44 b0 b1 b2 q1b q1g q1h) (fun e st=>some (e,st))=(z6m q1q t43 b0 b1 b2 q1b q1g q1h) (z14 q1q t43 b0 q1b n t44):=by
 intro n
 induction n with
 | zero=>intros;rfl
 | succ n ih=>
  intro t44
  refine Eq.trans (z4y ..) (Eq.trans (ztn q1q t43 t44 b0 b1 b2 q1b q1g q1h _) (Eq.trans ?_ (zqh (z6m q1q t43 b0 b1 b2 q1b q1g q1h) rfl q1q t43 b0 q1b t44 (fun t44'=>z14 q1q t43 b0 q1b n t44') (fun _=>some (Sum.inl ())) (fun c0_ c1_=>some (Sum.inr (c0_,c1_))))))
  exact congrArg (fun kn_=>z25 q1q t43 b0 q1b t44 kn_ (fun _=>(z6m q1q t43 b0 b1 b2 q1b q1g q1h) (some (Sum.inl ()))) (fun c0_ c1_=>(z6m q1q t43 b0 b1 b2 q1b q1g q1h) (some (Sum.inr (c0_,c1_))))) (funext fun t44'=>ih t44')
theorem zrk:LoopOne J fnTab 89 5 zll:=lp_of (Γ:=Γ9) tyTab_ok (FnL.ok fnTab_ok _ _) (LpL.ok ya7) (SumL.ok y8a _) mixed (fi:=fi89) (by kernel_rfl) (by kernel_rfl) (by
 intro lo st out hp
 obtain⟨hs,e1,e2,e3⟩:=z8d hp
 clear hp
 obtain rfl:st=(z9h (hvN (hGet hs 0)) (hvI (hGet hs 1)) (hvI (hGet hs 2)) (hvLn (hGet hs 3)) (hvLn (hGet hs 4)) (hvLn (hGet hs 5)) (hvN (hGet hs 6)) (hvN (hGet hs 7)) (hvN (hGet hs 8))):=e2.trans (by kernel_rfl)
 clear e2
 subst e1
 unfold zjk at e3
 injection e3 with h1 h2
 subst h2
 exact⟨8,8,big,Eq.trans (ztq (hvN (hGet hs 0)) (hvI (hGet hs 1)) (hvLn (hGet hs 3)) (hvLn (hGet hs 4)) (hvLn (hGet hs 5)) (hvN (hGet hs 6)) (hvN (hGet hs 7)) (hvN (hGet hs 8)) big (hvI (hGet hs 2))) (ztl (hvN (hGet hs 0)) (hvI (hGet hs 1)) (hvLn (hGet hs 3)) (hvLn (hGet hs 4)) (hvLn (hGet hs 5)) (hvN (hGet hs 6)) (hvN (hGet hs 7)) (hvN (hGet hs 8)) _ h1)⟩)
noncomputable def tb10:List (Nat×(List PT→Option (Bool×AV×List Blk))):=(87,zqr)::(161,zev)::(176,zpb)::tb9
noncomputable def lt10:List ((Nat×Nat)×(Nat→St→Option (Bool×LO))):=((89,5),zll)::lt9
noncomputable def Γ10:Ctx:=⟨tyTab,fnTab,tblSum tb10,tblLp lt10⟩
theorem ybc:SumL J tb10:=SumL.cons y21 (SumL.cons zrh (SumL.cons y0q (y8a)))
theorem ybh:LpL J fnTab lt10:=LpL.cons zrk (ya7)
theorem mk10 {g:FuncId} {F:List PT→Option (Bool×AV×List Blk)} (h:∀ pts v news,F pts=some (true,v,news)→ev8 Γ10 g pts=some (v,news)):SumOne J g F:=z59 (Γ:=Γ10) (fuel:=8) (d:=8) tyTab_ok (FnL.ok fnTab_ok _ _) (LpL.ok ybh) (SumL.ok ybc _) mixed fun pts v news hp _=>h pts v news hp
def zio (q0g:Nat) (q0l:List Nat) (q0q:Nat) (q0t:List Nat) (q0p:Nat) (q0u:List Nat):Option (Bool)→Option (AV×List Blk)
 | some r=>some ((AV.v (TV.one (At.bool r))),[])
 | none=>none
noncomputable def zin:List PT→Option (Bool×AV×List Blk)
 | [.agg [.row 1 q0g (.fl .f32 q0l),.row 1 q0q (.fl .f32 q0t),.row 1 q0p (.fl .f32 q0u)]]=>sP (zcn q0g q0l q0q q0t q0p q0u) (zio q0g q0l q0q q0t q0p q0u) (zat q0g q0l q0q q0t q0p q0u)
 | _=>none
theorem zx2 (q0g:Nat) (q0l:List Nat) (q0q:Nat) (q0t:List Nat) (q0p:Nat) (q0u:List Nat):ev8 Γ10 89 [.agg [.row 1 q0g (.fl .f32 q0l),.row 1 q0q (.fl .f32 q0t),.row 1 q0p (.fl .f32 q0u)]]=(zio q0g q0l q0q q0t q0p q0u) (z3k q0g q0l q0q q0t q0p q0u):=tr2 (zss (zio q0g q0l q0q q0t q0p q0u) rfl q0g q0l q0q q0t q0p q0u (fun c0_=>some c0_)) (by kernel_rfl)
theorem ztz:SumOne J 89 zin:=mk10 fun pts v news hp=>by
 unfold zin at hp
 split at hp
 ·rename_i q0g q0l q0q q0t q0p q0u
  exact fin2 (zx2 q0g q0l q0q q0t q0p q0u) hp
 ·cases hp
def zle (q0v:Nat) (q1a:List Nat) (q0x:Nat) (q1d:List Nat) (q0y:Nat) (q1c:List Nat) (q1e:Nat) (q1j:List Nat) (q1i:Nat):Option (Nat)→Option (AV×List Blk)
 | some r=>some ((AV.v (TV.one (At.flt .f32 r))),[])
 | none=>none
noncomputable def zl8:List PT→Option (Bool×AV×List Blk)
 | [.agg [.row 1 q0v (.fl .f32 q1a),.row 1 q0x (.fl .f32 q1d),.row 1 q0y (.fl .f32 q1c)],.one (.row 1 q1e (.fl .f32 q1j)),.one (.s (.flt .f32 q1i))]=>sP (zae q0v q1a q0x q1d q0y q1c q1e q1j q1i) (zle q0v q1a q0x q1d q0y q1c q1e q1j q1i) (z5u q0v q1a q0x q1d q0y q1c q1e q1j q1i)
 | _=>none
theorem y0c (q0v:Nat) (q1a:List Nat) (q0x:Nat) (q1d:List Nat) (q0y:Nat) (q1c:List Nat) (q1e:Nat) (q1j:List Nat) (q1i:Nat):ev8 Γ10 144 [.agg [.row 1 q0v (.fl .f32 q1a),.row 1 q0x (.fl .f32 q1d),.row 1 q0y (.fl .f32 q1c)],.one (.row 1 q1e (.fl .f32 q1j)),.one (.s (.flt .f32 q1i))]=(zle q0v q1a q0x q1d q0y q1c q1e q1j q1i) (z8c q0v q1a q0x q1d q0y q1c q1e q1j q1i):=tr2 (zuj (zle q0v q1a q0x q1d q0y q1c q1e q1j q1i) rfl q0v q1a q0x q1d q0y q1c q1e q1j q1i (fun c0_=>some c0_)) (by kernel_rfl)
theorem zvr:SumOne J 144 zl8:=mk10 fun pts v news hp=>by
 unfold zl8 at hp
 split at hp
 ·rename_i q0v q1a q0x q1d q0y q1c q1e q1j q1i
  exact fin2 (y0c q0v q1a q0x q1d q0y q1c q1e q1j q1i) hp
 ·cases hp
def zse (q0v:Nat) (q1a:List Nat) (q0x:Nat) (q1d:List Nat) (q0y:Nat) (q1c:List Nat) (q1e:Nat) (q1j:List Nat) (q1i:Nat):Option (Nat)→Option (AV×List Blk)
 | some r=>some ((AV.v (TV.one (At.flt .f32 r))),[])
 | none=>none
noncomputable def zs5:List PT→Option (Bool×AV×List Blk)
 | [.ptr [.row 1 q0v (.fl .f32 q1a),.row 1 q0x (.fl .f32 q1d),.row 1 q0y (.fl .f32 q1c)],.one (.row 1 q1e (.fl .f32 q1j)),.one (.s (.flt .f32 q1i))]=>sP (zjr q0v q1a q0x q1d q0y q1c q1e q1j q1i) (zse q0v q1a q0x q1d q0y q1c q1e q1j q1i) (zhv q0v q1a q0x q1d q0y q1c q1e q1j q1i)
 | _=>none
theorem y94 (q0v:Nat) (q1a:List Nat) (q0x:Nat) (q1d:List Nat) (q0y:Nat) (q1c:List Nat) (q1e:Nat) (q1j:List Nat) (q1i:Nat):ev8 Γ10 172 [.ptr [.row 1 q0v (.fl .f32 q1a),.row 1 q0x (.fl .f32 q1d),.row 1 q0y (.fl .f32 q1c)],.one (.row 1 q1e (.fl .f32 q1j)),.one (.s (.flt .f32 q1i))]=(zse q0v q1a q0x q1d q0y q1c q1e q1j q1i) (zg7 q0v q1a q0x q1d q0y q1c q1e q1j q1i):=tr2 (y1u (zse q0v q1a q0x q1d q0y q1c q1e q1j q1i) rfl q0v q1a q0x q1d q0y q1c q1e q1j q1i (fun c0_=>some c0_)) (by kernel_rfl)
theorem y4p:SumOne J 172 zs5:=mk10 fun pts v news hp=>by
 unfold zs5 at hp
 split at hp
 ·rename_i q0v q1a q0x q1d q0y q1c q1e q1j q1i
  exact fin2 (y94 q0v q1a q0x q1d q0y q1c q1e q1j q1i) hp
 ·cases hp
noncomputable def tb11:List (Nat×(List PT→Option (Bool×AV×List Blk))):=(89,zin)::(144,zl8)::(172,zs5)::tb10
noncomputable def lt11:List ((Nat×Nat)×(Nat→St→Option (Bool×LO))):=lt10
noncomputable def Γ11:Ctx:=⟨tyTab,fnTab,tblSum tb11,tblLp lt11⟩
theorem yar:SumL J tb11:=SumL.cons ztz (SumL.cons zvr (SumL.cons y4p (ybc)))
theorem yb5:LpL J fnTab lt11:=ybh
theorem mk11 {g:FuncId} {F:List PT→Option (Bool×AV×List Blk)} (h:∀ pts v news,F pts=some (true,v,news)→ev8 Γ11 g pts=some (v,news)):SumOne J g F:=z59 (Γ:=Γ11) (fuel:=8) (d:=8) tyTab_ok (FnL.ok fnTab_ok _ _) (LpL.ok yb5) (SumL.ok yar _) mixed fun pts v news hp _=>h pts v news hp
def zis (q00:Nat) (q04:List Nat) (q02:Nat) (q07:List Nat) (q01:Nat) (q08:List Nat) (q0a:Nat) (q0e:List Nat) (q0i:Int) (q0n q0m:Nat) (i:Int) (q16 q0o:Nat):Option (Nat×Nat)→Option (AV×List Blk)
 | some r=>some ((AV.tup [(TV.one (At.flt .f32 r.1)),(TV.one (At.flt .f32 r.2))]),[])
 | none=>none
noncomputable def zir:List PT→Option (Bool×AV×List Blk)
 | [.agg [.row 1 q00 (.fl .f32 q04),.row 1 q02 (.fl .f32 q07),.row 1 q01 (.fl .f32 q08),.row 3 q0a (.fl .f32 q0e),.s (.int .i64 q0i),.s (.flt .f32 q0n),.s (.flt .f32 q0m)],.one (.s (.int .i64 i)),.one (.s (.flt .f32 q16)),.one (.s (.flt .f32 q0o))]=>sP (z8m q00 q04 q02 q07 q01 q08 q0a q0e q0i q0n q0m i q16 q0o) (zis q00 q04 q02 q07 q01 q08 q0a q0e q0i q0n q0m i q16 q0o) (z7q q00 q04 q02 q07 q01 q08 q0a q0e q0i q0n q0m i q16 q0o,z7w q00 q04 q02 q07 q01 q08 q0a q0e q0i q0n q0m i q16 q0o)
 | _=>none
theorem zwy (q00:Nat) (q04:List Nat) (q02:Nat) (q07:List Nat) (q01:Nat) (q08:List Nat) (q0a:Nat) (q0e:List Nat) (q0i:Int) (q0n q0m:Nat) (i:Int) (q16 q0o:Nat):ev8 Γ11 106 [.agg [.row 1 q00 (.fl .f32 q04),.row 1 q02 (.fl .f32 q07),.row 1 q01 (.fl .f32 q08),.row 3 q0a (.fl .f32 q0e),.s (.int .i64 q0i),.s (.flt .f32 q0n),.s (.flt .f32 q0m)],.one (.s (.int .i64 i)),.one (.s (.flt .f32 q16)),.one (.s (.flt .f32 q0o))]=(zis q00 q04 q02 q07 q01 q08 q0a q0e q0i q0n q0m i q16 q0o) (z44 q00 q04 q02 q07 q01 q08 q0a q0e q0i q0n q0m i q16 q0o):=tr2 (zt3 (zis q00 q04 q02 q07 q01 q08 q0a q0e q0i q0n q0m i q16 q0o) rfl q00 q04 q02 q07 q01 q08 q0a q0e q0i q0n q0m i q16 q0o (fun c0_ c1_=>some (c0_,c1_))) (by kernel_rfl)
theorem zu4:SumOne J 106 zir:=mk11 fun pts v news hp=>by
 unfold zir at hp
 split at hp
 ·rename_i q00 q04 q02 q07 q01 q08 q0a q0e q0i q0n q0m i q16 q0o
  exact fin2 (zwy q00 q04 q02 q07 q01 q08 q0a q0e q0i q0n q0m i q16 q0o) hp
 ·cases hp
def zpa (q0v:Nat) (q1a:List Nat) (q0x:Nat) (q1d:List Nat) (q0y:Nat) (q1c:List Nat) (q1i:Nat):Option (Nat)→Option (AV×List Blk)
 | some r=>some ((AV.v (TV.one (At.flt .f32 r))),[])
 | none=>none
noncomputable def zp6:List PT→Option (Bool×AV×List Blk)
 | [.ptr [.row 1 q0v (.fl .f32 q1a),.row 1 q0x (.fl .f32 q1d),.row 1 q0y (.fl .f32 q1c)],.one (.s (.flt .f32 q1i))]=>sP (zkt q0v q1a q0x q1d q0y q1c q1i) (zpa q0v q1a q0x q1d q0y q1c q1i) (ze5 q0v q1a q0x q1d q0y q1c q1i)
 | _=>none
theorem y5s (q0v:Nat) (q1a:List Nat) (q0x:Nat) (q1d:List Nat) (q0y:Nat) (q1c:List Nat) (q1i:Nat):ev8 Γ11 165 [.ptr [.row 1 q0v (.fl .f32 q1a),.row 1 q0x (.fl .f32 q1d),.row 1 q0y (.fl .f32 q1c)],.one (.s (.flt .f32 q1i))]=(zpa q0v q1a q0x q1d q0y q1c q1i) (zbp q0v q1a q0x q1d q0y q1c q1i):=tr2 (zy4 (zpa q0v q1a q0x q1d q0y q1c q1i) rfl q0v q1a q0x q1d q0y q1c q1i (fun c0_=>some c0_)) (by kernel_rfl)
theorem zzu:SumOne J 165 zp6:=mk11 fun pts v news hp=>by
 unfold zp6 at hp
 split at hp
 ·rename_i q0v q1a q0x q1d q0y q1c q1i
  exact fin2 (y5s q0v q1a q0x q1d q0y q1c q1i) hp
 ·cases hp
def zp2 (q0v:Nat) (q1a:List Nat) (q0x:Nat) (q1d:List Nat) (q0y:Nat) (q1c:List Nat) (q1i:Nat):Option (Nat)→Option (AV×List Blk)
 | some r=>some ((AV.v (TV.one (At.flt .f32 r))),[])
 | none=>none
noncomputable def zp4:List PT→Option (Bool×AV×List Blk)
 | [.ptr [.row 1 q0v (.fl .f32 q1a),.row 1 q0x (.fl .f32 q1d),.row 1 q0y (.fl .f32 q1c)],.one (.s (.flt .f32 q1i))]=>sP (zkd q0v q1a q0x q1d q0y q1c q1i) (zp2 q0v q1a q0x q1d q0y q1c q1i) (zdl q0v q1a q0x q1d q0y q1c q1i)
 | _=>none
theorem y5a (q0v:Nat) (q1a:List Nat) (q0x:Nat) (q1d:List Nat) (q0y:Nat) (q1c:List Nat) (q1i:Nat):ev8 Γ11 166 [.ptr [.row 1 q0v (.fl .f32 q1a),.row 1 q0x (.fl .f32 q1d),.row 1 q0y (.fl .f32 q1c)],.one (.s (.flt .f32 q1i))]=(zp2 q0v q1a q0x q1d q0y q1c q1i) (zbj q0v q1a q0x q1d q0y q1c q1i):=tr2 (zza (zp2 q0v q1a q0x q1d q0y q1c q1i) rfl q0v q1a q0x q1d q0y q1c q1i (fun c0_=>some c0_)) (by kernel_rfl)
theorem y0i:SumOne J 166 zp4:=mk11 fun pts v news hp=>by
 unfold zp4 at hp
 split at hp
 ·rename_i q0v q1a q0x q1d q0y q1c q1i
  exact fin2 (y5a q0v q1a q0x q1d q0y q1c q1i) hp
 ·cases hp
noncomputable def tb12:List (Nat×(List PT→Option (Bool×AV×List Blk))):=(106,zir)::(165,zp6)::(166,zp4)::tb11
noncomputable def lt12:List ((Nat×Nat)×(Nat→St→Option (Bool×LO))):=lt11
noncomputable def Γ12:Ctx:=⟨tyTab,fnTab,tblSum tb12,tblLp lt12⟩
theorem y58:SumL J tb12:=SumL.cons zu4 (SumL.cons zzu (SumL.cons y0i (yar)))
theorem y55:LpL J fnTab lt12:=yb5
theorem mk12 {g:FuncId} {F:List PT→Option (Bool×AV×List Blk)} (h:∀ pts v news,F pts=some (true,v,news)→ev8 Γ12 g pts=some (v,news)):SumOne J g F:=z59 (Γ:=Γ12) (fuel:=8) (d:=8) tyTab_ok (FnL.ok fnTab_ok _ _) (LpL.ok y55) (SumL.ok y58 _) mixed fun pts v news hp _=>h pts v news hp
def zil (q00:Nat) (q04:List Nat) (q02:Nat) (q07:List Nat) (q01:Nat) (q08:List Nat) (q0a:Nat) (q0e:List Nat) (q0i:Int) (q0n q0m:Nat) (i:Int) (q16 q0o:Nat):Option (Nat×Nat)→Option (AV×List Blk)
 | some r=>some ((AV.tup [(TV.one (At.flt .f32 r.1)),(TV.one (At.flt .f32 r.2))]),[])
 | none=>none
noncomputable def zit:List PT→Option (Bool×AV×List Blk)
 | [.agg [.row 1 q00 (.fl .f32 q04),.row 1 q02 (.fl .f32 q07),.row 1 q01 (.fl .f32 q08),.row 3 q0a (.fl .f32 q0e),.s (.int .i64 q0i),.s (.flt .f32 q0n),.s (.flt .f32 q0m)],.one (.s (.int .i64 i)),.one (.s (.flt .f32 q16)),.one (.s (.flt .f32 q0o))]=>sP (z8q q00 q04 q02 q07 q01 q08 q0a q0e q0i q0n q0m i q16 q0o) (zil q00 q04 q02 q07 q01 q08 q0a q0e q0i q0n q0m i q16 q0o) (z7n q00 q04 q02 q07 q01 q08 q0a q0e q0i q0n q0m i q16 q0o,z7t q00 q04 q02 q07 q01 q08 q0a q0e q0i q0n q0m i q16 q0o)
 | _=>none
theorem zxs (q00:Nat) (q04:List Nat) (q02:Nat) (q07:List Nat) (q01:Nat) (q08:List Nat) (q0a:Nat) (q0e:List Nat) (q0i:Int) (q0n q0m:Nat) (i:Int) (q16 q0o:Nat):ev8 Γ12 105 [.agg [.row 1 q00 (.fl .f32 q04),.row 1 q02 (.fl .f32 q07),.row 1 q01 (.fl .f32 q08),.row 3 q0a (.fl .f32 q0e),.s (.int .i64 q0i),.s (.flt .f32 q0n),.s (.flt .f32 q0m)],.one (.s (.int .i64 i)),.one (.s (.flt .f32 q16)),.one (.s (.flt .f32 q0o))]=(zil q00 q04 q02 q07 q01 q08 q0a q0e q0i q0n q0m i q16 q0o) (z57 q00 q04 q02 q07 q01 q08 q0a q0e q0i q0n q0m i q16 q0o):=tr2 (zt0 (zil q00 q04 q02 q07 q01 q08 q0a q0e q0i q0n q0m i q16 q0o) rfl q00 q04 q02 q07 q01 q08 q0a q0e q0i q0n q0m i q16 q0o (fun c0_ c1_=>some (c0_,c1_))) (by kernel_rfl)
theorem zu8:SumOne J 105 zit:=mk12 fun pts v news hp=>by
 unfold zit at hp
 split at hp
 ·rename_i q00 q04 q02 q07 q01 q08 q0a q0e q0i q0n q0m i q16 q0o
  exact fin2 (zxs q00 q04 q02 q07 q01 q08 q0a q0e q0i q0n q0m i q16 q0o) hp
 ·cases hp
def zmh (q00:Nat) (q04:List Nat) (q02:Nat) (q07:List Nat) (q01:Nat) (q08:List Nat) (q0a:Nat) (q0e:List Nat) (q0i:Int) (q0n q0m:Nat) (i:Int) (q16 q0o:Nat):Option (Nat×Nat)→Option (AV×List Blk)
 | some r=>some ((AV.tup [(TV.one (At.flt .f32 r.1)),(TV.one (At.flt .f32 r.2))]),[])
 | none=>none
noncomputable def zmk:List PT→Option (Bool×AV×List Blk)
 | [.ptr [.row 1 q00 (.fl .f32 q04),.row 1 q02 (.fl .f32 q07),.row 1 q01 (.fl .f32 q08),.row 3 q0a (.fl .f32 q0e),.s (.int .i64 q0i),.s (.flt .f32 q0n),.s (.flt .f32 q0m)],.one (.s (.int .i64 i)),.one (.s (.flt .f32 q16)),.one (.s (.flt .f32 q0o))]=>sP (zho q00 q04 q02 q07 q01 q08 q0a q0e q0i q0n q0m i q16 q0o) (zmh q00 q04 q02 q07 q01 q08 q0a q0e q0i q0n q0m i q16 q0o) (zad q00 q04 q02 q07 q01 q08 q0a q0e q0i q0n q0m i q16 q0o,zam q00 q04 q02 q07 q01 q08 q0a q0e q0i q0n q0m i q16 q0o)
 | _=>none
theorem y22 (q00:Nat) (q04:List Nat) (q02:Nat) (q07:List Nat) (q01:Nat) (q08:List Nat) (q0a:Nat) (q0e:List Nat) (q0i:Int) (q0n q0m:Nat) (i:Int) (q16 q0o:Nat):ev8 Γ12 150 [.ptr [.row 1 q00 (.fl .f32 q04),.row 1 q02 (.fl .f32 q07),.row 1 q01 (.fl .f32 q08),.row 3 q0a (.fl .f32 q0e),.s (.int .i64 q0i),.s (.flt .f32 q0n),.s (.flt .f32 q0m)],.one (.s (.int .i64 i)),.one (.s (.flt .f32 q16)),.one (.s (.flt .f32 q0o))]=(zmh q00 q04 q02 q07 q01 q08 q0a q0e q0i q0n q0m i q16 q0o) (z6x q00 q04 q02 q07 q01 q08 q0a q0e q0i q0n q0m i q16 q0o):=tr2 (zve (zmh q00 q04 q02 q07 q01 q08 q0a q0e q0i q0n q0m i q16 q0o) rfl q00 q04 q02 q07 q01 q08 q0a q0e q0i q0n q0m i q16 q0o (fun c0_ c1_=>some (c0_,c1_))) (by kernel_rfl)
theorem zxv:SumOne J 150 zmk:=mk12 fun pts v news hp=>by
 unfold zmk at hp
 split at hp
 ·rename_i q00 q04 q02 q07 q01 q08 q0a q0e q0i q0n q0m i q16 q0o
  exact fin2 (y22 q00 q04 q02 q07 q01 q08 q0a q0e q0i q0n q0m i q16 q0o) hp
 ·cases hp
def zaq (t4 q1p:Nat) (t44 t45:Int) (b0 b1 b2 b3:List Nat) (q13 q14 q0z q0s:Nat) (q19:Int) (q18 q15:Nat):St:=(St.mk [(1,(AV.v (TV.one (At.ptr 4 0 7)))),(4,(AV.v (TV.one (At.flt .f32 t4)))),(43,(AV.v (TV.one (At.vw 3 0 q1p 3)))),(44,(AV.v (TV.one (At.int .i64 t44)))),(45,(AV.v (TV.one (At.int .i64 t45))))] [(Blk.mk Bool.false (Body.fl .f32 b0)),(Blk.mk Bool.false (Body.fl .f32 b1)),(Blk.mk Bool.false (Body.fl .f32 b2)),(Blk.mk Bool.false (Body.fl .f32 b3)),(Blk.mk Bool.true (Body.cells [(At.vw 0 0 q13 1),(At.vw 1 0 q14 1),(At.vw 2 0 q0z 1),(At.vw 3 0 q0s 3),(At.int .i64 q19),(At.flt .f32 q18),(At.flt .f32 q15)]))])
def z9y (q1p:Nat) (t44:Int) (b0 b1 b2 b3:List Nat) (q13 q14 q0z q0s:Nat) (q19:Int) (q18 q15:Nat):St:=(St.mk [(2,(AV.v (TV.one (At.bool Bool.false))))] [(Blk.mk Bool.false (Body.fl .f32 b0)),(Blk.mk Bool.false (Body.fl .f32 b1)),(Blk.mk Bool.false (Body.fl .f32 b2)),(Blk.mk Bool.false (Body.fl .f32 b3))])
def z9z (q1p:Nat) (t44:Int) (b0 b1 b2 b3:List Nat) (q13 q14 q0z q0s:Nat) (q19:Int) (q18 q15 c0_:Nat) (c1_:Int) (c2_:Bool):St:=(St.mk [(1,(AV.v (TV.one (At.ptr 4 0 7)))),(4,(AV.v (TV.one (At.flt .f32 c0_)))),(43,(AV.v (TV.one (At.vw 3 0 q1p 3)))),(44,(AV.v (TV.one (At.int .i64 t44)))),(45,(AV.v (TV.one (At.int .i64 c1_)))),(46,(AV.v (TV.one (At.bool c2_))))] [(Blk.mk Bool.false (Body.fl .f32 b0)),(Blk.mk Bool.false (Body.fl .f32 b1)),(Blk.mk Bool.false (Body.fl .f32 b2)),(Blk.mk Bool.false (Body.fl .f32 b3)),(Blk.mk Bool.true (Body.cells [(At.vw 0 0 q13 1),(At.vw 1 0 q14 1),(At.vw 2 0 q0z 1),(At.vw 3 0 q0s 3),(At.int .i64 q19),(At.flt .f32 q18),(At.flt .f32 q15)]))])
noncomputable def zlm (t4 q1p:Nat) (t44 t45:Int) (b0 b1 b2 b3:List Nat) (q13 q14 q0z q0s:Nat) (q19:Int) (q18 q15:Nat):Bool×LO:=((z4k q1p t44 b3 q15 t4 t45),(LO.two (z4a q1p t44 b3 q15 t4 t45) (LO.one Ex.ret (z9y q1p t44 b0 b1 b2 b3 q13 q14 q0z q0s q19 q18 q15)) (LO.one (Ex.exit 0) (z9z q1p t44 b0 b1 b2 b3 q13 q14 q0z q0s q19 q18 q15 (zd3 q1p t44 b3 q15 t4 t45) (zd0 q1p t44 b3 q15 t4 t45) (zd1 q1p t44 b3 q15 t4 t45)))))
noncomputable def znz:Nat→St→Option (Bool×LO):=lpT 4 (pSt [(pTm 1 (pV (pOne (pPtr 4 (liN 0) 7)))),(pTm 4 (pV (pOne (pFlt .f32)))),(pTm 43 (pV (pOne (pVw 3 (liN 0) 3)))),(pTm 44 (pV (pOne (pInt .i64)))),(pTm 45 (pV (pOne (pInt .i64))))] [(pBlk Bool.false (pFl .f32)),(pBlk Bool.false (pFl .f32)),(pBlk Bool.false (pFl .f32)),(pBlk Bool.false (pFl .f32)),(pBlk Bool.true (pCells [(pVw 0 (liN 0) 1),(pVw 1 (liN 0) 1),(pVw 2 (liN 0) 1),(pVw 3 (liN 0) 3),(pInt .i64),(pFlt .f32),(pFlt .f32)]))]) (fun hs=>zlm (hvN (hGet hs 0)) (hvN (hGet hs 1)) (hvI (hGet hs 2)) (hvI (hGet hs 3)) (hvLn (hGet hs 4)) (hvLn (hGet hs 5)) (hvLn (hGet hs 6)) (hvLn (hGet hs 7)) (hvN (hGet hs 8)) (hvN (hGet hs 9)) (hvN (hGet hs 10)) (hvN (hGet hs 11)) (hvI (hGet hs 12)) (hvN (hGet hs 13)) (hvN (hGet hs 14)))
def z7s (q1p:Nat) (t44:Int) (b0 b1 b2 b3:List Nat) (q13 q14 q0z q0s:Nat) (q19:Int) (q18 q15:Nat):Option ((Unit)⊕(Nat×Int×Bool))→Option (Ex×St)
 | none=>none
 | some (Sum.inl r)=>some (Ex.ret,(z9y q1p t44 b0 b1 b2 b3 q13 q14 q0z q0s q19 q18 q15))
 | some (Sum.inr r)=>some ((Ex.exit 0),(z9z q1p t44 b0 b1 b2 b3 q13 q14 q0z q0s q19 q18 q15 r.1 r.2.1 r.2.2))
def zv9 (q1p:Nat) (t44:Int) (b0 b1 b2 b3:List Nat) (q13 q14 q0z q0s:Nat) (q19:Int) (q18 q15:Nat) (x:Option ((Unit)⊕(Nat×Int×Bool))):LO:=(LO.two (oL x) (LO.one Ex.ret (z9y q1p t44 b0 b1 b2 b3 q13 q14 q0z q0s q19 q18 q15)) (LO.one (Ex.exit 0) (z9z q1p t44 b0 b1 b2 b3 q13 q14 q0z q0s q19 q18 q15 ((tR x).getD default).1 ((tR x).getD default).2.1 ((tR x).getD default).2.2)))
theorem zvt (q1p:Nat) (t44:Int) (b0 b1 b2 b3:List Nat) (q13 q14 q0z q0s:Nat) (q19:Int) (q18 q15:Nat):∀ x:Option ((Unit)⊕(Nat×Int×Bool)),x.isSome=true→(z7s q1p t44 b0 b1 b2 b3 q13 q14 q0z q0s q19 q18 q15) x=some (pick (zv9 q1p t44 b0 b1 b2 b3 q13 q14 q0z q0s q19 q18 q15 x))
 | none,h=>by cases h
 | some (Sum.inl r),_=>rfl
 | some (Sum.inr r),_=>rfl
theorem zvg (t4 q1p:Nat) (t44 t45:Int) (b0 b1 b2 b3:List Nat) (q13 q14 q0z q0s:Nat) (q19:Int) (q18 q15:Nat) (K:Ex→St→Option (Ex×St)):ev9 Γ12 51 6 4 fi51 (zaq t4 q1p t44 t45 b0 b1 b2 b3 q13 q14 q0z q0s q19 q18 q15) K=z32 q1p t44 b3 q15 t4 t45 (fun t4' t45'=>K .normal (zaq t4' q1p t44 t45' b0 b1 b2 b3 q13 q14 q0z q0s q19 q18 q15)) (fun _=>K Ex.ret (z9y q1p t44 b0 b1 b2 b3 q13 q14 q0z q0s q19 q18 q15)) (fun c0_ c1_ c2_=>K (Ex.exit 0) (z9z q1p t44 b0 b1 b2 b3 q13 q14 q0z q0s q19 q18 q15 c0_ c1_ c2_)):=by kernel_rfl
theorem zvl (q1p:Nat) (t44:Int) (b0 b1 b2 b3:List Nat) (q13 q14 q0z q0s:Nat) (q19:Int) (q18 q15:Nat):∀ (n t4:Nat) (t45:Int),iter 51 6 4 (ev9 Γ12 51 6 4 fi51) n (zaq t4 q1p t44 t45 b0 b1 b2 b3 q13 q14 q0z q0s q19 q18 q15) (fun e st=>some (e,st))=(z7s q1p t44 b0 b1 b2 b3 q13 q14 q0z q0s q19 q18 q15) (z0k q1p t44 b3 q15 n t4 t45):=by
 intro n
 induction n with
 | zero=>intros;rfl
 | succ n ih=>
  intro t4 t45
  refine Eq.trans (z4y ..) (Eq.trans (zvg t4 q1p t44 t45 b0 b1 b2 b3 q13 q14 q0z q0s q19 q18 q15 _) (Eq.trans ?_ (zsh (z7s q1p t44 b0 b1 b2 b3 q13 q14 q0z q0s q19 q18 q15) rfl q1p t44 b3 q15 t4 t45 (fun t4' t45'=>z0k q1p t44 b3 q15 n t4' t45') (fun _=>some (Sum.inl ())) (fun c0_ c1_ c2_=>some (Sum.inr (c0_,c1_,c2_))))))
  exact congrArg (fun kn_=>z32 q1p t44 b3 q15 t4 t45 kn_ (fun _=>(z7s q1p t44 b0 b1 b2 b3 q13 q14 q0z q0s q19 q18 q15) (some (Sum.inl ()))) (fun c0_ c1_ c2_=>(z7s q1p t44 b0 b1 b2 b3 q13 q14 q0z q0s q19 q18 q15) (some (Sum.inr (c0_,c1_,c2_))))) (funext fun t4'=>funext fun t45'=>ih t4' t45')
theorem zsv:LoopOne J fnTab 51 6 znz:=lp_of (Γ:=Γ12) tyTab_ok (FnL.ok fnTab_ok _ _) (LpL.ok y55) (SumL.ok y58 _) mixed (fi:=fi51) (by kernel_rfl) (by kernel_rfl) (by
 intro lo st out hp
 obtain⟨hs,e1,e2,e3⟩:=z8d hp
 clear hp
 obtain rfl:st=(zaq (hvN (hGet hs 0)) (hvN (hGet hs 1)) (hvI (hGet hs 2)) (hvI (hGet hs 3)) (hvLn (hGet hs 4)) (hvLn (hGet hs 5)) (hvLn (hGet hs 6)) (hvLn (hGet hs 7)) (hvN (hGet hs 8)) (hvN (hGet hs 9)) (hvN (hGet hs 10)) (hvN (hGet hs 11)) (hvI (hGet hs 12)) (hvN (hGet hs 13)) (hvN (hGet hs 14))):=e2.trans (by kernel_rfl)
 clear e2
 subst e1
 unfold zlm at e3
 injection e3 with h1 h2
 subst h2
 exact⟨8,8,big,Eq.trans (zvl (hvN (hGet hs 1)) (hvI (hGet hs 2)) (hvLn (hGet hs 4)) (hvLn (hGet hs 5)) (hvLn (hGet hs 6)) (hvLn (hGet hs 7)) (hvN (hGet hs 8)) (hvN (hGet hs 9)) (hvN (hGet hs 10)) (hvN (hGet hs 11)) (hvI (hGet hs 12)) (hvN (hGet hs 13)) (hvN (hGet hs 14)) big (hvN (hGet hs 0)) (hvI (hGet hs 3))) (zvt (hvN (hGet hs 1)) (hvI (hGet hs 2)) (hvLn (hGet hs 4)) (hvLn (hGet hs 5)) (hvLn (hGet hs 6)) (hvLn (hGet hs 7)) (hvN (hGet hs 8)) (hvN (hGet hs 9)) (hvN (hGet hs 10)) (hvN (hGet hs 11)) (hvI (hGet hs 12)) (hvN (hGet hs 13)) (hvN (hGet hs 14)) _ h1)⟩)
noncomputable def tb13:List (Nat×(List PT→Option (Bool×AV×List Blk))):=(105,zit)::(150,zmk)::tb12
noncomputable def lt13:List ((Nat×Nat)×(Nat→St→Option (Bool×LO))):=((51,6),znz)::lt12
noncomputable def Γ13:Ctx:=⟨tyTab,fnTab,tblSum tb13,tblLp lt13⟩
theorem ybf:SumL J tb13:=SumL.cons zu8 (SumL.cons zxv (y58))
theorem yb7:LpL J fnTab lt13:=LpL.cons zsv (y55)
theorem mk13 {g:FuncId} {F:List PT→Option (Bool×AV×List Blk)} (h:∀ pts v news,F pts=some (true,v,news)→ev8 Γ13 g pts=some (v,news)):SumOne J g F:=z59 (Γ:=Γ13) (fuel:=8) (d:=8) tyTab_ok (FnL.ok fnTab_ok _ _) (LpL.ok yb7) (SumL.ok ybf _) mixed fun pts v news hp _=>h pts v news hp
def zla (q03:Nat) (q09:List Nat) (q06:Nat) (q0b:List Nat) (q05:Nat) (q0c:List Nat) (q0d:Nat) (q0f:List Nat) (q0h:Int) (q0j q0k:Nat):Option (Bool)→Option (AV×List Blk)
 | some r=>some ((AV.v (TV.one (At.bool r))),[])
 | none=>none
noncomputable def zlh:List PT→Option (Bool×AV×List Blk)
 | [.agg [.row 1 q03 (.fl .f32 q09),.row 1 q06 (.fl .f32 q0b),.row 1 q05 (.fl .f32 q0c),.row 3 q0d (.fl .f32 q0f),.s (.int .i64 q0h),.s (.flt .f32 q0j),.s (.flt .f32 q0k)]]=>sP (z82 q03 q09 q06 q0b q05 q0c q0d q0f q0h q0j q0k) (zla q03 q09 q06 q0b q05 q0c q0d q0f q0h q0j q0k) (z5o q03 q09 q06 q0b q05 q0c q0d q0f q0h q0j q0k)
 | _=>none
theorem y0z (q03:Nat) (q09:List Nat) (q06:Nat) (q0b:List Nat) (q05:Nat) (q0c:List Nat) (q0d:Nat) (q0f:List Nat) (q0h:Int) (q0j q0k:Nat):ev8 Γ13 51 [.agg [.row 1 q03 (.fl .f32 q09),.row 1 q06 (.fl .f32 q0b),.row 1 q05 (.fl .f32 q0c),.row 3 q0d (.fl .f32 q0f),.s (.int .i64 q0h),.s (.flt .f32 q0j),.s (.flt .f32 q0k)]]=(zla q03 q09 q06 q0b q05 q0c q0d q0f q0h q0j q0k) (z50 q03 q09 q06 q0b q05 q0c q0d q0f q0h q0j q0k):=tr2 (zup (zla q03 q09 q06 q0b q05 q0c q0d q0f q0h q0j q0k) rfl q03 q09 q06 q0b q05 q0c q0d q0f q0h q0j q0k (fun c0_=>some c0_)) (by kernel_rfl)
theorem zwo:SumOne J 51 zlh:=mk13 fun pts v news hp=>by
 unfold zlh at hp
 split at hp
 ·rename_i q03 q09 q06 q0b q05 q0c q0d q0f q0h q0j q0k
  exact fin2 (y0z q03 q09 q06 q0b q05 q0c q0d q0f q0h q0j q0k) hp
 ·cases hp
def zok (q00:Nat) (q04:List Nat) (q02:Nat) (q07:List Nat) (q01:Nat) (q08:List Nat) (q0a:Nat) (q0e:List Nat) (q0i:Int) (q0n q0m:Nat) (i:Int) (q16 q0o:Nat):Option (Nat×Nat×Nat×Nat)→Option (AV×List Blk)
 | some r=>some ((AV.tup [(TV.one (At.flt .f32 r.1)),(TV.one (At.flt .f32 r.2.1)),(TV.one (At.flt .f32 r.2.2.1)),(TV.one (At.flt .f32 r.2.2.2))]),[])
 | none=>none
noncomputable def zpc:List PT→Option (Bool×AV×List Blk)
 | [.ptr [.row 1 q00 (.fl .f32 q04),.row 1 q02 (.fl .f32 q07),.row 1 q01 (.fl .f32 q08),.row 3 q0a (.fl .f32 q0e),.s (.int .i64 q0i),.s (.flt .f32 q0n),.s (.flt .f32 q0m)],.one (.s (.int .i64 i)),.one (.s (.flt .f32 q16)),.one (.s (.flt .f32 q0o))]=>sP (zg3 q00 q04 q02 q07 q01 q08 q0a q0e q0i q0n q0m i q16 q0o) (zok q00 q04 q02 q07 q01 q08 q0a q0e q0i q0n q0m i q16 q0o) (zea q00 q04 q02 q07 q01 q08 q0a q0e q0i q0n q0m i q16 q0o,zeg q00 q04 q02 q07 q01 q08 q0a q0e q0i q0n q0m i q16 q0o,zj2 q00 q04 q02 q07 q01 q08 q0a q0e q0i q0n q0m i q16 q0o,zj0 q00 q04 q02 q07 q01 q08 q0a q0e q0i q0n q0m i q16 q0o)
 | _=>none
theorem y5e (q00:Nat) (q04:List Nat) (q02:Nat) (q07:List Nat) (q01:Nat) (q08:List Nat) (q0a:Nat) (q0e:List Nat) (q0i:Int) (q0n q0m:Nat) (i:Int) (q16 q0o:Nat):ev8 Γ13 130 [.ptr [.row 1 q00 (.fl .f32 q04),.row 1 q02 (.fl .f32 q07),.row 1 q01 (.fl .f32 q08),.row 3 q0a (.fl .f32 q0e),.s (.int .i64 q0i),.s (.flt .f32 q0n),.s (.flt .f32 q0m)],.one (.s (.int .i64 i)),.one (.s (.flt .f32 q16)),.one (.s (.flt .f32 q0o))]=(zok q00 q04 q02 q07 q01 q08 q0a q0e q0i q0n q0m i q16 q0o) (z62 q00 q04 q02 q07 q01 q08 q0a q0e q0i q0n q0m i q16 q0o):=tr2 (zy3 (zok q00 q04 q02 q07 q01 q08 q0a q0e q0i q0n q0m i q16 q0o) rfl q00 q04 q02 q07 q01 q08 q0a q0e q0i q0n q0m i q16 q0o (fun c0_ c1_ c2_ c3_=>some (c0_,c1_,c2_,c3_))) (by kernel_rfl)
theorem zzy:SumOne J 130 zpc:=mk13 fun pts v news hp=>by
 unfold zpc at hp
 split at hp
 ·rename_i q00 q04 q02 q07 q01 q08 q0a q0e q0i q0n q0m i q16 q0o
  exact fin2 (y5e q00 q04 q02 q07 q01 q08 q0a q0e q0i q0n q0m i q16 q0o) hp
 ·cases hp
def zhq (q00:Nat) (q04:List Nat) (q02:Nat) (q07:List Nat) (q01:Nat) (q08:List Nat) (q0a:Nat) (q0e:List Nat) (q0i:Int) (q0n q0m:Nat) (i:Int) (q16 q0w q0r q0o:Nat):Option (Nat)→Option (AV×List Blk)
 | some r=>some ((AV.v (TV.one (At.flt .f32 r))),[])
 | none=>none
noncomputable def zhn:List PT→Option (Bool×AV×List Blk)
 | [.agg [.row 1 q00 (.fl .f32 q04),.row 1 q02 (.fl .f32 q07),.row 1 q01 (.fl .f32 q08),.row 3 q0a (.fl .f32 q0e),.s (.int .i64 q0i),.s (.flt .f32 q0n),.s (.flt .f32 q0m)],.one (.s (.int .i64 i)),.one (.s (.flt .f32 q16)),.one (.s (.flt .f32 q0w)),.one (.s (.flt .f32 q0r)),.one (.s (.flt .f32 q0o))]=>sP (zaw q00 q04 q02 q07 q01 q08 q0a q0e q0i q0n q0m i q16 q0w q0r q0o) (zhq q00 q04 q02 q07 q01 q08 q0a q0e q0i q0n q0m i q16 q0w q0r q0o) (z5k q00 q04 q02 q07 q01 q08 q0a q0e q0i q0n q0m i q16 q0w q0r q0o)
 | _=>none
theorem zwe (q00:Nat) (q04:List Nat) (q02:Nat) (q07:List Nat) (q01:Nat) (q08:List Nat) (q0a:Nat) (q0e:List Nat) (q0i:Int) (q0n q0m:Nat) (i:Int) (q16 q0w q0r q0o:Nat):ev8 Γ13 157 [.agg [.row 1 q00 (.fl .f32 q04),.row 1 q02 (.fl .f32 q07),.row 1 q01 (.fl .f32 q08),.row 3 q0a (.fl .f32 q0e),.s (.int .i64 q0i),.s (.flt .f32 q0n),.s (.flt .f32 q0m)],.one (.s (.int .i64 i)),.one (.s (.flt .f32 q16)),.one (.s (.flt .f32 q0w)),.one (.s (.flt .f32 q0r)),.one (.s (.flt .f32 q0o))]=(zhq q00 q04 q02 q07 q01 q08 q0a q0e q0i q0n q0m i q16 q0w q0r q0o) (z4n q00 q04 q02 q07 q01 q08 q0a q0e q0i q0n q0m i q16 q0w q0r q0o):=tr2 (zs2 (zhq q00 q04 q02 q07 q01 q08 q0a q0e q0i q0n q0m i q16 q0w q0r q0o) rfl q00 q04 q02 q07 q01 q08 q0a q0e q0i q0n q0m i q16 q0w q0r q0o (fun c0_=>some c0_)) (by kernel_rfl)
theorem zt2:SumOne J 157 zhn:=mk13 fun pts v news hp=>by
 unfold zhn at hp
 split at hp
 ·rename_i q00 q04 q02 q07 q01 q08 q0a q0e q0i q0n q0m i q16 q0w q0r q0o
  exact fin2 (zwe q00 q04 q02 q07 q01 q08 q0a q0e q0i q0n q0m i q16 q0w q0r q0o) hp
 ·cases hp
noncomputable def tb14:List (Nat×(List PT→Option (Bool×AV×List Blk))):=(51,zlh)::(130,zpc)::(157,zhn)::tb13
noncomputable def lt14:List ((Nat×Nat)×(Nat→St→Option (Bool×LO))):=lt13
noncomputable def Γ14:Ctx:=⟨tyTab,fnTab,tblSum tb14,tblLp lt14⟩
theorem yaw:SumL J tb14:=SumL.cons zwo (SumL.cons zzy (SumL.cons zt2 (ybf)))
theorem ybp:LpL J fnTab lt14:=yb7
theorem mk14 {g:FuncId} {F:List PT→Option (Bool×AV×List Blk)} (h:∀ pts v news,F pts=some (true,v,news)→ev8 Γ14 g pts=some (v,news)):SumOne J g F:=z59 (Γ:=Γ14) (fuel:=8) (d:=8) tyTab_ok (FnL.ok fnTab_ok _ _) (LpL.ok ybp) (SumL.ok yaw _) mixed fun pts v news hp _=>h pts v news hp
def zp8 (q00:Nat) (q04:List Nat) (q02:Nat) (q07:List Nat) (q01:Nat) (q08:List Nat) (q0a:Nat) (q0e:List Nat) (q0i:Int) (q0n q0m:Nat) (i:Int) (q0w q0r q0o:Nat):Option (Bool)→Option (AV×List Blk)
 | some r=>some ((AV.v (TV.one (At.bool r))),[])
 | none=>none
noncomputable def zol:List PT→Option (Bool×AV×List Blk)
 | [.agg [.row 1 q00 (.fl .f32 q04),.row 1 q02 (.fl .f32 q07),.row 1 q01 (.fl .f32 q08),.row 3 q0a (.fl .f32 q0e),.s (.int .i64 q0i),.s (.flt .f32 q0n),.s (.flt .f32 q0m)],.one (.s (.int .i64 i)),.one (.s (.flt .f32 q0w)),.one (.s (.flt .f32 q0r)),.one (.s (.flt .f32 q0o))]=>sP (zgj q00 q04 q02 q07 q01 q08 q0a q0e q0i q0n q0m i q0w q0r q0o) (zp8 q00 q04 q02 q07 q01 q08 q0a q0e q0i q0n q0m i q0w q0r q0o) (zdt q00 q04 q02 q07 q01 q08 q0a q0e q0i q0n q0m i q0w q0r q0o)
 | _=>none
theorem y5l (q00:Nat) (q04:List Nat) (q02:Nat) (q07:List Nat) (q01:Nat) (q08:List Nat) (q0a:Nat) (q0e:List Nat) (q0i:Int) (q0n q0m:Nat) (i:Int) (q0w q0r q0o:Nat):ev8 Γ14 139 [.agg [.row 1 q00 (.fl .f32 q04),.row 1 q02 (.fl .f32 q07),.row 1 q01 (.fl .f32 q08),.row 3 q0a (.fl .f32 q0e),.s (.int .i64 q0i),.s (.flt .f32 q0n),.s (.flt .f32 q0m)],.one (.s (.int .i64 i)),.one (.s (.flt .f32 q0w)),.one (.s (.flt .f32 q0r)),.one (.s (.flt .f32 q0o))]=(zp8 q00 q04 q02 q07 q01 q08 q0a q0e q0i q0n q0m i q0w q0r q0o) (zbr q00 q04 q02 q07 q01 q08 q0a q0e q0i q0n q0m i q0w q0r q0o):=tr2 (zyh (zp8 q00 q04 q02 q07 q01 q08 q0a q0e q0i q0n q0m i q0w q0r q0o) rfl q00 q04 q02 q07 q01 q08 q0a q0e q0i q0n q0m i q0w q0r q0o (fun c0_=>some c0_)) (by kernel_rfl)
theorem y0g:SumOne J 139 zol:=mk14 fun pts v news hp=>by
 unfold zol at hp
 split at hp
 ·rename_i q00 q04 q02 q07 q01 q08 q0a q0e q0i q0n q0m i q0w q0r q0o
  exact fin2 (y5l q00 q04 q02 q07 q01 q08 q0a q0e q0i q0n q0m i q0w q0r q0o) hp
 ·cases hp
def zl7 (q00:Nat) (q04:List Nat) (q02:Nat) (q07:List Nat) (q01:Nat) (q08:List Nat) (q0a:Nat) (q0e:List Nat) (q0i:Int) (q0n q0m:Nat) (i:Int) (q16 q0w q0r q0o:Nat):Option (Nat)→Option (AV×List Blk)
 | some r=>some ((AV.v (TV.one (At.flt .f32 r))),[])
 | none=>none
noncomputable def zl2:List PT→Option (Bool×AV×List Blk)
 | [.ptr [.row 1 q00 (.fl .f32 q04),.row 1 q02 (.fl .f32 q07),.row 1 q01 (.fl .f32 q08),.row 3 q0a (.fl .f32 q0e),.s (.int .i64 q0i),.s (.flt .f32 q0n),.s (.flt .f32 q0m)],.one (.s (.int .i64 i)),.one (.s (.flt .f32 q16)),.one (.s (.flt .f32 q0w)),.one (.s (.flt .f32 q0r)),.one (.s (.flt .f32 q0o))]=>sP (zfu q00 q04 q02 q07 q01 q08 q0a q0e q0i q0n q0m i q16 q0w q0r q0o) (zl7 q00 q04 q02 q07 q01 q08 q0a q0e q0i q0n q0m i q16 q0w q0r q0o) (z7a q00 q04 q02 q07 q01 q08 q0a q0e q0i q0n q0m i q16 q0w q0r q0o)
 | _=>none
theorem y0f (q00:Nat) (q04:List Nat) (q02:Nat) (q07:List Nat) (q01:Nat) (q08:List Nat) (q0a:Nat) (q0e:List Nat) (q0i:Int) (q0n q0m:Nat) (i:Int) (q16 q0w q0r q0o:Nat):ev8 Γ14 149 [.ptr [.row 1 q00 (.fl .f32 q04),.row 1 q02 (.fl .f32 q07),.row 1 q01 (.fl .f32 q08),.row 3 q0a (.fl .f32 q0e),.s (.int .i64 q0i),.s (.flt .f32 q0n),.s (.flt .f32 q0m)],.one (.s (.int .i64 i)),.one (.s (.flt .f32 q16)),.one (.s (.flt .f32 q0w)),.one (.s (.flt .f32 q0r)),.one (.s (.flt .f32 q0o))]=(zl7 q00 q04 q02 q07 q01 q08 q0a q0e q0i q0n q0m i q16 q0w q0r q0o) (z51 q00 q04 q02 q07 q01 q08 q0a q0e q0i q0n q0m i q16 q0w q0r q0o):=tr2 (zuv (zl7 q00 q04 q02 q07 q01 q08 q0a q0e q0i q0n q0m i q16 q0w q0r q0o) rfl q00 q04 q02 q07 q01 q08 q0a q0e q0i q0n q0m i q16 q0w q0r q0o (fun c0_=>some c0_)) (by kernel_rfl)
theorem zwq:SumOne J 149 zl2:=mk14 fun pts v news hp=>by
 unfold zl2 at hp
 split at hp
 ·rename_i q00 q04 q02 q07 q01 q08 q0a q0e q0i q0n q0m i q16 q0w q0r q0o
  exact fin2 (y0f q00 q04 q02 q07 q01 q08 q0a q0e q0i q0n q0m i q16 q0w q0r q0o) hp
 ·cases hp
noncomputable def tb15:List (Nat×(List PT→Option (Bool×AV×List Blk))):=(139,zol)::(149,zl2)::tb14
noncomputable def lt15:List ((Nat×Nat)×(Nat→St→Option (Bool×LO))):=lt14
noncomputable def Γ15:Ctx:=⟨tyTab,fnTab,tblSum tb15,tblLp lt15⟩
theorem ybv:SumL J tb15:=SumL.cons y0g (SumL.cons zwq (yaw))
theorem yb6:LpL J fnTab lt15:=ybp
theorem mk15 {g:FuncId} {F:List PT→Option (Bool×AV×List Blk)} (h:∀ pts v news,F pts=some (true,v,news)→ev8 Γ15 g pts=some (v,news)):SumOne J g F:=z59 (Γ:=Γ15) (fuel:=8) (d:=8) tyTab_ok (FnL.ok fnTab_ok _ _) (LpL.ok yb6) (SumL.ok ybv _) mixed fun pts v news hp _=>h pts v news hp
def zmc (q00:Nat) (q04:List Nat) (q02:Nat) (q07:List Nat) (q01:Nat) (q08:List Nat) (q0a:Nat) (q0e:List Nat) (q0i:Int) (q0n q0m:Nat) (i:Int) (q16 q0w q0r q0o:Nat):Option (Nat×Bool)→Option (AV×List Blk)
 | some r=>some ((AV.tup [(TV.one (At.flt .f32 r.1)),(TV.one (At.bool r.2))]),[])
 | none=>none
noncomputable def zmg:List PT→Option (Bool×AV×List Blk)
 | [.agg [.row 1 q00 (.fl .f32 q04),.row 1 q02 (.fl .f32 q07),.row 1 q01 (.fl .f32 q08),.row 3 q0a (.fl .f32 q0e),.s (.int .i64 q0i),.s (.flt .f32 q0n),.s (.flt .f32 q0m)],.one (.s (.int .i64 i)),.one (.s (.flt .f32 q16)),.one (.s (.flt .f32 q0w)),.one (.s (.flt .f32 q0r)),.one (.s (.flt .f32 q0o))]=>sP (zhu q00 q04 q02 q07 q01 q08 q0a q0e q0i q0n q0m i q16 q0w q0r q0o) (zmc q00 q04 q02 q07 q01 q08 q0a q0e q0i q0n q0m i q16 q0w q0r q0o) (zfe q00 q04 q02 q07 q01 q08 q0a q0e q0i q0n q0m i q16 q0w q0r q0o,zfk q00 q04 q02 q07 q01 q08 q0a q0e q0i q0n q0m i q16 q0w q0r q0o)
 | _=>none
theorem y29 (q00:Nat) (q04:List Nat) (q02:Nat) (q07:List Nat) (q01:Nat) (q08:List Nat) (q0a:Nat) (q0e:List Nat) (q0i:Int) (q0n q0m:Nat) (i:Int) (q16 q0w q0r q0o:Nat):ev8 Γ15 140 [.agg [.row 1 q00 (.fl .f32 q04),.row 1 q02 (.fl .f32 q07),.row 1 q01 (.fl .f32 q08),.row 3 q0a (.fl .f32 q0e),.s (.int .i64 q0i),.s (.flt .f32 q0n),.s (.flt .f32 q0m)],.one (.s (.int .i64 i)),.one (.s (.flt .f32 q16)),.one (.s (.flt .f32 q0w)),.one (.s (.flt .f32 q0r)),.one (.s (.flt .f32 q0o))]=(zmc q00 q04 q02 q07 q01 q08 q0a q0e q0i q0n q0m i q16 q0w q0r q0o) (z72 q00 q04 q02 q07 q01 q08 q0a q0e q0i q0n q0m i q16 q0w q0r q0o):=tr2 (zw1 (zmc q00 q04 q02 q07 q01 q08 q0a q0e q0i q0n q0m i q16 q0w q0r q0o) rfl q00 q04 q02 q07 q01 q08 q0a q0e q0i q0n q0m i q16 q0w q0r q0o (fun c0_ c1_=>some (c0_,c1_))) (by kernel_rfl)
theorem zxt:SumOne J 140 zmg:=mk15 fun pts v news hp=>by
 unfold zmg at hp
 split at hp
 ·rename_i q00 q04 q02 q07 q01 q08 q0a q0e q0i q0n q0m i q16 q0w q0r q0o
  exact fin2 (y29 q00 q04 q02 q07 q01 q08 q0a q0e q0i q0n q0m i q16 q0w q0r q0o) hp
 ·cases hp
noncomputable def tb16:List (Nat×(List PT→Option (Bool×AV×List Blk))):=(140,zmg)::tb15
noncomputable def lt16:List ((Nat×Nat)×(Nat→St→Option (Bool×LO))):=lt15
noncomputable def Γ16:Ctx:=⟨tyTab,fnTab,tblSum tb16,tblLp lt16⟩
theorem y5i:SumL J tb16:=SumL.cons zxt (ybv)
theorem y5w:LpL J fnTab lt16:=yb6
theorem mk16 {g:FuncId} {F:List PT→Option (Bool×AV×List Blk)} (h:∀ pts v news,F pts=some (true,v,news)→ev8 Γ16 g pts=some (v,news)):SumOne J g F:=z59 (Γ:=Γ16) (fuel:=8) (d:=8) tyTab_ok (FnL.ok fnTab_ok _ _) (LpL.ok y5w) (SumL.ok y5i _) mixed fun pts v news hp _=>h pts v news hp
def zck (i:Int) (q0w q0r q0o low q1f:Nat) (k:Int) (b0 b1 b2 b3:List Nat) (q13 q14 q0z q0s:Nat) (q19:Int) (q18 q15:Nat):St:=(St.mk [(0,(AV.v (TV.one (At.ptr 4 0 7)))),(1,(AV.v (TV.one (At.int .i64 i)))),(2,(AV.v (TV.one (At.flt .f32 q0w)))),(3,(AV.v (TV.one (At.flt .f32 q0r)))),(4,(AV.v (TV.one (At.flt .f32 q0o)))),(12,(AV.v (TV.one (At.flt .f32 low)))),(13,(AV.v (TV.one (At.flt .f32 q1f)))),(14,(AV.v (TV.one (At.int .i64 k))))] [(Blk.mk Bool.false (Body.fl .f32 b0)),(Blk.mk Bool.false (Body.fl .f32 b1)),(Blk.mk Bool.false (Body.fl .f32 b2)),(Blk.mk Bool.false (Body.fl .f32 b3)),(Blk.mk Bool.false (Body.cells [(At.vw 0 0 q13 1),(At.vw 1 0 q14 1),(At.vw 2 0 q0z 1),(At.vw 3 0 q0s 3),(At.int .i64 q19),(At.flt .f32 q18),(At.flt .f32 q15)]))])
def zb2 (i:Int) (q0w q0r q0o:Nat) (b0 b1 b2 b3:List Nat) (q13 q14 q0z q0s:Nat) (q19:Int) (q18 q15:Nat):St:=(St.mk [(10,(AV.v (TV.one (At.flt .f32 0)))),(11,(AV.v (TV.one (At.bool Bool.false))))] [(Blk.mk Bool.false (Body.fl .f32 b0)),(Blk.mk Bool.false (Body.fl .f32 b1)),(Blk.mk Bool.false (Body.fl .f32 b2)),(Blk.mk Bool.false (Body.fl .f32 b3)),(Blk.mk Bool.false (Body.cells [(At.vw 0 0 q13 1),(At.vw 1 0 q14 1),(At.vw 2 0 q0z 1),(At.vw 3 0 q0s 3),(At.int .i64 q19),(At.flt .f32 q18),(At.flt .f32 q15)]))])
def zau (i:Int) (q0w q0r q0o:Nat) (b0 b1 b2 b3:List Nat) (q13 q14 q0z q0s:Nat) (q19:Int) (q18 q15 c0_ c1_:Nat) (c2_:Int) (c3_:Bool):St:=(St.mk [(0,(AV.v (TV.one (At.ptr 4 0 7)))),(1,(AV.v (TV.one (At.int .i64 i)))),(2,(AV.v (TV.one (At.flt .f32 q0w)))),(3,(AV.v (TV.one (At.flt .f32 q0r)))),(4,(AV.v (TV.one (At.flt .f32 q0o)))),(12,(AV.v (TV.one (At.flt .f32 c0_)))),(13,(AV.v (TV.one (At.flt .f32 c1_)))),(14,(AV.v (TV.one (At.int .i64 c2_)))),(18,(AV.v (TV.one (At.bool c3_))))] [(Blk.mk Bool.false (Body.fl .f32 b0)),(Blk.mk Bool.false (Body.fl .f32 b1)),(Blk.mk Bool.false (Body.fl .f32 b2)),(Blk.mk Bool.false (Body.fl .f32 b3)),(Blk.mk Bool.false (Body.cells [(At.vw 0 0 q13 1),(At.vw 1 0 q14 1),(At.vw 2 0 q0z 1),(At.vw 3 0 q0s 3),(At.int .i64 q19),(At.flt .f32 q18),(At.flt .f32 q15)]))])
noncomputable def zmo (i:Int) (q0w q0r q0o low q1f:Nat) (k:Int) (b0 b1 b2 b3:List Nat) (q13 q14 q0z q0s:Nat) (q19:Int) (q18 q15:Nat):Bool×LO:=((z6f i q0w q0r q0o b0 b1 b2 b3 q13 q14 q0z q0s q19 q18 q15 low q1f k),(LO.two (z5y i q0w q0r q0o b0 b1 b2 b3 q13 q14 q0z q0s q19 q18 q15 low q1f k) (LO.one Ex.ret (zb2 i q0w q0r q0o b0 b1 b2 b3 q13 q14 q0z q0s q19 q18 q15)) (LO.one (Ex.exit 0) (zau i q0w q0r q0o b0 b1 b2 b3 q13 q14 q0z q0s q19 q18 q15 (z9b i q0w q0r q0o b0 b1 b2 b3 q13 q14 q0z q0s q19 q18 q15 low q1f k) (zf4 i q0w q0r q0o b0 b1 b2 b3 q13 q14 q0z q0s q19 q18 q15 low q1f k) (zez i q0w q0r q0o b0 b1 b2 b3 q13 q14 q0z q0s q19 q18 q15 low q1f k) (zer i q0w q0r q0o b0 b1 b2 b3 q13 q14 q0z q0s q19 q18 q15 low q1f k)))))
noncomputable def zo9:Nat→St→Option (Bool×LO):=lpT 5 (pSt [(pTm 0 (pV (pOne (pPtr 4 (liN 0) 7)))),(pTm 1 (pV (pOne (pInt .i64)))),(pTm 2 (pV (pOne (pFlt .f32)))),(pTm 3 (pV (pOne (pFlt .f32)))),(pTm 4 (pV (pOne (pFlt .f32)))),(pTm 12 (pV (pOne (pFlt .f32)))),(pTm 13 (pV (pOne (pFlt .f32)))),(pTm 14 (pV (pOne (pInt .i64))))] [(pBlk Bool.false (pFl .f32)),(pBlk Bool.false (pFl .f32)),(pBlk Bool.false (pFl .f32)),(pBlk Bool.false (pFl .f32)),(pBlk Bool.false (pCells [(pVw 0 (liN 0) 1),(pVw 1 (liN 0) 1),(pVw 2 (liN 0) 1),(pVw 3 (liN 0) 3),(pInt .i64),(pFlt .f32),(pFlt .f32)]))]) (fun hs=>zmo (hvI (hGet hs 0)) (hvN (hGet hs 1)) (hvN (hGet hs 2)) (hvN (hGet hs 3)) (hvN (hGet hs 4)) (hvN (hGet hs 5)) (hvI (hGet hs 6)) (hvLn (hGet hs 7)) (hvLn (hGet hs 8)) (hvLn (hGet hs 9)) (hvLn (hGet hs 10)) (hvN (hGet hs 11)) (hvN (hGet hs 12)) (hvN (hGet hs 13)) (hvN (hGet hs 14)) (hvI (hGet hs 15)) (hvN (hGet hs 16)) (hvN (hGet hs 17)))
def z8t (i:Int) (q0w q0r q0o:Nat) (b0 b1 b2 b3:List Nat) (q13 q14 q0z q0s:Nat) (q19:Int) (q18 q15:Nat):Option ((Unit)⊕(Nat×Nat×Int×Bool))→Option (Ex×St)
 | none=>none
 | some (Sum.inl r)=>some (Ex.ret,(zb2 i q0w q0r q0o b0 b1 b2 b3 q13 q14 q0z q0s q19 q18 q15))
 | some (Sum.inr r)=>some ((Ex.exit 0),(zau i q0w q0r q0o b0 b1 b2 b3 q13 q14 q0z q0s q19 q18 q15 r.1 r.2.1 r.2.2.1 r.2.2.2))
def zwi (i:Int) (q0w q0r q0o:Nat) (b0 b1 b2 b3:List Nat) (q13 q14 q0z q0s:Nat) (q19:Int) (q18 q15:Nat) (x:Option ((Unit)⊕(Nat×Nat×Int×Bool))):LO:=(LO.two (oL x) (LO.one Ex.ret (zb2 i q0w q0r q0o b0 b1 b2 b3 q13 q14 q0z q0s q19 q18 q15)) (LO.one (Ex.exit 0) (zau i q0w q0r q0o b0 b1 b2 b3 q13 q14 q0z q0s q19 q18 q15 ((tR x).getD default).1 ((tR x).getD default).2.1 ((tR x).getD default).2.2.1 ((tR x).getD default).2.2.2)))
theorem zxl (i:Int) (q0w q0r q0o:Nat) (b0 b1 b2 b3:List Nat) (q13 q14 q0z q0s:Nat) (q19:Int) (q18 q15:Nat):∀ x:Option ((Unit)⊕(Nat×Nat×Int×Bool)),x.isSome=true→(z8t i q0w q0r q0o b0 b1 b2 b3 q13 q14 q0z q0s q19 q18 q15) x=some (pick (zwi i q0w q0r q0o b0 b1 b2 b3 q13 q14 q0z q0s q19 q18 q15 x))
 | none,h=>by cases h
 | some (Sum.inl r),_=>rfl
 | some (Sum.inr r),_=>rfl
theorem zwx (i:Int) (q0w q0r q0o low q1f:Nat) (k:Int) (b0 b1 b2 b3:List Nat) (q13 q14 q0z q0s:Nat) (q19:Int) (q18 q15:Nat) (K:Ex→St→Option (Ex×St)):ev9 Γ16 129 4 5 fi129 (zck i q0w q0r q0o low q1f k b0 b1 b2 b3 q13 q14 q0z q0s q19 q18 q15) K=z3j i q0w q0r q0o b0 b1 b2 b3 q13 q14 q0z q0s q19 q18 q15 low q1f k (fun low' q1f' k'=>K .normal (zck i q0w q0r q0o low' q1f' k' b0 b1 b2 b3 q13 q14 q0z q0s q19 q18 q15)) (fun _=>K Ex.ret (zb2 i q0w q0r q0o b0 b1 b2 b3 q13 q14 q0z q0s q19 q18 q15)) (fun c0_ c1_ c2_ c3_=>K (Ex.exit 0) (zau i q0w q0r q0o b0 b1 b2 b3 q13 q14 q0z q0s q19 q18 q15 c0_ c1_ c2_ c3_)):=by kernel_rfl
theorem zxx (i:Int) (q0w q0r q0o:Nat) (b0 b1 b2 b3:List Nat) (q13 q14 q0z q0s:Nat) (q19:Int) (q18 q15:Nat):∀ (n low q1f:Nat) (k:Int),iter 129 4 5 (ev9 Γ16 129 4 5 fi129) n (zck i q0w q0r q0o low q1f k b0 b1 b2 b3 q13 q14 q0z q0s q19 q18 q15) (fun e st=>some (e,st))=(z8t i q0w q0r q0o b0 b1 b2 b3 q13 q14 q0z q0s q19 q18 q15) (z0l i q0w q0r q0o b0 b1 b2 b3 q13 q14 q0z q0s q19 q18 q15 n low q1f k):=by
 intro n
 induction n with
 | zero=>intros;rfl
 | succ n ih=>
  intro low q1f k
  refine Eq.trans (z4y ..) (Eq.trans (zwx i q0w q0r q0o low q1f k b0 b1 b2 b3 q13 q14 q0z q0s q19 q18 q15 _) (Eq.trans ?_ (zsy (z8t i q0w q0r q0o b0 b1 b2 b3 q13 q14 q0z q0s q19 q18 q15) rfl i q0w q0r q0o b0 b1 b2 b3 q13 q14 q0z q0s q19 q18 q15 low q1f k (fun low' q1f' k'=>z0l i q0w q0r q0o b0 b1 b2 b3 q13 q14 q0z q0s q19 q18 q15 n low' q1f' k') (fun _=>some (Sum.inl ())) (fun c0_ c1_ c2_ c3_=>some (Sum.inr (c0_,c1_,c2_,c3_))))))
  exact congrArg (fun kn_=>z3j i q0w q0r q0o b0 b1 b2 b3 q13 q14 q0z q0s q19 q18 q15 low q1f k kn_ (fun _=>(z8t i q0w q0r q0o b0 b1 b2 b3 q13 q14 q0z q0s q19 q18 q15) (some (Sum.inl ()))) (fun c0_ c1_ c2_ c3_=>(z8t i q0w q0r q0o b0 b1 b2 b3 q13 q14 q0z q0s q19 q18 q15) (some (Sum.inr (c0_,c1_,c2_,c3_))))) (funext fun low'=>funext fun q1f'=>funext fun k'=>ih low' q1f' k')
theorem ztf:LoopOne J fnTab 129 4 zo9:=lp_of (Γ:=Γ16) tyTab_ok (FnL.ok fnTab_ok _ _) (LpL.ok y5w) (SumL.ok y5i _) mixed (fi:=fi129) (by kernel_rfl) (by kernel_rfl) (by
 intro lo st out hp
 obtain⟨hs,e1,e2,e3⟩:=z8d hp
 clear hp
 obtain rfl:st=(zck (hvI (hGet hs 0)) (hvN (hGet hs 1)) (hvN (hGet hs 2)) (hvN (hGet hs 3)) (hvN (hGet hs 4)) (hvN (hGet hs 5)) (hvI (hGet hs 6)) (hvLn (hGet hs 7)) (hvLn (hGet hs 8)) (hvLn (hGet hs 9)) (hvLn (hGet hs 10)) (hvN (hGet hs 11)) (hvN (hGet hs 12)) (hvN (hGet hs 13)) (hvN (hGet hs 14)) (hvI (hGet hs 15)) (hvN (hGet hs 16)) (hvN (hGet hs 17))):=e2.trans (by kernel_rfl)
 clear e2
 subst e1
 unfold zmo at e3
 injection e3 with h1 h2
 subst h2
 exact⟨8,8,big,Eq.trans (zxx (hvI (hGet hs 0)) (hvN (hGet hs 1)) (hvN (hGet hs 2)) (hvN (hGet hs 3)) (hvLn (hGet hs 7)) (hvLn (hGet hs 8)) (hvLn (hGet hs 9)) (hvLn (hGet hs 10)) (hvN (hGet hs 11)) (hvN (hGet hs 12)) (hvN (hGet hs 13)) (hvN (hGet hs 14)) (hvI (hGet hs 15)) (hvN (hGet hs 16)) (hvN (hGet hs 17)) big (hvN (hGet hs 4)) (hvN (hGet hs 5)) (hvI (hGet hs 6))) (zxl (hvI (hGet hs 0)) (hvN (hGet hs 1)) (hvN (hGet hs 2)) (hvN (hGet hs 3)) (hvLn (hGet hs 7)) (hvLn (hGet hs 8)) (hvLn (hGet hs 9)) (hvLn (hGet hs 10)) (hvN (hGet hs 11)) (hvN (hGet hs 12)) (hvN (hGet hs 13)) (hvN (hGet hs 14)) (hvI (hGet hs 15)) (hvN (hGet hs 16)) (hvN (hGet hs 17)) _ h1)⟩)
noncomputable def tb17:List (Nat×(List PT→Option (Bool×AV×List Blk))):=tb16
noncomputable def lt17:List ((Nat×Nat)×(Nat→St→Option (Bool×LO))):=((129,4),zo9)::lt16
noncomputable def Γ17:Ctx:=⟨tyTab,fnTab,tblSum tb17,tblLp lt17⟩
theorem y65:SumL J tb17:=y5i
theorem y56:LpL J fnTab lt17:=LpL.cons ztf (y5w)
theorem mk17 {g:FuncId} {F:List PT→Option (Bool×AV×List Blk)} (h:∀ pts v news,F pts=some (true,v,news)→ev8 Γ17 g pts=some (v,news)):SumOne J g F:=z59 (Γ:=Γ17) (fuel:=8) (d:=8) tyTab_ok (FnL.ok fnTab_ok _ _) (LpL.ok y56) (SumL.ok y65 _) mixed fun pts v news hp _=>h pts v news hp
def zm2 (q00:Nat) (q04:List Nat) (q02:Nat) (q07:List Nat) (q01:Nat) (q08:List Nat) (q0a:Nat) (q0e:List Nat) (q0i:Int) (q0n q0m:Nat) (i:Int) (q0w q0r q0o:Nat):Option (Nat×Bool)→Option (AV×List Blk)
 | some r=>some ((AV.tup [(TV.one (At.flt .f32 r.1)),(TV.one (At.bool r.2))]),[])
 | none=>none
noncomputable def zmd:List PT→Option (Bool×AV×List Blk)
 | [.ptr [.row 1 q00 (.fl .f32 q04),.row 1 q02 (.fl .f32 q07),.row 1 q01 (.fl .f32 q08),.row 3 q0a (.fl .f32 q0e),.s (.int .i64 q0i),.s (.flt .f32 q0n),.s (.flt .f32 q0m)],.one (.s (.int .i64 i)),.one (.s (.flt .f32 q0w)),.one (.s (.flt .f32 q0r)),.one (.s (.flt .f32 q0o))]=>sP (zh7 q00 q04 q02 q07 q01 q08 q0a q0e q0i q0n q0m i q0w q0r q0o) (zm2 q00 q04 q02 q07 q01 q08 q0a q0e q0i q0n q0m i q0w q0r q0o) (zfr q00 q04 q02 q07 q01 q08 q0a q0e q0i q0n q0m i q0w q0r q0o,zfo q00 q04 q02 q07 q01 q08 q0a q0e q0i q0n q0m i q0w q0r q0o)
 | _=>none
theorem y2r (q00:Nat) (q04:List Nat) (q02:Nat) (q07:List Nat) (q01:Nat) (q08:List Nat) (q0a:Nat) (q0e:List Nat) (q0i:Int) (q0n q0m:Nat) (i:Int) (q0w q0r q0o:Nat):ev8 Γ17 129 [.ptr [.row 1 q00 (.fl .f32 q04),.row 1 q02 (.fl .f32 q07),.row 1 q01 (.fl .f32 q08),.row 3 q0a (.fl .f32 q0e),.s (.int .i64 q0i),.s (.flt .f32 q0n),.s (.flt .f32 q0m)],.one (.s (.int .i64 i)),.one (.s (.flt .f32 q0w)),.one (.s (.flt .f32 q0r)),.one (.s (.flt .f32 q0o))]=(zm2 q00 q04 q02 q07 q01 q08 q0a q0e q0i q0n q0m i q0w q0r q0o) (z74 q00 q04 q02 q07 q01 q08 q0a q0e q0i q0n q0m i q0w q0r q0o):=tr2 (zwg (zm2 q00 q04 q02 q07 q01 q08 q0a q0e q0i q0n q0m i q0w q0r q0o) rfl q00 q04 q02 q07 q01 q08 q0a q0e q0i q0n q0m i q0w q0r q0o (fun c0_ c1_=>some (c0_,c1_))) (by kernel_rfl)
theorem zx6:SumOne J 129 zmd:=mk17 fun pts v news hp=>by
 unfold zmd at hp
 split at hp
 ·rename_i q00 q04 q02 q07 q01 q08 q0a q0e q0i q0n q0m i q0w q0r q0o
  exact fin2 (y2r q00 q04 q02 q07 q01 q08 q0a q0e q0i q0n q0m i q0w q0r q0o) hp
 ·cases hp
def zhs (i:Int) (q0w q0r q0o low q1f:Nat) (t24:Int) (b0 b1 b2 b3:List Nat) (q13 q14 q0z q0s:Nat) (q19:Int) (q18 q15:Nat):St:=(St.mk [(1,(AV.v (TV.one (At.int .i64 i)))),(2,(AV.v (TV.one (At.flt .f32 q0w)))),(3,(AV.v (TV.one (At.flt .f32 q0r)))),(4,(AV.v (TV.one (At.flt .f32 q0o)))),(5,(AV.v (TV.one (At.ptr 4 0 7)))),(12,(AV.v (TV.one (At.flt .f32 low)))),(13,(AV.v (TV.one (At.flt .f32 q1f)))),(24,(AV.v (TV.one (At.int .i64 t24))))] [(Blk.mk Bool.false (Body.fl .f32 b0)),(Blk.mk Bool.false (Body.fl .f32 b1)),(Blk.mk Bool.false (Body.fl .f32 b2)),(Blk.mk Bool.false (Body.fl .f32 b3)),(Blk.mk Bool.true (Body.cells [(At.vw 0 0 q13 1),(At.vw 1 0 q14 1),(At.vw 2 0 q0z 1),(At.vw 3 0 q0s 3),(At.int .i64 q19),(At.flt .f32 q18),(At.flt .f32 q15)]))])
def zft (i:Int) (q0w q0r q0o:Nat) (b0 b1 b2 b3:List Nat) (q13 q14 q0z q0s:Nat) (q19:Int) (q18 q15:Nat):St:=(St.mk [(10,(AV.v (TV.one (At.flt .f32 0)))),(11,(AV.v (TV.one (At.bool Bool.false))))] [(Blk.mk Bool.false (Body.fl .f32 b0)),(Blk.mk Bool.false (Body.fl .f32 b1)),(Blk.mk Bool.false (Body.fl .f32 b2)),(Blk.mk Bool.false (Body.fl .f32 b3))])
def zfn (i:Int) (q0w q0r q0o:Nat) (b0 b1 b2 b3:List Nat) (q13 q14 q0z q0s:Nat) (q19:Int) (q18 q15 c0_ c1_:Nat) (c2_:Int) (c3_:Bool):St:=(St.mk [(1,(AV.v (TV.one (At.int .i64 i)))),(2,(AV.v (TV.one (At.flt .f32 q0w)))),(3,(AV.v (TV.one (At.flt .f32 q0r)))),(4,(AV.v (TV.one (At.flt .f32 q0o)))),(5,(AV.v (TV.one (At.ptr 4 0 7)))),(12,(AV.v (TV.one (At.flt .f32 c0_)))),(13,(AV.v (TV.one (At.flt .f32 c1_)))),(24,(AV.v (TV.one (At.int .i64 c2_)))),(25,(AV.v (TV.one (At.bool c3_))))] [(Blk.mk Bool.false (Body.fl .f32 b0)),(Blk.mk Bool.false (Body.fl .f32 b1)),(Blk.mk Bool.false (Body.fl .f32 b2)),(Blk.mk Bool.false (Body.fl .f32 b3)),(Blk.mk Bool.true (Body.cells [(At.vw 0 0 q13 1),(At.vw 1 0 q14 1),(At.vw 2 0 q0z 1),(At.vw 3 0 q0s 3),(At.int .i64 q19),(At.flt .f32 q18),(At.flt .f32 q15)]))])
noncomputable def zpv (i:Int) (q0w q0r q0o low q1f:Nat) (t24:Int) (b0 b1 b2 b3:List Nat) (q13 q14 q0z q0s:Nat) (q19:Int) (q18 q15:Nat):Bool×LO:=((z99 i q0w q0r q0o b0 b1 b2 b3 q13 q14 q0z q0s q19 q18 q15 low q1f t24),(LO.two (z80 i q0w q0r q0o b0 b1 b2 b3 q13 q14 q0z q0s q19 q18 q15 low q1f t24) (LO.one Ex.ret (zft i q0w q0r q0o b0 b1 b2 b3 q13 q14 q0z q0s q19 q18 q15)) (LO.one (Ex.exit 0) (zfn i q0w q0r q0o b0 b1 b2 b3 q13 q14 q0z q0s q19 q18 q15 (zco i q0w q0r q0o b0 b1 b2 b3 q13 q14 q0z q0s q19 q18 q15 low q1f t24) (zig i q0w q0r q0o b0 b1 b2 b3 q13 q14 q0z q0s q19 q18 q15 low q1f t24) (ziq i q0w q0r q0o b0 b1 b2 b3 q13 q14 q0z q0s q19 q18 q15 low q1f t24) (zim i q0w q0r q0o b0 b1 b2 b3 q13 q14 q0z q0s q19 q18 q15 low q1f t24)))))
noncomputable def zsl:Nat→St→Option (Bool×LO):=lpT 4 (pSt [(pTm 1 (pV (pOne (pInt .i64)))),(pTm 2 (pV (pOne (pFlt .f32)))),(pTm 3 (pV (pOne (pFlt .f32)))),(pTm 4 (pV (pOne (pFlt .f32)))),(pTm 5 (pV (pOne (pPtr 4 (liN 0) 7)))),(pTm 12 (pV (pOne (pFlt .f32)))),(pTm 13 (pV (pOne (pFlt .f32)))),(pTm 24 (pV (pOne (pInt .i64))))] [(pBlk Bool.false (pFl .f32)),(pBlk Bool.false (pFl .f32)),(pBlk Bool.false (pFl .f32)),(pBlk Bool.false (pFl .f32)),(pBlk Bool.true (pCells [(pVw 0 (liN 0) 1),(pVw 1 (liN 0) 1),(pVw 2 (liN 0) 1),(pVw 3 (liN 0) 3),(pInt .i64),(pFlt .f32),(pFlt .f32)]))]) (fun hs=>zpv (hvI (hGet hs 0)) (hvN (hGet hs 1)) (hvN (hGet hs 2)) (hvN (hGet hs 3)) (hvN (hGet hs 4)) (hvN (hGet hs 5)) (hvI (hGet hs 6)) (hvLn (hGet hs 7)) (hvLn (hGet hs 8)) (hvLn (hGet hs 9)) (hvLn (hGet hs 10)) (hvN (hGet hs 11)) (hvN (hGet hs 12)) (hvN (hGet hs 13)) (hvN (hGet hs 14)) (hvI (hGet hs 15)) (hvN (hGet hs 16)) (hvN (hGet hs 17)))
def zby (i:Int) (q0w q0r q0o:Nat) (b0 b1 b2 b3:List Nat) (q13 q14 q0z q0s:Nat) (q19:Int) (q18 q15:Nat):Option ((Unit)⊕(Nat×Nat×Int×Bool))→Option (Ex×St)
 | none=>none
 | some (Sum.inl r)=>some (Ex.ret,(zft i q0w q0r q0o b0 b1 b2 b3 q13 q14 q0z q0s q19 q18 q15))
 | some (Sum.inr r)=>some ((Ex.exit 0),(zfn i q0w q0r q0o b0 b1 b2 b3 q13 q14 q0z q0s q19 q18 q15 r.1 r.2.1 r.2.2.1 r.2.2.2))
def y00 (i:Int) (q0w q0r q0o:Nat) (b0 b1 b2 b3:List Nat) (q13 q14 q0z q0s:Nat) (q19:Int) (q18 q15:Nat) (x:Option ((Unit)⊕(Nat×Nat×Int×Bool))):LO:=(LO.two (oL x) (LO.one Ex.ret (zft i q0w q0r q0o b0 b1 b2 b3 q13 q14 q0z q0s q19 q18 q15)) (LO.one (Ex.exit 0) (zfn i q0w q0r q0o b0 b1 b2 b3 q13 q14 q0z q0s q19 q18 q15 ((tR x).getD default).1 ((tR x).getD default).2.1 ((tR x).getD default).2.2.1 ((tR x).getD default).2.2.2)))
theorem y1z (i:Int) (q0w q0r q0o:Nat) (b0 b1 b2 b3:List Nat) (q13 q14 q0z q0s:Nat) (q19:Int) (q18 q15:Nat):∀ x:Option ((Unit)⊕(Nat×Nat×Int×Bool)),x.isSome=true→(zby i q0w q0r q0o b0 b1 b2 b3 q13 q14 q0z q0s q19 q18 q15) x=some (pick (y00 i q0w q0r q0o b0 b1 b2 b3 q13 q14 q0z q0s q19 q18 q15 x))
 | none,h=>by cases h
 | some (Sum.inl r),_=>rfl
 | some (Sum.inr r),_=>rfl
theorem y2s (i:Int) (q0w q0r q0o low q1f:Nat) (t24:Int) (b0 b1 b2 b3:List Nat) (q13 q14 q0z q0s:Nat) (q19:Int) (q18 q15:Nat) (K:Ex→St→Option (Ex×St)):ev9 Γ17 104 5 4 fi104 (zhs i q0w q0r q0o low q1f t24 b0 b1 b2 b3 q13 q14 q0z q0s q19 q18 q15) K=z4m i q0w q0r q0o b0 b1 b2 b3 q13 q14 q0z q0s q19 q18 q15 low q1f t24 (fun low' q1f' t24'=>K .normal (zhs i q0w q0r q0o low' q1f' t24' b0 b1 b2 b3 q13 q14 q0z q0s q19 q18 q15)) (fun _=>K Ex.ret (zft i q0w q0r q0o b0 b1 b2 b3 q13 q14 q0z q0s q19 q18 q15)) (fun c0_ c1_ c2_ c3_=>K (Ex.exit 0) (zfn i q0w q0r q0o b0 b1 b2 b3 q13 q14 q0z q0s q19 q18 q15 c0_ c1_ c2_ c3_)):=by kernel_rfl
theorem y2u (i:Int) (q0w q0r q0o:Nat) (b0 b1 b2 b3:List Nat) (q13 q14 q0z q0s:Nat) (q19:Int) (q18 q15:Nat):∀ (n low q1f:Nat) (t24:Int),iter 104 5 4 (ev9 Γ17 104 5 4 fi104) n (zhs i q0w q0r q0o low q1f t24 b0 b1 b2 b3 q13 q14 q0z q0s q19 q18 q15) (fun e st=>some (e,st))=(zby i q0w q0r q0o b0 b1 b2 b3 q13 q14 q0z q0s q19 q18 q15) (z18 i q0w q0r q0o b0 b1 b2 b3 q13 q14 q0z q0s q19 q18 q15 n low q1f t24):=by
 intro n
 induction n with
 | zero=>intros;rfl
 | succ n ih=>
  intro low q1f t24
  refine Eq.trans (z4y ..) (Eq.trans (y2s i q0w q0r q0o low q1f t24 b0 b1 b2 b3 q13 q14 q0z q0s q19 q18 q15 _) (Eq.trans ?_ (zwn (zby i q0w q0r q0o b0 b1 b2 b3 q13 q14 q0z q0s q19 q18 q15) rfl i q0w q0r q0o b0 b1 b2 b3 q13 q14 q0z q0s q19 q18 q15 low q1f t24 (fun low' q1f' t24'=>z18 i q0w q0r q0o b0 b1 b2 b3 q13 q14 q0z q0s q19 q18 q15 n low' q1f' t24') (fun _=>some (Sum.inl ())) (fun c0_ c1_ c2_ c3_=>some (Sum.inr (c0_,c1_,c2_,c3_))))))
  exact congrArg (fun kn_=>z4m i q0w q0r q0o b0 b1 b2 b3 q13 q14 q0z q0s q19 q18 q15 low q1f t24 kn_ (fun _=>(zby i q0w q0r q0o b0 b1 b2 b3 q13 q14 q0z q0s q19 q18 q15) (some (Sum.inl ()))) (fun c0_ c1_ c2_ c3_=>(zby i q0w q0r q0o b0 b1 b2 b3 q13 q14 q0z q0s q19 q18 q15) (some (Sum.inr (c0_,c1_,c2_,c3_))))) (funext fun low'=>funext fun q1f'=>funext fun t24'=>ih low' q1f' t24')
theorem zxo:LoopOne J fnTab 104 5 zsl:=lp_of (Γ:=Γ17) tyTab_ok (FnL.ok fnTab_ok _ _) (LpL.ok y56) (SumL.ok y65 _) mixed (fi:=fi104) (by kernel_rfl) (by kernel_rfl) (by
 intro lo st out hp
 obtain⟨hs,e1,e2,e3⟩:=z8d hp
 clear hp
 obtain rfl:st=(zhs (hvI (hGet hs 0)) (hvN (hGet hs 1)) (hvN (hGet hs 2)) (hvN (hGet hs 3)) (hvN (hGet hs 4)) (hvN (hGet hs 5)) (hvI (hGet hs 6)) (hvLn (hGet hs 7)) (hvLn (hGet hs 8)) (hvLn (hGet hs 9)) (hvLn (hGet hs 10)) (hvN (hGet hs 11)) (hvN (hGet hs 12)) (hvN (hGet hs 13)) (hvN (hGet hs 14)) (hvI (hGet hs 15)) (hvN (hGet hs 16)) (hvN (hGet hs 17))):=e2.trans (by kernel_rfl)
 clear e2
 subst e1
 unfold zpv at e3
 injection e3 with h1 h2
 subst h2
 exact⟨8,8,big,Eq.trans (y2u (hvI (hGet hs 0)) (hvN (hGet hs 1)) (hvN (hGet hs 2)) (hvN (hGet hs 3)) (hvLn (hGet hs 7)) (hvLn (hGet hs 8)) (hvLn (hGet hs 9)) (hvLn (hGet hs 10)) (hvN (hGet hs 11)) (hvN (hGet hs 12)) (hvN (hGet hs 13)) (hvN (hGet hs 14)) (hvI (hGet hs 15)) (hvN (hGet hs 16)) (hvN (hGet hs 17)) big (hvN (hGet hs 4)) (hvN (hGet hs 5)) (hvI (hGet hs 6))) (y1z (hvI (hGet hs 0)) (hvN (hGet hs 1)) (hvN (hGet hs 2)) (hvN (hGet hs 3)) (hvLn (hGet hs 7)) (hvLn (hGet hs 8)) (hvLn (hGet hs 9)) (hvLn (hGet hs 10)) (hvN (hGet hs 11)) (hvN (hGet hs 12)) (hvN (hGet hs 13)) (hvN (hGet hs 14)) (hvI (hGet hs 15)) (hvN (hGet hs 16)) (hvN (hGet hs 17)) _ h1)⟩)
noncomputable def tb18:List (Nat×(List PT→Option (Bool×AV×List Blk))):=(129,zmd)::tb17
noncomputable def lt18:List ((Nat×Nat)×(Nat→St→Option (Bool×LO))):=((104,5),zsl)::lt17
noncomputable def Γ18:Ctx:=⟨tyTab,fnTab,tblSum tb18,tblLp lt18⟩
theorem ybt:SumL J tb18:=SumL.cons zx6 (y65)
theorem ybk:LpL J fnTab lt18:=LpL.cons zxo (y56)
theorem mk18 {g:FuncId} {F:List PT→Option (Bool×AV×List Blk)} (h:∀ pts v news,F pts=some (true,v,news)→ev8 Γ18 g pts=some (v,news)):SumOne J g F:=z59 (Γ:=Γ18) (fuel:=8) (d:=8) tyTab_ok (FnL.ok fnTab_ok _ _) (LpL.ok ybk) (SumL.ok ybt _) mixed fun pts v news hp _=>h pts v news hp
def zmf (q03:Nat) (q09:List Nat) (q06:Nat) (q0b:List Nat) (q05:Nat) (q0c:List Nat) (q0d:Nat) (q0f:List Nat) (q0h:Int) (q0j q0k:Nat) (x1:Int) (x2 x3 x4 x5:Nat):Option (Nat×Nat×Bool)→Option (AV×List Blk)
 | some r=>some ((AV.tup [(TV.one (At.flt .f32 r.1)),(TV.one (At.flt .f32 r.2.1)),(TV.one (At.bool r.2.2))]),[])
 | none=>none
noncomputable def zmb:List PT→Option (Bool×AV×List Blk)
 | [.ptr [.row 1 q03 (.fl .f32 q09),.row 1 q06 (.fl .f32 q0b),.row 1 q05 (.fl .f32 q0c),.row 3 q0d (.fl .f32 q0f),.s (.int .i64 q0h),.s (.flt .f32 q0j),.s (.flt .f32 q0k)],.one (.s (.int .i64 x1)),.one (.s (.flt .f32 x2)),.one (.s (.flt .f32 x3)),.one (.s (.flt .f32 x4)),.one (.s (.flt .f32 x5))]=>sP (zc3 q03 q09 q06 q0b q05 q0c q0d q0f q0h q0j q0k x1 x2 x3 x4 x5) (zmf q03 q09 q06 q0b q05 q0c q0d q0f q0h q0j q0k x1 x2 x3 x4 x5) (z87 q03 q09 q06 q0b q05 q0c q0d q0f q0h q0j q0k x1 x2 x3 x4 x5,z89 q03 q09 q06 q0b q05 q0c q0d q0f q0h q0j q0k x1 x2 x3 x4 x5,zaj q03 q09 q06 q0b q05 q0c q0d q0f q0h q0j q0k x1 x2 x3 x4 x5)
 | _=>none
theorem y2n (q03:Nat) (q09:List Nat) (q06:Nat) (q0b:List Nat) (q05:Nat) (q0c:List Nat) (q0d:Nat) (q0f:List Nat) (q0h:Int) (q0j q0k:Nat) (x1:Int) (x2 x3 x4 x5:Nat):ev8 Γ18 88 [.ptr [.row 1 q03 (.fl .f32 q09),.row 1 q06 (.fl .f32 q0b),.row 1 q05 (.fl .f32 q0c),.row 3 q0d (.fl .f32 q0f),.s (.int .i64 q0h),.s (.flt .f32 q0j),.s (.flt .f32 q0k)],.one (.s (.int .i64 x1)),.one (.s (.flt .f32 x2)),.one (.s (.flt .f32 x3)),.one (.s (.flt .f32 x4)),.one (.s (.flt .f32 x5))]=(zmf q03 q09 q06 q0b q05 q0c q0d q0f q0h q0j q0k x1 x2 x3 x4 x5) (z3d q03 q09 q06 q0b q05 q0c q0d q0f q0h q0j q0k x1 x2 x3 x4 x5):=tr2 (zw7 (zmf q03 q09 q06 q0b q05 q0c q0d q0f q0h q0j q0k x1 x2 x3 x4 x5) rfl q03 q09 q06 q0b q05 q0c q0d q0f q0h q0j q0k x1 x2 x3 x4 x5 (fun c0_ c1_ c2_=>some (c0_,c1_,c2_))) (by kernel_rfl)
theorem zxg:SumOne J 88 zmb:=mk18 fun pts v news hp=>by
 unfold zmb at hp
 split at hp
 ·rename_i q03 q09 q06 q0b q05 q0c q0d q0f q0h q0j q0k x1 x2 x3 x4 x5
  exact fin2 (y2n q03 q09 q06 q0b q05 q0c q0d q0f q0h q0j q0k x1 x2 x3 x4 x5) hp
 ·cases hp
def zqa (q00:Nat) (q04:List Nat) (q02:Nat) (q07:List Nat) (q01:Nat) (q08:List Nat) (q0a:Nat) (q0e:List Nat) (q0i:Int) (q0n q0m:Nat) (i:Int) (q0w q0r q0o:Nat):Option (Nat×Bool)→Option (AV×List Blk)
 | some r=>some ((AV.tup [(TV.one (At.flt .f32 r.1)),(TV.one (At.bool r.2))]),[])
 | none=>none
noncomputable def zqg:List PT→Option (Bool×AV×List Blk)
 | [.agg [.row 1 q00 (.fl .f32 q04),.row 1 q02 (.fl .f32 q07),.row 1 q01 (.fl .f32 q08),.row 3 q0a (.fl .f32 q0e),.s (.int .i64 q0i),.s (.flt .f32 q0n),.s (.flt .f32 q0m)],.one (.s (.int .i64 i)),.one (.s (.flt .f32 q0w)),.one (.s (.flt .f32 q0r)),.one (.s (.flt .f32 q0o))]=>sP (zlt q00 q04 q02 q07 q01 q08 q0a q0e q0i q0n q0m i q0w q0r q0o) (zqa q00 q04 q02 q07 q01 q08 q0a q0e q0i q0n q0m i q0w q0r q0o) (zku q00 q04 q02 q07 q01 q08 q0a q0e q0i q0n q0m i q0w q0r q0o,zkx q00 q04 q02 q07 q01 q08 q0a q0e q0i q0n q0m i q0w q0r q0o)
 | _=>none
theorem y7j (q00:Nat) (q04:List Nat) (q02:Nat) (q07:List Nat) (q01:Nat) (q08:List Nat) (q0a:Nat) (q0e:List Nat) (q0i:Int) (q0n q0m:Nat) (i:Int) (q0w q0r q0o:Nat):ev8 Γ18 104 [.agg [.row 1 q00 (.fl .f32 q04),.row 1 q02 (.fl .f32 q07),.row 1 q01 (.fl .f32 q08),.row 3 q0a (.fl .f32 q0e),.s (.int .i64 q0i),.s (.flt .f32 q0n),.s (.flt .f32 q0m)],.one (.s (.int .i64 i)),.one (.s (.flt .f32 q0w)),.one (.s (.flt .f32 q0r)),.one (.s (.flt .f32 q0o))]=(zqa q00 q04 q02 q07 q01 q08 q0a q0e q0i q0n q0m i q0w q0r q0o) (za8 q00 q04 q02 q07 q01 q08 q0a q0e q0i q0n q0m i q0w q0r q0o):=tr2 (y06 (zqa q00 q04 q02 q07 q01 q08 q0a q0e q0i q0n q0m i q0w q0r q0o) rfl q00 q04 q02 q07 q01 q08 q0a q0e q0i q0n q0m i q0w q0r q0o (fun c0_ c1_=>some (c0_,c1_))) (by kernel_rfl)
theorem y2p:SumOne J 104 zqg:=mk18 fun pts v news hp=>by
 unfold zqg at hp
 split at hp
 ·rename_i q00 q04 q02 q07 q01 q08 q0a q0e q0i q0n q0m i q0w q0r q0o
  exact fin2 (y7j q00 q04 q02 q07 q01 q08 q0a q0e q0i q0n q0m i q0w q0r q0o) hp
 ·cases hp
noncomputable def tb19:List (Nat×(List PT→Option (Bool×AV×List Blk))):=(88,zmb)::(104,zqg)::tb18
noncomputable def lt19:List ((Nat×Nat)×(Nat→St→Option (Bool×LO))):=lt18
noncomputable def Γ19:Ctx:=⟨tyTab,fnTab,tblSum tb19,tblLp lt19⟩
theorem yau:SumL J tb19:=SumL.cons zxg (SumL.cons y2p (ybt))
theorem yav:LpL J fnTab lt19:=ybk
theorem mk19 {g:FuncId} {F:List PT→Option (Bool×AV×List Blk)} (h:∀ pts v news,F pts=some (true,v,news)→ev8 Γ19 g pts=some (v,news)):SumOne J g F:=z59 (Γ:=Γ19) (fuel:=8) (d:=8) tyTab_ok (FnL.ok fnTab_ok _ _) (LpL.ok yav) (SumL.ok yau _) mixed fun pts v news hp _=>h pts v news hp
def zhc (q03:Nat) (q09:List Nat) (q06:Nat) (q0b:List Nat) (q05:Nat) (q0c:List Nat) (q0d:Nat) (q0f:List Nat) (q0h:Int) (q0j q0k:Nat) (x1:Int) (x2 x3 x4 x5:Nat):Option (Nat×Nat×Bool)→Option (AV×List Blk)
 | some r=>some ((AV.tup [(TV.one (At.flt .f32 r.1)),(TV.one (At.flt .f32 r.2.1)),(TV.one (At.bool r.2.2))]),[])
 | none=>none
noncomputable def zb7:List PT→Option (Bool×AV×List Blk)
 | [.agg [.row 1 q03 (.fl .f32 q09),.row 1 q06 (.fl .f32 q0b),.row 1 q05 (.fl .f32 q0c),.row 3 q0d (.fl .f32 q0f),.s (.int .i64 q0h),.s (.flt .f32 q0j),.s (.flt .f32 q0k)],.one (.s (.int .i64 x1)),.one (.s (.flt .f32 x2)),.one (.s (.flt .f32 x3)),.one (.s (.flt .f32 x4)),.one (.s (.flt .f32 x5))]=>sP (z5z q03 q09 q06 q0b q05 q0c q0d q0f q0h q0j q0k x1 x2 x3 x4 x5) (zhc q03 q09 q06 q0b q05 q0c q0d q0f q0h q0j q0k x1 x2 x3 x4 x5) (z5f q03 q09 q06 q0b q05 q0c q0d q0f q0h q0j q0k x1 x2 x3 x4 x5,z5h q03 q09 q06 q0b q05 q0c q0d q0f q0h q0j q0k x1 x2 x3 x4 x5,z5i q03 q09 q06 q0b q05 q0c q0d q0f q0h q0j q0k x1 x2 x3 x4 x5)
 | _=>none
theorem zw8 (q03:Nat) (q09:List Nat) (q06:Nat) (q0b:List Nat) (q05:Nat) (q0c:List Nat) (q0d:Nat) (q0f:List Nat) (q0h:Int) (q0j q0k:Nat) (x1:Int) (x2 x3 x4 x5:Nat):ev8 Γ19 56 [.agg [.row 1 q03 (.fl .f32 q09),.row 1 q06 (.fl .f32 q0b),.row 1 q05 (.fl .f32 q0c),.row 3 q0d (.fl .f32 q0f),.s (.int .i64 q0h),.s (.flt .f32 q0j),.s (.flt .f32 q0k)],.one (.s (.int .i64 x1)),.one (.s (.flt .f32 x2)),.one (.s (.flt .f32 x3)),.one (.s (.flt .f32 x4)),.one (.s (.flt .f32 x5))]=(zhc q03 q09 q06 q0b q05 q0c q0d q0f q0h q0j q0k x1 x2 x3 x4 x5) (z2v q03 q09 q06 q0b q05 q0c q0d q0f q0h q0j q0k x1 x2 x3 x4 x5):=tr2 (zsc (zhc q03 q09 q06 q0b q05 q0c q0d q0f q0h q0j q0k x1 x2 x3 x4 x5) rfl q03 q09 q06 q0b q05 q0c q0d q0f q0h q0j q0k x1 x2 x3 x4 x5 (fun c0_ c1_ c2_=>some (c0_,c1_,c2_))) (by kernel_rfl)
theorem zl1:SumOne J 56 zb7:=mk19 fun pts v news hp=>by
 unfold zb7 at hp
 split at hp
 ·rename_i q03 q09 q06 q0b q05 q0c q0d q0f q0h q0j q0k x1 x2 x3 x4 x5
  exact fin2 (zw8 q03 q09 q06 q0b q05 q0c q0d q0f q0h q0j q0k x1 x2 x3 x4 x5) hp
 ·cases hp
noncomputable def tb20:List (Nat×(List PT→Option (Bool×AV×List Blk))):=(56,zb7)::tb19
noncomputable def lt20:List ((Nat×Nat)×(Nat→St→Option (Bool×LO))):=lt19
noncomputable def Γ20:Ctx:=⟨tyTab,fnTab,tblSum tb20,tblLp lt20⟩
theorem zrn:SumL J tb20:=SumL.cons zl1 (yau)
theorem zzr:LpL J fnTab lt20:=yav
theorem mk20 {g:FuncId} {F:List PT→Option (Bool×AV×List Blk)} (h:∀ pts v news,F pts=some (true,v,news)→ev8 Γ20 g pts=some (v,news)):SumOne J g F:=z59 (Γ:=Γ20) (fuel:=8) (d:=8) tyTab_ok (FnL.ok fnTab_ok _ _) (LpL.ok zzr) (SumL.ok zrn _) mixed fun pts v news hp _=>h pts v news hp
def zhj (t1 t2 t3 t4 q1n q1o:Nat) (t15:Int) (b0 b1 b2 b3:List Nat) (q13 q14 q0z q0s:Nat) (q19:Int) (q18 q15:Nat) (b5 b6:List Nat):St:=(St.mk [(0,(AV.v (TV.one (At.ptr 4 0 7)))),(1,(AV.v (TV.one (At.flt .f32 t1)))),(2,(AV.v (TV.one (At.flt .f32 t2)))),(3,(AV.v (TV.one (At.flt .f32 t3)))),(4,(AV.v (TV.one (At.flt .f32 t4)))),(13,(AV.v (TV.one (At.sl 5 0 q1n 1)))),(14,(AV.v (TV.one (At.sl 6 0 q1o 1)))),(15,(AV.v (TV.one (At.int .i64 t15))))] [(Blk.mk Bool.false (Body.fl .f32 b0)),(Blk.mk Bool.false (Body.fl .f32 b1)),(Blk.mk Bool.false (Body.fl .f32 b2)),(Blk.mk Bool.false (Body.fl .f32 b3)),(Blk.mk Bool.false (Body.cells [(At.vw 0 0 q13 1),(At.vw 1 0 q14 1),(At.vw 2 0 q0z 1),(At.vw 3 0 q0s 3),(At.int .i64 q19),(At.flt .f32 q18),(At.flt .f32 q15)])),(Blk.mk Bool.true (Body.fl .f32 b5)),(Blk.mk Bool.true (Body.fl .f32 b6))])
def zfj (t1 t2 t3 t4:Nat) (b0 b1 b2 b3:List Nat) (q13 q14 q0z q0s:Nat) (q19:Int) (q18 q15:Nat):St:=(St.mk [(10,(AV.v (TV.one At.nilsl))),(11,(AV.v (TV.one At.nilsl))),(12,(AV.v (TV.one (At.bool Bool.false))))] [(Blk.mk Bool.false (Body.fl .f32 b0)),(Blk.mk Bool.false (Body.fl .f32 b1)),(Blk.mk Bool.false (Body.fl .f32 b2)),(Blk.mk Bool.false (Body.fl .f32 b3)),(Blk.mk Bool.false (Body.cells [(At.vw 0 0 q13 1),(At.vw 1 0 q14 1),(At.vw 2 0 q0z 1),(At.vw 3 0 q0s 3),(At.int .i64 q19),(At.flt .f32 q18),(At.flt .f32 q15)]))])
def zff (t1 t2 t3 t4:Nat) (b0 b1 b2 b3:List Nat) (q13 q14 q0z q0s:Nat) (q19:Int) (q18 q15 c0_ c1_:Nat) (c2_:Int) (c3_:Bool) (c4_ c5_:List Nat):St:=(St.mk [(0,(AV.v (TV.one (At.ptr 4 0 7)))),(1,(AV.v (TV.one (At.flt .f32 t1)))),(2,(AV.v (TV.one (At.flt .f32 t2)))),(3,(AV.v (TV.one (At.flt .f32 t3)))),(4,(AV.v (TV.one (At.flt .f32 t4)))),(13,(AV.v (TV.one (At.sl 5 0 c0_ 1)))),(14,(AV.v (TV.one (At.sl 6 0 c1_ 1)))),(15,(AV.v (TV.one (At.int .i64 c2_)))),(35,(AV.v (TV.one (At.bool c3_))))] [(Blk.mk Bool.false (Body.fl .f32 b0)),(Blk.mk Bool.false (Body.fl .f32 b1)),(Blk.mk Bool.false (Body.fl .f32 b2)),(Blk.mk Bool.false (Body.fl .f32 b3)),(Blk.mk Bool.false (Body.cells [(At.vw 0 0 q13 1),(At.vw 1 0 q14 1),(At.vw 2 0 q0z 1),(At.vw 3 0 q0s 3),(At.int .i64 q19),(At.flt .f32 q18),(At.flt .f32 q15)])),(Blk.mk Bool.true (Body.fl .f32 c4_)),(Blk.mk Bool.true (Body.fl .f32 c5_))])
noncomputable def zpq (t1 t2 t3 t4 q1n q1o:Nat) (t15:Int) (b0 b1 b2 b3:List Nat) (q13 q14 q0z q0s:Nat) (q19:Int) (q18 q15:Nat) (b5 b6:List Nat):Bool×LO:=((z91 t1 t2 t3 t4 b0 b1 b2 b3 q13 q14 q0z q0s q19 q18 q15 q1n q1o t15 b5 b6),(LO.two (z86 t1 t2 t3 t4 b0 b1 b2 b3 q13 q14 q0z q0s q19 q18 q15 q1n q1o t15 b5 b6) (LO.one Ex.ret (zfj t1 t2 t3 t4 b0 b1 b2 b3 q13 q14 q0z q0s q19 q18 q15)) (LO.one (Ex.exit 0) (zff t1 t2 t3 t4 b0 b1 b2 b3 q13 q14 q0z q0s q19 q18 q15 (zcm t1 t2 t3 t4 b0 b1 b2 b3 q13 q14 q0z q0s q19 q18 q15 q1n q1o t15 b5 b6) (zcp t1 t2 t3 t4 b0 b1 b2 b3 q13 q14 q0z q0s q19 q18 q15 q1n q1o t15 b5 b6) (zij t1 t2 t3 t4 b0 b1 b2 b3 q13 q14 q0z q0s q19 q18 q15 q1n q1o t15 b5 b6) (zif t1 t2 t3 t4 b0 b1 b2 b3 q13 q14 q0z q0s q19 q18 q15 q1n q1o t15 b5 b6) (zch t1 t2 t3 t4 b0 b1 b2 b3 q13 q14 q0z q0s q19 q18 q15 q1n q1o t15 b5 b6) (zcr t1 t2 t3 t4 b0 b1 b2 b3 q13 q14 q0z q0s q19 q18 q15 q1n q1o t15 b5 b6)))))
noncomputable def zrw:Nat→St→Option (Bool×LO):=lpT 5 (pSt [(pTm 0 (pV (pOne (pPtr 4 (liN 0) 7)))),(pTm 1 (pV (pOne (pFlt .f32)))),(pTm 2 (pV (pOne (pFlt .f32)))),(pTm 3 (pV (pOne (pFlt .f32)))),(pTm 4 (pV (pOne (pFlt .f32)))),(pTm 13 (pV (pOne (pSl 5 (liN 0) 1)))),(pTm 14 (pV (pOne (pSl 6 (liN 0) 1)))),(pTm 15 (pV (pOne (pInt .i64))))] [(pBlk Bool.false (pFl .f32)),(pBlk Bool.false (pFl .f32)),(pBlk Bool.false (pFl .f32)),(pBlk Bool.false (pFl .f32)),(pBlk Bool.false (pCells [(pVw 0 (liN 0) 1),(pVw 1 (liN 0) 1),(pVw 2 (liN 0) 1),(pVw 3 (liN 0) 3),(pInt .i64),(pFlt .f32),(pFlt .f32)])),(pBlk Bool.true (pFl .f32)),(pBlk Bool.true (pFl .f32))]) (fun hs=>zpq (hvN (hGet hs 0)) (hvN (hGet hs 1)) (hvN (hGet hs 2)) (hvN (hGet hs 3)) (hvN (hGet hs 4)) (hvN (hGet hs 5)) (hvI (hGet hs 6)) (hvLn (hGet hs 7)) (hvLn (hGet hs 8)) (hvLn (hGet hs 9)) (hvLn (hGet hs 10)) (hvN (hGet hs 11)) (hvN (hGet hs 12)) (hvN (hGet hs 13)) (hvN (hGet hs 14)) (hvI (hGet hs 15)) (hvN (hGet hs 16)) (hvN (hGet hs 17)) (hvLn (hGet hs 18)) (hvLn (hGet hs 19)))
def zbz (t1 t2 t3 t4:Nat) (b0 b1 b2 b3:List Nat) (q13 q14 q0z q0s:Nat) (q19:Int) (q18 q15:Nat):Option ((Unit)⊕(Nat×Nat×Int×Bool×(List Nat)×(List Nat)))→Option (Ex×St)
 | none=>none
 | some (Sum.inl r)=>some (Ex.ret,(zfj t1 t2 t3 t4 b0 b1 b2 b3 q13 q14 q0z q0s q19 q18 q15))
 | some (Sum.inr r)=>some ((Ex.exit 0),(zff t1 t2 t3 t4 b0 b1 b2 b3 q13 q14 q0z q0s q19 q18 q15 r.1 r.2.1 r.2.2.1 r.2.2.2.1 r.2.2.2.2.1 r.2.2.2.2.2))
def y0x (t1 t2 t3 t4:Nat) (b0 b1 b2 b3:List Nat) (q13 q14 q0z q0s:Nat) (q19:Int) (q18 q15:Nat) (x:Option ((Unit)⊕(Nat×Nat×Int×Bool×(List Nat)×(List Nat)))):LO:=(LO.two (oL x) (LO.one Ex.ret (zfj t1 t2 t3 t4 b0 b1 b2 b3 q13 q14 q0z q0s q19 q18 q15)) (LO.one (Ex.exit 0) (zff t1 t2 t3 t4 b0 b1 b2 b3 q13 q14 q0z q0s q19 q18 q15 ((tR x).getD default).1 ((tR x).getD default).2.1 ((tR x).getD default).2.2.1 ((tR x).getD default).2.2.2.1 ((tR x).getD default).2.2.2.2.1 ((tR x).getD default).2.2.2.2.2)))
theorem y1g (t1 t2 t3 t4:Nat) (b0 b1 b2 b3:List Nat) (q13 q14 q0z q0s:Nat) (q19:Int) (q18 q15:Nat):∀ x:Option ((Unit)⊕(Nat×Nat×Int×Bool×(List Nat)×(List Nat))),x.isSome=true→(zbz t1 t2 t3 t4 b0 b1 b2 b3 q13 q14 q0z q0s q19 q18 q15) x=some (pick (y0x t1 t2 t3 t4 b0 b1 b2 b3 q13 q14 q0z q0s q19 q18 q15 x))
 | none,h=>by cases h
 | some (Sum.inl r),_=>rfl
 | some (Sum.inr r),_=>rfl
theorem y2q (t1 t2 t3 t4 q1n q1o:Nat) (t15:Int) (b0 b1 b2 b3:List Nat) (q13 q14 q0z q0s:Nat) (q19:Int) (q18 q15:Nat) (b5 b6:List Nat) (K:Ex→St→Option (Ex×St)):ev9 Γ20 50 6 5 fi50 (zhj t1 t2 t3 t4 q1n q1o t15 b0 b1 b2 b3 q13 q14 q0z q0s q19 q18 q15 b5 b6) K=z4l t1 t2 t3 t4 b0 b1 b2 b3 q13 q14 q0z q0s q19 q18 q15 q1n q1o t15 b5 b6 (fun q1n' q1o' t15' b5' b6'=>K .normal (zhj t1 t2 t3 t4 q1n' q1o' t15' b0 b1 b2 b3 q13 q14 q0z q0s q19 q18 q15 b5' b6')) (fun _=>K Ex.ret (zfj t1 t2 t3 t4 b0 b1 b2 b3 q13 q14 q0z q0s q19 q18 q15)) (fun c0_ c1_ c2_ c3_ c4_ c5_=>K (Ex.exit 0) (zff t1 t2 t3 t4 b0 b1 b2 b3 q13 q14 q0z q0s q19 q18 q15 c0_ c1_ c2_ c3_ c4_ c5_)):=by kernel_rfl
theorem y2j (t1 t2 t3 t4:Nat) (b0 b1 b2 b3:List Nat) (q13 q14 q0z q0s:Nat) (q19:Int) (q18 q15:Nat):∀ (n q1n q1o:Nat) (t15:Int) (b5 b6:List Nat),iter 50 6 5 (ev9 Γ20 50 6 5 fi50) n (zhj t1 t2 t3 t4 q1n q1o t15 b0 b1 b2 b3 q13 q14 q0z q0s q19 q18 q15 b5 b6) (fun e st=>some (e,st))=(zbz t1 t2 t3 t4 b0 b1 b2 b3 q13 q14 q0z q0s q19 q18 q15) (z0j t1 t2 t3 t4 b0 b1 b2 b3 q13 q14 q0z q0s q19 q18 q15 n q1n q1o t15 b5 b6):=by
 intro n
 induction n with
 | zero=>intros;rfl
 | succ n ih=>
  intro q1n q1o t15 b5 b6
  refine Eq.trans (z4y ..) (Eq.trans (y2q t1 t2 t3 t4 q1n q1o t15 b0 b1 b2 b3 q13 q14 q0z q0s q19 q18 q15 b5 b6 _) (Eq.trans ?_ (zwb (zbz t1 t2 t3 t4 b0 b1 b2 b3 q13 q14 q0z q0s q19 q18 q15) rfl t1 t2 t3 t4 b0 b1 b2 b3 q13 q14 q0z q0s q19 q18 q15 q1n q1o t15 b5 b6 (fun q1n' q1o' t15' b5' b6'=>z0j t1 t2 t3 t4 b0 b1 b2 b3 q13 q14 q0z q0s q19 q18 q15 n q1n' q1o' t15' b5' b6') (fun _=>some (Sum.inl ())) (fun c0_ c1_ c2_ c3_ c4_ c5_=>some (Sum.inr (c0_,c1_,c2_,c3_,c4_,c5_))))))
  exact congrArg (fun kn_=>z4l t1 t2 t3 t4 b0 b1 b2 b3 q13 q14 q0z q0s q19 q18 q15 q1n q1o t15 b5 b6 kn_ (fun _=>(zbz t1 t2 t3 t4 b0 b1 b2 b3 q13 q14 q0z q0s q19 q18 q15) (some (Sum.inl ()))) (fun c0_ c1_ c2_ c3_ c4_ c5_=>(zbz t1 t2 t3 t4 b0 b1 b2 b3 q13 q14 q0z q0s q19 q18 q15) (some (Sum.inr (c0_,c1_,c2_,c3_,c4_,c5_))))) (funext fun q1n'=>funext fun q1o'=>funext fun t15'=>funext fun b5'=>funext fun b6'=>ih q1n' q1o' t15' b5' b6')
theorem zxw:LoopOne J fnTab 50 6 zrw:=lp_of (Γ:=Γ20) tyTab_ok (FnL.ok fnTab_ok _ _) (LpL.ok zzr) (SumL.ok zrn _) mixed (fi:=fi50) (by kernel_rfl) (by kernel_rfl) (by
 intro lo st out hp
 obtain⟨hs,e1,e2,e3⟩:=z8d hp
 clear hp
 obtain rfl:st=(zhj (hvN (hGet hs 0)) (hvN (hGet hs 1)) (hvN (hGet hs 2)) (hvN (hGet hs 3)) (hvN (hGet hs 4)) (hvN (hGet hs 5)) (hvI (hGet hs 6)) (hvLn (hGet hs 7)) (hvLn (hGet hs 8)) (hvLn (hGet hs 9)) (hvLn (hGet hs 10)) (hvN (hGet hs 11)) (hvN (hGet hs 12)) (hvN (hGet hs 13)) (hvN (hGet hs 14)) (hvI (hGet hs 15)) (hvN (hGet hs 16)) (hvN (hGet hs 17)) (hvLn (hGet hs 18)) (hvLn (hGet hs 19))):=e2.trans (by kernel_rfl)
 clear e2
 subst e1
 unfold zpq at e3
 injection e3 with h1 h2
 subst h2
 exact⟨8,8,big,Eq.trans (y2j (hvN (hGet hs 0)) (hvN (hGet hs 1)) (hvN (hGet hs 2)) (hvN (hGet hs 3)) (hvLn (hGet hs 7)) (hvLn (hGet hs 8)) (hvLn (hGet hs 9)) (hvLn (hGet hs 10)) (hvN (hGet hs 11)) (hvN (hGet hs 12)) (hvN (hGet hs 13)) (hvN (hGet hs 14)) (hvI (hGet hs 15)) (hvN (hGet hs 16)) (hvN (hGet hs 17)) big (hvN (hGet hs 4)) (hvN (hGet hs 5)) (hvI (hGet hs 6)) (hvLn (hGet hs 18)) (hvLn (hGet hs 19))) (y1g (hvN (hGet hs 0)) (hvN (hGet hs 1)) (hvN (hGet hs 2)) (hvN (hGet hs 3)) (hvLn (hGet hs 7)) (hvLn (hGet hs 8)) (hvLn (hGet hs 9)) (hvLn (hGet hs 10)) (hvN (hGet hs 11)) (hvN (hGet hs 12)) (hvN (hGet hs 13)) (hvN (hGet hs 14)) (hvI (hGet hs 15)) (hvN (hGet hs 16)) (hvN (hGet hs 17)) _ h1)⟩)
noncomputable def tb21:List (Nat×(List PT→Option (Bool×AV×List Blk))):=tb20
noncomputable def lt21:List ((Nat×Nat)×(Nat→St→Option (Bool×LO))):=((50,6),zrw)::lt20
noncomputable def Γ21:Ctx:=⟨tyTab,fnTab,tblSum tb21,tblLp lt21⟩
theorem ybu:SumL J tb21:=zrn
theorem ybs:LpL J fnTab lt21:=LpL.cons zxw (zzr)
theorem mk21 {g:FuncId} {F:List PT→Option (Bool×AV×List Blk)} (h:∀ pts v news,F pts=some (true,v,news)→ev8 Γ21 g pts=some (v,news)):SumOne J g F:=z59 (Γ:=Γ21) (fuel:=8) (d:=8) tyTab_ok (FnL.ok fnTab_ok _ _) (LpL.ok ybs) (SumL.ok ybu _) mixed fun pts v news hp _=>h pts v news hp
end Go.Proofs.YtijjhfailnmeoaaGreat
