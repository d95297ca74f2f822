import Derived.Test.YtijjhfailnmeoaaGreatForcesSharedOfAllC
set_option linter.unusedVariables false
set_option linter.unusedSimpArgs false
set_option linter.unusedSectionVars false
set_option maxRecDepth 100000
set_option maxHeartbeats 4000000
namespace Go.Proofs.YtijjhfailnmeoaaGreat
open Go Go.Rf
variable {J:Jd Tryz.prog}
noncomputable section
variable (a0:Nat) (c0:Int) (e0:Bool) (a1:Nat) (c1:Int) (e1:Bool) (g1:List Nat) (m1:List Bool) (a2:Nat) (c2:Int) (e2:Bool) (g2:List Nat) (a3:Nat) (c3:Int) (g3:List Nat) (m3:List Bool) (a4:Nat) (c4:Int) (e4:Bool) (g4:List Nat) (m4:List Bool) (a5:Nat) (e5:Bool) (g5:List Nat) (a6:Nat) (c6:Int) (g6:List Nat) (a7:Nat) (c7:Int) (g7:List Nat) (a8:Nat) (c8:Int) (e8:Bool) (g8:List Nat) (a9:Nat) (c9:Int) (e9:Bool) (g9:List Nat) (a10:Nat) (c10:Int) (e10:Bool) (g10:List Nat) (a11:Nat) (c11:Int) (a12:Nat) (c12:Int) (a13:Nat) (c13:Int) (a14:Nat) (c14:Int) (e14:Bool) (a15:Nat) (c15:Int) (e15:Bool) (a16:Nat) (a17:Nat) (c17:Int) (e18:Bool) (g18:List Nat) (g19:List Nat) (g20:List Nat)
def zhx:List PT→Option (Bool×AV×List Blk)
 | [.one (.s (.flt .f32 x))]=>some (bnot (nanQ .f32 x),A1 (.int .u32 x),[])
 | _=>none
theorem zr0:SumOne J 147 zhx:=by
 intro pts v news hp w vals hv
 unfold zhx at hp
 split at hp
 ·rename_i x
  injection hp with hp
  injection hp with h1 hp
  injection hp with h2 h3
  subst h2
  subst h3
  obtain⟨l,hl⟩:∃ l,l=vals.toList:=⟨_,rfl⟩
  rw[← hl] at hv
  cases hv with
  | cons a1 a2=>
   cases a2
   obtain⟨b,hb1,hb2,hb3⟩:=a1
   subst hb1
   rename_i hx
   have hvals:vals=#[.float .f32 b]:=by rw[← Array.toList_inj,← hl]
   subst hvals
   have hn:nanB .f32 b=false:=by rw[← u4k,hb3];simpa [bnot,nanQ] using h1
   rw[u03 hn] at hb3
   subst hb3
   refine⟨nat_tame Tryz.func147 (Eq.mpr (by kernel_rfl:_=(Mute (.extern 147)∧True)) ⟨.inr ⟨_,rfl⟩,trivial⟩),.inl ⟨_,w,by (simp only[callFunc,Sem.run_bind,run_program,Result.andThen_ok,Tryz.func147];rfl),NoB,⟨⟨(fun t b' h=>by cases t<;>cases h),(fun t t' b1 b2 x x' _ h=>by cases t<;>cases h)⟩,(fun t x h=>by cases h),Fr.refl _ w⟩,rfl⟩⟩
 ·cases hp
def zd5:List PT→Option (Bool×AV×List Blk)
 | [.one (.s (.int .u64 x))]=>some (okU .f64 x,A1 (.flt .f64 (cnI .f64 x)),[])
 | _=>none
theorem znn:SumOne J 167 zd5:=by
 intro pts v news hp w vals hv
 unfold zd5 at hp
 split at hp
 ·rename_i x
  injection hp with hp
  injection hp with h1 hp
  injection hp with h2 h3
  subst h2
  subst h3
  obtain⟨l,hl⟩:∃ l,l=vals.toList:=⟨_,rfl⟩
  rw[← hl] at hv
  cases hv with
  | cons a1 a2=>
   cases a2
   have hb1:_=Value.int .u64 x:=a1
   subst hb1
   rename_i hx
   have hvals:vals=#[.int .u64 x]:=by rw[← Array.toList_inj,← hl]
   subst hvals
   have hw:=okU_lt h1
   refine⟨nat_tame Tryz.func167 (Eq.mpr (by kernel_rfl:_=(Mute (.extern 167)∧True)) ⟨.inr ⟨_,rfl⟩,trivial⟩),.inl ⟨_,w,by (simp only[callFunc,Sem.run_bind,run_program,Result.andThen_ok,Tryz.func167];rfl),NoB,⟨⟨(fun t b' h=>by cases t<;>cases h),(fun t t' b1 b2 x x' _ h=>by cases t<;>cases h)⟩,(fun t x h=>by cases h),Fr.refl _ w⟩,⟨_,rfl,hw,rfl⟩⟩⟩
 ·cases hp
def zi4:List PT→Option (Bool×AV×List Blk)
 | [.one (.s (.flt .f64 x))]=>some (bnot (nanQ .f64 x),A1 (.int .u64 x),[])
 | _=>none
theorem zqz:SumOne J 173 zi4:=by
 intro pts v news hp w vals hv
 unfold zi4 at hp
 split at hp
 ·rename_i x
  injection hp with hp
  injection hp with h1 hp
  injection hp with h2 h3
  subst h2
  subst h3
  obtain⟨l,hl⟩:∃ l,l=vals.toList:=⟨_,rfl⟩
  rw[← hl] at hv
  cases hv with
  | cons a1 a2=>
   cases a2
   obtain⟨b,hb1,hb2,hb3⟩:=a1
   subst hb1
   rename_i hx
   have hvals:vals=#[.float .f64 b]:=by rw[← Array.toList_inj,← hl]
   subst hvals
   have hn:nanB .f64 b=false:=by rw[← u4k,hb3];simpa [bnot,nanQ] using h1
   rw[u03 hn] at hb3
   subst hb3
   refine⟨nat_tame Tryz.func173 (Eq.mpr (by kernel_rfl:_=(Mute (.extern 173)∧True)) ⟨.inr ⟨_,rfl⟩,trivial⟩),.inl ⟨_,w,by (simp only[callFunc,Sem.run_bind,run_program,Result.andThen_ok,Tryz.func173];rfl),NoB,⟨⟨(fun t b' h=>by cases t<;>cases h),(fun t t' b1 b2 x x' _ h=>by cases t<;>cases h)⟩,(fun t x h=>by cases h),Fr.refl _ w⟩,rfl⟩⟩
 ·cases hp
def zk4:List PT→Option (Bool×AV×List Blk)
 | [.one (.s (.flt .f64 x))]=>some (bnot (nanQ .f64 x),A1 (.flt .f64 (fint .zero x)),[])
 | _=>none
theorem zsm:SumOne J 177 zk4:=by
 intro pts v news hp w vals hv
 unfold zk4 at hp
 split at hp
 ·rename_i x
  injection hp with hp
  injection hp with h1 hp
  injection hp with h2 h3
  subst h2
  subst h3
  obtain⟨l,hl⟩:∃ l,l=vals.toList:=⟨_,rfl⟩
  rw[← hl] at hv
  cases hv with
  | cons a1 a2=>
   cases a2
   obtain⟨b,hb1,hb2,hb3⟩:=a1
   subst hb1
   rename_i hx
   have hvals:vals=#[.float .f64 b]:=by rw[← Array.toList_inj,← hl]
   subst hvals
   have hn:nanB .f64 b=false:=by rw[← u4k,hb3];simpa [bnot,nanQ] using h1
   rw[u03 hn] at hb3
   subst hb3
   refine⟨nat_tame Tryz.func177 (Eq.mpr (by kernel_rfl:_=(Mute (.extern 177)∧Tame Tryz.prog (do let v ← Extern.MathFloor.toIntegral "math.archTrunc" .zero #[.float .f64 b];pure (.value v):Sem Next))) ⟨.inr ⟨_,rfl⟩,tv (t_integral _ _ _)⟩),.inl ⟨_,w,by (simp only[callFunc,Sem.run_bind,run_program,Result.andThen_ok,Tryz.func177];change (do let v ← Extern.MathFloor.toIntegral "math.archTrunc" .zero #[.float .f64 b];pure (.value v):Sem Next).run Tryz.prog w=_;rw[Sem.run_bind,run_fint hn];rfl),NoB,⟨⟨(fun t b' h=>by cases t<;>cases h),(fun t t' b1 b2 x x' _ h=>by cases t<;>cases h)⟩,(fun t x h=>by cases h),Fr.refl _ w⟩,fint_rel hn⟩⟩
 ·cases hp
def zka:List PT→Option (Bool×AV×List Blk)
 | [.one (.s (.flt .f64 x))]=>some (bnot (nanQ .f64 x),A1 (.flt .f64 (fint .down x)),[])
 | _=>none
theorem ztb:SumOne J 179 zka:=by
 intro pts v news hp w vals hv
 unfold zka at hp
 split at hp
 ·rename_i x
  injection hp with hp
  injection hp with h1 hp
  injection hp with h2 h3
  subst h2
  subst h3
  obtain⟨l,hl⟩:∃ l,l=vals.toList:=⟨_,rfl⟩
  rw[← hl] at hv
  cases hv with
  | cons a1 a2=>
   cases a2
   obtain⟨b,hb1,hb2,hb3⟩:=a1
   subst hb1
   rename_i hx
   have hvals:vals=#[.float .f64 b]:=by rw[← Array.toList_inj,← hl]
   subst hvals
   have hn:nanB .f64 b=false:=by rw[← u4k,hb3];simpa [bnot,nanQ] using h1
   rw[u03 hn] at hb3
   subst hb3
   refine⟨nat_tame Tryz.func179 (Eq.mpr (by kernel_rfl:_=(Mute (.extern 179)∧Tame Tryz.prog (do let v ← Extern.MathFloor.toIntegral "math.archFloor" .down #[.float .f64 b];pure (.value v):Sem Next))) ⟨.inr ⟨_,rfl⟩,tv (t_integral _ _ _)⟩),.inl ⟨_,w,by (simp only[callFunc,Sem.run_bind,run_program,Result.andThen_ok,Tryz.func179];change (do let v ← Extern.MathFloor.toIntegral "math.archFloor" .down #[.float .f64 b];pure (.value v):Sem Next).run Tryz.prog w=_;rw[Sem.run_bind,run_fint hn];rfl),NoB,⟨⟨(fun t b' h=>by cases t<;>cases h),(fun t t' b1 b2 x x' _ h=>by cases t<;>cases h)⟩,(fun t x h=>by cases h),Fr.refl _ w⟩,fint_rel hn⟩⟩
 ·cases hp
def tb0:List (Nat×(List PT→Option (Bool×AV×List Blk))):=[(147,zhx),(167,zd5),(173,zi4),(177,zk4),(179,zka)]
def lt0:List ((Nat×Nat)×(Nat→St→Option (Bool×LO))):=[]
def Γ0:Ctx:=⟨tyTab,fnTab,tblSum tb0,tblLp lt0⟩
theorem y2q:SumL J tb0:=SumL.cons zr0 (SumL.cons znn (SumL.cons zqz (SumL.cons zsm (SumL.cons ztb (SumL.nil)))))
theorem y2o:LpL J fnTab lt0:=LpL.nil
theorem mk0{g:FuncId} {F:List PT→Option (Bool×AV×List Blk)} (h:∀ pts v news,F pts=some (true,v,news)→ev8 Γ0 g pts=some (v,news)):SumOne J g F:=sum_of (Γ:=Γ0) (fuel:=8) (d:=8) tyTab_ok (FnL.ok fnTab_ok _ _) (LpL.ok y2o) (SumL.ok y2q _) mixed fun pts v news hp _=>h pts v news hp
def zn1  : Option (Bool)→Option (AV×List Blk)
 | some r=>some ((.v (.one (.bool r))),[])
 | none=>none
def zmt:List PT→Option (Bool×AV×List Blk)
 | [.one (.s (.int .i64 n_)),.one (.s (.int .i64 low)),.one (.s (.int .i64 q1e))]=>sP (z5z n_ low q1e) zn1 (z3b n_ low q1e)
 | _=>none
theorem zzx:ev8 Γ0 52 [.one (.s (.int .i64 c0)),.one (.s (.int .i64 c1)),.one (.s (.int .i64 c2))]=zn1 (zbq c0 c1 c2):=tr2 (zvm c0 c1 c2 zn1 rfl (fun c0_=>some c0_)) (by kernel_rfl)
theorem zwx:SumOne J 52 zmt:=mk0 fun pts v news hp=>by
 unfold zmt at hp
 split at hp
 ·rename_i n_ low q1e
  exact fin2 (zzx n_ low q1e) hp
 ·cases hp
def zkl  : Option (Bool)→Option (AV×List Blk)
 | some r=>some ((.v (.one (.bool r))),[])
 | none=>none
def zl6:List PT→Option (Bool×AV×List Blk)
 | [.one (.s (.flt .f32 x))]=>sP (z26 x) zkl (z1t x)
 | _=>none
theorem zxm:ev8 Γ0 65 [.one (.s (.flt .f32 a0))]=zkl (zbz a0):=tr2 (zsi a0 zkl rfl (fun c0_=>some c0_)) (by kernel_rfl)
theorem zu7:SumOne J 65 zl6:=mk0 fun pts v news hp=>by
 unfold zl6 at hp
 split at hp
 ·rename_i x
  exact fin2 (zxm x) hp
 ·cases hp
def zoe  : Option (Bool)→Option (AV×List Blk)
 | some r=>some ((.v (.one (.bool r))),[])
 | none=>none
def zok:List PT→Option (Bool×AV×List Blk)
 | [.one (.s (.int .i64 n_)),.one (.s (.int .i64 low)),.one (.s (.int .i64 q1e))]=>sP (zeo n_ low q1e) zoe (zbn n_ low q1e)
 | _=>none
theorem y0p:ev8 Γ0 68 [.one (.s (.int .i64 c0)),.one (.s (.int .i64 c1)),.one (.s (.int .i64 c2))]=zoe (ze3 c0 c1 c2):=tr2 (zwi c0 c1 c2 zoe rfl (fun c0_=>some c0_)) (by kernel_rfl)
theorem zxi:SumOne J 68 zok:=mk0 fun pts v news hp=>by
 unfold zok at hp
 split at hp
 ·rename_i n_ low q1e
  exact fin2 (y0p n_ low q1e) hp
 ·cases hp
def zmp  : Option (Bool)→Option (AV×List Blk)
 | some r=>some ((.v (.one (.bool r))),[])
 | none=>none
def zmx:List PT→Option (Bool×AV×List Blk)
 | [.one (.s (.flt .f32 x)),.one (.s (.flt .f32 y))]=>sP (zjg x y) zmp (zir x y)
 | _=>none
theorem zzw:ev8 Γ0 69 [.one (.s (.flt .f32 a0)),.one (.s (.flt .f32 a1))]=zmp (zbo a0 a1):=tr2 (zvk a0 a1 zmp rfl (fun c0_=>some c0_)) (by kernel_rfl)
theorem zwb:SumOne J 69 zmx:=mk0 fun pts v news hp=>by
 unfold zmx at hp
 split at hp
 ·rename_i x y
  exact fin2 (zzw x y) hp
 ·cases hp
def zk0  : Option (Bool)→Option (AV×List Blk)
 | some r=>some ((.v (.one (.bool r))),[])
 | none=>none
def zk9:List PT→Option (Bool×AV×List Blk)
 | [.one (.s (.flt .f32 x))]=>sP (z0t x) zk0 (z0n x)
 | _=>none
theorem zww:ev8 Γ0 84 [.one (.s (.flt .f32 a0))]=zk0 (zak a0):=tr2 (zrc a0 zk0 rfl (fun c0_=>some c0_)) (by kernel_rfl)
theorem zt6:SumOne J 84 zk9:=mk0 fun pts v news hp=>by
 unfold zk9 at hp
 split at hp
 ·rename_i x
  exact fin2 (zww x) hp
 ·cases hp
def zl5  : Option (Bool)→Option (AV×List Blk)
 | some r=>some ((.v (.one (.bool r))),[])
 | none=>none
def zkw:List PT→Option (Bool×AV×List Blk)
 | [.one (.s (.flt .f32 x)),.one (.s (.flt .f32 low)),.one (.s (.flt .f32 q1e))]=>sP (zcf x low q1e) zl5 (zaf x low q1e)
 | _=>none
theorem zy2:ev8 Γ0 134 [.one (.s (.flt .f32 a0)),.one (.s (.flt .f32 a1)),.one (.s (.flt .f32 a2))]=zl5 (z8r a0 a1 a2):=tr2 (zso a0 a1 a2 zl5 rfl (fun c0_=>some c0_)) (by kernel_rfl)
theorem ztw:SumOne J 134 zkw:=mk0 fun pts v news hp=>by
 unfold zkw at hp
 split at hp
 ·rename_i x low q1e
  exact fin2 (zy2 x low q1e) hp
 ·cases hp
def zex  : Option (Nat)→Option (AV×List Blk)
 | some r=>some ((.v (.one (.flt .f32 r))),[])
 | none=>none
def zf0:List PT→Option (Bool×AV×List Blk)
 | [.agg [.row 1 q00 (.fl .f32 q06),.row 1 q01 (.fl .f32 q07),.row 1 q02 (.fl .f32 q08),.row 3 q0d (.fl .f32 q0f),.s (.int .i64 q0k),.s (.flt .f32 q0o),.s (.flt .f32 q0n)],.one (.s (.int .i64 i))]=>sP (z8n q00 q06 q01 q07 q02 q08 q0d q0f q0k q0o q0n i) zex (z5t q00 q06 q01 q07 q02 q08 q0d q0f q0k q0o q0n i)
 | _=>none
theorem zqo:ev8 Γ0 142 [.agg [.row 1 a0 (.fl .f32 g1),.row 1 a2 (.fl .f32 g3),.row 1 a4 (.fl .f32 g5),.row 3 a6 (.fl .f32 g7),.s (.int .i64 c8),.s (.flt .f32 a9),.s (.flt .f32 a10)],.one (.s (.int .i64 c11))]=zex (z50 a0 g1 a2 g3 a4 g5 a6 g7 c8 a9 a10 c11):=tr2 (zns a0 g1 a2 g3 a4 g5 a6 g7 c8 a9 a10 c11 zex rfl (fun c0_=>some c0_)) (by kernel_rfl)
theorem zoh:SumOne J 142 zf0:=mk0 fun pts v news hp=>by
 unfold zf0 at hp
 split at hp
 ·rename_i q00 q06 q01 q07 q02 q08 q0d q0f q0k q0o q0n i
  exact fin2 (zqo q00 q06 q01 q07 q02 q08 q0d q0f q0k q0o q0n i) hp
 ·cases hp
def zmu  : Option (Nat)→Option (AV×List Blk)
 | some r=>some ((.v (.one (.flt .f32 r))),[])
 | none=>none
def znc:List PT→Option (Bool×AV×List Blk)
 | [.ptr [.row 1 q00 (.fl .f32 q06),.row 1 q01 (.fl .f32 q07),.row 1 q02 (.fl .f32 q08),.row 3 q0d (.fl .f32 q0f),.s (.int .i64 q0k),.s (.flt .f32 q0o),.s (.flt .f32 q0n)],.one (.s (.int .i64 i)),.one (.s (.flt .f32 q1s))]=>sP (zje q00 q06 q01 q07 q02 q08 q0d q0f q0k q0o q0n i q1s) zmu (zeh q00 q06 q01 q07 q02 q08 q0d q0f q0k q0o q0n i q1s)
 | _=>none
theorem zzy:ev8 Γ0 151 [.ptr [.row 1 a0 (.fl .f32 g1),.row 1 a2 (.fl .f32 g3),.row 1 a4 (.fl .f32 g5),.row 3 a6 (.fl .f32 g7),.s (.int .i64 c8),.s (.flt .f32 a9),.s (.flt .f32 a10)],.one (.s (.int .i64 c11)),.one (.s (.flt .f32 a12))]=zmu (zbm a0 g1 a2 g3 a4 g5 a6 g7 c8 a9 a10 c11 a12):=tr2 (zuz a0 g1 a2 g3 a4 g5 a6 g7 c8 a9 a10 c11 a12 zmu rfl (fun c0_=>some c0_)) (by kernel_rfl)
theorem zw9:SumOne J 151 znc:=mk0 fun pts v news hp=>by
 unfold znc at hp
 split at hp
 ·rename_i q00 q06 q01 q07 q02 q08 q0d q0f q0k q0o q0n i q1s
  exact fin2 (zzy q00 q06 q01 q07 q02 q08 q0d q0f q0k q0o q0n i q1s) hp
 ·cases hp
def zhp  : Option (Nat)→Option (AV×List Blk)
 | some r=>some ((.v (.one (.flt .f32 r))),[])
 | none=>none
def zi3:List PT→Option (Bool×AV×List Blk)
 | [.ptr [.row 1 q00 (.fl .f32 q06),.row 1 q01 (.fl .f32 q07),.row 1 q02 (.fl .f32 q08),.row 3 q0d (.fl .f32 q0f),.s (.int .i64 q0k),.s (.flt .f32 q0o),.s (.flt .f32 q0n)],.one (.s (.int .i64 i))]=>sP (zce q00 q06 q01 q07 q02 q08 q0d q0f q0k q0o q0n i) zhp (z7l q00 q06 q01 q07 q02 q08 q0d q0f q0k q0o q0n i)
 | _=>none
theorem ztr:ev8 Γ0 152 [.ptr [.row 1 a0 (.fl .f32 g1),.row 1 a2 (.fl .f32 g3),.row 1 a4 (.fl .f32 g5),.row 3 a6 (.fl .f32 g7),.s (.int .i64 c8),.s (.flt .f32 a9),.s (.flt .f32 a10)],.one (.s (.int .i64 c11))]=zhp (z6b a0 g1 a2 g3 a4 g5 a6 g7 c8 a9 a10 c11):=tr2 (zpn a0 g1 a2 g3 a4 g5 a6 g7 c8 a9 a10 c11 zhp rfl (fun c0_=>some c0_)) (by kernel_rfl)
theorem zqi:SumOne J 152 zi3:=mk0 fun pts v news hp=>by
 unfold zi3 at hp
 split at hp
 ·rename_i q00 q06 q01 q07 q02 q08 q0d q0f q0k q0o q0n i
  exact fin2 (ztr q00 q06 q01 q07 q02 q08 q0d q0f q0k q0o q0n i) hp
 ·cases hp
def zrw  : Option (Nat)→Option (AV×List Blk)
 | some r=>some ((.v (.one (.flt .f64 r))),[])
 | none=>none
def zru:List PT→Option (Bool×AV×List Blk)
 | []=>sP zl2 zrw zgd
 | _=>none
theorem y25  : ev8 Γ0 158 []=zrw (zim):=tr2 (zz6  zrw rfl (fun c0_=>some c0_)) (by kernel_rfl)
theorem zzs:SumOne J 158 zru:=mk0 fun pts v news hp=>by
 unfold zru at hp
 split at hp
 ·exact fin2 (y25) hp
 ·cases hp
def zom  : Option (Nat)→Option (AV×List Blk)
 | some r=>some ((.v (.one (.flt .f32 r))),[])
 | none=>none
def znv:List PT→Option (Bool×AV×List Blk)
 | [.one (.s (.flt .f32 a)),.one (.s (.flt .f32 b)),.one (.s (.flt .f32 q1r))]=>sP (zhn a b q1r) zom (zg3 a b q1r)
 | _=>none
theorem y0t:ev8 Γ0 162 [.one (.s (.flt .f32 a0)),.one (.s (.flt .f32 a1)),.one (.s (.flt .f32 a2))]=zom (zhd a0 a1 a2):=tr2 (zw5 a0 a1 a2 zom rfl (fun c0_=>some c0_)) (by kernel_rfl)
theorem zya:SumOne J 162 znv:=mk0 fun pts v news hp=>by
 unfold znv at hp
 split at hp
 ·rename_i a b q1r
  exact fin2 (y0t a b q1r) hp
 ·cases hp
def zjz  : Option (Nat)→Option (AV×List Blk)
 | some r=>some ((.v (.one (.flt .f32 r))),[])
 | none=>none
def zk6:List PT→Option (Bool×AV×List Blk)
 | [.one (.s (.flt .f64 x))]=>sP (zaj x) zjz (z7d x)
 | _=>none
theorem zx3:ev8 Γ0 163 [.one (.s (.flt .f64 a0))]=zjz (z7y a0):=tr2 (zrl a0 zjz rfl (fun c0_=>some c0_)) (by kernel_rfl)
theorem zsv:SumOne J 163 zk6:=mk0 fun pts v news hp=>by
 unfold zk6 at hp
 split at hp
 ·rename_i x
  exact fin2 (zx3 x) hp
 ·cases hp
def zs3  : Option (Nat)→Option (AV×List Blk)
 | some r=>some ((.v (.one (.flt .f64 r))),[])
 | none=>none
def zrb:List PT→Option (Bool×AV×List Blk)
 | [.one (.s (.flt .f64 x))]=>sP (znk x) zs3 (zmj x)
 | _=>none
theorem y1x:ev8 Γ0 168 [.one (.s (.flt .f64 a0))]=zs3 (zif a0):=tr2 (zz7 a0 zs3 rfl (fun c0_=>some c0_)) (by kernel_rfl)
theorem zzn:SumOne J 168 zrb:=mk0 fun pts v news hp=>by
 unfold zrb at hp
 split at hp
 ·rename_i x
  exact fin2 (y1x x) hp
 ·cases hp
def tb1:List (Nat×(List PT→Option (Bool×AV×List Blk))):=(52,zmt)::(65,zl6)::(68,zok)::(69,zmx)::(84,zk9)::(134,zkw)::(142,zf0)::(151,znc)::(152,zi3)::(158,zru)::(162,znv)::(163,zk6)::(168,zrb)::tb0
def lt1:List ((Nat×Nat)×(Nat→St→Option (Bool×LO))):=lt0
def Γ1:Ctx:=⟨tyTab,fnTab,tblSum tb1,tblLp lt1⟩
theorem y0d:SumL J tb1:=SumL.cons zwx (SumL.cons zu7 (SumL.cons zxi (SumL.cons zwb (SumL.cons zt6 (SumL.cons ztw (SumL.cons zoh (SumL.cons zw9 (SumL.cons zqi (SumL.cons zzs (SumL.cons zya (SumL.cons zsv (SumL.cons zzn (y2q)))))))))))))
theorem y0o:LpL J fnTab lt1:=y2o
theorem mk1{g:FuncId} {F:List PT→Option (Bool×AV×List Blk)} (h:∀ pts v news,F pts=some (true,v,news)→ev8 Γ1 g pts=some (v,news)):SumOne J g F:=sum_of (Γ:=Γ1) (fuel:=8) (d:=8) tyTab_ok (FnL.ok fnTab_ok _ _) (LpL.ok y0o) (SumL.ok y0d _) mixed fun pts v news hp _=>h pts v news hp
def zm8  : Option (Nat×Bool)→Option (AV×List Blk)
 | some r=>some ((.tup [(.one (.flt .f32 r.1)),(.one (.bool r.2))]),[])
 | none=>none
def zlt:List PT→Option (Bool×AV×List Blk)
 | [.one (.s (.flt .f32 x))]=>sP (zih x) zm8 (zh8 x,zh5 x)
 | _=>none
theorem zz9:ev8 Γ1 59 [.one (.s (.flt .f32 a0))]=zm8 (z7v a0):=tr2 (ztt a0 zm8 rfl (fun c0_ c1_=>some (c0_,c1_))) (by kernel_rfl)
theorem zuy:SumOne J 59 zlt:=mk1 fun pts v news hp=>by
 unfold zlt at hp
 split at hp
 ·rename_i x
  exact fin2 (zz9 x) hp
 ·cases hp
def zl1  : Option (Bool)→Option (AV×List Blk)
 | some r=>some ((.v (.one (.bool r))),[])
 | none=>none
def zku:List PT→Option (Bool×AV×List Blk)
 | [.one (.s (.flt .f32 x))]=>sP (z6v x) zl1 (z64 x)
 | _=>none
theorem zy1:ev8 Γ1 83 [.one (.s (.flt .f32 a0))]=zl1 (z8t a0):=tr2 (zt5 a0 zl1 rfl (fun c0_=>some c0_)) (by kernel_rfl)
theorem zty:SumOne J 83 zku:=mk1 fun pts v news hp=>by
 unfold zku at hp
 split at hp
 ·rename_i x
  exact fin2 (zy1 x) hp
 ·cases hp
def zmc  : Option (Bool)→Option (AV×List Blk)
 | some r=>some ((.v (.one (.bool r))),[])
 | none=>none
def zlw:List PT→Option (Bool×AV×List Blk)
 | [.one (.s (.flt .f32 x))]=>sP (ze7 x) zmc (zci x)
 | _=>none
theorem zyu:ev8 Γ1 90 [.one (.s (.flt .f32 a0))]=zmc (za6 a0):=tr2 (ztf a0 zmc rfl (fun c0_=>some c0_)) (by kernel_rfl)
theorem zvn:SumOne J 90 zlw:=mk1 fun pts v news hp=>by
 unfold zlw at hp
 split at hp
 ·rename_i x
  exact fin2 (zyu x) hp
 ·cases hp
def zfq  : Option (Bool)→Option (AV×List Blk)
 | some r=>some ((.v (.one (.bool r))),[])
 | none=>none
def zfb:List PT→Option (Bool×AV×List Blk)
 | [.one (.s (.flt .f32 x))]=>sP (za0 x) zfq (z8s x)
 | _=>none
theorem zre:ev8 Γ1 115 [.one (.s (.flt .f32 a0))]=zfq (z5g a0):=tr2 (zob a0 zfq rfl (fun c0_=>some c0_)) (by kernel_rfl)
theorem zow:SumOne J 115 zfb:=mk1 fun pts v news hp=>by
 unfold zfb at hp
 split at hp
 ·rename_i x
  exact fin2 (zre x) hp
 ·cases hp
def zld  : Option (Bool)→Option (AV×List Blk)
 | some r=>some ((.v (.one (.bool r))),[])
 | none=>none
def zkv:List PT→Option (Bool×AV×List Blk)
 | [.one (.s (.flt .f32 x))]=>sP (z5n x) zld (z56 x)
 | _=>none
theorem zxj:ev8 Γ1 121 [.one (.s (.flt .f32 a0))]=zld (z8f a0):=tr2 (zs8 a0 zld rfl (fun c0_=>some c0_)) (by kernel_rfl)
theorem zue:SumOne J 121 zkv:=mk1 fun pts v news hp=>by
 unfold zkv at hp
 split at hp
 ·rename_i x
  exact fin2 (zxj x) hp
 ·cases hp
def zkm  : Option (Bool)→Option (AV×List Blk)
 | some r=>some ((.v (.one (.bool r))),[])
 | none=>none
def zkp:List PT→Option (Bool×AV×List Blk)
 | [.ptr [.row 1 q00 (.fl .f32 q06),.row 1 q01 (.fl .f32 q07),.row 1 q02 (.fl .f32 q08),.row 3 q0d (.fl .f32 q0f),.s (.int .i64 q0k),.s (.flt .f32 q0o),.s (.flt .f32 q0n)],.one (.s (.int .i64 i)),.one (.s (.flt .f32 q0m))]=>sP (zh4 q00 q06 q01 q07 q02 q08 q0d q0f q0k q0o q0n i q0m) zkm (zfi q00 q06 q01 q07 q02 q08 q0d q0f q0k q0o q0n i q0m)
 | _=>none
theorem zxa:ev8 Γ1 128 [.ptr [.row 1 a0 (.fl .f32 g1),.row 1 a2 (.fl .f32 g3),.row 1 a4 (.fl .f32 g5),.row 3 a6 (.fl .f32 g7),.s (.int .i64 c8),.s (.flt .f32 a9),.s (.flt .f32 a10)],.one (.s (.int .i64 c11)),.one (.s (.flt .f32 a12))]=zkm (z8q a0 g1 a2 g3 a4 g5 a6 g7 c8 a9 a10 c11 a12):=tr2 (zsj a0 g1 a2 g3 a4 g5 a6 g7 c8 a9 a10 c11 a12 zkm rfl (fun c0_=>some c0_)) (by kernel_rfl)
theorem ztm:SumOne J 128 zkp:=mk1 fun pts v news hp=>by
 unfold zkp at hp
 split at hp
 ·rename_i q00 q06 q01 q07 q02 q08 q0d q0f q0k q0o q0n i q0m
  exact fin2 (zxa q00 q06 q01 q07 q02 q08 q0d q0f q0k q0o q0n i q0m) hp
 ·cases hp
def zms  : Option (Nat×Nat×Bool)→Option (AV×List Blk)
 | some r=>some ((.tup [(.one (.flt .f32 r.1)),(.one (.flt .f32 r.2.1)),(.one (.bool r.2.2))]),[])
 | none=>none
def zna:List PT→Option (Bool×AV×List Blk)
 | [.one (.s (.flt .f32 x)),.one (.s (.flt .f32 y))]=>sP (zgb x y) zms (za9 x y,za7 x y,zaa x y)
 | _=>none
theorem zzm:ev8 Γ1 131 [.one (.s (.flt .f32 a0)),.one (.s (.flt .f32 a1))]=zms (z7f a0 a1):=tr2 (zvf a0 a1 zms rfl (fun c0_ c1_ c2_=>some (c0_,c1_,c2_))) (by kernel_rfl)
theorem zwt:SumOne J 131 zna:=mk1 fun pts v news hp=>by
 unfold zna at hp
 split at hp
 ·rename_i x y
  exact fin2 (zzm x y) hp
 ·cases hp
def zhy  : Option (Bool)→Option (AV×List Blk)
 | some r=>some ((.v (.one (.bool r))),[])
 | none=>none
def zhz:List PT→Option (Bool×AV×List Blk)
 | [.one (.s (.flt .f32 x))]=>sP (zbx x) zhy (zb1 x)
 | _=>none
theorem ztk:ev8 Γ1 153 [.one (.s (.flt .f32 a0))]=zhy (z6j a0):=tr2 (zpf a0 zhy rfl (fun c0_=>some c0_)) (by kernel_rfl)
theorem zqe:SumOne J 153 zhz:=mk1 fun pts v news hp=>by
 unfold zhz at hp
 split at hp
 ·rename_i x
  exact fin2 (ztk x) hp
 ·cases hp
def zd6  : Option (Bool)→Option (AV×List Blk)
 | some r=>some ((.v (.one (.bool r))),[])
 | none=>none
def zd2:List PT→Option (Bool×AV×List Blk)
 | [.agg [.row 1 q00 (.fl .f32 q06),.row 1 q01 (.fl .f32 q07),.row 1 q02 (.fl .f32 q08),.row 3 q0d (.fl .f32 q0f),.s (.int .i64 q0k),.s (.flt .f32 q0o),.s (.flt .f32 q0n)],.one (.s (.int .i64 i))]=>sP (z84 q00 q06 q01 q07 q02 q08 q0d q0f q0k q0o q0n i) zd6 (z7i q00 q06 q01 q07 q02 q08 q0d q0f q0k q0o q0n i)
 | _=>none
theorem zpu:ev8 Γ1 155 [.agg [.row 1 a0 (.fl .f32 g1),.row 1 a2 (.fl .f32 g3),.row 1 a4 (.fl .f32 g5),.row 3 a6 (.fl .f32 g7),.s (.int .i64 c8),.s (.flt .f32 a9),.s (.flt .f32 a10)],.one (.s (.int .i64 c11))]=zd6 (z4f a0 g1 a2 g3 a4 g5 a6 g7 c8 a9 a10 c11):=tr2 (zmq a0 g1 a2 g3 a4 g5 a6 g7 c8 a9 a10 c11 zd6 rfl (fun c0_=>some c0_)) (by kernel_rfl)
theorem zno:SumOne J 155 zd2:=mk1 fun pts v news hp=>by
 unfold zd2 at hp
 split at hp
 ·rename_i q00 q06 q01 q07 q02 q08 q0d q0f q0k q0o q0n i
  exact fin2 (zpu q00 q06 q01 q07 q02 q08 q0d q0f q0k q0o q0n i) hp
 ·cases hp
def zn8  : Option (Bool)→Option (AV×List Blk)
 | some r=>some ((.v (.one (.bool r))),[])
 | none=>none
def zn0:List PT→Option (Bool×AV×List Blk)
 | [.one (.s (.flt .f32 q19))]=>sP (zjh q19) zn8 (zic q19)
 | _=>none
theorem zzq:ev8 Γ1 156 [.one (.s (.flt .f32 a0))]=zn8 (zbp a0):=tr2 (zvs a0 zn8 rfl (fun c0_=>some c0_)) (by kernel_rfl)
theorem zx4:SumOne J 156 zn0:=mk1 fun pts v news hp=>by
 unfold zn0 at hp
 split at hp
 ·rename_i q19
  exact fin2 (zzq q19) hp
 ·cases hp
def zn3  : Option (Bool)→Option (AV×List Blk)
 | some r=>some ((.v (.one (.bool r))),[])
 | none=>none
def zmr:List PT→Option (Bool×AV×List Blk)
 | [.one (.s (.flt .f64 x))]=>sP (zjm x) zn3 (zi8 x)
 | _=>none
theorem zzu:ev8 Γ1 159 [.one (.s (.flt .f64 a0))]=zn3 (zbr a0):=tr2 (zur a0 zn3 rfl (fun c0_=>some c0_)) (by kernel_rfl)
theorem zw2:SumOne J 159 zmr:=mk1 fun pts v news hp=>by
 unfold zmr at hp
 split at hp
 ·rename_i x
  exact fin2 (zzu x) hp
 ·cases hp
def z5i:St:=(.mk [(0,(.v (.one (.vw 0 0 a0 1)))),(1,(.v (.one (.bool e1)))),(7,(.v (.one (.int .i64 c2)))),(8,(.v (.one (.int .i64 c3))))] [(.mk false (.bl m4))])
def z51(sn:Nat)(v:Bool)(t7:Int)(b0:List Bool)(c0_:Int):St:=(.mk [(4,(.v (.one (.int .i64 c0_))))] [(.mk false (.bl b0))])
def z52:St:=(.mk [(0,(.v (.one (.vw 0 0 a0 1)))),(1,(.v (.one (.bool e1)))),(7,(.v (.one (.int .i64 c2)))),(8,(.v (.one (.int .i64 c4)))),(9,(.v (.one (.bool e5))))] [(.mk false (.bl m3))])
def zks:Bool×LO:=((z2s a0 e1 c2 m4 c3),(.two (z2h a0 e1 c2 m4 c3) (.one .ret (z51 a0 e1 c2 m4 (z4c a0 e1 c2 m4 c3))) (.one (.exit 0) (z52 a0 e1 c2 m4 (z6l a0 e1 c2 m4 c3) (z6m a0 e1 c2 m4 c3)))))
def ze5:Nat→St→Option (Bool×LO):=lpT 1 (pSt [(pTm 0 (pV (pOne (pVw 0 (liN 0) 1)))),(pTm 1 (pV (pOne pBool))),(pTm 7 (pV (pOne (pInt .i64)))),(pTm 8 (pV (pOne (pInt .i64))))] [(pBlk false pBl)]) (fun hs=>zks (hN hs 0) (hB hs 1) (hI hs 2) (hI hs 3) (hLb hs 4))
def z3x:Option ((Int)⊕(Int×Bool))→Option (Ex×St)
 | none=>none
 | some (Sum.inl r)=>some (.ret,(z51 a0 e1 c2 m3 r))
 | some (Sum.inr r)=>some ((.exit 0),(z52 a0 e1 c2 m3 r.1 r.2))
def zli (x:Option ((Int)⊕(Int×Bool))):LO:=(.two (oL x) (.one .ret (z51 a0 e1 c2 m3 ((tL x).getD default))) (.one (.exit 0) (z52 a0 e1 c2 m3 ((tR x).getD default).1 ((tR x).getD default).2)))
theorem zm9:∀ x:Option ((Int)⊕(Int×Bool)),x.isSome=true→(z3x a0 e1 c2 m3) x=some (pick (zli a0 e1 c2 m3 x))
 | none,h=>by cases h
 | some (Sum.inl r),_=>rfl
 | some (Sum.inr r),_=>rfl
theorem zmg (K:Ex→St→Option (Ex×St)):ev9 Γ1 113 2 1 fi113 (z5i a0 e1 c2 c3 m4) K=z0z a0 e1 c2 m4 c3 (fun t8'=>K .normal (z5i a0 e1 c2 t8' m4)) (fun c0_=>K .ret (z51 a0 e1 c2 m4 c0_)) (fun c0_ c1_=>K (.exit 0) (z52 a0 e1 c2 m4 c0_ c1_)):=by kernel_rfl
theorem zm3:∀ (n:Nat) (t8:Int),iter 113 2 1 (ev9 Γ1 113 2 1 fi113) n (z5i a0 e1 c2 t8 m3) (fun e st=>some (e,st))=(z3x a0 e1 c2 m3) (z07 a0 e1 c2 m3 n t8):=by
 intro n
 induction n with
 | zero=>intros;rfl
 | succ n ih=>
  intro t8
  refine Eq.trans (iter_succ ..) (Eq.trans (zmg a0 e1 c2 t8 m3 _) (Eq.trans ?_ (zjq a0 e1 c2 m3 t8 (z3x a0 e1 c2 m3) rfl (fun t8'=>z07 a0 e1 c2 m3 n t8') (fun c0_=>some (Sum.inl c0_)) (fun c0_ c1_=>some (Sum.inr (c0_,c1_))))))
  exact congrArg (fun kn_=>z0z a0 e1 c2 m3 t8 kn_ (fun c0_=>(z3x a0 e1 c2 m3) (some (Sum.inl c0_))) (fun c0_ c1_=>(z3x a0 e1 c2 m3) (some (Sum.inr (c0_,c1_))))) (funext fun t8'=>ih t8')
theorem zkf:LoopOne J fnTab 113 2 ze5:=lp9 (Γ:=Γ1) tyTab_ok (FnL.ok fnTab_ok _ _) (LpL.ok y0o) (SumL.ok y0d _) mixed (fi:=fi113) (by kernel_rfl) (by kernel_rfl) (q:=fun hs=>(z5i (hN hs 0) (hB hs 1) (hI hs 2) (hI hs 3) (hLb hs 4))) (fun hs=>by kernel_rfl) fun hs h1=>Eq.trans (zm3 (hN hs 0) (hB hs 1) (hI hs 2) (hLb hs 4) big (hI hs 3)) (zm9 (hN hs 0) (hB hs 1) (hI hs 2) (hLb hs 4) _ h1)
def tb2:List (Nat×(List PT→Option (Bool×AV×List Blk))):=(59,zlt)::(83,zku)::(90,zlw)::(115,zfb)::(121,zkv)::(128,zkp)::(131,zna)::(153,zhz)::(155,zd2)::(156,zn0)::(159,zmr)::tb1
def lt2:List ((Nat×Nat)×(Nat→St→Option (Bool×LO))):=((113,2),ze5)::lt1
def Γ2:Ctx:=⟨tyTab,fnTab,tblSum tb2,tblLp lt2⟩
theorem zxz:SumL J tb2:=SumL.cons zuy (SumL.cons zty (SumL.cons zvn (SumL.cons zow (SumL.cons zue (SumL.cons ztm (SumL.cons zwt (SumL.cons zqe (SumL.cons zno (SumL.cons zx4 (SumL.cons zw2 (y0d)))))))))))
theorem zxq:LpL J fnTab lt2:=LpL.cons zkf (y0o)
theorem mk2{g:FuncId} {F:List PT→Option (Bool×AV×List Blk)} (h:∀ pts v news,F pts=some (true,v,news)→ev8 Γ2 g pts=some (v,news)):SumOne J g F:=sum_of (Γ:=Γ2) (fuel:=8) (d:=8) tyTab_ok (FnL.ok fnTab_ok _ _) (LpL.ok zxq) (SumL.ok zxz _) mixed fun pts v news hp _=>h pts v news hp
def z9p  : Option (Int)→Option (AV×List Blk)
 | some r=>some ((.v (.one (.int .i64 r))),[])
 | none=>none
def z9g:List PT→Option (Bool×AV×List Blk)
 | [.one (.row 1 s_n (.bl s)),.one (.s (.bool v))]=>sP (z6k s_n s v) z9p (z5x s_n s v)
 | _=>none
theorem znl:ev8 Γ2 113 [.one (.row 1 a0 (.bl m1)),.one (.s (.bool e2))]=z9p (z3p a0 m1 e2):=tr2 (zlf a0 m1 e2 z9p rfl (fun c0_=>some c0_)) (by kernel_rfl)
theorem zlr:SumOne J 113 z9g:=mk2 fun pts v news hp=>by
 unfold z9g at hp
 split at hp
 ·rename_i s_n s v
  exact fin2 (znl s_n s v) hp
 ·cases hp
def zix  : Option (Bool)→Option (AV×List Blk)
 | some r=>some ((.v (.one (.bool r))),[])
 | none=>none
def zj4:List PT→Option (Bool×AV×List Blk)
 | [.one (.s (.flt .f32 x))]=>sP (zdt x) zix (zca x)
 | _=>none
theorem zvd:ev8 Γ2 154 [.one (.s (.flt .f32 a0))]=zix (z78 a0):=tr2 (zqh a0 zix rfl (fun c0_=>some c0_)) (by kernel_rfl)
theorem zrt:SumOne J 154 zj4:=mk2 fun pts v news hp=>by
 unfold zj4 at hp
 split at hp
 ·rename_i x
  exact fin2 (zvd x) hp
 ·cases hp
def znw  : Option (Nat)→Option (AV×List Blk)
 | some r=>some ((.v (.one (.flt .f64 r))),[])
 | none=>none
def zo8:List PT→Option (Bool×AV×List Blk)
 | [.one (.s (.flt .f64 x))]=>sP (zl0 x) znw (z8y x)
 | _=>none
theorem y0e:ev8 Γ2 174 [.one (.s (.flt .f64 a0))]=znw (zed a0):=tr2 (zw6 a0 znw rfl (fun c0_=>some c0_)) (by kernel_rfl)
theorem zxc:SumOne J 174 zo8:=mk2 fun pts v news hp=>by
 unfold zo8 at hp
 split at hp
 ·rename_i x
  exact fin2 (y0e x) hp
 ·cases hp
def zb4:St:=(.mk [(0,(.v (.one (.vw 0 0 a0 1)))),(1,(.v (.one (.vw 1 0 a1 1)))),(5,(.v (.one (.int .i64 c2))))] [(.mk false (.fl .f32 g3)),(.mk false (.fl .f32 g4))])
def z9k(an bn:Nat)(b0 b1:List Nat):St:=(.mk [(4,(.v (.one (.bool false))))] [(.mk false (.fl .f32 b0)),(.mk false (.fl .f32 b1))])
def z9s:St:=(.mk [(0,(.v (.one (.vw 0 0 a0 1)))),(1,(.v (.one (.vw 1 0 a1 1)))),(5,(.v (.one (.int .i64 c4)))),(14,(.v (.one (.bool e5))))] [(.mk false (.fl .f32 g2)),(.mk false (.fl .f32 g3))])
def zql:Bool×LO:=((zb3 a0 a1 g3 g4 c2),(.two (z9y a0 a1 g3 g4 c2) (.one .ret (z9k a0 a1 g3 g4)) (.one (.exit 0) (z9s a0 a1 g3 g4 (zcy a0 a1 g3 g4 c2) (zd7 a0 a1 g3 g4 c2)))))
def zll:Nat→St→Option (Bool×LO):=lpT 2 (pSt [(pTm 0 (pV (pOne (pVw 0 (liN 0) 1)))),(pTm 1 (pV (pOne (pVw 1 (liN 0) 1)))),(pTm 5 (pV (pOne (pInt .i64))))] [(pBlk false (pFl .f32)),(pBlk false (pFl .f32))]) (fun hs=>zql (hN hs 0) (hN hs 1) (hI hs 2) (hLn hs 3) (hLn hs 4))
def z7q:Option ((Unit)⊕(Int×Bool))→Option (Ex×St)
 | none=>none
 | some (Sum.inl r)=>some (.ret,(z9k a0 a1 g2 g3))
 | some (Sum.inr r)=>some ((.exit 0),(z9s a0 a1 g2 g3 r.1 r.2))
def zr7 (x:Option ((Unit)⊕(Int×Bool))):LO:=(.two (oL x) (.one .ret (z9k a0 a1 g2 g3)) (.one (.exit 0) (z9s a0 a1 g2 g3 ((tR x).getD default).1 ((tR x).getD default).2)))
theorem zsp:∀ x:Option ((Unit)⊕(Int×Bool)),x.isSome=true→(z7q a0 a1 g2 g3) x=some (pick (zr7 a0 a1 g2 g3 x))
 | none,h=>by cases h
 | some (Sum.inl r),_=>rfl
 | some (Sum.inr r),_=>rfl
theorem zsb (K:Ex→St→Option (Ex×St)):ev9 Γ2 31 4 2 fi31 (zb4 a0 a1 c2 g3 g4) K=z37 a0 a1 g3 g4 c2 (fun i'=>K .normal (zb4 a0 a1 i' g3 g4)) (fun _=>K .ret (z9k a0 a1 g3 g4)) (fun c0_ c1_=>K (.exit 0) (z9s a0 a1 g3 g4 c0_ c1_)):=by kernel_rfl
theorem zt2:∀ (n:Nat) (i:Int),iter 31 4 2 (ev9 Γ2 31 4 2 fi31) n (zb4 a0 a1 i g2 g3) (fun e st=>some (e,st))=(z7q a0 a1 g2 g3) (z1n a0 a1 g2 g3 n i):=by
 intro n
 induction n with
 | zero=>intros;rfl
 | succ n ih=>
  intro i
  refine Eq.trans (iter_succ ..) (Eq.trans (zsb a0 a1 i g2 g3 _) (Eq.trans ?_ (zox a0 a1 g2 g3 i (z7q a0 a1 g2 g3) rfl (fun i'=>z1n a0 a1 g2 g3 n i') (fun _=>some (Sum.inl ())) (fun c0_ c1_=>some (Sum.inr (c0_,c1_))))))
  exact congrArg (fun kn_=>z37 a0 a1 g2 g3 i kn_ (fun _=>(z7q a0 a1 g2 g3) (some (Sum.inl ()))) (fun c0_ c1_=>(z7q a0 a1 g2 g3) (some (Sum.inr (c0_,c1_))))) (funext fun i'=>ih i')
theorem zpt:LoopOne J fnTab 31 4 zll:=lp9 (Γ:=Γ2) tyTab_ok (FnL.ok fnTab_ok _ _) (LpL.ok zxq) (SumL.ok zxz _) mixed (fi:=fi31) (by kernel_rfl) (by kernel_rfl) (q:=fun hs=>(zb4 (hN hs 0) (hN hs 1) (hI hs 2) (hLn hs 3) (hLn hs 4))) (fun hs=>by kernel_rfl) fun hs h1=>Eq.trans (zt2 (hN hs 0) (hN hs 1) (hLn hs 3) (hLn hs 4) big (hI hs 2)) (zsp (hN hs 0) (hN hs 1) (hLn hs 3) (hLn hs 4) _ h1)
def z83:St:=(.mk [(4,(.v (.one (.bool e0)))),(5,(.v (.one (.flt .f64 a1)))),(6,(.v (.one (.flt .f64 a2)))),(7,(.v (.one (.flt .f64 a3)))),(8,(.v (.one (.int .i64 c4))))] [])
def z7g:St:=(.mk [(4,(.v (.one (.bool e0)))),(5,(.v (.one (.flt .f64 a1)))),(6,(.v (.one (.flt .f64 a2)))),(7,(.v (.one (.flt .f64 a3)))),(8,(.v (.one (.int .i64 c4)))),(44,(.v (.one (.bool e5))))] [])
def zny:Bool×LO:=((z0y a2 a3 c4),(.one (.exit 0) (z7g e0 a1 a2 (z05 a2 a3 c4) (z9o a2 a3 c4) (z9r a2 a3 c4))))
def zja:Nat→St→Option (Bool×LO):=lpT 0 (pSt [(pTm 4 (pV (pOne pBool))),(pTm 5 (pV (pOne (pFlt .f64)))),(pTm 6 (pV (pOne (pFlt .f64)))),(pTm 7 (pV (pOne (pFlt .f64)))),(pTm 8 (pV (pOne (pInt .i64))))] []) (fun hs=>zny (hB hs 0) (hN hs 1) (hN hs 2) (hN hs 3) (hI hs 4))
def z86:Option ((Nat×Int×Bool))→Option (Ex×St)
 | none=>none
 | some r=>some ((.exit 0),(z7g e0 a1 a2 r.1 r.2.1 r.2.2))
def zp1 (x:Option ((Nat×Int×Bool))):LO:=(.one (.exit 0) (z7g e0 a1 a2 (x.getD default).1 (x.getD default).2.1 (x.getD default).2.2))
theorem zpv:∀ x:Option ((Nat×Int×Bool)),x.isSome=true→(z86 e0 a1 a2) x=some (pick (zp1 e0 a1 a2 x))
 | none,h=>by cases h
 | some r,_=>rfl
theorem zpj (K:Ex→St→Option (Ex×St)):ev9 Γ2 164 17 0 fi164 (z83 e0 a1 a2 a3 c4) K=z1v a2 a3 c4 (fun t7' t8'=>K .normal (z83 e0 a1 a2 t7' t8')) (fun c0_ c1_ c2_=>K (.exit 0) (z7g e0 a1 a2 c0_ c1_ c2_)):=by kernel_rfl
theorem zpi:∀ (n t7:Nat) (t8:Int),iter 164 17 0 (ev9 Γ2 164 17 0 fi164) n (z83 e0 a1 a2 t7 t8) (fun e st=>some (e,st))=(z86 e0 a1 a2) (z0k a2 n t7 t8):=by
 intro n
 induction n with
 | zero=>intros;rfl
 | succ n ih=>
  intro t7 t8
  refine Eq.trans (iter_succ ..) (Eq.trans (zpj e0 a1 a2 t7 t8 _) (Eq.trans ?_ (zn5 a2 t7 t8 (z86 e0 a1 a2) rfl (fun t7' t8'=>z0k a2 n t7' t8') (fun c0_ c1_ c2_=>some (c0_,c1_,c2_)))))
  exact congrArg (fun kn_=>z1v a2 t7 t8 kn_ (fun c0_ c1_ c2_=>(z86 e0 a1 a2) (some (c0_,c1_,c2_)))) (funext fun t7'=>funext fun t8'=>ih t7' t8')
theorem znp:LoopOne J fnTab 164 17 zja:=lp9 (Γ:=Γ2) tyTab_ok (FnL.ok fnTab_ok _ _) (LpL.ok zxq) (SumL.ok zxz _) mixed (fi:=fi164) (by kernel_rfl) (by kernel_rfl) (q:=fun hs=>(z83 (hB hs 0) (hN hs 1) (hN hs 2) (hN hs 3) (hI hs 4))) (fun hs=>by kernel_rfl) fun hs h1=>Eq.trans (zpi (hB hs 0) (hN hs 1) (hN hs 2) big (hN hs 3) (hI hs 4)) (zpv (hB hs 0) (hN hs 1) (hN hs 2) _ h1)
def tb3:List (Nat×(List PT→Option (Bool×AV×List Blk))):=(113,z9g)::(154,zj4)::(174,zo8)::tb2
def lt3:List ((Nat×Nat)×(Nat→St→Option (Bool×LO))):=((31,4),zll)::((164,17),zja)::lt2
def Γ3:Ctx:=⟨tyTab,fnTab,tblSum tb3,tblLp lt3⟩
theorem ztv:SumL J tb3:=SumL.cons zlr (SumL.cons zrt (SumL.cons zxc (zxz)))
theorem zto:LpL J fnTab lt3:=LpL.cons zpt (LpL.cons znp (zxq))
theorem mk3{g:FuncId} {F:List PT→Option (Bool×AV×List Blk)} (h:∀ pts v news,F pts=some (true,v,news)→ev8 Γ3 g pts=some (v,news)):SumOne J g F:=sum_of (Γ:=Γ3) (fuel:=8) (d:=8) tyTab_ok (FnL.ok fnTab_ok _ _) (LpL.ok zto) (SumL.ok ztv _) mixed fun pts v news hp _=>h pts v news hp
def zk1  : Option (Bool)→Option (AV×List Blk)
 | some r=>some ((.v (.one (.bool r))),[])
 | none=>none
def zjp:List PT→Option (Bool×AV×List Blk)
 | [.one (.row 1 a_n (.fl .f32 a)),.one (.row 1 b_n (.fl .f32 b))]=>sP (z31 a_n a b_n b) zk1 (z2g a_n a b_n b)
 | _=>none
theorem zw0:ev8 Γ3 31 [.one (.row 1 a0 (.fl .f32 g1)),.one (.row 1 a2 (.fl .f32 g3))]=zk1 (z7w a0 g1 a2 g3):=tr2 (zrd a0 g1 a2 g3 zk1 rfl (fun c0_=>some c0_)) (by kernel_rfl)
theorem zse:SumOne J 31 zjp:=mk3 fun pts v news hp=>by
 unfold zjp at hp
 split at hp
 ·rename_i a_n a b_n b
  exact fin2 (zw0 a_n a b_n b) hp
 ·cases hp
def z82  : Option (Bool)→Option (AV×List Blk)
 | some r=>some ((.v (.one (.bool r))),[])
 | none=>none
def z7s:List PT→Option (Bool×AV×List Blk)
 | [.one (.row 1 s_n (.bl s)),.one (.s (.bool v))]=>sP (z2t s_n s v) z82 (z2i s_n s v)
 | _=>none
theorem zm5:ev8 Γ3 58 [.one (.row 1 a0 (.bl m1)),.one (.s (.bool e2))]=z82 (z2r a0 m1 e2):=tr2 (zjo a0 m1 e2 z82 rfl (fun c0_=>some c0_)) (by kernel_rfl)
theorem zkg:SumOne J 58 z7s:=mk3 fun pts v news hp=>by
 unfold z7s at hp
 split at hp
 ·rename_i s_n s v
  exact fin2 (zm5 s_n s v) hp
 ·cases hp
def zhg  : Option (Nat)→Option (AV×List Blk)
 | some r=>some ((.v (.one (.flt .f64 r))),[])
 | none=>none
def zhw:List PT→Option (Bool×AV×List Blk)
 | [.one (.s (.flt .f64 q16))]=>sP (zc9 q16) zhg (z7n q16)
 | _=>none
theorem zu9:ev8 Γ3 164 [.one (.s (.flt .f64 a0))]=zhg (z3e a0):=tr2 (zpd a0 zhg rfl (fun c0_=>some c0_)) (by kernel_rfl)
theorem zq8:SumOne J 164 zhw:=mk3 fun pts v news hp=>by
 unfold zhw at hp
 split at hp
 ·rename_i q16
  exact fin2 (zu9 q16) hp
 ·cases hp
def zj0  : Option (Nat)→Option (AV×List Blk)
 | some r=>some ((.v (.one (.flt .f64 r))),[])
 | none=>none
def zj1:List PT→Option (Bool×AV×List Blk)
 | [.one (.s (.flt .f64 q1k))]=>sP (zdl q1k) zj0 (z08 q1k)
 | _=>none
theorem zuo:ev8 Γ3 169 [.one (.s (.flt .f64 a0))]=zj0 (z72 a0):=tr2 (zqt a0 zj0 rfl (fun c0_=>some c0_)) (by kernel_rfl)
theorem zr2:SumOne J 169 zj1:=mk3 fun pts v news hp=>by
 unfold zj1 at hp
 split at hp
 ·rename_i q1k
  exact fin2 (zuo q1k) hp
 ·cases hp
def zh0:St:=(.mk [(0,(.v (.one (.ptr 3 0 3)))),(3,(.v (.one (.int .i64 c0)))),(4,(.v (.one (.int .i64 c1))))] [(.mk false (.fl .f32 g2)),(.mk false (.fl .f32 g3)),(.mk false (.fl .f32 g4)),(.mk false (.cells [(.vw 0 0 a5 1),(.vw 1 0 a6 1),(.vw 2 0 a7 1)]))])
def zff(t3:Int)(b0 b1 b2:List Nat)(q1a q1h q1g:Nat):St:=(.mk [(2,(.v (.one (.bool false))))] [(.mk false (.fl .f32 b0)),(.mk false (.fl .f32 b1)),(.mk false (.fl .f32 b2)),(.mk false (.cells [(.vw 0 0 q1a 1),(.vw 1 0 q1h 1),(.vw 2 0 q1g 1)]))])
def zfu:St:=(.mk [(0,(.v (.one (.ptr 3 0 3)))),(3,(.v (.one (.int .i64 c0)))),(4,(.v (.one (.int .i64 c7)))),(36,(.v (.one (.bool e8))))] [(.mk false (.fl .f32 g1)),(.mk false (.fl .f32 g2)),(.mk false (.fl .f32 g3)),(.mk false (.cells [(.vw 0 0 a4 1),(.vw 1 0 a5 1),(.vw 2 0 a6 1)]))])
def zux:Bool×LO:=((z5p c0 g2 g3 g4 a5 a6 a7 c1),(.two (z54 c0 g2 g3 g4 a5 a6 a7 c1) (.one .ret (zff c0 g2 g3 g4 a5 a6 a7)) (.one (.exit 0) (zfu c0 g2 g3 g4 a5 a6 a7 (zhu c0 g2 g3 g4 a5 a6 a7 c1) (zh9 c0 g2 g3 g4 a5 a6 a7 c1)))))
def zp8:Nat→St→Option (Bool×LO):=lpT 4 (pSt [(pTm 0 (pV (pOne (pPtr 3 (liN 0) 3)))),(pTm 3 (pV (pOne (pInt .i64)))),(pTm 4 (pV (pOne (pInt .i64))))] [(pBlk false (pFl .f32)),(pBlk false (pFl .f32)),(pBlk false (pFl .f32)),(pBlk false (pCells [(pVw 0 (liN 0) 1),(pVw 1 (liN 0) 1),(pVw 2 (liN 0) 1)]))]) (fun hs=>zux (hI hs 0) (hI hs 1) (hLn hs 2) (hLn hs 3) (hLn hs 4) (hN hs 5) (hN hs 6) (hN hs 7))
def zc3:Option ((Unit)⊕(Int×Bool))→Option (Ex×St)
 | none=>none
 | some (Sum.inl r)=>some (.ret,(zff c0 g1 g2 g3 a4 a5 a6))
 | some (Sum.inr r)=>some ((.exit 0),(zfu c0 g1 g2 g3 a4 a5 a6 r.1 r.2))
def zws (x:Option ((Unit)⊕(Int×Bool))):LO:=(.two (oL x) (.one .ret (zff c0 g1 g2 g3 a4 a5 a6)) (.one (.exit 0) (zfu c0 g1 g2 g3 a4 a5 a6 ((tR x).getD default).1 ((tR x).getD default).2)))
theorem zxl:∀ x:Option ((Unit)⊕(Int×Bool)),x.isSome=true→(zc3 c0 g1 g2 g3 a4 a5 a6) x=some (pick (zws c0 g1 g2 g3 a4 a5 a6 x))
 | none,h=>by cases h
 | some (Sum.inl r),_=>rfl
 | some (Sum.inr r),_=>rfl
theorem zyb (K:Ex→St→Option (Ex×St)):ev9 Γ3 120 5 4 fi120 (zh0 c0 c1 g2 g3 g4 a5 a6 a7) K=z4s c0 g2 g3 g4 a5 a6 a7 c1 (fun t4'=>K .normal (zh0 c0 t4' g2 g3 g4 a5 a6 a7)) (fun _=>K .ret (zff c0 g2 g3 g4 a5 a6 a7)) (fun c0_ c1_=>K (.exit 0) (zfu c0 g2 g3 g4 a5 a6 a7 c0_ c1_)):=by kernel_rfl
theorem zxv:∀ (n:Nat) (t4:Int),iter 120 5 4 (ev9 Γ3 120 5 4 fi120) n (zh0 c0 t4 g1 g2 g3 a4 a5 a6) (fun e st=>some (e,st))=(zc3 c0 g1 g2 g3 a4 a5 a6) (z2x c0 g1 g2 g3 a4 a5 a6 n t4):=by
 intro n
 induction n with
 | zero=>intros;rfl
 | succ n ih=>
  intro t4
  refine Eq.trans (iter_succ ..) (Eq.trans (zyb c0 t4 g1 g2 g3 a4 a5 a6 _) (Eq.trans ?_ (zsh c0 g1 g2 g3 a4 a5 a6 t4 (zc3 c0 g1 g2 g3 a4 a5 a6) rfl (fun t4'=>z2x c0 g1 g2 g3 a4 a5 a6 n t4') (fun _=>some (Sum.inl ())) (fun c0_ c1_=>some (Sum.inr (c0_,c1_))))))
  exact congrArg (fun kn_=>z4s c0 g1 g2 g3 a4 a5 a6 t4 kn_ (fun _=>(zc3 c0 g1 g2 g3 a4 a5 a6) (some (Sum.inl ()))) (fun c0_ c1_=>(zc3 c0 g1 g2 g3 a4 a5 a6) (some (Sum.inr (c0_,c1_))))) (funext fun t4'=>ih t4')
theorem zu6:LoopOne J fnTab 120 5 zp8:=lp9 (Γ:=Γ3) tyTab_ok (FnL.ok fnTab_ok _ _) (LpL.ok zto) (SumL.ok ztv _) mixed (fi:=fi120) (by kernel_rfl) (by kernel_rfl) (q:=fun hs=>(zh0 (hI hs 0) (hI hs 1) (hLn hs 2) (hLn hs 3) (hLn hs 4) (hN hs 5) (hN hs 6) (hN hs 7))) (fun hs=>by kernel_rfl) fun hs h1=>Eq.trans (zxv (hI hs 0) (hLn hs 2) (hLn hs 3) (hLn hs 4) (hN hs 5) (hN hs 6) (hN hs 7) big (hI hs 1)) (zxl (hI hs 0) (hLn hs 2) (hLn hs 3) (hLn hs 4) (hN hs 5) (hN hs 6) (hN hs 7) _ h1)
def z1u:St:=(.mk [(0,(.v (.one (.vw 0 0 a0 1)))),(1,(.v (.one (.fn 115 [])))),(7,(.v (.one (.int .i64 c1)))),(8,(.v (.one (.int .i64 c2))))] [(.mk false (.fl .f32 g3))])
def z1s(sn:Nat)(t7:Int)(b0:List Nat)(c0_:Int):St:=(.mk [(4,(.v (.one (.int .i64 c0_))))] [(.mk false (.fl .f32 b0))])
def z1q:St:=(.mk [(0,(.v (.one (.vw 0 0 a0 1)))),(1,(.v (.one (.fn 115 [])))),(7,(.v (.one (.int .i64 c1)))),(8,(.v (.one (.int .i64 c3)))),(9,(.v (.one (.bool e4))))] [(.mk false (.fl .f32 g2))])
def zbd:Bool×LO:=((z0m a0 c1 g3 c2),(.two (z0j a0 c1 g3 c2) (.one .ret (z1s a0 c1 g3 (z1g a0 c1 g3 c2))) (.one (.exit 0) (z1q a0 c1 g3 (z38 a0 c1 g3 c2) (z39 a0 c1 g3 c2)))))
def z5s:Nat→St→Option (Bool×LO):=lpT 1 (pSt [(pTm 0 (pV (pOne (pVw 0 (liN 0) 1)))),(pTm 1 (pV (pOne (pFn 115 [])))),(pTm 7 (pV (pOne (pInt .i64)))),(pTm 8 (pV (pOne (pInt .i64))))] [(pBlk false (pFl .f32))]) (fun hs=>zbd (hN hs 0) (hI hs 1) (hI hs 2) (hLn hs 3))
def z15:Option ((Int)⊕(Int×Bool))→Option (Ex×St)
 | none=>none
 | some (Sum.inl r)=>some (.ret,(z1s a0 c1 g2 r))
 | some (Sum.inr r)=>some ((.exit 0),(z1q a0 c1 g2 r.1 r.2))
def zcn (x:Option ((Int)⊕(Int×Bool))):LO:=(.two (oL x) (.one .ret (z1s a0 c1 g2 ((tL x).getD default))) (.one (.exit 0) (z1q a0 c1 g2 ((tR x).getD default).1 ((tR x).getD default).2)))
theorem zdd:∀ x:Option ((Int)⊕(Int×Bool)),x.isSome=true→(z15 a0 c1 g2) x=some (pick (zcn a0 c1 g2 x))
 | none,h=>by cases h
 | some (Sum.inl r),_=>rfl
 | some (Sum.inr r),_=>rfl
theorem zcx (K:Ex→St→Option (Ex×St)):ev9 Γ3 146 2 1 fi146 (z1u a0 c1 c2 g3) K=z0a a0 c1 g3 c2 (fun t8'=>K .normal (z1u a0 c1 t8' g3)) (fun c0_=>K .ret (z1s a0 c1 g3 c0_)) (fun c0_ c1_=>K (.exit 0) (z1q a0 c1 g3 c0_ c1_)):=by kernel_rfl
theorem zct:∀ (n:Nat) (t8:Int),iter 146 2 1 (ev9 Γ3 146 2 1 fi146) n (z1u a0 c1 t8 g2) (fun e st=>some (e,st))=(z15 a0 c1 g2) (z01 a0 c1 g2 n t8):=by
 intro n
 induction n with
 | zero=>intros;rfl
 | succ n ih=>
  intro t8
  refine Eq.trans (iter_succ ..) (Eq.trans (zcx a0 c1 t8 g2 _) (Eq.trans ?_ (zag a0 c1 g2 t8 (z15 a0 c1 g2) rfl (fun t8'=>z01 a0 c1 g2 n t8') (fun c0_=>some (Sum.inl c0_)) (fun c0_ c1_=>some (Sum.inr (c0_,c1_))))))
  exact congrArg (fun kn_=>z0a a0 c1 g2 t8 kn_ (fun c0_=>(z15 a0 c1 g2) (some (Sum.inl c0_))) (fun c0_ c1_=>(z15 a0 c1 g2) (some (Sum.inr (c0_,c1_))))) (funext fun t8'=>ih t8')
theorem zb8:LoopOne J fnTab 146 2 z5s:=lp9 (Γ:=Γ3) tyTab_ok (FnL.ok fnTab_ok _ _) (LpL.ok zto) (SumL.ok ztv _) mixed (fi:=fi146) (by kernel_rfl) (by kernel_rfl) (q:=fun hs=>(z1u (hN hs 0) (hI hs 1) (hI hs 2) (hLn hs 3))) (fun hs=>by kernel_rfl) fun hs h1=>Eq.trans (zct (hN hs 0) (hI hs 1) (hLn hs 3) big (hI hs 2)) (zdd (hN hs 0) (hI hs 1) (hLn hs 3) _ h1)
def z23:St:=(.mk [(0,(.v (.one (.vw 0 0 a0 1)))),(1,(.v (.one (.fn 153 [])))),(7,(.v (.one (.int .i64 c1)))),(8,(.v (.one (.int .i64 c2))))] [(.mk false (.fl .f32 g3))])
def z20(sn:Nat)(t7:Int)(b0:List Nat)(c0_:Int):St:=(.mk [(4,(.v (.one (.int .i64 c0_))))] [(.mk false (.fl .f32 b0))])
def z1z:St:=(.mk [(0,(.v (.one (.vw 0 0 a0 1)))),(1,(.v (.one (.fn 153 [])))),(7,(.v (.one (.int .i64 c1)))),(8,(.v (.one (.int .i64 c3)))),(9,(.v (.one (.bool e4))))] [(.mk false (.fl .f32 g2))])
def zcw:Bool×LO:=((z0r a0 c1 g3 c2),(.two (z0p a0 c1 g3 c2) (.one .ret (z20 a0 c1 g3 (z1o a0 c1 g3 c2))) (.one (.exit 0) (z1z a0 c1 g3 (z3f a0 c1 g3 c2) (z3g a0 c1 g3 c2)))))
def z6h:Nat→St→Option (Bool×LO):=lpT 1 (pSt [(pTm 0 (pV (pOne (pVw 0 (liN 0) 1)))),(pTm 1 (pV (pOne (pFn 153 [])))),(pTm 7 (pV (pOne (pInt .i64)))),(pTm 8 (pV (pOne (pInt .i64))))] [(pBlk false (pFl .f32))]) (fun hs=>zcw (hN hs 0) (hI hs 1) (hI hs 2) (hLn hs 3))
def z1a:Option ((Int)⊕(Int×Bool))→Option (Ex×St)
 | none=>none
 | some (Sum.inl r)=>some (.ret,(z20 a0 c1 g2 r))
 | some (Sum.inr r)=>some ((.exit 0),(z1z a0 c1 g2 r.1 r.2))
def zdg (x:Option ((Int)⊕(Int×Bool))):LO:=(.two (oL x) (.one .ret (z20 a0 c1 g2 ((tL x).getD default))) (.one (.exit 0) (z1z a0 c1 g2 ((tR x).getD default).1 ((tR x).getD default).2)))
theorem zep:∀ x:Option ((Int)⊕(Int×Bool)),x.isSome=true→(z1a a0 c1 g2) x=some (pick (zdg a0 c1 g2 x))
 | none,h=>by cases h
 | some (Sum.inl r),_=>rfl
 | some (Sum.inr r),_=>rfl
theorem zef (K:Ex→St→Option (Ex×St)):ev9 Γ3 146 2 1 fi146 (z23 a0 c1 c2 g3) K=z0b a0 c1 g3 c2 (fun t8'=>K .normal (z23 a0 c1 t8' g3)) (fun c0_=>K .ret (z20 a0 c1 g3 c0_)) (fun c0_ c1_=>K (.exit 0) (z1z a0 c1 g3 c0_ c1_)):=by kernel_rfl
theorem ze4:∀ (n:Nat) (t8:Int),iter 146 2 1 (ev9 Γ3 146 2 1 fi146) n (z23 a0 c1 t8 g2) (fun e st=>some (e,st))=(z1a a0 c1 g2) (z02 a0 c1 g2 n t8):=by
 intro n
 induction n with
 | zero=>intros;rfl
 | succ n ih=>
  intro t8
  refine Eq.trans (iter_succ ..) (Eq.trans (zef a0 c1 t8 g2 _) (Eq.trans ?_ (zbj a0 c1 g2 t8 (z1a a0 c1 g2) rfl (fun t8'=>z02 a0 c1 g2 n t8') (fun c0_=>some (Sum.inl c0_)) (fun c0_ c1_=>some (Sum.inr (c0_,c1_))))))
  exact congrArg (fun kn_=>z0b a0 c1 g2 t8 kn_ (fun c0_=>(z1a a0 c1 g2) (some (Sum.inl c0_))) (fun c0_ c1_=>(z1a a0 c1 g2) (some (Sum.inr (c0_,c1_))))) (funext fun t8'=>ih t8')
theorem zc7:LoopOne J fnTab 146 2 z6h:=lp9 (Γ:=Γ3) tyTab_ok (FnL.ok fnTab_ok _ _) (LpL.ok zto) (SumL.ok ztv _) mixed (fi:=fi146) (by kernel_rfl) (by kernel_rfl) (q:=fun hs=>(z23 (hN hs 0) (hI hs 1) (hI hs 2) (hLn hs 3))) (fun hs=>by kernel_rfl) fun hs h1=>Eq.trans (ze4 (hN hs 0) (hI hs 1) (hLn hs 3) big (hI hs 2)) (zep (hN hs 0) (hI hs 1) (hLn hs 3) _ h1)
def tb4:List (Nat×(List PT→Option (Bool×AV×List Blk))):=(31,zjp)::(58,z7s)::(164,zhw)::(169,zj1)::tb3
def lt4:List ((Nat×Nat)×(Nat→St→Option (Bool×LO))):=((120,5),zp8)::((146,2),z5s)::((146,2),z6h)::lt3
def Γ4:Ctx:=⟨tyTab,fnTab,tblSum tb4,tblLp lt4⟩
theorem y0v:SumL J tb4:=SumL.cons zse (SumL.cons zkg (SumL.cons zq8 (SumL.cons zr2 (ztv))))
theorem y0w:LpL J fnTab lt4:=LpL.cons zu6 (LpL.cons zb8 (LpL.cons zc7 (zto)))
theorem mk4{g:FuncId} {F:List PT→Option (Bool×AV×List Blk)} (h:∀ pts v news,F pts=some (true,v,news)→ev8 Γ4 g pts=some (v,news)):SumOne J g F:=sum_of (Γ:=Γ4) (fuel:=8) (d:=8) tyTab_ok (FnL.ok fnTab_ok _ _) (LpL.ok y0w) (SumL.ok y0v _) mixed fun pts v news hp _=>h pts v news hp
def zol  : Option (Bool)→Option (AV×List Blk)
 | some r=>some ((.v (.one (.bool r))),[])
 | none=>none
def zo5:List PT→Option (Bool×AV×List Blk)
 | [.ptr [.row 1 q0g (.fl .f32 q0l),.row 1 q0r (.fl .f32 q0x),.row 1 q0q (.fl .f32 q0y)]]=>sP (zkq q0g q0l q0r q0x q0q q0y) zol (zjd q0g q0l q0r q0x q0q q0y)
 | _=>none
theorem y0f:ev8 Γ4 120 [.ptr [.row 1 a0 (.fl .f32 g1),.row 1 a2 (.fl .f32 g3),.row 1 a4 (.fl .f32 g5)]]=zol (zea a0 g1 a2 g3 a4 g5):=tr2 (zwl a0 g1 a2 g3 a4 g5 zol rfl (fun c0_=>some c0_)) (by kernel_rfl)
theorem zxu:SumOne J 120 zo5:=mk4 fun pts v news hp=>by
 unfold zo5 at hp
 split at hp
 ·rename_i q0g q0l q0r q0x q0q q0y
  exact fin2 (y0f q0g q0l q0r q0x q0q q0y) hp
 ·cases hp
def z42  : Option (Int)→Option (AV×List Blk)
 | some r=>some ((.v (.one (.int .i64 r))),[])
 | none=>none
def z41:List PT→Option (Bool×AV×List Blk)
 | [.one (.row 1 s_n (.fl .f32 s)),.fn 115 []]=>sP (z2a s_n s) z42 (z22 s_n s)
 | _=>none
theorem zf5:ev8 Γ4 146 [.one (.row 1 a0 (.fl .f32 g1)),.fn 115 []]=z42 (z0v a0 g1):=tr2 (zcl a0 g1 z42 rfl (fun c0_=>some c0_)) (by kernel_rfl)
theorem zd9:SumOne J 146 z41:=mk4 fun pts v news hp=>by
 unfold z41 at hp
 split at hp
 ·rename_i s_n s
  exact fin2 (zf5 s_n s) hp
 ·cases hp
def z4b  : Option (Int)→Option (AV×List Blk)
 | some r=>some ((.v (.one (.int .i64 r))),[])
 | none=>none
def z4a:List PT→Option (Bool×AV×List Blk)
 | [.one (.row 1 s_n (.fl .f32 s)),.fn 153 []]=>sP (z2w s_n s) z4b (z2j s_n s)
 | _=>none
theorem zg2:ev8 Γ4 146 [.one (.row 1 a0 (.fl .f32 g1)),.fn 153 []]=z4b (z10 a0 g1):=tr2 (zdj a0 g1 z4b rfl (fun c0_=>some c0_)) (by kernel_rfl)
theorem ze6:SumOne J 146 z4a:=mk4 fun pts v news hp=>by
 unfold z4a at hp
 split at hp
 ·rename_i s_n s
  exact fin2 (zg2 s_n s) hp
 ·cases hp
def zlx  : Option (Nat)→Option (AV×List Blk)
 | some r=>some ((.v (.one (.flt .f32 r))),[])
 | none=>none
def zmf:List PT→Option (Bool×AV×List Blk)
 | [.one (.s (.flt .f32 x))]=>sP (z5f x) zlx (z19 x)
 | _=>none
theorem zyk:ev8 Γ4 148 [.one (.s (.flt .f32 a0))]=zlx (z7t a0):=tr2 (zti a0 zlx rfl (fun c0_=>some c0_)) (by kernel_rfl)
theorem zv4:SumOne J 148 zmf:=mk4 fun pts v news hp=>by
 unfold zmf at hp
 split at hp
 ·rename_i x
  exact fin2 (zyk x) hp
 ·cases hp
def z2b:St:=(.mk [(0,(.v (.one (.vw 0 0 a0 1)))),(1,(.v (.one (.fn 154 [])))),(7,(.v (.one (.int .i64 c1)))),(8,(.v (.one (.int .i64 c2))))] [(.mk false (.fl .f32 g3))])
def z25(sn:Nat)(t7:Int)(b0:List Nat)(c0_:Int):St:=(.mk [(4,(.v (.one (.int .i64 c0_))))] [(.mk false (.fl .f32 b0))])
def z24:St:=(.mk [(0,(.v (.one (.vw 0 0 a0 1)))),(1,(.v (.one (.fn 154 [])))),(7,(.v (.one (.int .i64 c1)))),(8,(.v (.one (.int .i64 c3)))),(9,(.v (.one (.bool e4))))] [(.mk false (.fl .f32 g2))])
def zdi:Bool×LO:=((z0w a0 c1 g3 c2),(.two (z0q a0 c1 g3 c2) (.one .ret (z25 a0 c1 g3 (z1x a0 c1 g3 c2))) (.one (.exit 0) (z24 a0 c1 g3 (z3m a0 c1 g3 c2) (z3k a0 c1 g3 c2)))))
def z6n:Nat→St→Option (Bool×LO):=lpT 1 (pSt [(pTm 0 (pV (pOne (pVw 0 (liN 0) 1)))),(pTm 1 (pV (pOne (pFn 154 [])))),(pTm 7 (pV (pOne (pInt .i64)))),(pTm 8 (pV (pOne (pInt .i64))))] [(pBlk false (pFl .f32))]) (fun hs=>zdi (hN hs 0) (hI hs 1) (hI hs 2) (hLn hs 3))
def z1f:Option ((Int)⊕(Int×Bool))→Option (Ex×St)
 | none=>none
 | some (Sum.inl r)=>some (.ret,(z25 a0 c1 g2 r))
 | some (Sum.inr r)=>some ((.exit 0),(z24 a0 c1 g2 r.1 r.2))
def zes (x:Option ((Int)⊕(Int×Bool))):LO:=(.two (oL x) (.one .ret (z25 a0 c1 g2 ((tL x).getD default))) (.one (.exit 0) (z24 a0 c1 g2 ((tR x).getD default).1 ((tR x).getD default).2)))
theorem zf4:∀ x:Option ((Int)⊕(Int×Bool)),x.isSome=true→(z1f a0 c1 g2) x=some (pick (zes a0 c1 g2 x))
 | none,h=>by cases h
 | some (Sum.inl r),_=>rfl
 | some (Sum.inr r),_=>rfl
theorem zf6 (K:Ex→St→Option (Ex×St)):ev9 Γ4 146 2 1 fi146 (z2b a0 c1 c2 g3) K=z0c a0 c1 g3 c2 (fun t8'=>K .normal (z2b a0 c1 t8' g3)) (fun c0_=>K .ret (z25 a0 c1 g3 c0_)) (fun c0_ c1_=>K (.exit 0) (z24 a0 c1 g3 c0_ c1_)):=by kernel_rfl
theorem zf2:∀ (n:Nat) (t8:Int),iter 146 2 1 (ev9 Γ4 146 2 1 fi146) n (z2b a0 c1 t8 g2) (fun e st=>some (e,st))=(z1f a0 c1 g2) (z04 a0 c1 g2 n t8):=by
 intro n
 induction n with
 | zero=>intros;rfl
 | succ n ih=>
  intro t8
  refine Eq.trans (iter_succ ..) (Eq.trans (zf6 a0 c1 t8 g2 _) (Eq.trans ?_ (zcp a0 c1 g2 t8 (z1f a0 c1 g2) rfl (fun t8'=>z04 a0 c1 g2 n t8') (fun c0_=>some (Sum.inl c0_)) (fun c0_ c1_=>some (Sum.inr (c0_,c1_))))))
  exact congrArg (fun kn_=>z0c a0 c1 g2 t8 kn_ (fun c0_=>(z1f a0 c1 g2) (some (Sum.inl c0_))) (fun c0_ c1_=>(z1f a0 c1 g2) (some (Sum.inr (c0_,c1_))))) (funext fun t8'=>ih t8')
theorem zcv:LoopOne J fnTab 146 2 z6n:=lp9 (Γ:=Γ4) tyTab_ok (FnL.ok fnTab_ok _ _) (LpL.ok y0w) (SumL.ok y0v _) mixed (fi:=fi146) (by kernel_rfl) (by kernel_rfl) (q:=fun hs=>(z2b (hN hs 0) (hI hs 1) (hI hs 2) (hLn hs 3))) (fun hs=>by kernel_rfl) fun hs h1=>Eq.trans (zf2 (hN hs 0) (hI hs 1) (hLn hs 3) big (hI hs 2)) (zf4 (hN hs 0) (hI hs 1) (hLn hs 3) _ h1)
def tb5:List (Nat×(List PT→Option (Bool×AV×List Blk))):=(120,zo5)::(146,z41)::(146,z4a)::(148,zmf)::tb4
def lt5:List ((Nat×Nat)×(Nat→St→Option (Bool×LO))):=((146,2),z6n)::lt4
def Γ5:Ctx:=⟨tyTab,fnTab,tblSum tb5,tblLp lt5⟩
theorem y06:SumL J tb5:=SumL.cons zxu (SumL.cons zd9 (SumL.cons ze6 (SumL.cons zv4 (y0v))))
theorem y05:LpL J fnTab lt5:=LpL.cons zcv (y0w)
theorem mk5{g:FuncId} {F:List PT→Option (Bool×AV×List Blk)} (h:∀ pts v news,F pts=some (true,v,news)→ev8 Γ5 g pts=some (v,news)):SumOne J g F:=sum_of (Γ:=Γ5) (fuel:=8) (d:=8) tyTab_ok (FnL.ok fnTab_ok _ _) (LpL.ok y05) (SumL.ok y06 _) mixed fun pts v news hp _=>h pts v news hp
def z4l  : Option (Int)→Option (AV×List Blk)
 | some r=>some ((.v (.one (.int .i64 r))),[])
 | none=>none
def z4p:List PT→Option (Bool×AV×List Blk)
 | [.one (.row 1 s_n (.fl .f32 s)),.fn 154 []]=>sP (z34 s_n s) z4l (z2v s_n s)
 | _=>none
theorem zgw:ev8 Γ5 146 [.one (.row 1 a0 (.fl .f32 g1)),.fn 154 []]=z4l (z13 a0 g1):=tr2 (zeu a0 g1 z4l rfl (fun c0_=>some c0_)) (by kernel_rfl)
theorem zf3:SumOne J 146 z4p:=mk5 fun pts v news hp=>by
 unfold z4p at hp
 split at hp
 ·rename_i s_n s
  exact fin2 (zgw s_n s) hp
 ·cases hp
def zoc  : Option (Nat)→Option (AV×List Blk)
 | some r=>some ((.v (.one (.flt .f64 r))),[])
 | none=>none
def zo9:List PT→Option (Bool×AV×List Blk)
 | [.one (.s (.flt .f64 x))]=>sP (zi0 x) zoc (z5y x)
 | _=>none
theorem y09:ev8 Γ5 175 [.one (.s (.flt .f64 a0))]=zoc (zey a0):=tr2 (zwd a0 zoc rfl (fun c0_=>some c0_)) (by kernel_rfl)
theorem zy9:SumOne J 175 zo9:=mk5 fun pts v news hp=>by
 unfold zo9 at hp
 split at hp
 ·rename_i x
  exact fin2 (y09 x) hp
 ·cases hp
def zie:St:=(.mk [(4,(.v (.one (.bool e0)))),(5,(.v (.one (.flt .f64 a1)))),(6,(.v (.one (.flt .f64 a2)))),(7,(.v (.one (.flt .f64 a3)))),(8,(.v (.one (.flt .f64 a4))))] [])
def zgx:St:=(.mk [(4,(.v (.one (.bool e0)))),(5,(.v (.one (.flt .f64 a1)))),(6,(.v (.one (.flt .f64 a2)))),(7,(.v (.one (.flt .f64 a3)))),(8,(.v (.one (.flt .f64 a4)))),(25,(.v (.one (.bool e5))))] [])
def zwc:Bool×LO:=((z6g a2 a3 a4),(.one (.exit 0) (zgx e0 a1 a2 (z4g a2 a3 a4) (zit a2 a3 a4) (ziw a2 a3 a4))))
def zqy:Nat→St→Option (Bool×LO):=lpT 0 (pSt [(pTm 4 (pV (pOne pBool))),(pTm 5 (pV (pOne (pFlt .f64)))),(pTm 6 (pV (pOne (pFlt .f64)))),(pTm 7 (pV (pOne (pFlt .f64)))),(pTm 8 (pV (pOne (pFlt .f64))))] []) (fun hs=>zwc (hB hs 0) (hN hs 1) (hN hs 2) (hN hs 3) (hN hs 4))
def zi6:Option ((Nat×Nat×Bool))→Option (Ex×St)
 | none=>none
 | some r=>some ((.exit 0),(zgx e0 a1 a2 r.1 r.2.1 r.2.2))
def zxo (x:Option ((Nat×Nat×Bool))):LO:=(.one (.exit 0) (zgx e0 a1 a2 (x.getD default).1 (x.getD default).2.1 (x.getD default).2.2))
theorem zyz:∀ x:Option ((Nat×Nat×Bool)),x.isSome=true→(zi6 e0 a1 a2) x=some (pick (zxo e0 a1 a2 x))
 | none,h=>by cases h
 | some r,_=>rfl
theorem zz4 (K:Ex→St→Option (Ex×St)):ev9 Γ5 160 9 0 fi160 (zie e0 a1 a2 a3 a4) K=z5h a2 a3 a4 (fun p' k'=>K .normal (zie e0 a1 a2 p' k')) (fun c0_ c1_ c2_=>K (.exit 0) (zgx e0 a1 a2 c0_ c1_ c2_)):=by kernel_rfl
theorem zz8:∀ (n p k:Nat),iter 160 9 0 (ev9 Γ5 160 9 0 fi160) n (zie e0 a1 a2 p k) (fun e st=>some (e,st))=(zi6 e0 a1 a2) (z2u a2 n p k):=by
 intro n
 induction n with
 | zero=>intros;rfl
 | succ n ih=>
  intro p k
  refine Eq.trans (iter_succ ..) (Eq.trans (zz4 e0 a1 a2 p k _) (Eq.trans ?_ (zu1 a2 p k (zi6 e0 a1 a2) rfl (fun p' k'=>z2u a2 n p' k') (fun c0_ c1_ c2_=>some (c0_,c1_,c2_)))))
  exact congrArg (fun kn_=>z5h a2 p k kn_ (fun c0_ c1_ c2_=>(zi6 e0 a1 a2) (some (c0_,c1_,c2_)))) (funext fun p'=>funext fun k'=>ih p' k')
theorem zvr:LoopOne J fnTab 160 9 zqy:=lp9 (Γ:=Γ5) tyTab_ok (FnL.ok fnTab_ok _ _) (LpL.ok y05) (SumL.ok y06 _) mixed (fi:=fi160) (by kernel_rfl) (by kernel_rfl) (q:=fun hs=>(zie (hB hs 0) (hN hs 1) (hN hs 2) (hN hs 3) (hN hs 4))) (fun hs=>by kernel_rfl) fun hs h1=>Eq.trans (zz8 (hB hs 0) (hN hs 1) (hN hs 2) big (hN hs 3) (hN hs 4)) (zyz (hB hs 0) (hN hs 1) (hN hs 2) _ h1)
def tb6:List (Nat×(List PT→Option (Bool×AV×List Blk))):=(146,z4p)::(175,zo9)::tb5
def lt6:List ((Nat×Nat)×(Nat→St→Option (Bool×LO))):=((160,9),zqy)::lt5
def Γ6:Ctx:=⟨tyTab,fnTab,tblSum tb6,tblLp lt6⟩
theorem y0i:SumL J tb6:=SumL.cons zf3 (SumL.cons zy9 (y06))
theorem y0n:LpL J fnTab lt6:=LpL.cons zvr (y05)
theorem mk6{g:FuncId} {F:List PT→Option (Bool×AV×List Blk)} (h:∀ pts v news,F pts=some (true,v,news)→ev8 Γ6 g pts=some (v,news)):SumOne J g F:=sum_of (Γ:=Γ6) (fuel:=8) (d:=8) tyTab_ok (FnL.ok fnTab_ok _ _) (LpL.ok y0n) (SumL.ok y0i _) mixed fun pts v news hp _=>h pts v news hp
def z3j  : Option (Bool)→Option (AV×List Blk)
 | some r=>some ((.v (.one (.bool r))),[])
 | none=>none
def z3h:List PT→Option (Bool×AV×List Blk)
 | [.one (.row 1 s_n (.fl .f32 s)),.fn 115 []]=>sP (z1w s_n s) z3j (z1r s_n s)
 | _=>none
theorem zd0:ev8 Γ6 114 [.one (.row 1 a0 (.fl .f32 g1)),.fn 115 []]=z3j (z0l a0 g1):=tr2 (zai a0 g1 z3j rfl (fun c0_=>some c0_)) (by kernel_rfl)
theorem zb9:SumOne J 114 z3h:=mk6 fun pts v news hp=>by
 unfold z3h at hp
 split at hp
 ·rename_i s_n s
  exact fin2 (zd0 s_n s) hp
 ·cases hp
def z3y  : Option (Bool)→Option (AV×List Blk)
 | some r=>some ((.v (.one (.bool r))),[])
 | none=>none
def z3z:List PT→Option (Bool×AV×List Blk)
 | [.one (.row 1 s_n (.fl .f32 s)),.fn 153 []]=>sP (z27 s_n s) z3y (z21 s_n s)
 | _=>none
theorem zei:ev8 Γ6 114 [.one (.row 1 a0 (.fl .f32 g1)),.fn 153 []]=z3y (z0s a0 g1):=tr2 (zbi a0 g1 z3y rfl (fun c0_=>some c0_)) (by kernel_rfl)
theorem zby:SumOne J 114 z3z:=mk6 fun pts v news hp=>by
 unfold z3z at hp
 split at hp
 ·rename_i s_n s
  exact fin2 (zei s_n s) hp
 ·cases hp
def z43  : Option (Bool)→Option (AV×List Blk)
 | some r=>some ((.v (.one (.bool r))),[])
 | none=>none
def z40:List PT→Option (Bool×AV×List Blk)
 | [.one (.row 1 s_n (.fl .f32 s)),.fn 154 []]=>sP (z2c s_n s) z43 (z28 s_n s)
 | _=>none
theorem zf7:ev8 Γ6 114 [.one (.row 1 a0 (.fl .f32 g1)),.fn 154 []]=z43 (z0u a0 g1):=tr2 (zbu a0 g1 z43 rfl (fun c0_=>some c0_)) (by kernel_rfl)
theorem zd3:SumOne J 114 z40:=mk6 fun pts v news hp=>by
 unfold z40 at hp
 split at hp
 ·rename_i s_n s
  exact fin2 (zf7 s_n s) hp
 ·cases hp
def zq2  : Option (Nat)→Option (AV×List Blk)
 | some r=>some ((.v (.one (.flt .f64 r))),[])
 | none=>none
def zq3:List PT→Option (Bool×AV×List Blk)
 | [.one (.s (.flt .f64 q1k))]=>sP (zmi q1k) zq2 (zhq q1k)
 | _=>none
theorem y13:ev8 Γ6 160 [.one (.s (.flt .f64 a0))]=zq2 (zge a0):=tr2 (zxe a0 zq2 rfl (fun c0_=>some c0_)) (by kernel_rfl)
theorem zyh:SumOne J 160 zq3:=mk6 fun pts v news hp=>by
 unfold zq3 at hp
 split at hp
 ·rename_i q1k
  exact fin2 (y13 q1k) hp
 ·cases hp
def zjt  : Option (Nat)→Option (AV×List Blk)
 | some r=>some ((.v (.one (.flt .f32 r))),[])
 | none=>none
def zk2:List PT→Option (Bool×AV×List Blk)
 | [.one (.s (.flt .f32 x))]=>sP (zfr x) zjt (z0o x)
 | _=>none
theorem zwe:ev8 Γ6 170 [.one (.s (.flt .f32 a0))]=zjt (z7x a0):=tr2 (zrm a0 zjt rfl (fun c0_=>some c0_)) (by kernel_rfl)
theorem zt1:SumOne J 170 zk2:=mk6 fun pts v news hp=>by
 unfold zk2 at hp
 split at hp
 ·rename_i x
  exact fin2 (zwe x) hp
 ·cases hp
def zls  : Option (Nat)→Option (AV×List Blk)
 | some r=>some ((.v (.one (.flt .f32 r))),[])
 | none=>none
def zm2:List PT→Option (Bool×AV×List Blk)
 | [.one (.s (.flt .f32 x))]=>sP (zig x) zls (z3d x)
 | _=>none
theorem zyj:ev8 Γ6 181 [.one (.s (.flt .f32 a0))]=zls (za5 a0):=tr2 (zu3 a0 zls rfl (fun c0_=>some c0_)) (by kernel_rfl)
theorem zuu:SumOne J 181 zm2:=mk6 fun pts v news hp=>by
 unfold zm2 at hp
 split at hp
 ·rename_i x
  exact fin2 (zyj x) hp
 ·cases hp
def zh1:St:=(.mk [(0,(.v (.one (.ptr 4 0 7)))),(4,(.v (.one (.flt .f32 a0)))),(57,(.v (.one (.int .i64 c1)))),(58,(.v (.one (.int .i64 c2))))] [(.mk false (.fl .f32 g3)),(.mk false (.fl .f32 g4)),(.mk false (.fl .f32 g5)),(.mk false (.fl .f32 g6)),(.mk false (.cells [(.vw 0 0 a7 1),(.vw 1 0 a8 1),(.vw 2 0 a9 1),(.vw 3 0 a10 3),(.int .i64 c11),(.flt .f32 a12),(.flt .f32 a13)]))])
def zfv(t57:Int)(b0 b1 b2 b3:List Nat)(q0u q0t q0v q0s:Nat)(q17:Int)(q18 q0z:Nat):St:=(.mk [(2,(.v (.one (.bool false))))] [(.mk false (.fl .f32 b0)),(.mk false (.fl .f32 b1)),(.mk false (.fl .f32 b2)),(.mk false (.fl .f32 b3)),(.mk false (.cells [(.vw 0 0 q0u 1),(.vw 1 0 q0t 1),(.vw 2 0 q0v 1),(.vw 3 0 q0s 3),(.int .i64 q17),(.flt .f32 q18),(.flt .f32 q0z)]))])
def zfo:St:=(.mk [(0,(.v (.one (.ptr 4 0 7)))),(4,(.v (.one (.flt .f32 a12)))),(57,(.v (.one (.int .i64 c0)))),(58,(.v (.one (.int .i64 c13)))),(59,(.v (.one (.bool e14))))] [(.mk false (.fl .f32 g1)),(.mk false (.fl .f32 g2)),(.mk false (.fl .f32 g3)),(.mk false (.fl .f32 g4)),(.mk false (.cells [(.vw 0 0 a5 1),(.vw 1 0 a6 1),(.vw 2 0 a7 1),(.vw 3 0 a8 3),(.int .i64 c9),(.flt .f32 a10),(.flt .f32 a11)]))])
def zve:Bool×LO:=((z6w c1 g6 a10 a13 a0 c2),(.two (z69 c1 g6 a10 a13 a0 c2) (.one .ret (zfv c1 g3 g4 g5 g6 a7 a8 a9 a10 c11 a12 a13)) (.one (.exit 0) (zfo c1 g3 g4 g5 g6 a7 a8 a9 a10 c11 a12 a13 (zhj c1 g6 a10 a13 a0 c2) (zhf c1 g6 a10 a13 a0 c2) (zho c1 g6 a10 a13 a0 c2)))))
def zpa:Nat→St→Option (Bool×LO):=lpT 5 (pSt [(pTm 0 (pV (pOne (pPtr 4 (liN 0) 7)))),(pTm 4 (pV (pOne (pFlt .f32)))),(pTm 57 (pV (pOne (pInt .i64)))),(pTm 58 (pV (pOne (pInt .i64))))] [(pBlk false (pFl .f32)),(pBlk false (pFl .f32)),(pBlk false (pFl .f32)),(pBlk false (pFl .f32)),(pBlk false (pCells [(pVw 0 (liN 0) 1),(pVw 1 (liN 0) 1),(pVw 2 (liN 0) 1),(pVw 3 (liN 0) 3),(pInt .i64),(pFlt .f32),(pFlt .f32)]))]) (fun hs=>zve (hN hs 0) (hI hs 1) (hI hs 2) (hLn hs 3) (hLn hs 4) (hLn hs 5) (hLn hs 6) (hN hs 7) (hN hs 8) (hN hs 9) (hN hs 10) (hI hs 11) (hN hs 12) (hN hs 13))
def zc2:Option ((Unit)⊕(Nat×Int×Bool))→Option (Ex×St)
 | none=>none
 | some (Sum.inl r)=>some (.ret,(zfv c0 g1 g2 g3 g4 a5 a6 a7 a8 c9 a10 a11))
 | some (Sum.inr r)=>some ((.exit 0),(zfo c0 g1 g2 g3 g4 a5 a6 a7 a8 c9 a10 a11 r.1 r.2.1 r.2.2))
def zwk (x:Option ((Unit)⊕(Nat×Int×Bool))):LO:=(.two (oL x) (.one .ret (zfv c0 g1 g2 g3 g4 a5 a6 a7 a8 c9 a10 a11)) (.one (.exit 0) (zfo c0 g1 g2 g3 g4 a5 a6 a7 a8 c9 a10 a11 ((tR x).getD default).1 ((tR x).getD default).2.1 ((tR x).getD default).2.2)))
theorem zy8:∀ x:Option ((Unit)⊕(Nat×Int×Bool)),x.isSome=true→(zc2 c0 g1 g2 g3 g4 a5 a6 a7 a8 c9 a10 a11) x=some (pick (zwk c0 g1 g2 g3 g4 a5 a6 a7 a8 c9 a10 a11 x))
 | none,h=>by cases h
 | some (Sum.inl r),_=>rfl
 | some (Sum.inr r),_=>rfl
theorem zy5 (K:Ex→St→Option (Ex×St)):ev9 Γ6 82 6 5 fi82 (zh1 a0 c1 c2 g3 g4 g5 g6 a7 a8 a9 a10 c11 a12 a13) K=z4q c1 g6 a10 a13 a0 c2 (fun t4' t58'=>K .normal (zh1 t4' c1 t58' g3 g4 g5 g6 a7 a8 a9 a10 c11 a12 a13)) (fun _=>K .ret (zfv c1 g3 g4 g5 g6 a7 a8 a9 a10 c11 a12 a13)) (fun c0_ c1_ c2_=>K (.exit 0) (zfo c1 g3 g4 g5 g6 a7 a8 a9 a10 c11 a12 a13 c0_ c1_ c2_)):=by kernel_rfl
theorem zxg:∀ (n t4:Nat) (t58:Int),iter 82 6 5 (ev9 Γ6 82 6 5 fi82) n (zh1 t4 c0 t58 g1 g2 g3 g4 a5 a6 a7 a8 c9 a10 a11) (fun e st=>some (e,st))=(zc2 c0 g1 g2 g3 g4 a5 a6 a7 a8 c9 a10 a11) (z18 c0 g4 a8 a11 n t4 t58):=by
 intro n
 induction n with
 | zero=>intros;rfl
 | succ n ih=>
  intro t4 t58
  refine Eq.trans (iter_succ ..) (Eq.trans (zy5 t4 c0 t58 g1 g2 g3 g4 a5 a6 a7 a8 c9 a10 a11 _) (Eq.trans ?_ (zsy c0 g4 a8 a11 t4 t58 (zc2 c0 g1 g2 g3 g4 a5 a6 a7 a8 c9 a10 a11) rfl (fun t4' t58'=>z18 c0 g4 a8 a11 n t4' t58') (fun _=>some (Sum.inl ())) (fun c0_ c1_ c2_=>some (Sum.inr (c0_,c1_,c2_))))))
  exact congrArg (fun kn_=>z4q c0 g4 a8 a11 t4 t58 kn_ (fun _=>(zc2 c0 g1 g2 g3 g4 a5 a6 a7 a8 c9 a10 a11) (some (Sum.inl ()))) (fun c0_ c1_ c2_=>(zc2 c0 g1 g2 g3 g4 a5 a6 a7 a8 c9 a10 a11) (some (Sum.inr (c0_,c1_,c2_))))) (funext fun t4'=>funext fun t58'=>ih t4' t58')
theorem ztu:LoopOne J fnTab 82 6 zpa:=lp9 (Γ:=Γ6) tyTab_ok (FnL.ok fnTab_ok _ _) (LpL.ok y0n) (SumL.ok y0i _) mixed (fi:=fi82) (by kernel_rfl) (by kernel_rfl) (q:=fun hs=>(zh1 (hN hs 0) (hI hs 1) (hI hs 2) (hLn hs 3) (hLn hs 4) (hLn hs 5) (hLn hs 6) (hN hs 7) (hN hs 8) (hN hs 9) (hN hs 10) (hI hs 11) (hN hs 12) (hN hs 13))) (fun hs=>by kernel_rfl) fun hs h1=>Eq.trans (zxg (hI hs 1) (hLn hs 3) (hLn hs 4) (hLn hs 5) (hLn hs 6) (hN hs 7) (hN hs 8) (hN hs 9) (hN hs 10) (hI hs 11) (hN hs 12) (hN hs 13) big (hN hs 0) (hI hs 2)) (zy8 (hI hs 1) (hLn hs 3) (hLn hs 4) (hLn hs 5) (hLn hs 6) (hN hs 7) (hN hs 8) (hN hs 9) (hN hs 10) (hI hs 11) (hN hs 12) (hN hs 13) _ h1)
def tb7:List (Nat×(List PT→Option (Bool×AV×List Blk))):=(114,z3h)::(114,z3z)::(114,z40)::(160,zq3)::(170,zk2)::(181,zm2)::tb6
def lt7:List ((Nat×Nat)×(Nat→St→Option (Bool×LO))):=((82,6),zpa)::lt6
def Γ7:Ctx:=⟨tyTab,fnTab,tblSum tb7,tblLp lt7⟩
theorem y29:SumL J tb7:=SumL.cons zb9 (SumL.cons zby (SumL.cons zd3 (SumL.cons zyh (SumL.cons zt1 (SumL.cons zuu (y0i))))))
theorem y2r:LpL J fnTab lt7:=LpL.cons ztu (y0n)
theorem mk7{g:FuncId} {F:List PT→Option (Bool×AV×List Blk)} (h:∀ pts v news,F pts=some (true,v,news)→ev8 Γ7 g pts=some (v,news)):SumOne J g F:=sum_of (Γ:=Γ7) (fuel:=8) (d:=8) tyTab_ok (FnL.ok fnTab_ok _ _) (LpL.ok y2r) (SumL.ok y29 _) mixed fun pts v news hp _=>h pts v news hp
def zhs  : Option (Bool)→Option (AV×List Blk)
 | some r=>some ((.v (.one (.bool r))),[])
 | none=>none
def zi2:List PT→Option (Bool×AV×List Blk)
 | [.one (.row 1 q1f (.fl .f32 q1j))]=>sP (z57 q1f q1j) zhs (z4o q1f q1j)
 | _=>none
theorem zu0:ev8 Γ7 64 [.one (.row 1 a0 (.fl .f32 g1))]=zhs (z2q a0 g1):=tr2 (zpp a0 g1 zhs rfl (fun c0_=>some c0_)) (by kernel_rfl)
theorem zq7:SumOne J 64 zi2:=mk7 fun pts v news hp=>by
 unfold zi2 at hp
 split at hp
 ·rename_i q1f q1j
  exact fin2 (zu0 q1f q1j) hp
 ·cases hp
def zo6  : Option (Bool)→Option (AV×List Blk)
 | some r=>some ((.v (.one (.bool r))),[])
 | none=>none
def zof:List PT→Option (Bool×AV×List Blk)
 | [.ptr [.row 1 q03 (.fl .f32 q09),.row 1 q04 (.fl .f32 q0b),.row 1 q05 (.fl .f32 q0a),.row 3 q0c (.fl .f32 q0e),.s (.int .i64 q0h),.s (.flt .f32 q0i),.s (.flt .f32 q0j)]]=>sP (zhv q03 q09 q04 q0b q05 q0a q0c q0e q0h q0i q0j) zo6 (zg1 q03 q09 q04 q0b q05 q0a q0c q0e q0h q0i q0j)
 | _=>none
theorem y0r:ev8 Γ7 82 [.ptr [.row 1 a0 (.fl .f32 g1),.row 1 a2 (.fl .f32 g3),.row 1 a4 (.fl .f32 g5),.row 3 a6 (.fl .f32 g7),.s (.int .i64 c8),.s (.flt .f32 a9),.s (.flt .f32 a10)]]=zo6 (ze8 a0 g1 a2 g3 a4 g5 a6 g7 c8 a9 a10):=tr2 (zx5 a0 g1 a2 g3 a4 g5 a6 g7 c8 a9 a10 zo6 rfl (fun c0_=>some c0_)) (by kernel_rfl)
theorem zx9:SumOne J 82 zof:=mk7 fun pts v news hp=>by
 unfold zof at hp
 split at hp
 ·rename_i q03 q09 q04 q0b q05 q0a q0c q0e q0h q0i q0j
  exact fin2 (y0r q03 q09 q04 q0b q05 q0a q0c q0e q0h q0i q0j) hp
 ·cases hp
def zjy  : Option (Bool)→Option (AV×List Blk)
 | some r=>some ((.v (.one (.bool r))),[])
 | none=>none
def zjr:List PT→Option (Bool×AV×List Blk)
 | [.one (.row 1 q1f (.fl .f32 q1j))]=>sP (zap q1f q1j) zjy (z9a q1f q1j)
 | _=>none
theorem zx0:ev8 Γ7 132 [.one (.row 1 a0 (.fl .f32 g1))]=zjy (z63 a0 g1):=tr2 (zs0 a0 g1 zjy rfl (fun c0_=>some c0_)) (by kernel_rfl)
theorem zt3:SumOne J 132 zjr:=mk7 fun pts v news hp=>by
 unfold zjr at hp
 split at hp
 ·rename_i q1f q1j
  exact fin2 (zx0 q1f q1j) hp
 ·cases hp
def zkz  : Option (Bool)→Option (AV×List Blk)
 | some r=>some ((.v (.one (.bool r))),[])
 | none=>none
def zle:List PT→Option (Bool×AV×List Blk)
 | [.one (.row 1 q1f (.fl .f32 q1j))]=>sP (zh6 q1f q1j) zkz (zfm q1f q1j)
 | _=>none
theorem zy3:ev8 Γ7 133 [.one (.row 1 a0 (.fl .f32 g1))]=zkz (z8i a0 g1):=tr2 (zsx a0 g1 zkz rfl (fun c0_=>some c0_)) (by kernel_rfl)
theorem zu5:SumOne J 133 zle:=mk7 fun pts v news hp=>by
 unfold zle at hp
 split at hp
 ·rename_i q1f q1j
  exact fin2 (zy3 q1f q1j) hp
 ·cases hp
def zk7  : Option (Nat)→Option (AV×List Blk)
 | some r=>some ((.v (.one (.flt .f32 r))),[])
 | none=>none
def zjs:List PT→Option (Bool×AV×List Blk)
 | [.one (.s (.flt .f32 x))]=>sP (z3o x) zk7 (z17 x)
 | _=>none
theorem zwo:ev8 Γ7 141 [.one (.s (.flt .f32 a0))]=zk7 (z80 a0):=tr2 (zrv a0 zk7 rfl (fun c0_=>some c0_)) (by kernel_rfl)
theorem zta:SumOne J 141 zjs:=mk7 fun pts v news hp=>by
 unfold zjs at hp
 split at hp
 ·rename_i x
  exact fin2 (zwo x) hp
 ·cases hp
def tb8:List (Nat×(List PT→Option (Bool×AV×List Blk))):=(64,zi2)::(82,zof)::(132,zjr)::(133,zle)::(141,zjs)::tb7
def lt8:List ((Nat×Nat)×(Nat→St→Option (Bool×LO))):=lt7
def Γ8:Ctx:=⟨tyTab,fnTab,tblSum tb8,tblLp lt8⟩
theorem zxw:SumL J tb8:=SumL.cons zq7 (SumL.cons zx9 (SumL.cons zt3 (SumL.cons zu5 (SumL.cons zta (y29)))))
theorem zxs:LpL J fnTab lt8:=y2r
theorem mk8{g:FuncId} {F:List PT→Option (Bool×AV×List Blk)} (h:∀ pts v news,F pts=some (true,v,news)→ev8 Γ8 g pts=some (v,news)):SumOne J g F:=sum_of (Γ:=Γ8) (fuel:=8) (d:=8) tyTab_ok (FnL.ok fnTab_ok _ _) (LpL.ok zxs) (SumL.ok zxw _) mixed fun pts v news hp _=>h pts v news hp
def ziy  : Option (Nat×Nat×Bool)→Option (AV×List Blk)
 | some r=>some ((.tup [(.one (.flt .f32 r.1)),(.one (.flt .f32 r.2.1)),(.one (.bool r.2.2))]),[])
 | none=>none
def zj6:List PT→Option (Bool×AV×List Blk)
 | [.one (.s (.flt .f32 x)),.one (.s (.flt .f32 y))]=>sP (z95 x y) ziy (z8a x y,z8b x y,z89 x y)
 | _=>none
theorem zv2:ev8 Γ8 107 [.one (.s (.flt .f32 a0)),.one (.s (.flt .f32 a1))]=ziy (z4h a0 a1):=tr2 (zqu a0 a1 ziy rfl (fun c0_ c1_ c2_=>some (c0_,c1_,c2_))) (by kernel_rfl)
theorem zrh:SumOne J 107 zj6:=mk8 fun pts v news hp=>by
 unfold zj6 at hp
 split at hp
 ·rename_i x y
  exact fin2 (zv2 x y) hp
 ·cases hp
def zj3  : Option (Bool)→Option (AV×List Blk)
 | some r=>some ((.v (.one (.bool r))),[])
 | none=>none
def ziz:List PT→Option (Bool×AV×List Blk)
 | [.ptr [.row 1 q00 (.fl .f32 q06),.row 1 q01 (.fl .f32 q07),.row 1 q02 (.fl .f32 q08),.row 3 q0d (.fl .f32 q0f),.s (.int .i64 q0k),.s (.flt .f32 q0o),.s (.flt .f32 q0n)],.one (.s (.int .i64 i))]=>sP (zdo q00 q06 q01 q07 q02 q08 q0d q0f q0k q0o q0n i) zj3 (zc1 q00 q06 q01 q07 q02 q08 q0d q0f q0k q0o q0n i)
 | _=>none
theorem zup:ev8 Γ8 127 [.ptr [.row 1 a0 (.fl .f32 g1),.row 1 a2 (.fl .f32 g3),.row 1 a4 (.fl .f32 g5),.row 3 a6 (.fl .f32 g7),.s (.int .i64 c8),.s (.flt .f32 a9),.s (.flt .f32 a10)],.one (.s (.int .i64 c11))]=zj3 (z79 a0 g1 a2 g3 a4 g5 a6 g7 c8 a9 a10 c11):=tr2 (zqq a0 g1 a2 g3 a4 g5 a6 g7 c8 a9 a10 c11 zj3 rfl (fun c0_=>some c0_)) (by kernel_rfl)
theorem zrq:SumOne J 127 ziz:=mk8 fun pts v news hp=>by
 unfold ziz at hp
 split at hp
 ·rename_i q00 q06 q01 q07 q02 q08 q0d q0f q0k q0o q0n i
  exact fin2 (zup q00 q06 q01 q07 q02 q08 q0d q0f q0k q0o q0n i) hp
 ·cases hp
def ze9  : Option (Nat)→Option (AV×List Blk)
 | some r=>some ((.v (.one (.flt .f32 r))),[])
 | none=>none
def zer:List PT→Option (Bool×AV×List Blk)
 | [.agg [.row 1 q00 (.fl .f32 q06),.row 1 q01 (.fl .f32 q07),.row 1 q02 (.fl .f32 q08),.row 3 q0d (.fl .f32 q0f),.s (.int .i64 q0k),.s (.flt .f32 q0o),.s (.flt .f32 q0n)],.one (.s (.int .i64 i)),.one (.s (.flt .f32 q19))]=>sP (z8u q00 q06 q01 q07 q02 q08 q0d q0f q0k q0o q0n i q19) ze9 (z5w q00 q06 q01 q07 q02 q08 q0d q0f q0k q0o q0n i q19)
 | _=>none
theorem zq9:ev8 Γ8 143 [.agg [.row 1 a0 (.fl .f32 g1),.row 1 a2 (.fl .f32 g3),.row 1 a4 (.fl .f32 g5),.row 3 a6 (.fl .f32 g7),.s (.int .i64 c8),.s (.flt .f32 a9),.s (.flt .f32 a10)],.one (.s (.int .i64 c11)),.one (.s (.flt .f32 a12))]=ze9 (z4v a0 g1 a2 g3 a4 g5 a6 g7 c8 a9 a10 c11 a12):=tr2 (znm a0 g1 a2 g3 a4 g5 a6 g7 c8 a9 a10 c11 a12 ze9 rfl (fun c0_=>some c0_)) (by kernel_rfl)
theorem zoj:SumOne J 143 zer:=mk8 fun pts v news hp=>by
 unfold zer at hp
 split at hp
 ·rename_i q00 q06 q01 q07 q02 q08 q0d q0f q0k q0o q0n i q19
  exact fin2 (zq9 q00 q06 q01 q07 q02 q08 q0d q0f q0k q0o q0n i q19) hp
 ·cases hp
def z1p:St:=(.mk [(0,(.v (.one (.vw 0 0 a0 1)))),(1,(.v (.one (.fn 171 [(.ptr 4 0 1)])))),(7,(.v (.one (.int .i64 c1)))),(8,(.v (.one (.int .i64 c2))))] [(.mk false (.fl .f32 g3)),(.mk false (.fl .f32 g4)),(.mk false (.fl .f32 g5)),(.mk true (.cells [(.vw 0 0 a6 1),(.vw 1 0 a7 1),(.vw 2 0 a8 1)])),(.mk true (.cells [(.flt .f32 a9)]))])
def z1i(sn:Nat)(t7:Int)(b0 b1 b2:List Nat)(q1a q1h q1g b4:Nat)(c0_:Int):St:=(.mk [(4,(.v (.one (.int .i64 c0_))))] [(.mk false (.fl .f32 b0)),(.mk false (.fl .f32 b1)),(.mk false (.fl .f32 b2)),(.mk true (.cells [(.vw 0 0 q1a 1),(.vw 1 0 q1h 1),(.vw 2 0 q1g 1)])),(.mk true (.cells [(.flt .f32 b4)]))])
def z1k:St:=(.mk [(0,(.v (.one (.vw 0 0 a0 1)))),(1,(.v (.one (.fn 171 [(.ptr 4 0 1)])))),(7,(.v (.one (.int .i64 c1)))),(8,(.v (.one (.int .i64 c9)))),(9,(.v (.one (.bool e10))))] [(.mk false (.fl .f32 g2)),(.mk false (.fl .f32 g3)),(.mk false (.fl .f32 g4)),(.mk true (.cells [(.vw 0 0 a5 1),(.vw 1 0 a6 1),(.vw 2 0 a7 1)])),(.mk true (.cells [(.flt .f32 a8)]))])
def zba:Bool×LO:=((z0i a0 c1 g3 a9 c2),(.two (z0h a0 c1 g3 a9 c2) (.one .ret (z1i a0 c1 g3 g4 g5 a6 a7 a8 a9 (z03 a0 c1 g3 a9 c2))) (.one (.exit 0) (z1k a0 c1 g3 g4 g5 a6 a7 a8 a9 (z33 a0 c1 g3 a9 c2) (z2y a0 c1 g3 a9 c2)))))
def z5o:Nat→St→Option (Bool×LO):=lpT 5 (pSt [(pTm 0 (pV (pOne (pVw 0 (liN 0) 1)))),(pTm 1 (pV (pOne (pFn 171 [(pPtr 4 (liN 0) 1)])))),(pTm 7 (pV (pOne (pInt .i64)))),(pTm 8 (pV (pOne (pInt .i64))))] [(pBlk false (pFl .f32)),(pBlk false (pFl .f32)),(pBlk false (pFl .f32)),(pBlk true (pCells [(pVw 0 (liN 0) 1),(pVw 1 (liN 0) 1),(pVw 2 (liN 0) 1)])),(pBlk true (pCells [(pFlt .f32)]))]) (fun hs=>zba (hN hs 0) (hI hs 1) (hI hs 2) (hLn hs 3) (hLn hs 4) (hLn hs 5) (hN hs 6) (hN hs 7) (hN hs 8) (hN hs 9))
def z12:Option ((Int)⊕(Int×Bool))→Option (Ex×St)
 | none=>none
 | some (Sum.inl r)=>some (.ret,(z1i a0 c1 g2 g3 g4 a5 a6 a7 a8 r))
 | some (Sum.inr r)=>some ((.exit 0),(z1k a0 c1 g2 g3 g4 a5 a6 a7 a8 r.1 r.2))
def zbk (x:Option ((Int)⊕(Int×Bool))):LO:=(.two (oL x) (.one .ret (z1i a0 c1 g2 g3 g4 a5 a6 a7 a8 ((tL x).getD default))) (.one (.exit 0) (z1k a0 c1 g2 g3 g4 a5 a6 a7 a8 ((tR x).getD default).1 ((tR x).getD default).2)))
theorem zcm:∀ x:Option ((Int)⊕(Int×Bool)),x.isSome=true→(z12 a0 c1 g2 g3 g4 a5 a6 a7 a8) x=some (pick (zbk a0 c1 g2 g3 g4 a5 a6 a7 a8 x))
 | none,h=>by cases h
 | some (Sum.inl r),_=>rfl
 | some (Sum.inr r),_=>rfl
theorem zc0 (K:Ex→St→Option (Ex×St)):ev9 Γ8 146 2 5 fi146 (z1p a0 c1 c2 g3 g4 g5 a6 a7 a8 a9) K=z09 a0 c1 g3 a9 c2 (fun t8'=>K .normal (z1p a0 c1 t8' g3 g4 g5 a6 a7 a8 a9)) (fun c0_=>K .ret (z1i a0 c1 g3 g4 g5 a6 a7 a8 a9 c0_)) (fun c0_ c1_=>K (.exit 0) (z1k a0 c1 g3 g4 g5 a6 a7 a8 a9 c0_ c1_)):=by kernel_rfl
theorem zch:∀ (n:Nat) (t8:Int),iter 146 2 5 (ev9 Γ8 146 2 5 fi146) n (z1p a0 c1 t8 g2 g3 g4 a5 a6 a7 a8) (fun e st=>some (e,st))=(z12 a0 c1 g2 g3 g4 a5 a6 a7 a8) (z00 a0 c1 g2 a8 n t8):=by
 intro n
 induction n with
 | zero=>intros;rfl
 | succ n ih=>
  intro t8
  refine Eq.trans (iter_succ ..) (Eq.trans (zc0 a0 c1 t8 g2 g3 g4 a5 a6 a7 a8 _) (Eq.trans ?_ (zac a0 c1 g2 a8 t8 (z12 a0 c1 g2 g3 g4 a5 a6 a7 a8) rfl (fun t8'=>z00 a0 c1 g2 a8 n t8') (fun c0_=>some (Sum.inl c0_)) (fun c0_ c1_=>some (Sum.inr (c0_,c1_))))))
  exact congrArg (fun kn_=>z09 a0 c1 g2 a8 t8 kn_ (fun c0_=>(z12 a0 c1 g2 g3 g4 a5 a6 a7 a8) (some (Sum.inl c0_))) (fun c0_ c1_=>(z12 a0 c1 g2 g3 g4 a5 a6 a7 a8) (some (Sum.inr (c0_,c1_))))) (funext fun t8'=>ih t8')
theorem zao:LoopOne J fnTab 146 2 z5o:=lp9 (Γ:=Γ8) tyTab_ok (FnL.ok fnTab_ok _ _) (LpL.ok zxs) (SumL.ok zxw _) mixed (fi:=fi146) (by kernel_rfl) (by kernel_rfl) (q:=fun hs=>(z1p (hN hs 0) (hI hs 1) (hI hs 2) (hLn hs 3) (hLn hs 4) (hLn hs 5) (hN hs 6) (hN hs 7) (hN hs 8) (hN hs 9))) (fun hs=>by kernel_rfl) fun hs h1=>Eq.trans (zch (hN hs 0) (hI hs 1) (hLn hs 3) (hLn hs 4) (hLn hs 5) (hN hs 6) (hN hs 7) (hN hs 8) (hN hs 9) big (hI hs 2)) (zcm (hN hs 0) (hI hs 1) (hLn hs 3) (hLn hs 4) (hLn hs 5) (hN hs 6) (hN hs 7) (hN hs 8) (hN hs 9) _ h1)
def zdn:St:=(.mk [(0,(.v (.one (.ptr 3 0 3)))),(8,(.v (.one (.flt .f32 a0)))),(9,(.v (.one (.int .i64 c1)))),(10,(.v (.one (.int .i64 c2))))] [(.mk false (.fl .f32 g3)),(.mk false (.fl .f32 g4)),(.mk false (.fl .f32 g5)),(.mk false (.cells [(.vw 0 0 a6 1),(.vw 1 0 a7 1),(.vw 2 0 a8 1)]))])
def zck:St:=(.mk [(0,(.v (.one (.ptr 3 0 3)))),(8,(.v (.one (.flt .f32 a0)))),(9,(.v (.one (.int .i64 c1)))),(10,(.v (.one (.int .i64 c8)))),(36,(.v (.one (.bool e9))))] [(.mk false (.fl .f32 g2)),(.mk false (.fl .f32 g3)),(.mk false (.fl .f32 g4)),(.mk false (.cells [(.vw 0 0 a5 1),(.vw 1 0 a6 1),(.vw 2 0 a7 1)]))])
def zt9:Bool×LO:=((zdy a0 g3 a6 c2),(.one (.exit 0) (zck a0 c1 g3 g4 g5 a6 a7 a8 (z9b a0 g3 a6 c2) (zfl a0 g3 a6 c2))))
def znd:Nat→St→Option (Bool×LO):=lpT 4 (pSt [(pTm 0 (pV (pOne (pPtr 3 (liN 0) 3)))),(pTm 8 (pV (pOne (pFlt .f32)))),(pTm 9 (pV (pOne (pInt .i64)))),(pTm 10 (pV (pOne (pInt .i64))))] [(pBlk false (pFl .f32)),(pBlk false (pFl .f32)),(pBlk false (pFl .f32)),(pBlk false (pCells [(pVw 0 (liN 0) 1),(pVw 1 (liN 0) 1),(pVw 2 (liN 0) 1)]))]) (fun hs=>zt9 (hN hs 0) (hI hs 1) (hI hs 2) (hLn hs 3) (hLn hs 4) (hLn hs 5) (hN hs 6) (hN hs 7) (hN hs 8))
def zds:Option ((Int×Bool))→Option (Ex×St)
 | none=>none
 | some r=>some ((.exit 0),(zck a0 c1 g2 g3 g4 a5 a6 a7 r.1 r.2))
def ztd (x:Option ((Int×Bool))):LO:=(.one (.exit 0) (zck a0 c1 g2 g3 g4 a5 a6 a7 (x.getD default).1 (x.getD default).2))
theorem zuv:∀ x:Option ((Int×Bool)),x.isSome=true→(zds a0 c1 g2 g3 g4 a5 a6 a7) x=some (pick (ztd a0 c1 g2 g3 g4 a5 a6 a7 x))
 | none,h=>by cases h
 | some r,_=>rfl
theorem zvl (K:Ex→St→Option (Ex×St)):ev9 Γ8 176 4 4 fi176 (zdn a0 c1 c2 g3 g4 g5 a6 a7 a8) K=z3s a0 g3 a6 c2 (fun t10'=>K .normal (zdn a0 c1 t10' g3 g4 g5 a6 a7 a8)) (fun c0_ c1_=>K (.exit 0) (zck a0 c1 g3 g4 g5 a6 a7 a8 c0_ c1_)):=by kernel_rfl
theorem zvp:∀ (n:Nat) (t10:Int),iter 176 4 4 (ev9 Γ8 176 4 4 fi176) n (zdn a0 c1 t10 g2 g3 g4 a5 a6 a7) (fun e st=>some (e,st))=(zds a0 c1 g2 g3 g4 a5 a6 a7) (z2f a0 g2 a5 n t10):=by
 intro n
 induction n with
 | zero=>intros;rfl
 | succ n ih=>
  intro t10
  refine Eq.trans (iter_succ ..) (Eq.trans (zvl a0 c1 t10 g2 g3 g4 a5 a6 a7 _) (Eq.trans ?_ (zqs a0 g2 a5 t10 (zds a0 c1 g2 g3 g4 a5 a6 a7) rfl (fun t10'=>z2f a0 g2 a5 n t10') (fun c0_ c1_=>some (c0_,c1_)))))
  exact congrArg (fun kn_=>z3s a0 g2 a5 t10 kn_ (fun c0_ c1_=>(zds a0 c1 g2 g3 g4 a5 a6 a7) (some (c0_,c1_)))) (funext fun t10'=>ih t10')
theorem zrs:LoopOne J fnTab 176 4 znd:=lp9 (Γ:=Γ8) tyTab_ok (FnL.ok fnTab_ok _ _) (LpL.ok zxs) (SumL.ok zxw _) mixed (fi:=fi176) (by kernel_rfl) (by kernel_rfl) (q:=fun hs=>(zdn (hN hs 0) (hI hs 1) (hI hs 2) (hLn hs 3) (hLn hs 4) (hLn hs 5) (hN hs 6) (hN hs 7) (hN hs 8))) (fun hs=>by kernel_rfl) fun hs h1=>Eq.trans (zvp (hN hs 0) (hI hs 1) (hLn hs 3) (hLn hs 4) (hLn hs 5) (hN hs 6) (hN hs 7) (hN hs 8) big (hI hs 2)) (zuv (hN hs 0) (hI hs 1) (hLn hs 3) (hLn hs 4) (hLn hs 5) (hN hs 6) (hN hs 7) (hN hs 8) _ h1)
def tb9:List (Nat×(List PT→Option (Bool×AV×List Blk))):=(107,zj6)::(127,ziz)::(143,zer)::tb8
def lt9:List ((Nat×Nat)×(Nat→St→Option (Bool×LO))):=((146,2),z5o)::((176,4),znd)::lt8
def Γ9:Ctx:=⟨tyTab,fnTab,tblSum tb9,tblLp lt9⟩
theorem y0m:SumL J tb9:=SumL.cons zrh (SumL.cons zrq (SumL.cons zoj (zxw)))
theorem y0q:LpL J fnTab lt9:=LpL.cons zao (LpL.cons zrs (zxs))
theorem mk9{g:FuncId} {F:List PT→Option (Bool×AV×List Blk)} (h:∀ pts v news,F pts=some (true,v,news)→ev8 Γ9 g pts=some (v,news)):SumOne J g F:=sum_of (Γ:=Γ9) (fuel:=8) (d:=8) tyTab_ok (FnL.ok fnTab_ok _ _) (LpL.ok y0q) (SumL.ok y0m _) mixed fun pts v news hp _=>h pts v news hp
def zn9  : Option (Bool)→Option (AV×List Blk)
 | some r=>some ((.v (.one (.bool r))),[])
 | none=>none
def zmn:List PT→Option (Bool×AV×List Blk)
 | [.ptr [.row 1 q00 (.fl .f32 q06),.row 1 q01 (.fl .f32 q07),.row 1 q02 (.fl .f32 q08),.row 3 q0d (.fl .f32 q0f),.s (.int .i64 q0k),.s (.flt .f32 q0o),.s (.flt .f32 q0n)],.one (.s (.int .i64 i)),.one (.s (.flt .f32 q13)),.one (.s (.flt .f32 q0p)),.one (.s (.flt .f32 q0m))]=>sP (zjn q00 q06 q01 q07 q02 q08 q0d q0f q0k q0o q0n i q13 q0p q0m) zn9 (zii q00 q06 q01 q07 q02 q08 q0d q0f q0k q0o q0n i q13 q0p q0m)
 | _=>none
theorem y01:ev8 Γ9 87 [.ptr [.row 1 a0 (.fl .f32 g1),.row 1 a2 (.fl .f32 g3),.row 1 a4 (.fl .f32 g5),.row 3 a6 (.fl .f32 g7),.s (.int .i64 c8),.s (.flt .f32 a9),.s (.flt .f32 a10)],.one (.s (.int .i64 c11)),.one (.s (.flt .f32 a12)),.one (.s (.flt .f32 a13)),.one (.s (.flt .f32 a14))]=zn9 (zbl a0 g1 a2 g3 a4 g5 a6 g7 c8 a9 a10 c11 a12 a13 a14):=tr2 (zvu a0 g1 a2 g3 a4 g5 a6 g7 c8 a9 a10 c11 a12 a13 a14 zn9 rfl (fun c0_=>some c0_)) (by kernel_rfl)
theorem zwu:SumOne J 87 zmn:=mk9 fun pts v news hp=>by
 unfold zmn at hp
 split at hp
 ·rename_i q00 q06 q01 q07 q02 q08 q0d q0f q0k q0o q0n i q13 q0p q0m
  exact fin2 (y01 q00 q06 q01 q07 q02 q08 q0d q0f q0k q0o q0n i q13 q0p q0m) hp
 ·cases hp
def zdb  : Option (Int×Int×Nat×Nat×Nat)→Option (AV×List Blk)
 | some r=>some ((.tup [(.one (.int .i64 r.1)),(.one (.int .i64 r.2.1)),(.one (.flt .f32 r.2.2.1)),(.one (.flt .f32 r.2.2.2.1)),(.one (.flt .f32 r.2.2.2.2))]),[])
 | none=>none
def zda:List PT→Option (Bool×AV×List Blk)
 | [.agg [.row 1 q0g (.fl .f32 q0l),.row 1 q0r (.fl .f32 q0x),.row 1 q0q (.fl .f32 q0y)],.one (.s (.flt .f32 x1))]=>sP (z87 q0g q0l q0r q0x q0q q0y x1) zdb (z1l q0g q0l q0r q0x q0q q0y x1,z1j q0g q0l q0r q0x q0q q0y x1,z29 q0g q0l q0r q0x q0q q0y x1,z44 q0g q0l q0r q0x q0q q0y x1,z5k q0g q0l q0r q0x q0q q0y x1)
 | _=>none
theorem zpo:ev8 Γ9 161 [.agg [.row 1 a0 (.fl .f32 g1),.row 1 a2 (.fl .f32 g3),.row 1 a4 (.fl .f32 g5)],.one (.s (.flt .f32 a6))]=zdb (z16 a0 g1 a2 g3 a4 g5 a6):=tr2 (zmy a0 g1 a2 g3 a4 g5 a6 zdb rfl (fun c0_ c1_ c2_ c3_ c4_=>some (c0_,c1_,c2_,c3_,c4_))) (by kernel_rfl)
theorem znj:SumOne J 161 zda:=mk9 fun pts v news hp=>by
 unfold zda at hp
 split at hp
 ·rename_i q0g q0l q0r q0x q0q q0y x1
  exact fin2 (zpo q0g q0l q0r q0x q0q q0y x1) hp
 ·cases hp
def zma  : Option (Int×Int×Nat×Nat)→Option (AV×List Blk)
 | some r=>some ((.tup [(.one (.int .i64 r.1)),(.one (.int .i64 r.2.1)),(.one (.flt .f32 r.2.2.1)),(.one (.flt .f32 r.2.2.2))]),[])
 | none=>none
def zm7:List PT→Option (Bool×AV×List Blk)
 | [.ptr [.row 1 q0g (.fl .f32 q0l),.row 1 q0r (.fl .f32 q0x),.row 1 q0q (.fl .f32 q0y)],.one (.s (.flt .f32 x1))]=>sP (zip q0g q0l q0r q0x q0q q0y x1) zma (z6r q0g q0l q0r q0x q0q q0y x1,zcb q0g q0l q0r q0x q0q q0y x1,zh7 q0g q0l q0r q0x q0q q0y x1,zkj q0g q0l q0r q0x q0q q0y x1)
 | _=>none
theorem zyr:ev8 Γ9 176 [.ptr [.row 1 a0 (.fl .f32 g1),.row 1 a2 (.fl .f32 g3),.row 1 a4 (.fl .f32 g5)],.one (.s (.flt .f32 a6))]=zma (z4e a0 g1 a2 g3 a4 g5 a6):=tr2 (ztn a0 g1 a2 g3 a4 g5 a6 zma rfl (fun c0_ c1_ c2_ c3_=>some (c0_,c1_,c2_,c3_))) (by kernel_rfl)
theorem zus:SumOne J 176 zm7:=mk9 fun pts v news hp=>by
 unfold zm7 at hp
 split at hp
 ·rename_i q0g q0l q0r q0x q0q q0y x1
  exact fin2 (zyr q0g q0l q0r q0x q0q q0y x1) hp
 ·cases hp
def z88:St:=(.mk [(1,(.v (.one (.ptr 3 0 3)))),(42,(.v (.one (.vw 0 0 a0 1)))),(43,(.v (.one (.int .i64 c1)))),(44,(.v (.one (.int .i64 c2))))] [(.mk false (.fl .f32 g3)),(.mk false (.fl .f32 g4)),(.mk false (.fl .f32 g5)),(.mk true (.cells [(.vw 0 0 a6 1),(.vw 1 0 a7 1),(.vw 2 0 a8 1)]))])
def z7h(q1q:Nat)(t43:Int)(b0 b1 b2:List Nat)(q1a q1h q1g:Nat):St:=(.mk [(2,(.v (.one (.bool false))))] [(.mk false (.fl .f32 b0)),(.mk false (.fl .f32 b1)),(.mk false (.fl .f32 b2))])
def z7j:St:=(.mk [(1,(.v (.one (.ptr 3 0 3)))),(42,(.v (.one (.vw 0 0 a0 1)))),(43,(.v (.one (.int .i64 c1)))),(44,(.v (.one (.int .i64 c8)))),(45,(.v (.one (.bool e9))))] [(.mk false (.fl .f32 g2)),(.mk false (.fl .f32 g3)),(.mk false (.fl .f32 g4)),(.mk true (.cells [(.vw 0 0 a5 1),(.vw 1 0 a6 1),(.vw 2 0 a7 1)]))])
def zoo:Bool×LO:=((z3i a0 c1 g3 a6 c2),(.two (z3a a0 c1 g3 a6 c2) (.one .ret (z7h a0 c1 g3 g4 g5 a6 a7 a8)) (.one (.exit 0) (z7j a0 c1 g3 g4 g5 a6 a7 a8 (z9x a0 c1 g3 a6 c2) (z9t a0 c1 g3 a6 c2)))))
def zjb:Nat→St→Option (Bool×LO):=lpT 3 (pSt [(pTm 1 (pV (pOne (pPtr 3 (liN 0) 3)))),(pTm 42 (pV (pOne (pVw 0 (liN 0) 1)))),(pTm 43 (pV (pOne (pInt .i64)))),(pTm 44 (pV (pOne (pInt .i64))))] [(pBlk false (pFl .f32)),(pBlk false (pFl .f32)),(pBlk false (pFl .f32)),(pBlk true (pCells [(pVw 0 (liN 0) 1),(pVw 1 (liN 0) 1),(pVw 2 (liN 0) 1)]))]) (fun hs=>zoo (hN hs 0) (hI hs 1) (hI hs 2) (hLn hs 3) (hLn hs 4) (hLn hs 5) (hN hs 6) (hN hs 7) (hN hs 8))
def z5v:Option ((Unit)⊕(Int×Bool))→Option (Ex×St)
 | none=>none
 | some (Sum.inl r)=>some (.ret,(z7h a0 c1 g2 g3 g4 a5 a6 a7))
 | some (Sum.inr r)=>some ((.exit 0),(z7j a0 c1 g2 g3 g4 a5 a6 a7 r.1 r.2))
def zoz (x:Option ((Unit)⊕(Int×Bool))):LO:=(.two (oL x) (.one .ret (z7h a0 c1 g2 g3 g4 a5 a6 a7)) (.one (.exit 0) (z7j a0 c1 g2 g3 g4 a5 a6 a7 ((tR x).getD default).1 ((tR x).getD default).2)))
theorem zpk:∀ x:Option ((Unit)⊕(Int×Bool)),x.isSome=true→(z5v a0 c1 g2 g3 g4 a5 a6 a7) x=some (pick (zoz a0 c1 g2 g3 g4 a5 a6 a7 x))
 | none,h=>by cases h
 | some (Sum.inl r),_=>rfl
 | some (Sum.inr r),_=>rfl
theorem zq4 (K:Ex→St→Option (Ex×St)):ev9 Γ9 89 5 3 fi89 (z88 a0 c1 c2 g3 g4 g5 a6 a7 a8) K=z1y a0 c1 g3 a6 c2 (fun t44'=>K .normal (z88 a0 c1 t44' g3 g4 g5 a6 a7 a8)) (fun _=>K .ret (z7h a0 c1 g3 g4 g5 a6 a7 a8)) (fun c0_ c1_=>K (.exit 0) (z7j a0 c1 g3 g4 g5 a6 a7 a8 c0_ c1_)):=by kernel_rfl
theorem zpx:∀ (n:Nat) (t44:Int),iter 89 5 3 (ev9 Γ9 89 5 3 fi89) n (z88 a0 c1 t44 g2 g3 g4 a5 a6 a7) (fun e st=>some (e,st))=(z5v a0 c1 g2 g3 g4 a5 a6 a7) (z0x a0 c1 g2 a5 n t44):=by
 intro n
 induction n with
 | zero=>intros;rfl
 | succ n ih=>
  intro t44
  refine Eq.trans (iter_succ ..) (Eq.trans (zq4 a0 c1 t44 g2 g3 g4 a5 a6 a7 _) (Eq.trans ?_ (znb a0 c1 g2 a5 t44 (z5v a0 c1 g2 g3 g4 a5 a6 a7) rfl (fun t44'=>z0x a0 c1 g2 a5 n t44') (fun _=>some (Sum.inl ())) (fun c0_ c1_=>some (Sum.inr (c0_,c1_))))))
  exact congrArg (fun kn_=>z1y a0 c1 g2 a5 t44 kn_ (fun _=>(z5v a0 c1 g2 g3 g4 a5 a6 a7) (some (Sum.inl ()))) (fun c0_ c1_=>(z5v a0 c1 g2 g3 g4 a5 a6 a7) (some (Sum.inr (c0_,c1_))))) (funext fun t44'=>ih t44')
theorem znr:LoopOne J fnTab 89 5 zjb:=lp9 (Γ:=Γ9) tyTab_ok (FnL.ok fnTab_ok _ _) (LpL.ok y0q) (SumL.ok y0m _) mixed (fi:=fi89) (by kernel_rfl) (by kernel_rfl) (q:=fun hs=>(z88 (hN hs 0) (hI hs 1) (hI hs 2) (hLn hs 3) (hLn hs 4) (hLn hs 5) (hN hs 6) (hN hs 7) (hN hs 8))) (fun hs=>by kernel_rfl) fun hs h1=>Eq.trans (zpx (hN hs 0) (hI hs 1) (hLn hs 3) (hLn hs 4) (hLn hs 5) (hN hs 6) (hN hs 7) (hN hs 8) big (hI hs 2)) (zpk (hN hs 0) (hI hs 1) (hLn hs 3) (hLn hs 4) (hLn hs 5) (hN hs 6) (hN hs 7) (hN hs 8) _ h1)
def tb10:List (Nat×(List PT→Option (Bool×AV×List Blk))):=(87,zmn)::(161,zda)::(176,zm7)::tb9
def lt10:List ((Nat×Nat)×(Nat→St→Option (Bool×LO))):=((89,5),zjb)::lt9
def Γ10:Ctx:=⟨tyTab,fnTab,tblSum tb10,tblLp lt10⟩
theorem y1t:SumL J tb10:=SumL.cons zwu (SumL.cons znj (SumL.cons zus (y0m)))
theorem y1a:LpL J fnTab lt10:=LpL.cons znr (y0q)
theorem mk10{g:FuncId} {F:List PT→Option (Bool×AV×List Blk)} (h:∀ pts v news,F pts=some (true,v,news)→ev8 Γ10 g pts=some (v,news)):SumOne J g F:=sum_of (Γ:=Γ10) (fuel:=8) (d:=8) tyTab_ok (FnL.ok fnTab_ok _ _) (LpL.ok y1a) (SumL.ok y1t _) mixed fun pts v news hp _=>h pts v news hp
def zgk  : Option (Bool)→Option (AV×List Blk)
 | some r=>some ((.v (.one (.bool r))),[])
 | none=>none
def zgq:List PT→Option (Bool×AV×List Blk)
 | [.agg [.row 1 q0g (.fl .f32 q0l),.row 1 q0r (.fl .f32 q0x),.row 1 q0q (.fl .f32 q0y)]]=>sP (zb0 q0g q0l q0r q0x q0q q0y) zgk (z9e q0g q0l q0r q0x q0q q0y)
 | _=>none
theorem zsl:ev8 Γ10 89 [.agg [.row 1 a0 (.fl .f32 g1),.row 1 a2 (.fl .f32 g3),.row 1 a4 (.fl .f32 g5)]]=zgk (z35 a0 g1 a2 g3 a4 g5):=tr2 (zos a0 g1 a2 g3 a4 g5 zgk rfl (fun c0_=>some c0_)) (by kernel_rfl)
theorem zpq:SumOne J 89 zgq:=mk10 fun pts v news hp=>by
 unfold zgq at hp
 split at hp
 ·rename_i q0g q0l q0r q0x q0q q0y
  exact fin2 (zsl q0g q0l q0r q0x q0q q0y) hp
 ·cases hp
def ziv  : Option (Nat)→Option (AV×List Blk)
 | some r=>some ((.v (.one (.flt .f32 r))),[])
 | none=>none
def ziu:List PT→Option (Bool×AV×List Blk)
 | [.agg [.row 1 q0w (.fl .f32 q1b),.row 1 q14 (.fl .f32 q1c),.row 1 q15 (.fl .f32 q1d)],.one (.row 1 q1f (.fl .f32 q1j)),.one (.s (.flt .f32 q1i))]=>sP (z91 q0w q1b q14 q1c q15 q1d q1f q1j q1i) ziv (z5a q0w q1b q14 q1c q15 q1d q1f q1j q1i)
 | _=>none
theorem zul:ev8 Γ10 144 [.agg [.row 1 a0 (.fl .f32 g1),.row 1 a2 (.fl .f32 g3),.row 1 a4 (.fl .f32 g5)],.one (.row 1 a6 (.fl .f32 g7)),.one (.s (.flt .f32 a8))]=ziv (z73 a0 g1 a2 g3 a4 g5 a6 g7 a8):=tr2 (zqw a0 g1 a2 g3 a4 g5 a6 g7 a8 ziv rfl (fun c0_=>some c0_)) (by kernel_rfl)
theorem zrr:SumOne J 144 ziu:=mk10 fun pts v news hp=>by
 unfold ziu at hp
 split at hp
 ·rename_i q0w q1b q14 q1c q15 q1d q1f q1j q1i
  exact fin2 (zul q0w q1b q14 q1c q15 q1d q1f q1j q1i) hp
 ·cases hp
def zod  : Option (Nat)→Option (AV×List Blk)
 | some r=>some ((.v (.one (.flt .f32 r))),[])
 | none=>none
def zon:List PT→Option (Bool×AV×List Blk)
 | [.ptr [.row 1 q0w (.fl .f32 q1b),.row 1 q14 (.fl .f32 q1c),.row 1 q15 (.fl .f32 q1d)],.one (.row 1 q1f (.fl .f32 q1j)),.one (.s (.flt .f32 q1i))]=>sP (zi1 q0w q1b q14 q1c q15 q1d q1f q1j q1i) zod (zg9 q0w q1b q14 q1c q15 q1d q1f q1j q1i)
 | _=>none
theorem y0c:ev8 Γ10 172 [.ptr [.row 1 a0 (.fl .f32 g1),.row 1 a2 (.fl .f32 g3),.row 1 a4 (.fl .f32 g5)],.one (.row 1 a6 (.fl .f32 g7)),.one (.s (.flt .f32 a8))]=zod (zez a0 g1 a2 g3 a4 g5 a6 g7 a8):=tr2 (zwp a0 g1 a2 g3 a4 g5 a6 g7 a8 zod rfl (fun c0_=>some c0_)) (by kernel_rfl)
theorem zx8:SumOne J 172 zon:=mk10 fun pts v news hp=>by
 unfold zon at hp
 split at hp
 ·rename_i q0w q1b q14 q1c q15 q1d q1f q1j q1i
  exact fin2 (y0c q0w q1b q14 q1c q15 q1d q1f q1j q1i) hp
 ·cases hp
def tb11:List (Nat×(List PT→Option (Bool×AV×List Blk))):=(89,zgq)::(144,ziu)::(172,zon)::tb10
def lt11:List ((Nat×Nat)×(Nat→St→Option (Bool×LO))):=lt10
def Γ11:Ctx:=⟨tyTab,fnTab,tblSum tb11,tblLp lt11⟩
theorem y1b:SumL J tb11:=SumL.cons zpq (SumL.cons zrr (SumL.cons zx8 (y1t)))
theorem y19:LpL J fnTab lt11:=y1a
theorem mk11{g:FuncId} {F:List PT→Option (Bool×AV×List Blk)} (h:∀ pts v news,F pts=some (true,v,news)→ev8 Γ11 g pts=some (v,news)):SumOne J g F:=sum_of (Γ:=Γ11) (fuel:=8) (d:=8) tyTab_ok (FnL.ok fnTab_ok _ _) (LpL.ok y19) (SumL.ok y1b _) mixed fun pts v news hp _=>h pts v news hp
def zgv  : Option (Nat×Nat)→Option (AV×List Blk)
 | some r=>some ((.tup [(.one (.flt .f32 r.1)),(.one (.flt .f32 r.2))]),[])
 | none=>none
def zgs:List PT→Option (Bool×AV×List Blk)
 | [.agg [.row 1 q00 (.fl .f32 q06),.row 1 q01 (.fl .f32 q07),.row 1 q02 (.fl .f32 q08),.row 3 q0d (.fl .f32 q0f),.s (.int .i64 q0k),.s (.flt .f32 q0o),.s (.flt .f32 q0n)],.one (.s (.int .i64 i)),.one (.s (.flt .f32 q19)),.one (.s (.flt .f32 q0m))]=>sP (z7o q00 q06 q01 q07 q02 q08 q0d q0f q0k q0o q0n i q19 q0m) zgv (z6u q00 q06 q01 q07 q02 q08 q0d q0f q0k q0o q0n i q19 q0m,z6z q00 q06 q01 q07 q02 q08 q0d q0f q0k q0o q0n i q19 q0m)
 | _=>none
theorem zsf:ev8 Γ11 106 [.agg [.row 1 a0 (.fl .f32 g1),.row 1 a2 (.fl .f32 g3),.row 1 a4 (.fl .f32 g5),.row 3 a6 (.fl .f32 g7),.s (.int .i64 c8),.s (.flt .f32 a9),.s (.flt .f32 a10)],.one (.s (.int .i64 c11)),.one (.s (.flt .f32 a12)),.one (.s (.flt .f32 a13))]=zgv (z3q a0 g1 a2 g3 a4 g5 a6 g7 c8 a9 a10 c11 a12 a13):=tr2 (zot a0 g1 a2 g3 a4 g5 a6 g7 c8 a9 a10 c11 a12 a13 zgv rfl (fun c0_ c1_=>some (c0_,c1_))) (by kernel_rfl)
theorem zps:SumOne J 106 zgs:=mk11 fun pts v news hp=>by
 unfold zgs at hp
 split at hp
 ·rename_i q00 q06 q01 q07 q02 q08 q0d q0f q0k q0o q0n i q19 q0m
  exact fin2 (zsf q00 q06 q01 q07 q02 q08 q0d q0f q0k q0o q0n i q19 q0m) hp
 ·cases hp
def zmd  : Option (Nat)→Option (AV×List Blk)
 | some r=>some ((.v (.one (.flt .f32 r))),[])
 | none=>none
def zme:List PT→Option (Bool×AV×List Blk)
 | [.ptr [.row 1 q0w (.fl .f32 q1b),.row 1 q14 (.fl .f32 q1c),.row 1 q15 (.fl .f32 q1d)],.one (.s (.flt .f32 q1i))]=>sP (zij q0w q1b q14 q1c q15 q1d q1i) zmd (zcq q0w q1b q14 q1c q15 q1d q1i)
 | _=>none
theorem zyd:ev8 Γ11 165 [.ptr [.row 1 a0 (.fl .f32 g1),.row 1 a2 (.fl .f32 g3),.row 1 a4 (.fl .f32 g5)],.one (.s (.flt .f32 a6))]=zmd (za4 a0 g1 a2 g3 a4 g5 a6):=tr2 (zuh a0 g1 a2 g3 a4 g5 a6 zmd rfl (fun c0_=>some c0_)) (by kernel_rfl)
theorem zvh:SumOne J 165 zme:=mk11 fun pts v news hp=>by
 unfold zme at hp
 split at hp
 ·rename_i q0w q1b q14 q1c q15 q1d q1i
  exact fin2 (zyd q0w q1b q14 q1c q15 q1d q1i) hp
 ·cases hp
def zm0  : Option (Nat)→Option (AV×List Blk)
 | some r=>some ((.v (.one (.flt .f32 r))),[])
 | none=>none
def zlq:List PT→Option (Bool×AV×List Blk)
 | [.ptr [.row 1 q0w (.fl .f32 q1b),.row 1 q14 (.fl .f32 q1c),.row 1 q15 (.fl .f32 q1d)],.one (.s (.flt .f32 q1i))]=>sP (zi9 q0w q1b q14 q1c q15 q1d q1i) zm0 (zbv q0w q1b q14 q1c q15 q1d q1i)
 | _=>none
theorem zyv:ev8 Γ11 166 [.ptr [.row 1 a0 (.fl .f32 g1),.row 1 a2 (.fl .f32 g3),.row 1 a4 (.fl .f32 g5)],.one (.s (.flt .f32 a6))]=zm0 (za8 a0 g1 a2 g3 a4 g5 a6):=tr2 (zu8 a0 g1 a2 g3 a4 g5 a6 zm0 rfl (fun c0_=>some c0_)) (by kernel_rfl)
theorem zva:SumOne J 166 zlq:=mk11 fun pts v news hp=>by
 unfold zlq at hp
 split at hp
 ·rename_i q0w q1b q14 q1c q15 q1d q1i
  exact fin2 (zyv q0w q1b q14 q1c q15 q1d q1i) hp
 ·cases hp
def tb12:List (Nat×(List PT→Option (Bool×AV×List Blk))):=(106,zgs)::(165,zme)::(166,zlq)::tb11
def lt12:List ((Nat×Nat)×(Nat→St→Option (Bool×LO))):=lt11
def Γ12:Ctx:=⟨tyTab,fnTab,tblSum tb12,tblLp lt12⟩
theorem zza:SumL J tb12:=SumL.cons zps (SumL.cons zvh (SumL.cons zva (y1b)))
theorem zz0:LpL J fnTab lt12:=y19
theorem mk12{g:FuncId} {F:List PT→Option (Bool×AV×List Blk)} (h:∀ pts v news,F pts=some (true,v,news)→ev8 Γ12 g pts=some (v,news)):SumOne J g F:=sum_of (Γ:=Γ12) (fuel:=8) (d:=8) tyTab_ok (FnL.ok fnTab_ok _ _) (LpL.ok zz0) (SumL.ok zza _) mixed fun pts v news hp _=>h pts v news hp
def zgg  : Option (Nat×Nat)→Option (AV×List Blk)
 | some r=>some ((.tup [(.one (.flt .f32 r.1)),(.one (.flt .f32 r.2))]),[])
 | none=>none
def zgo:List PT→Option (Bool×AV×List Blk)
 | [.agg [.row 1 q00 (.fl .f32 q06),.row 1 q01 (.fl .f32 q07),.row 1 q02 (.fl .f32 q08),.row 3 q0d (.fl .f32 q0f),.s (.int .i64 q0k),.s (.flt .f32 q0o),.s (.flt .f32 q0n)],.one (.s (.int .i64 i)),.one (.s (.flt .f32 q19)),.one (.s (.flt .f32 q0m))]=>sP (z7m q00 q06 q01 q07 q02 q08 q0d q0f q0k q0o q0n i q19 q0m) zgg (z6x q00 q06 q01 q07 q02 q08 q0d q0f q0k q0o q0n i q19 q0m,z6t q00 q06 q01 q07 q02 q08 q0d q0f q0k q0o q0n i q19 q0m)
 | _=>none
theorem zsq:ev8 Γ12 105 [.agg [.row 1 a0 (.fl .f32 g1),.row 1 a2 (.fl .f32 g3),.row 1 a4 (.fl .f32 g5),.row 3 a6 (.fl .f32 g7),.s (.int .i64 c8),.s (.flt .f32 a9),.s (.flt .f32 a10)],.one (.s (.int .i64 c11)),.one (.s (.flt .f32 a12)),.one (.s (.flt .f32 a13))]=zgg (z4n a0 g1 a2 g3 a4 g5 a6 g7 c8 a9 a10 c11 a12 a13):=tr2 (zov a0 g1 a2 g3 a4 g5 a6 g7 c8 a9 a10 c11 a12 a13 zgg rfl (fun c0_ c1_=>some (c0_,c1_))) (by kernel_rfl)
theorem zq1:SumOne J 105 zgo:=mk12 fun pts v news hp=>by
 unfold zgo at hp
 split at hp
 ·rename_i q00 q06 q01 q07 q02 q08 q0d q0f q0k q0o q0n i q19 q0m
  exact fin2 (zsq q00 q06 q01 q07 q02 q08 q0d q0f q0k q0o q0n i q19 q0m) hp
 ·cases hp
def zk3  : Option (Nat×Nat)→Option (AV×List Blk)
 | some r=>some ((.tup [(.one (.flt .f32 r.1)),(.one (.flt .f32 r.2))]),[])
 | none=>none
def zkb:List PT→Option (Bool×AV×List Blk)
 | [.ptr [.row 1 q00 (.fl .f32 q06),.row 1 q01 (.fl .f32 q07),.row 1 q02 (.fl .f32 q08),.row 3 q0d (.fl .f32 q0f),.s (.int .i64 q0k),.s (.flt .f32 q0o),.s (.flt .f32 q0n)],.one (.s (.int .i64 i)),.one (.s (.flt .f32 q19)),.one (.s (.flt .f32 q0m))]=>sP (zfx q00 q06 q01 q07 q02 q08 q0d q0f q0k q0o q0n i q19 q0m) zk3 (z99 q00 q06 q01 q07 q02 q08 q0d q0f q0k q0o q0n i q19 q0m,z98 q00 q06 q01 q07 q02 q08 q0d q0f q0k q0o q0n i q19 q0m)
 | _=>none
theorem zwz:ev8 Γ12 150 [.ptr [.row 1 a0 (.fl .f32 g1),.row 1 a2 (.fl .f32 g3),.row 1 a4 (.fl .f32 g5),.row 3 a6 (.fl .f32 g7),.s (.int .i64 c8),.s (.flt .f32 a9),.s (.flt .f32 a10)],.one (.s (.int .i64 c11)),.one (.s (.flt .f32 a12)),.one (.s (.flt .f32 a13))]=zk3 (z60 a0 g1 a2 g3 a4 g5 a6 g7 c8 a9 a10 c11 a12 a13):=tr2 (zry a0 g1 a2 g3 a4 g5 a6 g7 c8 a9 a10 c11 a12 a13 zk3 rfl (fun c0_ c1_=>some (c0_,c1_))) (by kernel_rfl)
theorem zsc:SumOne J 150 zkb:=mk12 fun pts v news hp=>by
 unfold zkb at hp
 split at hp
 ·rename_i q00 q06 q01 q07 q02 q08 q0d q0f q0k q0o q0n i q19 q0m
  exact fin2 (zwz q00 q06 q01 q07 q02 q08 q0d q0f q0k q0o q0n i q19 q0m) hp
 ·cases hp
def z9n:St:=(.mk [(1,(.v (.one (.ptr 4 0 7)))),(4,(.v (.one (.flt .f32 a0)))),(43,(.v (.one (.vw 3 0 a1 3)))),(44,(.v (.one (.int .i64 c2)))),(45,(.v (.one (.int .i64 c3))))] [(.mk false (.fl .f32 g4)),(.mk false (.fl .f32 g5)),(.mk false (.fl .f32 g6)),(.mk false (.fl .f32 g7)),(.mk true (.cells [(.vw 0 0 a8 1),(.vw 1 0 a9 1),(.vw 2 0 a10 1),(.vw 3 0 a11 3),(.int .i64 c12),(.flt .f32 a13),(.flt .f32 a14)]))])
def z8j(q1o:Nat)(t44:Int)(b0 b1 b2 b3:List Nat)(q0u q0t q0v q0s:Nat)(q17:Int)(q18 q0z:Nat):St:=(.mk [(2,(.v (.one (.bool false))))] [(.mk false (.fl .f32 b0)),(.mk false (.fl .f32 b1)),(.mk false (.fl .f32 b2)),(.mk false (.fl .f32 b3))])
def z8o:St:=(.mk [(1,(.v (.one (.ptr 4 0 7)))),(4,(.v (.one (.flt .f32 a13)))),(43,(.v (.one (.vw 3 0 a0 3)))),(44,(.v (.one (.int .i64 c1)))),(45,(.v (.one (.int .i64 c14)))),(46,(.v (.one (.bool e15))))] [(.mk false (.fl .f32 g2)),(.mk false (.fl .f32 g3)),(.mk false (.fl .f32 g4)),(.mk false (.fl .f32 g5)),(.mk true (.cells [(.vw 0 0 a6 1),(.vw 1 0 a7 1),(.vw 2 0 a8 1),(.vw 3 0 a9 3),(.int .i64 c10),(.flt .f32 a11),(.flt .f32 a12)]))])
def zpb:Bool×LO:=((z47 a1 c2 g7 a14 a0 c3),(.two (z3v a1 c2 g7 a14 a0 c3) (.one .ret (z8j a1 c2 g4 g5 g6 g7 a8 a9 a10 a11 c12 a13 a14)) (.one (.exit 0) (z8o a1 c2 g4 g5 g6 g7 a8 a9 a10 a11 c12 a13 a14 (zbe a1 c2 g7 a14 a0 c3) (zbg a1 c2 g7 a14 a0 c3) (zbc a1 c2 g7 a14 a0 c3)))))
def zkt:Nat→St→Option (Bool×LO):=lpT 4 (pSt [(pTm 1 (pV (pOne (pPtr 4 (liN 0) 7)))),(pTm 4 (pV (pOne (pFlt .f32)))),(pTm 43 (pV (pOne (pVw 3 (liN 0) 3)))),(pTm 44 (pV (pOne (pInt .i64)))),(pTm 45 (pV (pOne (pInt .i64))))] [(pBlk false (pFl .f32)),(pBlk false (pFl .f32)),(pBlk false (pFl .f32)),(pBlk false (pFl .f32)),(pBlk true (pCells [(pVw 0 (liN 0) 1),(pVw 1 (liN 0) 1),(pVw 2 (liN 0) 1),(pVw 3 (liN 0) 3),(pInt .i64),(pFlt .f32),(pFlt .f32)]))]) (fun hs=>zpb (hN hs 0) (hN hs 1) (hI hs 2) (hI hs 3) (hLn hs 4) (hLn hs 5) (hLn hs 6) (hLn hs 7) (hN hs 8) (hN hs 9) (hN hs 10) (hN hs 11) (hI hs 12) (hN hs 13) (hN hs 14))
def z6o:Option ((Unit)⊕(Nat×Int×Bool))→Option (Ex×St)
 | none=>none
 | some (Sum.inl r)=>some (.ret,(z8j a0 c1 g2 g3 g4 g5 a6 a7 a8 a9 c10 a11 a12))
 | some (Sum.inr r)=>some ((.exit 0),(z8o a0 c1 g2 g3 g4 g5 a6 a7 a8 a9 c10 a11 a12 r.1 r.2.1 r.2.2))
def zr1 (x:Option ((Unit)⊕(Nat×Int×Bool))):LO:=(.two (oL x) (.one .ret (z8j a0 c1 g2 g3 g4 g5 a6 a7 a8 a9 c10 a11 a12)) (.one (.exit 0) (z8o a0 c1 g2 g3 g4 g5 a6 a7 a8 a9 c10 a11 a12 ((tR x).getD default).1 ((tR x).getD default).2.1 ((tR x).getD default).2.2)))
theorem zs2:∀ x:Option ((Unit)⊕(Nat×Int×Bool)),x.isSome=true→(z6o a0 c1 g2 g3 g4 g5 a6 a7 a8 a9 c10 a11 a12) x=some (pick (zr1 a0 c1 g2 g3 g4 g5 a6 a7 a8 a9 c10 a11 a12 x))
 | none,h=>by cases h
 | some (Sum.inl r),_=>rfl
 | some (Sum.inr r),_=>rfl
theorem zr9 (K:Ex→St→Option (Ex×St)):ev9 Γ12 51 6 4 fi51 (z9n a0 a1 c2 c3 g4 g5 g6 g7 a8 a9 a10 a11 c12 a13 a14) K=z2o a1 c2 g7 a14 a0 c3 (fun t4' t45'=>K .normal (z9n t4' a1 c2 t45' g4 g5 g6 g7 a8 a9 a10 a11 c12 a13 a14)) (fun _=>K .ret (z8j a1 c2 g4 g5 g6 g7 a8 a9 a10 a11 c12 a13 a14)) (fun c0_ c1_ c2_=>K (.exit 0) (z8o a1 c2 g4 g5 g6 g7 a8 a9 a10 a11 c12 a13 a14 c0_ c1_ c2_)):=by kernel_rfl
theorem zrj:∀ (n t4:Nat) (t45:Int),iter 51 6 4 (ev9 Γ12 51 6 4 fi51) n (z9n t4 a0 c1 t45 g2 g3 g4 g5 a6 a7 a8 a9 c10 a11 a12) (fun e st=>some (e,st))=(z6o a0 c1 g2 g3 g4 g5 a6 a7 a8 a9 c10 a11 a12) (z0f a0 c1 g5 a12 n t4 t45):=by
 intro n
 induction n with
 | zero=>intros;rfl
 | succ n ih=>
  intro t4 t45
  refine Eq.trans (iter_succ ..) (Eq.trans (zr9 t4 a0 c1 t45 g2 g3 g4 g5 a6 a7 a8 a9 c10 a11 a12 _) (Eq.trans ?_ (zo2 a0 c1 g5 a12 t4 t45 (z6o a0 c1 g2 g3 g4 g5 a6 a7 a8 a9 c10 a11 a12) rfl (fun t4' t45'=>z0f a0 c1 g5 a12 n t4' t45') (fun _=>some (Sum.inl ())) (fun c0_ c1_ c2_=>some (Sum.inr (c0_,c1_,c2_))))))
  exact congrArg (fun kn_=>z2o a0 c1 g5 a12 t4 t45 kn_ (fun _=>(z6o a0 c1 g2 g3 g4 g5 a6 a7 a8 a9 c10 a11 a12) (some (Sum.inl ()))) (fun c0_ c1_ c2_=>(z6o a0 c1 g2 g3 g4 g5 a6 a7 a8 a9 c10 a11 a12) (some (Sum.inr (c0_,c1_,c2_))))) (funext fun t4'=>funext fun t45'=>ih t4' t45')
theorem zp2:LoopOne J fnTab 51 6 zkt:=lp9 (Γ:=Γ12) tyTab_ok (FnL.ok fnTab_ok _ _) (LpL.ok zz0) (SumL.ok zza _) mixed (fi:=fi51) (by kernel_rfl) (by kernel_rfl) (q:=fun hs=>(z9n (hN hs 0) (hN hs 1) (hI hs 2) (hI hs 3) (hLn hs 4) (hLn hs 5) (hLn hs 6) (hLn hs 7) (hN hs 8) (hN hs 9) (hN hs 10) (hN hs 11) (hI hs 12) (hN hs 13) (hN hs 14))) (fun hs=>by kernel_rfl) fun hs h1=>Eq.trans (zrj (hN hs 1) (hI hs 2) (hLn hs 4) (hLn hs 5) (hLn hs 6) (hLn hs 7) (hN hs 8) (hN hs 9) (hN hs 10) (hN hs 11) (hI hs 12) (hN hs 13) (hN hs 14) big (hN hs 0) (hI hs 3)) (zs2 (hN hs 1) (hI hs 2) (hLn hs 4) (hLn hs 5) (hLn hs 6) (hLn hs 7) (hN hs 8) (hN hs 9) (hN hs 10) (hN hs 11) (hI hs 12) (hN hs 13) (hN hs 14) _ h1)
def tb13:List (Nat×(List PT→Option (Bool×AV×List Blk))):=(105,zgo)::(150,zkb)::tb12
def lt13:List ((Nat×Nat)×(Nat→St→Option (Bool×LO))):=((51,6),zkt)::lt12
def Γ13:Ctx:=⟨tyTab,fnTab,tblSum tb13,tblLp lt13⟩
theorem y1j:SumL J tb13:=SumL.cons zq1 (SumL.cons zsc (zza))
theorem y1n:LpL J fnTab lt13:=LpL.cons zp2 (zz0)
theorem mk13{g:FuncId} {F:List PT→Option (Bool×AV×List Blk)} (h:∀ pts v news,F pts=some (true,v,news)→ev8 Γ13 g pts=some (v,news)):SumOne J g F:=sum_of (Γ:=Γ13) (fuel:=8) (d:=8) tyTab_ok (FnL.ok fnTab_ok _ _) (LpL.ok y1n) (SumL.ok y1j _) mixed fun pts v news hp _=>h pts v news hp
def zj5  : Option (Bool)→Option (AV×List Blk)
 | some r=>some ((.v (.one (.bool r))),[])
 | none=>none
def zj2:List PT→Option (Bool×AV×List Blk)
 | [.agg [.row 1 q03 (.fl .f32 q09),.row 1 q04 (.fl .f32 q0b),.row 1 q05 (.fl .f32 q0a),.row 3 q0c (.fl .f32 q0e),.s (.int .i64 q0h),.s (.flt .f32 q0i),.s (.flt .f32 q0j)]]=>sP (z77 q03 q09 q04 q0b q05 q0a q0c q0e q0h q0i q0j) zj5 (z55 q03 q09 q04 q0b q05 q0a q0c q0e q0h q0i q0j)
 | _=>none
theorem zv5:ev8 Γ13 51 [.agg [.row 1 a0 (.fl .f32 g1),.row 1 a2 (.fl .f32 g3),.row 1 a4 (.fl .f32 g5),.row 3 a6 (.fl .f32 g7),.s (.int .i64 c8),.s (.flt .f32 a9),.s (.flt .f32 a10)]]=zj5 (z4k a0 g1 a2 g3 a4 g5 a6 g7 c8 a9 a10):=tr2 (zqk a0 g1 a2 g3 a4 g5 a6 g7 c8 a9 a10 zj5 rfl (fun c0_=>some c0_)) (by kernel_rfl)
theorem zs4:SumOne J 51 zj2:=mk13 fun pts v news hp=>by
 unfold zj2 at hp
 split at hp
 ·rename_i q03 q09 q04 q0b q05 q0a q0c q0e q0h q0i q0j
  exact fin2 (zv5 q03 q09 q04 q0b q05 q0a q0c q0e q0h q0i q0j) hp
 ·cases hp
def zm1  : Option (Nat×Nat×Nat×Nat)→Option (AV×List Blk)
 | some r=>some ((.tup [(.one (.flt .f32 r.1)),(.one (.flt .f32 r.2.1)),(.one (.flt .f32 r.2.2.1)),(.one (.flt .f32 r.2.2.2))]),[])
 | none=>none
def zm4:List PT→Option (Bool×AV×List Blk)
 | [.ptr [.row 1 q00 (.fl .f32 q06),.row 1 q01 (.fl .f32 q07),.row 1 q02 (.fl .f32 q08),.row 3 q0d (.fl .f32 q0f),.s (.int .i64 q0k),.s (.flt .f32 q0o),.s (.flt .f32 q0n)],.one (.s (.int .i64 i)),.one (.s (.flt .f32 q19)),.one (.s (.flt .f32 q0m))]=>sP (zew q00 q06 q01 q07 q02 q08 q0d q0f q0k q0o q0n i q19 q0m) zm1 (zcc q00 q06 q01 q07 q02 q08 q0d q0f q0k q0o q0n i q19 q0m,zcj q00 q06 q01 q07 q02 q08 q0d q0f q0k q0o q0n i q19 q0m,zgz q00 q06 q01 q07 q02 q08 q0d q0f q0k q0o q0n i q19 q0m,zh2 q00 q06 q01 q07 q02 q08 q0d q0f q0k q0o q0n i q19 q0m)
 | _=>none
theorem zyx:ev8 Γ13 130 [.ptr [.row 1 a0 (.fl .f32 g1),.row 1 a2 (.fl .f32 g3),.row 1 a4 (.fl .f32 g5),.row 3 a6 (.fl .f32 g7),.s (.int .i64 c8),.s (.flt .f32 a9),.s (.flt .f32 a10)],.one (.s (.int .i64 c11)),.one (.s (.flt .f32 a12)),.one (.s (.flt .f32 a13))]=zm1 (z5d a0 g1 a2 g3 a4 g5 a6 g7 c8 a9 a10 c11 a12 a13):=tr2 (zui a0 g1 a2 g3 a4 g5 a6 g7 c8 a9 a10 c11 a12 a13 zm1 rfl (fun c0_ c1_ c2_ c3_=>some (c0_,c1_,c2_,c3_))) (by kernel_rfl)
theorem zvb:SumOne J 130 zm4:=mk13 fun pts v news hp=>by
 unfold zm4 at hp
 split at hp
 ·rename_i q00 q06 q01 q07 q02 q08 q0d q0f q0k q0o q0n i q19 q0m
  exact fin2 (zyx q00 q06 q01 q07 q02 q08 q0d q0f q0k q0o q0n i q19 q0m) hp
 ·cases hp
def zfc  : Option (Nat)→Option (AV×List Blk)
 | some r=>some ((.v (.one (.flt .f32 r))),[])
 | none=>none
def zfj:List PT→Option (Bool×AV×List Blk)
 | [.agg [.row 1 q00 (.fl .f32 q06),.row 1 q01 (.fl .f32 q07),.row 1 q02 (.fl .f32 q08),.row 3 q0d (.fl .f32 q0f),.s (.int .i64 q0k),.s (.flt .f32 q0o),.s (.flt .f32 q0n)],.one (.s (.int .i64 i)),.one (.s (.flt .f32 q19)),.one (.s (.flt .f32 q13)),.one (.s (.flt .f32 q0p)),.one (.s (.flt .f32 q0m))]=>sP (z9f q00 q06 q01 q07 q02 q08 q0d q0f q0k q0o q0n i q19 q13 q0p q0m) zfc (z4z q00 q06 q01 q07 q02 q08 q0d q0f q0k q0o q0n i q19 q13 q0p q0m)
 | _=>none
theorem zr6:ev8 Γ13 157 [.agg [.row 1 a0 (.fl .f32 g1),.row 1 a2 (.fl .f32 g3),.row 1 a4 (.fl .f32 g5),.row 3 a6 (.fl .f32 g7),.s (.int .i64 c8),.s (.flt .f32 a9),.s (.flt .f32 a10)],.one (.s (.int .i64 c11)),.one (.s (.flt .f32 a12)),.one (.s (.flt .f32 a13)),.one (.s (.flt .f32 a14)),.one (.s (.flt .f32 a15))]=zfc (z46 a0 g1 a2 g3 a4 g5 a6 g7 c8 a9 a10 c11 a12 a13 a14 a15):=tr2 (znz a0 g1 a2 g3 a4 g5 a6 g7 c8 a9 a10 c11 a12 a13 a14 a15 zfc rfl (fun c0_=>some c0_)) (by kernel_rfl)
theorem zoy:SumOne J 157 zfj:=mk13 fun pts v news hp=>by
 unfold zfj at hp
 split at hp
 ·rename_i q00 q06 q01 q07 q02 q08 q0d q0f q0k q0o q0n i q19 q13 q0p q0m
  exact fin2 (zr6 q00 q06 q01 q07 q02 q08 q0d q0f q0k q0o q0n i q19 q13 q0p q0m) hp
 ·cases hp
def tb14:List (Nat×(List PT→Option (Bool×AV×List Blk))):=(51,zj2)::(130,zm4)::(157,zfj)::tb13
def lt14:List ((Nat×Nat)×(Nat→St→Option (Bool×LO))):=lt13
def Γ14:Ctx:=⟨tyTab,fnTab,tblSum tb14,tblLp lt14⟩
theorem y17:SumL J tb14:=SumL.cons zs4 (SumL.cons zvb (SumL.cons zoy (y1j)))
theorem y1e:LpL J fnTab lt14:=y1n
theorem mk14{g:FuncId} {F:List PT→Option (Bool×AV×List Blk)} (h:∀ pts v news,F pts=some (true,v,news)→ev8 Γ14 g pts=some (v,news)):SumOne J g F:=sum_of (Γ:=Γ14) (fuel:=8) (d:=8) tyTab_ok (FnL.ok fnTab_ok _ _) (LpL.ok y1e) (SumL.ok y17 _) mixed fun pts v news hp _=>h pts v news hp
def zmh  : Option (Bool)→Option (AV×List Blk)
 | some r=>some ((.v (.one (.bool r))),[])
 | none=>none
def zlv:List PT→Option (Bool×AV×List Blk)
 | [.agg [.row 1 q00 (.fl .f32 q06),.row 1 q01 (.fl .f32 q07),.row 1 q02 (.fl .f32 q08),.row 3 q0d (.fl .f32 q0f),.s (.int .i64 q0k),.s (.flt .f32 q0o),.s (.flt .f32 q0n)],.one (.s (.int .i64 i)),.one (.s (.flt .f32 q13)),.one (.s (.flt .f32 q0p)),.one (.s (.flt .f32 q0m))]=>sP (zen q00 q06 q01 q07 q02 q08 q0d q0f q0k q0o q0n i q13 q0p q0m) zmh (zcd q00 q06 q01 q07 q02 q08 q0d q0f q0k q0o q0n i q13 q0p q0m)
 | _=>none
theorem zys:ev8 Γ14 139 [.agg [.row 1 a0 (.fl .f32 g1),.row 1 a2 (.fl .f32 g3),.row 1 a4 (.fl .f32 g5),.row 3 a6 (.fl .f32 g7),.s (.int .i64 c8),.s (.flt .f32 a9),.s (.flt .f32 a10)],.one (.s (.int .i64 c11)),.one (.s (.flt .f32 a12)),.one (.s (.flt .f32 a13)),.one (.s (.flt .f32 a14))]=zmh (zab a0 g1 a2 g3 a4 g5 a6 g7 c8 a9 a10 c11 a12 a13 a14):=tr2 (ztg a0 g1 a2 g3 a4 g5 a6 g7 c8 a9 a10 c11 a12 a13 a14 zmh rfl (fun c0_=>some c0_)) (by kernel_rfl)
theorem zv1:SumOne J 139 zlv:=mk14 fun pts v news hp=>by
 unfold zlv at hp
 split at hp
 ·rename_i q00 q06 q01 q07 q02 q08 q0d q0f q0k q0o q0n i q13 q0p q0m
  exact fin2 (zys q00 q06 q01 q07 q02 q08 q0d q0f q0k q0o q0n i q13 q0p q0m) hp
 ·cases hp
def zj7  : Option (Nat)→Option (AV×List Blk)
 | some r=>some ((.v (.one (.flt .f32 r))),[])
 | none=>none
def zj8:List PT→Option (Bool×AV×List Blk)
 | [.ptr [.row 1 q00 (.fl .f32 q06),.row 1 q01 (.fl .f32 q07),.row 1 q02 (.fl .f32 q08),.row 3 q0d (.fl .f32 q0f),.s (.int .i64 q0k),.s (.flt .f32 q0o),.s (.flt .f32 q0n)],.one (.s (.int .i64 i)),.one (.s (.flt .f32 q19)),.one (.s (.flt .f32 q13)),.one (.s (.flt .f32 q0p)),.one (.s (.flt .f32 q0m))]=>sP (zdm q00 q06 q01 q07 q02 q08 q0d q0f q0k q0o q0n i q19 q13 q0p q0m) zj7 (z6f q00 q06 q01 q07 q02 q08 q0d q0f q0k q0o q0n i q19 q13 q0p q0m)
 | _=>none
theorem zvq:ev8 Γ14 149 [.ptr [.row 1 a0 (.fl .f32 g1),.row 1 a2 (.fl .f32 g3),.row 1 a4 (.fl .f32 g5),.row 3 a6 (.fl .f32 g7),.s (.int .i64 c8),.s (.flt .f32 a9),.s (.flt .f32 a10)],.one (.s (.int .i64 c11)),.one (.s (.flt .f32 a12)),.one (.s (.flt .f32 a13)),.one (.s (.flt .f32 a14)),.one (.s (.flt .f32 a15))]=zj7 (z4j a0 g1 a2 g3 a4 g5 a6 g7 c8 a9 a10 c11 a12 a13 a14 a15):=tr2 (zqn a0 g1 a2 g3 a4 g5 a6 g7 c8 a9 a10 c11 a12 a13 a14 a15 zj7 rfl (fun c0_=>some c0_)) (by kernel_rfl)
theorem zrf:SumOne J 149 zj8:=mk14 fun pts v news hp=>by
 unfold zj8 at hp
 split at hp
 ·rename_i q00 q06 q01 q07 q02 q08 q0d q0f q0k q0o q0n i q19 q13 q0p q0m
  exact fin2 (zvq q00 q06 q01 q07 q02 q08 q0d q0f q0k q0o q0n i q19 q13 q0p q0m) hp
 ·cases hp
def tb15:List (Nat×(List PT→Option (Bool×AV×List Blk))):=(139,zlv)::(149,zj8)::tb14
def lt15:List ((Nat×Nat)×(Nat→St→Option (Bool×LO))):=lt14
def Γ15:Ctx:=⟨tyTab,fnTab,tblSum tb15,tblLp lt15⟩
theorem y1s:SumL J tb15:=SumL.cons zv1 (SumL.cons zrf (y17))
theorem y18:LpL J fnTab lt15:=y1e
theorem mk15{g:FuncId} {F:List PT→Option (Bool×AV×List Blk)} (h:∀ pts v news,F pts=some (true,v,news)→ev8 Γ15 g pts=some (v,news)):SumOne J g F:=sum_of (Γ:=Γ15) (fuel:=8) (d:=8) tyTab_ok (FnL.ok fnTab_ok _ _) (LpL.ok y18) (SumL.ok y1s _) mixed fun pts v news hp _=>h pts v news hp
def zjx  : Option (Nat×Bool)→Option (AV×List Blk)
 | some r=>some ((.tup [(.one (.flt .f32 r.1)),(.one (.bool r.2))]),[])
 | none=>none
def zjw:List PT→Option (Bool×AV×List Blk)
 | [.agg [.row 1 q00 (.fl .f32 q06),.row 1 q01 (.fl .f32 q07),.row 1 q02 (.fl .f32 q08),.row 3 q0d (.fl .f32 q0f),.s (.int .i64 q0k),.s (.flt .f32 q0o),.s (.flt .f32 q0n)],.one (.s (.int .i64 i)),.one (.s (.flt .f32 q19)),.one (.s (.flt .f32 q13)),.one (.s (.flt .f32 q0p)),.one (.s (.flt .f32 q0m))]=>sP (zfh q00 q06 q01 q07 q02 q08 q0d q0f q0k q0o q0n i q19 q13 q0p q0m) zjx (zdw q00 q06 q01 q07 q02 q08 q0d q0f q0k q0o q0n i q19 q13 q0p q0m,zdu q00 q06 q01 q07 q02 q08 q0d q0f q0k q0o q0n i q19 q13 q0p q0m)
 | _=>none
theorem zwa:ev8 Γ15 140 [.agg [.row 1 a0 (.fl .f32 g1),.row 1 a2 (.fl .f32 g3),.row 1 a4 (.fl .f32 g5),.row 3 a6 (.fl .f32 g7),.s (.int .i64 c8),.s (.flt .f32 a9),.s (.flt .f32 a10)],.one (.s (.int .i64 c11)),.one (.s (.flt .f32 a12)),.one (.s (.flt .f32 a13)),.one (.s (.flt .f32 a14)),.one (.s (.flt .f32 a15))]=zjx (z62 a0 g1 a2 g3 a4 g5 a6 g7 c8 a9 a10 c11 a12 a13 a14 a15):=tr2 (zr4 a0 g1 a2 g3 a4 g5 a6 g7 c8 a9 a10 c11 a12 a13 a14 a15 zjx rfl (fun c0_ c1_=>some (c0_,c1_))) (by kernel_rfl)
theorem zsa:SumOne J 140 zjw:=mk15 fun pts v news hp=>by
 unfold zjw at hp
 split at hp
 ·rename_i q00 q06 q01 q07 q02 q08 q0d q0f q0k q0o q0n i q19 q13 q0p q0m
  exact fin2 (zwa q00 q06 q01 q07 q02 q08 q0d q0f q0k q0o q0n i q19 q13 q0p q0m) hp
 ·cases hp
def tb16:List (Nat×(List PT→Option (Bool×AV×List Blk))):=(140,zjw)::tb15
def lt16:List ((Nat×Nat)×(Nat→St→Option (Bool×LO))):=lt15
def Γ16:Ctx:=⟨tyTab,fnTab,tblSum tb16,tblLp lt16⟩
theorem zz2:SumL J tb16:=SumL.cons zsa (y1s)
theorem zzc:LpL J fnTab lt16:=y18
def zay:St:=(.mk [(0,(.v (.one (.ptr 4 0 7)))),(1,(.v (.one (.int .i64 c0)))),(2,(.v (.one (.flt .f32 a1)))),(3,(.v (.one (.flt .f32 a2)))),(4,(.v (.one (.flt .f32 a3)))),(12,(.v (.one (.flt .f32 a4)))),(13,(.v (.one (.flt .f32 a5)))),(14,(.v (.one (.int .i64 c6))))] [(.mk false (.fl .f32 g7)),(.mk false (.fl .f32 g8)),(.mk false (.fl .f32 g9)),(.mk false (.fl .f32 g10)),(.mk false (.cells [(.vw 0 0 a11 1),(.vw 1 0 a12 1),(.vw 2 0 a13 1),(.vw 3 0 a14 3),(.int .i64 c15),(.flt .f32 a16),(.flt .f32 a17)]))])
def z9h(i:Int)(q13 q0p q0m:Nat)(b0 b1 b2 b3:List Nat)(q0u q0t q0v q0s:Nat)(q17:Int)(q18 q0z:Nat):St:=(.mk [(10,(.v (.one (.flt .f32 0)))),(11,(.v (.one (.bool false))))] [(.mk false (.fl .f32 b0)),(.mk false (.fl .f32 b1)),(.mk false (.fl .f32 b2)),(.mk false (.fl .f32 b3)),(.mk false (.cells [(.vw 0 0 q0u 1),(.vw 1 0 q0t 1),(.vw 2 0 q0v 1),(.vw 3 0 q0s 3),(.int .i64 q17),(.flt .f32 q18),(.flt .f32 q0z)]))])
def z9l:St:=(.mk [(0,(.v (.one (.ptr 4 0 7)))),(1,(.v (.one (.int .i64 c0)))),(2,(.v (.one (.flt .f32 a1)))),(3,(.v (.one (.flt .f32 a2)))),(4,(.v (.one (.flt .f32 a3)))),(12,(.v (.one (.flt .f32 a15)))),(13,(.v (.one (.flt .f32 a16)))),(14,(.v (.one (.int .i64 c17)))),(18,(.v (.one (.bool e18))))] [(.mk false (.fl .f32 g4)),(.mk false (.fl .f32 g5)),(.mk false (.fl .f32 g6)),(.mk false (.fl .f32 g7)),(.mk false (.cells [(.vw 0 0 a8 1),(.vw 1 0 a9 1),(.vw 2 0 a10 1),(.vw 3 0 a11 3),(.int .i64 c12),(.flt .f32 a13),(.flt .f32 a14)]))])
def zqv:Bool×LO:=((z5q c0 a1 a2 a3 g7 g8 g9 g10 a11 a12 a13 a14 c15 a16 a17 a4 a5 c6),(.two (z5e c0 a1 a2 a3 g7 g8 g9 g10 a11 a12 a13 a14 c15 a16 a17 a4 a5 c6) (.one .ret (z9h c0 a1 a2 a3 g7 g8 g9 g10 a11 a12 a13 a14 c15 a16 a17)) (.one (.exit 0) (z9l c0 a1 a2 a3 g7 g8 g9 g10 a11 a12 a13 a14 c15 a16 a17 (z85 c0 a1 a2 a3 g7 g8 g9 g10 a11 a12 a13 a14 c15 a16 a17 a4 a5 c6) (zd4 c0 a1 a2 a3 g7 g8 g9 g10 a11 a12 a13 a14 c15 a16 a17 a4 a5 c6) (zdc c0 a1 a2 a3 g7 g8 g9 g10 a11 a12 a13 a14 c15 a16 a17 a4 a5 c6) (zcz c0 a1 a2 a3 g7 g8 g9 g10 a11 a12 a13 a14 c15 a16 a17 a4 a5 c6)))))
def zlo:Nat→St→Option (Bool×LO):=lpT 5 (pSt [(pTm 0 (pV (pOne (pPtr 4 (liN 0) 7)))),(pTm 1 (pV (pOne (pInt .i64)))),(pTm 2 (pV (pOne (pFlt .f32)))),(pTm 3 (pV (pOne (pFlt .f32)))),(pTm 4 (pV (pOne (pFlt .f32)))),(pTm 12 (pV (pOne (pFlt .f32)))),(pTm 13 (pV (pOne (pFlt .f32)))),(pTm 14 (pV (pOne (pInt .i64))))] [(pBlk false (pFl .f32)),(pBlk false (pFl .f32)),(pBlk false (pFl .f32)),(pBlk false (pFl .f32)),(pBlk false (pCells [(pVw 0 (liN 0) 1),(pVw 1 (liN 0) 1),(pVw 2 (liN 0) 1),(pVw 3 (liN 0) 3),(pInt .i64),(pFlt .f32),(pFlt .f32)]))]) (fun hs=>zqv (hI hs 0) (hN hs 1) (hN hs 2) (hN hs 3) (hN hs 4) (hN hs 5) (hI hs 6) (hLn hs 7) (hLn hs 8) (hLn hs 9) (hLn hs 10) (hN hs 11) (hN hs 12) (hN hs 13) (hN hs 14) (hI hs 15) (hN hs 16) (hN hs 17))
def z7k:Option ((Unit)⊕(Nat×Nat×Int×Bool))→Option (Ex×St)
 | none=>none
 | some (Sum.inl r)=>some (.ret,(z9h c0 a1 a2 a3 g4 g5 g6 g7 a8 a9 a10 a11 c12 a13 a14))
 | some (Sum.inr r)=>some ((.exit 0),(z9l c0 a1 a2 a3 g4 g5 g6 g7 a8 a9 a10 a11 c12 a13 a14 r.1 r.2.1 r.2.2.1 r.2.2.2))
def zrn (x:Option ((Unit)⊕(Nat×Nat×Int×Bool))):LO:=(.two (oL x) (.one .ret (z9h c0 a1 a2 a3 g4 g5 g6 g7 a8 a9 a10 a11 c12 a13 a14)) (.one (.exit 0) (z9l c0 a1 a2 a3 g4 g5 g6 g7 a8 a9 a10 a11 c12 a13 a14 ((tR x).getD default).1 ((tR x).getD default).2.1 ((tR x).getD default).2.2.1 ((tR x).getD default).2.2.2)))
theorem zsu:∀ x:Option ((Unit)⊕(Nat×Nat×Int×Bool)),x.isSome=true→(z7k c0 a1 a2 a3 g4 g5 g6 g7 a8 a9 a10 a11 c12 a13 a14) x=some (pick (zrn c0 a1 a2 a3 g4 g5 g6 g7 a8 a9 a10 a11 c12 a13 a14 x))
 | none,h=>by cases h
 | some (Sum.inl r),_=>rfl
 | some (Sum.inr r),_=>rfl
theorem zsz (K:Ex→St→Option (Ex×St)):ev9 Γ16 129 4 5 fi129 (zay c0 a1 a2 a3 a4 a5 c6 g7 g8 g9 g10 a11 a12 a13 a14 c15 a16 a17) K=z36 c0 a1 a2 a3 g7 g8 g9 g10 a11 a12 a13 a14 c15 a16 a17 a4 a5 c6 (fun low' q1e' k'=>K .normal (zay c0 a1 a2 a3 low' q1e' k' g7 g8 g9 g10 a11 a12 a13 a14 c15 a16 a17)) (fun _=>K .ret (z9h c0 a1 a2 a3 g7 g8 g9 g10 a11 a12 a13 a14 c15 a16 a17)) (fun c0_ c1_ c2_ c3_=>K (.exit 0) (z9l c0 a1 a2 a3 g7 g8 g9 g10 a11 a12 a13 a14 c15 a16 a17 c0_ c1_ c2_ c3_)):=by kernel_rfl
theorem zt8:∀ (n low q1e:Nat) (k:Int),iter 129 4 5 (ev9 Γ16 129 4 5 fi129) n (zay c0 a1 a2 a3 low q1e k g4 g5 g6 g7 a8 a9 a10 a11 c12 a13 a14) (fun e st=>some (e,st))=(z7k c0 a1 a2 a3 g4 g5 g6 g7 a8 a9 a10 a11 c12 a13 a14) (z0g c0 a1 a2 a3 g4 g5 g6 g7 a8 a9 a10 a11 c12 a13 a14 n low q1e k):=by
 intro n
 induction n with
 | zero=>intros;rfl
 | succ n ih=>
  intro low q1e k
  refine Eq.trans (iter_succ ..) (Eq.trans (zsz c0 a1 a2 a3 low q1e k g4 g5 g6 g7 a8 a9 a10 a11 c12 a13 a14 _) (Eq.trans ?_ (zor c0 a1 a2 a3 g4 g5 g6 g7 a8 a9 a10 a11 c12 a13 a14 low q1e k (z7k c0 a1 a2 a3 g4 g5 g6 g7 a8 a9 a10 a11 c12 a13 a14) rfl (fun low' q1e' k'=>z0g c0 a1 a2 a3 g4 g5 g6 g7 a8 a9 a10 a11 c12 a13 a14 n low' q1e' k') (fun _=>some (Sum.inl ())) (fun c0_ c1_ c2_ c3_=>some (Sum.inr (c0_,c1_,c2_,c3_))))))
  exact congrArg (fun kn_=>z36 c0 a1 a2 a3 g4 g5 g6 g7 a8 a9 a10 a11 c12 a13 a14 low q1e k kn_ (fun _=>(z7k c0 a1 a2 a3 g4 g5 g6 g7 a8 a9 a10 a11 c12 a13 a14) (some (Sum.inl ()))) (fun c0_ c1_ c2_ c3_=>(z7k c0 a1 a2 a3 g4 g5 g6 g7 a8 a9 a10 a11 c12 a13 a14) (some (Sum.inr (c0_,c1_,c2_,c3_))))) (funext fun low'=>funext fun q1e'=>funext fun k'=>ih low' q1e' k')
theorem zpl:LoopOne J fnTab 129 4 zlo:=lp9 (Γ:=Γ16) tyTab_ok (FnL.ok fnTab_ok _ _) (LpL.ok zzc) (SumL.ok zz2 _) mixed (fi:=fi129) (by kernel_rfl) (by kernel_rfl) (q:=fun hs=>(zay (hI hs 0) (hN hs 1) (hN hs 2) (hN hs 3) (hN hs 4) (hN hs 5) (hI hs 6) (hLn hs 7) (hLn hs 8) (hLn hs 9) (hLn hs 10) (hN hs 11) (hN hs 12) (hN hs 13) (hN hs 14) (hI hs 15) (hN hs 16) (hN hs 17))) (fun hs=>by kernel_rfl) fun hs h1=>Eq.trans (zt8 (hI hs 0) (hN hs 1) (hN hs 2) (hN hs 3) (hLn hs 7) (hLn hs 8) (hLn hs 9) (hLn hs 10) (hN hs 11) (hN hs 12) (hN hs 13) (hN hs 14) (hI hs 15) (hN hs 16) (hN hs 17) big (hN hs 4) (hN hs 5) (hI hs 6)) (zsu (hI hs 0) (hN hs 1) (hN hs 2) (hN hs 3) (hLn hs 7) (hLn hs 8) (hLn hs 9) (hLn hs 10) (hN hs 11) (hN hs 12) (hN hs 13) (hN hs 14) (hI hs 15) (hN hs 16) (hN hs 17) _ h1)
def tb17:List (Nat×(List PT→Option (Bool×AV×List Blk))):=tb16
def lt17:List ((Nat×Nat)×(Nat→St→Option (Bool×LO))):=((129,4),zlo)::lt16
def Γ17:Ctx:=⟨tyTab,fnTab,tblSum tb17,tblLp lt17⟩
theorem zz3:SumL J tb17:=zz2
theorem zz1:LpL J fnTab lt17:=LpL.cons zpl (zzc)
theorem mk17{g:FuncId} {F:List PT→Option (Bool×AV×List Blk)} (h:∀ pts v news,F pts=some (true,v,news)→ev8 Γ17 g pts=some (v,news)):SumOne J g F:=sum_of (Γ:=Γ17) (fuel:=8) (d:=8) tyTab_ok (FnL.ok fnTab_ok _ _) (LpL.ok zz1) (SumL.ok zz3 _) mixed fun pts v news hp _=>h pts v news hp
def zju  : Option (Nat×Bool)→Option (AV×List Blk)
 | some r=>some ((.tup [(.one (.flt .f32 r.1)),(.one (.bool r.2))]),[])
 | none=>none
def zk8:List PT→Option (Bool×AV×List Blk)
 | [.ptr [.row 1 q00 (.fl .f32 q06),.row 1 q01 (.fl .f32 q07),.row 1 q02 (.fl .f32 q08),.row 3 q0d (.fl .f32 q0f),.s (.int .i64 q0k),.s (.flt .f32 q0o),.s (.flt .f32 q0n)],.one (.s (.int .i64 i)),.one (.s (.flt .f32 q13)),.one (.s (.flt .f32 q0p)),.one (.s (.flt .f32 q0m))]=>sP (zfs q00 q06 q01 q07 q02 q08 q0d q0f q0k q0o q0n i q13 q0p q0m) zju (zdx q00 q06 q01 q07 q02 q08 q0d q0f q0k q0o q0n i q13 q0p q0m,ze1 q00 q06 q01 q07 q02 q08 q0d q0f q0k q0o q0n i q13 q0p q0m)
 | _=>none
theorem zwh:ev8 Γ17 129 [.ptr [.row 1 a0 (.fl .f32 g1),.row 1 a2 (.fl .f32 g3),.row 1 a4 (.fl .f32 g5),.row 3 a6 (.fl .f32 g7),.s (.int .i64 c8),.s (.flt .f32 a9),.s (.flt .f32 a10)],.one (.s (.int .i64 c11)),.one (.s (.flt .f32 a12)),.one (.s (.flt .f32 a13)),.one (.s (.flt .f32 a14))]=zju (z6a a0 g1 a2 g3 a4 g5 a6 g7 c8 a9 a10 c11 a12 a13 a14):=tr2 (zri a0 g1 a2 g3 a4 g5 a6 g7 c8 a9 a10 c11 a12 a13 a14 zju rfl (fun c0_ c1_=>some (c0_,c1_))) (by kernel_rfl)
theorem zsd:SumOne J 129 zk8:=mk17 fun pts v news hp=>by
 unfold zk8 at hp
 split at hp
 ·rename_i q00 q06 q01 q07 q02 q08 q0d q0f q0k q0o q0n i q13 q0p q0m
  exact fin2 (zwh q00 q06 q01 q07 q02 q08 q0d q0f q0k q0o q0n i q13 q0p q0m) hp
 ·cases hp
def zfk:St:=(.mk [(1,(.v (.one (.int .i64 c0)))),(2,(.v (.one (.flt .f32 a1)))),(3,(.v (.one (.flt .f32 a2)))),(4,(.v (.one (.flt .f32 a3)))),(5,(.v (.one (.ptr 4 0 7)))),(12,(.v (.one (.flt .f32 a4)))),(13,(.v (.one (.flt .f32 a5)))),(24,(.v (.one (.int .i64 c6))))] [(.mk false (.fl .f32 g7)),(.mk false (.fl .f32 g8)),(.mk false (.fl .f32 g9)),(.mk false (.fl .f32 g10)),(.mk true (.cells [(.vw 0 0 a11 1),(.vw 1 0 a12 1),(.vw 2 0 a13 1),(.vw 3 0 a14 3),(.int .i64 c15),(.flt .f32 a16),(.flt .f32 a17)]))])
def zdp(i:Int)(q13 q0p q0m:Nat)(b0 b1 b2 b3:List Nat)(q0u q0t q0v q0s:Nat)(q17:Int)(q18 q0z:Nat):St:=(.mk [(10,(.v (.one (.flt .f32 0)))),(11,(.v (.one (.bool false))))] [(.mk false (.fl .f32 b0)),(.mk false (.fl .f32 b1)),(.mk false (.fl .f32 b2)),(.mk false (.fl .f32 b3))])
def zdq:St:=(.mk [(1,(.v (.one (.int .i64 c0)))),(2,(.v (.one (.flt .f32 a1)))),(3,(.v (.one (.flt .f32 a2)))),(4,(.v (.one (.flt .f32 a3)))),(5,(.v (.one (.ptr 4 0 7)))),(12,(.v (.one (.flt .f32 a15)))),(13,(.v (.one (.flt .f32 a16)))),(24,(.v (.one (.int .i64 c17)))),(25,(.v (.one (.bool e18))))] [(.mk false (.fl .f32 g4)),(.mk false (.fl .f32 g5)),(.mk false (.fl .f32 g6)),(.mk false (.fl .f32 g7)),(.mk true (.cells [(.vw 0 0 a8 1),(.vw 1 0 a9 1),(.vw 2 0 a10 1),(.vw 3 0 a11 3),(.int .i64 c12),(.flt .f32 a13),(.flt .f32 a14)]))])
def zte:Bool×LO:=((z7u c0 a1 a2 a3 g7 g8 g9 g10 a11 a12 a13 a14 c15 a16 a17 a4 a5 c6),(.two (z71 c0 a1 a2 a3 g7 g8 g9 g10 a11 a12 a13 a14 c15 a16 a17 a4 a5 c6) (.one .ret (zdp c0 a1 a2 a3 g7 g8 g9 g10 a11 a12 a13 a14 c15 a16 a17)) (.one (.exit 0) (zdq c0 a1 a2 a3 g7 g8 g9 g10 a11 a12 a13 a14 c15 a16 a17 (zb5 c0 a1 a2 a3 g7 g8 g9 g10 a11 a12 a13 a14 c15 a16 a17 a4 a5 c6) (zgp c0 a1 a2 a3 g7 g8 g9 g10 a11 a12 a13 a14 c15 a16 a17 a4 a5 c6) (zgl c0 a1 a2 a3 g7 g8 g9 g10 a11 a12 a13 a14 c15 a16 a17 a4 a5 c6) (zgh c0 a1 a2 a3 g7 g8 g9 g10 a11 a12 a13 a14 c15 a16 a17 a4 a5 c6)))))
def zo4:Nat→St→Option (Bool×LO):=lpT 4 (pSt [(pTm 1 (pV (pOne (pInt .i64)))),(pTm 2 (pV (pOne (pFlt .f32)))),(pTm 3 (pV (pOne (pFlt .f32)))),(pTm 4 (pV (pOne (pFlt .f32)))),(pTm 5 (pV (pOne (pPtr 4 (liN 0) 7)))),(pTm 12 (pV (pOne (pFlt .f32)))),(pTm 13 (pV (pOne (pFlt .f32)))),(pTm 24 (pV (pOne (pInt .i64))))] [(pBlk false (pFl .f32)),(pBlk false (pFl .f32)),(pBlk false (pFl .f32)),(pBlk false (pFl .f32)),(pBlk true (pCells [(pVw 0 (liN 0) 1),(pVw 1 (liN 0) 1),(pVw 2 (liN 0) 1),(pVw 3 (liN 0) 3),(pInt .i64),(pFlt .f32),(pFlt .f32)]))]) (fun hs=>zte (hI hs 0) (hN hs 1) (hN hs 2) (hN hs 3) (hN hs 4) (hN hs 5) (hI hs 6) (hLn hs 7) (hLn hs 8) (hLn hs 9) (hLn hs 10) (hN hs 11) (hN hs 12) (hN hs 13) (hN hs 14) (hI hs 15) (hN hs 16) (hN hs 17))
def zas:Option ((Unit)⊕(Nat×Nat×Int×Bool))→Option (Ex×St)
 | none=>none
 | some (Sum.inl r)=>some (.ret,(zdp c0 a1 a2 a3 g4 g5 g6 g7 a8 a9 a10 a11 c12 a13 a14))
 | some (Sum.inr r)=>some ((.exit 0),(zdq c0 a1 a2 a3 g4 g5 g6 g7 a8 a9 a10 a11 c12 a13 a14 r.1 r.2.1 r.2.2.1 r.2.2.2))
def zut (x:Option ((Unit)⊕(Nat×Nat×Int×Bool))):LO:=(.two (oL x) (.one .ret (zdp c0 a1 a2 a3 g4 g5 g6 g7 a8 a9 a10 a11 c12 a13 a14)) (.one (.exit 0) (zdq c0 a1 a2 a3 g4 g5 g6 g7 a8 a9 a10 a11 c12 a13 a14 ((tR x).getD default).1 ((tR x).getD default).2.1 ((tR x).getD default).2.2.1 ((tR x).getD default).2.2.2)))
theorem zwm:∀ x:Option ((Unit)⊕(Nat×Nat×Int×Bool)),x.isSome=true→(zas c0 a1 a2 a3 g4 g5 g6 g7 a8 a9 a10 a11 c12 a13 a14) x=some (pick (zut c0 a1 a2 a3 g4 g5 g6 g7 a8 a9 a10 a11 c12 a13 a14 x))
 | none,h=>by cases h
 | some (Sum.inl r),_=>rfl
 | some (Sum.inr r),_=>rfl
theorem zx7 (K:Ex→St→Option (Ex×St)):ev9 Γ17 104 5 4 fi104 (zfk c0 a1 a2 a3 a4 a5 c6 g7 g8 g9 g10 a11 a12 a13 a14 c15 a16 a17) K=z45 c0 a1 a2 a3 g7 g8 g9 g10 a11 a12 a13 a14 c15 a16 a17 a4 a5 c6 (fun low' q1e' t24'=>K .normal (zfk c0 a1 a2 a3 low' q1e' t24' g7 g8 g9 g10 a11 a12 a13 a14 c15 a16 a17)) (fun _=>K .ret (zdp c0 a1 a2 a3 g7 g8 g9 g10 a11 a12 a13 a14 c15 a16 a17)) (fun c0_ c1_ c2_ c3_=>K (.exit 0) (zdq c0 a1 a2 a3 g7 g8 g9 g10 a11 a12 a13 a14 c15 a16 a17 c0_ c1_ c2_ c3_)):=by kernel_rfl
theorem zw4:∀ (n low q1e:Nat) (t24:Int),iter 104 5 4 (ev9 Γ17 104 5 4 fi104) n (zfk c0 a1 a2 a3 low q1e t24 g4 g5 g6 g7 a8 a9 a10 a11 c12 a13 a14) (fun e st=>some (e,st))=(zas c0 a1 a2 a3 g4 g5 g6 g7 a8 a9 a10 a11 c12 a13 a14) (z11 c0 a1 a2 a3 g4 g5 g6 g7 a8 a9 a10 a11 c12 a13 a14 n low q1e t24):=by
 intro n
 induction n with
 | zero=>intros;rfl
 | succ n ih=>
  intro low q1e t24
  refine Eq.trans (iter_succ ..) (Eq.trans (zx7 c0 a1 a2 a3 low q1e t24 g4 g5 g6 g7 a8 a9 a10 a11 c12 a13 a14 _) (Eq.trans ?_ (zro c0 a1 a2 a3 g4 g5 g6 g7 a8 a9 a10 a11 c12 a13 a14 low q1e t24 (zas c0 a1 a2 a3 g4 g5 g6 g7 a8 a9 a10 a11 c12 a13 a14) rfl (fun low' q1e' t24'=>z11 c0 a1 a2 a3 g4 g5 g6 g7 a8 a9 a10 a11 c12 a13 a14 n low' q1e' t24') (fun _=>some (Sum.inl ())) (fun c0_ c1_ c2_ c3_=>some (Sum.inr (c0_,c1_,c2_,c3_))))))
  exact congrArg (fun kn_=>z45 c0 a1 a2 a3 g4 g5 g6 g7 a8 a9 a10 a11 c12 a13 a14 low q1e t24 kn_ (fun _=>(zas c0 a1 a2 a3 g4 g5 g6 g7 a8 a9 a10 a11 c12 a13 a14) (some (Sum.inl ()))) (fun c0_ c1_ c2_ c3_=>(zas c0 a1 a2 a3 g4 g5 g6 g7 a8 a9 a10 a11 c12 a13 a14) (some (Sum.inr (c0_,c1_,c2_,c3_))))) (funext fun low'=>funext fun q1e'=>funext fun t24'=>ih low' q1e' t24')
theorem zt0:LoopOne J fnTab 104 5 zo4:=lp9 (Γ:=Γ17) tyTab_ok (FnL.ok fnTab_ok _ _) (LpL.ok zz1) (SumL.ok zz3 _) mixed (fi:=fi104) (by kernel_rfl) (by kernel_rfl) (q:=fun hs=>(zfk (hI hs 0) (hN hs 1) (hN hs 2) (hN hs 3) (hN hs 4) (hN hs 5) (hI hs 6) (hLn hs 7) (hLn hs 8) (hLn hs 9) (hLn hs 10) (hN hs 11) (hN hs 12) (hN hs 13) (hN hs 14) (hI hs 15) (hN hs 16) (hN hs 17))) (fun hs=>by kernel_rfl) fun hs h1=>Eq.trans (zw4 (hI hs 0) (hN hs 1) (hN hs 2) (hN hs 3) (hLn hs 7) (hLn hs 8) (hLn hs 9) (hLn hs 10) (hN hs 11) (hN hs 12) (hN hs 13) (hN hs 14) (hI hs 15) (hN hs 16) (hN hs 17) big (hN hs 4) (hN hs 5) (hI hs 6)) (zwm (hI hs 0) (hN hs 1) (hN hs 2) (hN hs 3) (hLn hs 7) (hLn hs 8) (hLn hs 9) (hLn hs 10) (hN hs 11) (hN hs 12) (hN hs 13) (hN hs 14) (hI hs 15) (hN hs 16) (hN hs 17) _ h1)
def tb18:List (Nat×(List PT→Option (Bool×AV×List Blk))):=(129,zk8)::tb17
def lt18:List ((Nat×Nat)×(Nat→St→Option (Bool×LO))):=((104,5),zo4)::lt17
def Γ18:Ctx:=⟨tyTab,fnTab,tblSum tb18,tblLp lt18⟩
theorem y1k:SumL J tb18:=SumL.cons zsd (zz3)
theorem y1i:LpL J fnTab lt18:=LpL.cons zt0 (zz1)
theorem mk18{g:FuncId} {F:List PT→Option (Bool×AV×List Blk)} (h:∀ pts v news,F pts=some (true,v,news)→ev8 Γ18 g pts=some (v,news)):SumOne J g F:=sum_of (Γ:=Γ18) (fuel:=8) (d:=8) tyTab_ok (FnL.ok fnTab_ok _ _) (LpL.ok y1i) (SumL.ok y1k _) mixed fun pts v news hp _=>h pts v news hp
def zjv  : Option (Nat×Nat×Bool)→Option (AV×List Blk)
 | some r=>some ((.tup [(.one (.flt .f32 r.1)),(.one (.flt .f32 r.2.1)),(.one (.bool r.2.2))]),[])
 | none=>none
def zk5:List PT→Option (Bool×AV×List Blk)
 | [.ptr [.row 1 q03 (.fl .f32 q09),.row 1 q04 (.fl .f32 q0b),.row 1 q05 (.fl .f32 q0a),.row 3 q0c (.fl .f32 q0e),.s (.int .i64 q0h),.s (.flt .f32 q0i),.s (.flt .f32 q0j)],.one (.s (.int .i64 x1)),.one (.s (.flt .f32 x2)),.one (.s (.flt .f32 x3)),.one (.s (.flt .f32 x4)),.one (.s (.flt .f32 x5))]=>sP (zau q03 q09 q04 q0b q05 q0a q0c q0e q0h q0i q0j x1 x2 x3 x4 x5) zjv (z7c q03 q09 q04 q0b q05 q0a q0c q0e q0h q0i q0j x1 x2 x3 x4 x5,z75 q03 q09 q04 q0b q05 q0a q0c q0e q0h q0i q0j x1 x2 x3 x4 x5,z94 q03 q09 q04 q0b q05 q0a q0c q0e q0h q0i q0j x1 x2 x3 x4 x5)
 | _=>none
theorem zwv:ev8 Γ18 88 [.ptr [.row 1 a0 (.fl .f32 g1),.row 1 a2 (.fl .f32 g3),.row 1 a4 (.fl .f32 g5),.row 3 a6 (.fl .f32 g7),.s (.int .i64 c8),.s (.flt .f32 a9),.s (.flt .f32 a10)],.one (.s (.int .i64 c11)),.one (.s (.flt .f32 a12)),.one (.s (.flt .f32 a13)),.one (.s (.flt .f32 a14)),.one (.s (.flt .f32 a15))]=zjv (z2z a0 g1 a2 g3 a4 g5 a6 g7 c8 a9 a10 c11 a12 a13 a14 a15):=tr2 (zrp a0 g1 a2 g3 a4 g5 a6 g7 c8 a9 a10 c11 a12 a13 a14 a15 zjv rfl (fun c0_ c1_ c2_=>some (c0_,c1_,c2_))) (by kernel_rfl)
theorem zt7:SumOne J 88 zk5:=mk18 fun pts v news hp=>by
 unfold zk5 at hp
 split at hp
 ·rename_i q03 q09 q04 q0b q05 q0a q0c q0e q0h q0i q0j x1 x2 x3 x4 x5
  exact fin2 (zwv q03 q09 q04 q0b q05 q0a q0c q0e q0h q0i q0j x1 x2 x3 x4 x5) hp
 ·cases hp
def zn2  : Option (Nat×Bool)→Option (AV×List Blk)
 | some r=>some ((.tup [(.one (.flt .f32 r.1)),(.one (.bool r.2))]),[])
 | none=>none
def zn4:List PT→Option (Bool×AV×List Blk)
 | [.agg [.row 1 q00 (.fl .f32 q06),.row 1 q01 (.fl .f32 q07),.row 1 q02 (.fl .f32 q08),.row 3 q0d (.fl .f32 q0f),.s (.int .i64 q0k),.s (.flt .f32 q0o),.s (.flt .f32 q0n)],.one (.s (.int .i64 i)),.one (.s (.flt .f32 q13)),.one (.s (.flt .f32 q0p)),.one (.s (.flt .f32 q0m))]=>sP (zjf q00 q06 q01 q07 q02 q08 q0d q0f q0k q0o q0n i q13 q0p q0m) zn2 (zik q00 q06 q01 q07 q02 q08 q0d q0f q0k q0o q0n i q13 q0p q0m,zi5 q00 q06 q01 q07 q02 q08 q0d q0f q0k q0o q0n i q13 q0p q0m)
 | _=>none
theorem zzp:ev8 Γ18 104 [.agg [.row 1 a0 (.fl .f32 g1),.row 1 a2 (.fl .f32 g3),.row 1 a4 (.fl .f32 g5),.row 3 a6 (.fl .f32 g7),.s (.int .i64 c8),.s (.flt .f32 a9),.s (.flt .f32 a10)],.one (.s (.int .i64 c11)),.one (.s (.flt .f32 a12)),.one (.s (.flt .f32 a13)),.one (.s (.flt .f32 a14))]=zn2 (z8v a0 g1 a2 g3 a4 g5 a6 g7 c8 a9 a10 c11 a12 a13 a14):=tr2 (zvi a0 g1 a2 g3 a4 g5 a6 g7 c8 a9 a10 c11 a12 a13 a14 zn2 rfl (fun c0_ c1_=>some (c0_,c1_))) (by kernel_rfl)
theorem zwq:SumOne J 104 zn4:=mk18 fun pts v news hp=>by
 unfold zn4 at hp
 split at hp
 ·rename_i q00 q06 q01 q07 q02 q08 q0d q0f q0k q0o q0n i q13 q0p q0m
  exact fin2 (zzp q00 q06 q01 q07 q02 q08 q0d q0f q0k q0o q0n i q13 q0p q0m) hp
 ·cases hp
def tb19:List (Nat×(List PT→Option (Bool×AV×List Blk))):=(88,zk5)::(104,zn4)::tb18
def lt19:List ((Nat×Nat)×(Nat→St→Option (Bool×LO))):=lt18
def Γ19:Ctx:=⟨tyTab,fnTab,tblSum tb19,tblLp lt19⟩
theorem y1h:SumL J tb19:=SumL.cons zt7 (SumL.cons zwq (y1k))
theorem y1d:LpL J fnTab lt19:=y1i
theorem mk19{g:FuncId} {F:List PT→Option (Bool×AV×List Blk)} (h:∀ pts v news,F pts=some (true,v,news)→ev8 Γ19 g pts=some (v,news)):SumOne J g F:=sum_of (Γ:=Γ19) (fuel:=8) (d:=8) tyTab_ok (FnL.ok fnTab_ok _ _) (LpL.ok y1d) (SumL.ok y1h _) mixed fun pts v news hp _=>h pts v news hp
def zfa  : Option (Nat×Nat×Bool)→Option (AV×List Blk)
 | some r=>some ((.tup [(.one (.flt .f32 r.1)),(.one (.flt .f32 r.2.1)),(.one (.bool r.2.2))]),[])
 | none=>none
def z9c:List PT→Option (Bool×AV×List Blk)
 | [.agg [.row 1 q03 (.fl .f32 q09),.row 1 q04 (.fl .f32 q0b),.row 1 q05 (.fl .f32 q0a),.row 3 q0c (.fl .f32 q0e),.s (.int .i64 q0h),.s (.flt .f32 q0i),.s (.flt .f32 q0j)],.one (.s (.int .i64 x1)),.one (.s (.flt .f32 x2)),.one (.s (.flt .f32 x3)),.one (.s (.flt .f32 x4)),.one (.s (.flt .f32 x5))]=>sP (z5c q03 q09 q04 q0b q05 q0a q0c q0e q0h q0i q0j x1 x2 x3 x4 x5) zfa (z4u q03 q09 q04 q0b q05 q0a q0c q0e q0h q0i q0j x1 x2 x3 x4 x5,z4y q03 q09 q04 q0b q05 q0a q0c q0e q0h q0i q0j x1 x2 x3 x4 x5,z4w q03 q09 q04 q0b q05 q0a q0c q0e q0h q0i q0j x1 x2 x3 x4 x5)
 | _=>none
theorem zrk:ev8 Γ19 56 [.agg [.row 1 a0 (.fl .f32 g1),.row 1 a2 (.fl .f32 g3),.row 1 a4 (.fl .f32 g5),.row 3 a6 (.fl .f32 g7),.s (.int .i64 c8),.s (.flt .f32 a9),.s (.flt .f32 a10)],.one (.s (.int .i64 c11)),.one (.s (.flt .f32 a12)),.one (.s (.flt .f32 a13)),.one (.s (.flt .f32 a14)),.one (.s (.flt .f32 a15))]=zfa (z2l a0 g1 a2 g3 a4 g5 a6 g7 c8 a9 a10 c11 a12 a13 a14 a15):=tr2 (zo0 a0 g1 a2 g3 a4 g5 a6 g7 c8 a9 a10 c11 a12 a13 a14 a15 zfa rfl (fun c0_ c1_ c2_=>some (c0_,c1_,c2_))) (by kernel_rfl)
theorem zis:SumOne J 56 z9c:=mk19 fun pts v news hp=>by
 unfold z9c at hp
 split at hp
 ·rename_i q03 q09 q04 q0b q05 q0a q0c q0e q0h q0i q0j x1 x2 x3 x4 x5
  exact fin2 (zrk q03 q09 q04 q0b q05 q0a q0c q0e q0h q0i q0j x1 x2 x3 x4 x5) hp
 ·cases hp
def tb20:List (Nat×(List PT→Option (Bool×AV×List Blk))):=(56,z9c)::tb19
def lt20:List ((Nat×Nat)×(Nat→St→Option (Bool×LO))):=lt19
def Γ20:Ctx:=⟨tyTab,fnTab,tblSum tb20,tblLp lt20⟩
theorem znu:SumL J tb20:=SumL.cons zis (y1h)
theorem zuk:LpL J fnTab lt20:=y1d
def zfg:St:=(.mk [(0,(.v (.one (.ptr 4 0 7)))),(1,(.v (.one (.flt .f32 a0)))),(2,(.v (.one (.flt .f32 a1)))),(3,(.v (.one (.flt .f32 a2)))),(4,(.v (.one (.flt .f32 a3)))),(13,(.v (.one (.sl 5 0 a4 1)))),(14,(.v (.one (.sl 6 0 a5 1)))),(15,(.v (.one (.int .i64 c6))))] [(.mk false (.fl .f32 g7)),(.mk false (.fl .f32 g8)),(.mk false (.fl .f32 g9)),(.mk false (.fl .f32 g10)),(.mk false (.cells [(.vw 0 0 a11 1),(.vw 1 0 a12 1),(.vw 2 0 a13 1),(.vw 3 0 a14 3),(.int .i64 c15),(.flt .f32 a16),(.flt .f32 a17)])),(.mk true (.fl .f32 g18)),(.mk true (.fl .f32 g19))])
def zdz(t1 t2 t3 t4:Nat)(b0 b1 b2 b3:List Nat)(q0u q0t q0v q0s:Nat)(q17:Int)(q18 q0z:Nat):St:=(.mk [(10,(.v (.one .nilsl))),(11,(.v (.one .nilsl))),(12,(.v (.one (.bool false))))] [(.mk false (.fl .f32 b0)),(.mk false (.fl .f32 b1)),(.mk false (.fl .f32 b2)),(.mk false (.fl .f32 b3)),(.mk false (.cells [(.vw 0 0 q0u 1),(.vw 1 0 q0t 1),(.vw 2 0 q0v 1),(.vw 3 0 q0s 3),(.int .i64 q17),(.flt .f32 q18),(.flt .f32 q0z)]))])
def ze0:St:=(.mk [(0,(.v (.one (.ptr 4 0 7)))),(1,(.v (.one (.flt .f32 a0)))),(2,(.v (.one (.flt .f32 a1)))),(3,(.v (.one (.flt .f32 a2)))),(4,(.v (.one (.flt .f32 a3)))),(13,(.v (.one (.sl 5 0 a15 1)))),(14,(.v (.one (.sl 6 0 a16 1)))),(15,(.v (.one (.int .i64 c17)))),(35,(.v (.one (.bool e18))))] [(.mk false (.fl .f32 g4)),(.mk false (.fl .f32 g5)),(.mk false (.fl .f32 g6)),(.mk false (.fl .f32 g7)),(.mk false (.cells [(.vw 0 0 a8 1),(.vw 1 0 a9 1),(.vw 2 0 a10 1),(.vw 3 0 a11 3),(.int .i64 c12),(.flt .f32 a13),(.flt .f32 a14)])),(.mk true (.fl .f32 g19)),(.mk true (.fl .f32 g20))])
def ztl:Bool×LO:=((z81 a0 a1 a2 a3 g7 g8 g9 g10 a11 a12 a13 a14 c15 a16 a17 a4 a5 c6 g18 g19),(.two (z74 a0 a1 a2 a3 g7 g8 g9 g10 a11 a12 a13 a14 c15 a16 a17 a4 a5 c6 g18 g19) (.one .ret (zdz a0 a1 a2 a3 g7 g8 g9 g10 a11 a12 a13 a14 c15 a16 a17)) (.one (.exit 0) (ze0 a0 a1 a2 a3 g7 g8 g9 g10 a11 a12 a13 a14 c15 a16 a17 (zb6 a0 a1 a2 a3 g7 g8 g9 g10 a11 a12 a13 a14 c15 a16 a17 a4 a5 c6 g18 g19) (zaw a0 a1 a2 a3 g7 g8 g9 g10 a11 a12 a13 a14 c15 a16 a17 a4 a5 c6 g18 g19) (zgi a0 a1 a2 a3 g7 g8 g9 g10 a11 a12 a13 a14 c15 a16 a17 a4 a5 c6 g18 g19) (zgt a0 a1 a2 a3 g7 g8 g9 g10 a11 a12 a13 a14 c15 a16 a17 a4 a5 c6 g18 g19) (zb2 a0 a1 a2 a3 g7 g8 g9 g10 a11 a12 a13 a14 c15 a16 a17 a4 a5 c6 g18 g19) (zax a0 a1 a2 a3 g7 g8 g9 g10 a11 a12 a13 a14 c15 a16 a17 a4 a5 c6 g18 g19)))))
def zoi:Nat→St→Option (Bool×LO):=lpT 5 (pSt [(pTm 0 (pV (pOne (pPtr 4 (liN 0) 7)))),(pTm 1 (pV (pOne (pFlt .f32)))),(pTm 2 (pV (pOne (pFlt .f32)))),(pTm 3 (pV (pOne (pFlt .f32)))),(pTm 4 (pV (pOne (pFlt .f32)))),(pTm 13 (pV (pOne (pSl 5 (liN 0) 1)))),(pTm 14 (pV (pOne (pSl 6 (liN 0) 1)))),(pTm 15 (pV (pOne (pInt .i64))))] [(pBlk false (pFl .f32)),(pBlk false (pFl .f32)),(pBlk false (pFl .f32)),(pBlk false (pFl .f32)),(pBlk false (pCells [(pVw 0 (liN 0) 1),(pVw 1 (liN 0) 1),(pVw 2 (liN 0) 1),(pVw 3 (liN 0) 3),(pInt .i64),(pFlt .f32),(pFlt .f32)])),(pBlk true (pFl .f32)),(pBlk true (pFl .f32))]) (fun hs=>ztl (hN hs 0) (hN hs 1) (hN hs 2) (hN hs 3) (hN hs 4) (hN hs 5) (hI hs 6) (hLn hs 7) (hLn hs 8) (hLn hs 9) (hLn hs 10) (hN hs 11) (hN hs 12) (hN hs 13) (hN hs 14) (hI hs 15) (hN hs 16) (hN hs 17) (hLn hs 18) (hLn hs 19))
def zan:Option ((Unit)⊕(Nat×Nat×Int×Bool×(List Nat)×(List Nat)))→Option (Ex×St)
 | none=>none
 | some (Sum.inl r)=>some (.ret,(zdz a0 a1 a2 a3 g4 g5 g6 g7 a8 a9 a10 a11 c12 a13 a14))
 | some (Sum.inr r)=>some ((.exit 0),(ze0 a0 a1 a2 a3 g4 g5 g6 g7 a8 a9 a10 a11 c12 a13 a14 r.1 r.2.1 r.2.2.1 r.2.2.2.1 r.2.2.2.2.1 r.2.2.2.2.2))
def zv7 (x:Option ((Unit)⊕(Nat×Nat×Int×Bool×(List Nat)×(List Nat)))):LO:=(.two (oL x) (.one .ret (zdz a0 a1 a2 a3 g4 g5 g6 g7 a8 a9 a10 a11 c12 a13 a14)) (.one (.exit 0) (ze0 a0 a1 a2 a3 g4 g5 g6 g7 a8 a9 a10 a11 c12 a13 a14 ((tR x).getD default).1 ((tR x).getD default).2.1 ((tR x).getD default).2.2.1 ((tR x).getD default).2.2.2.1 ((tR x).getD default).2.2.2.2.1 ((tR x).getD default).2.2.2.2.2)))
theorem zwg:∀ x:Option ((Unit)⊕(Nat×Nat×Int×Bool×(List Nat)×(List Nat))),x.isSome=true→(zan a0 a1 a2 a3 g4 g5 g6 g7 a8 a9 a10 a11 c12 a13 a14) x=some (pick (zv7 a0 a1 a2 a3 g4 g5 g6 g7 a8 a9 a10 a11 c12 a13 a14 x))
 | none,h=>by cases h
 | some (Sum.inl r),_=>rfl
 | some (Sum.inr r),_=>rfl
theorem zwj (K:Ex→St→Option (Ex×St)):ev9 Γ20 50 6 5 fi50 (zfg a0 a1 a2 a3 a4 a5 c6 g7 g8 g9 g10 a11 a12 a13 a14 c15 a16 a17 g18 g19) K=z48 a0 a1 a2 a3 g7 g8 g9 g10 a11 a12 a13 a14 c15 a16 a17 a4 a5 c6 g18 g19 (fun q1m' q1n' t15' b5' b6'=>K .normal (zfg a0 a1 a2 a3 q1m' q1n' t15' g7 g8 g9 g10 a11 a12 a13 a14 c15 a16 a17 b5' b6')) (fun _=>K .ret (zdz a0 a1 a2 a3 g7 g8 g9 g10 a11 a12 a13 a14 c15 a16 a17)) (fun c0_ c1_ c2_ c3_ c4_ c5_=>K (.exit 0) (ze0 a0 a1 a2 a3 g7 g8 g9 g10 a11 a12 a13 a14 c15 a16 a17 c0_ c1_ c2_ c3_ c4_ c5_)):=by kernel_rfl
theorem zx6:∀ (n q1m q1n:Nat) (t15:Int) (b5 b6:List Nat),iter 50 6 5 (ev9 Γ20 50 6 5 fi50) n (zfg a0 a1 a2 a3 q1m q1n t15 g4 g5 g6 g7 a8 a9 a10 a11 c12 a13 a14 b5 b6) (fun e st=>some (e,st))=(zan a0 a1 a2 a3 g4 g5 g6 g7 a8 a9 a10 a11 c12 a13 a14) (z0e a0 a1 a2 a3 g4 g5 g6 g7 a8 a9 a10 a11 c12 a13 a14 n q1m q1n t15 b5 b6):=by
 intro n
 induction n with
 | zero=>intros;rfl
 | succ n ih=>
  intro q1m q1n t15 b5 b6
  refine Eq.trans (iter_succ ..) (Eq.trans (zwj a0 a1 a2 a3 q1m q1n t15 g4 g5 g6 g7 a8 a9 a10 a11 c12 a13 a14 b5 b6 _) (Eq.trans ?_ (zr3 a0 a1 a2 a3 g4 g5 g6 g7 a8 a9 a10 a11 c12 a13 a14 q1m q1n t15 b5 b6 (zan a0 a1 a2 a3 g4 g5 g6 g7 a8 a9 a10 a11 c12 a13 a14) rfl (fun q1m' q1n' t15' b5' b6'=>z0e a0 a1 a2 a3 g4 g5 g6 g7 a8 a9 a10 a11 c12 a13 a14 n q1m' q1n' t15' b5' b6') (fun _=>some (Sum.inl ())) (fun c0_ c1_ c2_ c3_ c4_ c5_=>some (Sum.inr (c0_,c1_,c2_,c3_,c4_,c5_))))))
  exact congrArg (fun kn_=>z48 a0 a1 a2 a3 g4 g5 g6 g7 a8 a9 a10 a11 c12 a13 a14 q1m q1n t15 b5 b6 kn_ (fun _=>(zan a0 a1 a2 a3 g4 g5 g6 g7 a8 a9 a10 a11 c12 a13 a14) (some (Sum.inl ()))) (fun c0_ c1_ c2_ c3_ c4_ c5_=>(zan a0 a1 a2 a3 g4 g5 g6 g7 a8 a9 a10 a11 c12 a13 a14) (some (Sum.inr (c0_,c1_,c2_,c3_,c4_,c5_))))) (funext fun q1m'=>funext fun q1n'=>funext fun t15'=>funext fun b5'=>funext fun b6'=>ih q1m' q1n' t15' b5' b6')
theorem zsn:LoopOne J fnTab 50 6 zoi:=lp9 (Γ:=Γ20) tyTab_ok (FnL.ok fnTab_ok _ _) (LpL.ok zuk) (SumL.ok znu _) mixed (fi:=fi50) (by kernel_rfl) (by kernel_rfl) (q:=fun hs=>(zfg (hN hs 0) (hN hs 1) (hN hs 2) (hN hs 3) (hN hs 4) (hN hs 5) (hI hs 6) (hLn hs 7) (hLn hs 8) (hLn hs 9) (hLn hs 10) (hN hs 11) (hN hs 12) (hN hs 13) (hN hs 14) (hI hs 15) (hN hs 16) (hN hs 17) (hLn hs 18) (hLn hs 19))) (fun hs=>by kernel_rfl) fun hs h1=>Eq.trans (zx6 (hN hs 0) (hN hs 1) (hN hs 2) (hN hs 3) (hLn hs 7) (hLn hs 8) (hLn hs 9) (hLn hs 10) (hN hs 11) (hN hs 12) (hN hs 13) (hN hs 14) (hI hs 15) (hN hs 16) (hN hs 17) big (hN hs 4) (hN hs 5) (hI hs 6) (hLn hs 18) (hLn hs 19)) (zwg (hN hs 0) (hN hs 1) (hN hs 2) (hN hs 3) (hLn hs 7) (hLn hs 8) (hLn hs 9) (hLn hs 10) (hN hs 11) (hN hs 12) (hN hs 13) (hN hs 14) (hI hs 15) (hN hs 16) (hN hs 17) _ h1)
def tb21:List (Nat×(List PT→Option (Bool×AV×List Blk))):=tb20
def lt21:List ((Nat×Nat)×(Nat→St→Option (Bool×LO))):=((50,6),zoi)::lt20
def Γ21:Ctx:=⟨tyTab,fnTab,tblSum tb21,tblLp lt21⟩
theorem y1q:SumL J tb21:=znu
theorem y1g:LpL J fnTab lt21:=LpL.cons zsn (zuk)
theorem mk21{g:FuncId} {F:List PT→Option (Bool×AV×List Blk)} (h:∀ pts v news,F pts=some (true,v,news)→ev8 Γ21 g pts=some (v,news)):SumOne J g F:=sum_of (Γ:=Γ21) (fuel:=8) (d:=8) tyTab_ok (FnL.ok fnTab_ok _ _) (LpL.ok y1g) (SumL.ok y1q _) mixed fun pts v news hp _=>h pts v news hp
def zmm  : Option (Nat×Nat×Bool×(List Nat)×(List Nat))→Option (AV×List Blk)
 | some r=>some ((.tup [(.one (.sl 0 0 r.1 1)),(.one (.sl 1 0 r.2.1 1)),(.one (.bool r.2.2.1))]),[(.mk true (.fl .f32 r.2.2.2.1)),(.mk true (.fl .f32 r.2.2.2.2))])
 | none=>none
def zmv:List PT→Option (Bool×AV×List Blk)
 | [.ptr [.row 1 q03 (.fl .f32 q09),.row 1 q04 (.fl .f32 q0b),.row 1 q05 (.fl .f32 q0a),.row 3 q0c (.fl .f32 q0e),.s (.int .i64 q0h),.s (.flt .f32 q0i),.s (.flt .f32 q0j)],.one (.s (.flt .f32 x1)),.one (.s (.flt .f32 x2)),.one (.s (.flt .f32 x3)),.one (.s (.flt .f32 x4))]=>sP (zjk q03 q09 q04 q0b q05 q0a q0c q0e q0h q0i q0j x1 x2 x3 x4) zmm (zi7 q03 q09 q04 q0b q05 q0a q0c q0e q0h q0i q0j x1 x2 x3 x4,zib q03 q09 q04 q0b q05 q0a q0c q0e q0h q0i q0j x1 x2 x3 x4,zil q03 q09 q04 q0b q05 q0a q0c q0e q0h q0i q0j x1 x2 x3 x4,zin q03 q09 q04 q0b q05 q0a q0c q0e q0h q0i q0j x1 x2 x3 x4,zid q03 q09 q04 q0b q05 q0a q0c q0e q0h q0i q0j x1 x2 x3 x4)
 | _=>none
theorem zzv:ev8 Γ21 50 [.ptr [.row 1 a0 (.fl .f32 g1),.row 1 a2 (.fl .f32 g3),.row 1 a4 (.fl .f32 g5),.row 3 a6 (.fl .f32 g7),.s (.int .i64 c8),.s (.flt .f32 a9),.s (.flt .f32 a10)],.one (.s (.flt .f32 a11)),.one (.s (.flt .f32 a12)),.one (.s (.flt .f32 a13)),.one (.s (.flt .f32 a14))]=zmm (z3t a0 g1 a2 g3 a4 g5 a6 g7 c8 a9 a10 a11 a12 a13 a14):=tr2 (zum a0 g1 a2 g3 a4 g5 a6 g7 c8 a9 a10 a11 a12 a13 a14 zmm rfl (fun c0_ c1_ c2_ c3_ c4_=>some (c0_,c1_,c2_,c3_,c4_))) (by kernel_rfl)
theorem zwn:SumOne J 50 zmv:=mk21 fun pts v news hp=>by
 unfold zmv at hp
 split at hp
 ·rename_i q03 q09 q04 q0b q05 q0a q0c q0e q0h q0i q0j x1 x2 x3 x4
  exact fin2 (zzv q03 q09 q04 q0b q05 q0a q0c q0e q0h q0i q0j x1 x2 x3 x4) hp
 ·cases hp
def tb22:List (Nat×(List PT→Option (Bool×AV×List Blk))):=(50,zmv)::tb21
def lt22:List ((Nat×Nat)×(Nat→St→Option (Bool×LO))):=lt21
def Γ22:Ctx:=⟨tyTab,fnTab,tblSum tb22,tblLp lt22⟩
theorem y1o:SumL J tb22:=SumL.cons zwn (y1q)
theorem y1m:LpL J fnTab lt22:=y1g
theorem mk22{g:FuncId} {F:List PT→Option (Bool×AV×List Blk)} (h:∀ pts v news,F pts=some (true,v,news)→ev8 Γ22 g pts=some (v,news)):SumOne J g F:=sum_of (Γ:=Γ22) (fuel:=8) (d:=8) tyTab_ok (FnL.ok fnTab_ok _ _) (LpL.ok y1m) (SumL.ok y1o _) mixed fun pts v news hp _=>h pts v news hp
def zgj  : Option (Nat×Nat×Bool×(List Nat)×(List Nat))→Option (AV×List Blk)
 | some r=>some ((.tup [(.one (.sl 0 0 r.1 1)),(.one (.sl 1 0 r.2.1 1)),(.one (.bool r.2.2.1))]),[(.mk true (.fl .f32 r.2.2.2.1)),(.mk true (.fl .f32 r.2.2.2.2))])
 | none=>none
def zgn:List PT→Option (Bool×AV×List Blk)
 | [.agg [.row 1 q00 (.fl .f32 q06),.row 1 q01 (.fl .f32 q07),.row 1 q02 (.fl .f32 q08),.row 3 q0d (.fl .f32 q0f),.s (.int .i64 q0k),.s (.flt .f32 q0o),.s (.flt .f32 q0n)],.one (.s (.flt .f32 q13)),.one (.s (.flt .f32 q0p)),.one (.s (.flt .f32 q0m)),.one (.s (.flt .f32 q1l)),.one (.s (.int .i64 q1p))]=>sP (zaz q00 q06 q01 q07 q02 q08 q0d q0f q0k q0o q0n q13 q0p q0m q1l q1p) zgj (z9v q00 q06 q01 q07 q02 q08 q0d q0f q0k q0o q0n q13 q0p q0m q1l q1p,z9w q00 q06 q01 q07 q02 q08 q0d q0f q0k q0o q0n q13 q0p q0m q1l q1p,z9d q00 q06 q01 q07 q02 q08 q0d q0f q0k q0o q0n q13 q0p q0m q1l q1p,z9j q00 q06 q01 q07 q02 q08 q0d q0f q0k q0o q0n q13 q0p q0m q1l q1p,z9i q00 q06 q01 q07 q02 q08 q0d q0f q0k q0o q0n q13 q0p q0m q1l q1p)
 | _=>none
theorem zsw:ev8 Γ22 30 [.agg [.row 1 a0 (.fl .f32 g1),.row 1 a2 (.fl .f32 g3),.row 1 a4 (.fl .f32 g5),.row 3 a6 (.fl .f32 g7),.s (.int .i64 c8),.s (.flt .f32 a9),.s (.flt .f32 a10)],.one (.s (.flt .f32 a11)),.one (.s (.flt .f32 a12)),.one (.s (.flt .f32 a13)),.one (.s (.flt .f32 a14)),.one (.s (.int .i64 c15))]=zgj (z1c a0 g1 a2 g3 a4 g5 a6 g7 c8 a9 a10 a11 a12 a13 a14 c15):=tr2 (zou a0 g1 a2 g3 a4 g5 a6 g7 c8 a9 a10 a11 a12 a13 a14 c15 zgj rfl (fun c0_ c1_ c2_ c3_ c4_=>some (c0_,c1_,c2_,c3_,c4_))) (by kernel_rfl)
theorem zph:SumOne J 30 zgn:=mk22 fun pts v news hp=>by
 unfold zgn at hp
 split at hp
 ·rename_i q00 q06 q01 q07 q02 q08 q0d q0f q0k q0o q0n q13 q0p q0m q1l q1p
  exact fin2 (zsw q00 q06 q01 q07 q02 q08 q0d q0f q0k q0o q0n q13 q0p q0m q1l q1p) hp
 ·cases hp
end
end Go.Proofs.YtijjhfailnmeoaaGreat
