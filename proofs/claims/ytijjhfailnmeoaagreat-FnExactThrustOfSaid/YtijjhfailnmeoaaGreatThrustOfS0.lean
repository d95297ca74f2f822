import Derived.Test.YtijjhfailnmeoaaGreatThrustOfC
set_option linter.unusedVariables false
set_option linter.unusedSimpArgs false
set_option linter.unusedSectionVars false
set_option maxRecDepth 100000
set_option maxHeartbeats 4000000
namespace Go.Proofs.YtijjhfailnmeoaaGreat
open Go Go.Rf
variable {J:Jd Tryz.prog}
noncomputable section
variable (a0:Nat) (c0:Int) (e0:Bool) (a1:Nat) (c1:Int) (e1:Bool) (g1:List Nat) (m1:List Bool) (a2:Nat) (c2:Int) (e2:Bool) (g2:List Nat) (a3:Nat) (c3:Int) (g3:List Nat) (m3:List Bool) (a4:Nat) (c4:Int) (e4:Bool) (g4:List Nat) (m4:List Bool) (a5:Nat) (e5:Bool) (g5:List Nat) (a6:Nat) (c6:Int) (g6:List Nat) (a7:Nat) (c7:Int) (g7:List Nat) (a8:Nat) (c8:Int) (e8:Bool) (g8:List Nat) (a9:Nat) (c9:Int) (e9:Bool) (g9:List Nat) (a10:Nat) (c10:Int) (e10:Bool) (g10:List Nat) (a11:Nat) (c11:Int) (g11:List Nat) (a12:Nat) (c12:Int) (g12:List Nat) (a13:Nat) (c13:Int) (a14:Nat) (c14:Int) (e14:Bool) (g14:List Nat) (a15:Nat) (c15:Int) (e15:Bool) (a16:Nat) (g16:List Nat) (a17:Nat) (c17:Int) (e18:Bool) (g18:List Nat) (c19:Int) (g19:List Nat) (a20:Nat) (g20:List Nat) (a21:Nat)
def zg8:List PT→Option (Bool×AV×List Blk)
 | [.one (.s (.flt .f32 x))]=>some (bnot (nanQ .f32 x),A1 (.int .u32 x),[])
 | _=>none
theorem zwp:SumOne J 147 zg8:=by
 intro pts v news hp w vals hv
 unfold zg8 at hp
 split at hp
 ·rename_i x
  injection hp with hp
  injection hp with h1 hp
  injection hp with h2 h3
  subst h2
  subst h3
  obtain⟨l,hl⟩:∃ l,l=vals.toList:=⟨_,rfl⟩
  rw[← hl] at hv
  cases hv with
  | cons a1 a2=>
   cases a2
   obtain⟨b,hb1,hb2,hb3⟩:=a1
   subst hb1
   rename_i hx
   have hvals:vals=#[.float .f32 b]:=by rw[← Array.toList_inj,← hl]
   subst hvals
   have hn:nanB .f32 b=false:=by rw[← u4k,hb3];simpa [bnot,nanQ] using h1
   rw[u03 hn] at hb3
   subst hb3
   refine⟨nat_tame Tryz.func147 (Eq.mpr (by kernel_rfl:_=(Mute (.extern 147)∧True)) ⟨.inr ⟨_,rfl⟩,trivial⟩),.inl ⟨_,w,by (simp only[callFunc,Sem.run_bind,run_program,Result.andThen_ok,Tryz.func147];rfl),NoB,⟨⟨(fun t b' h=>by cases t<;>cases h),(fun t t' b1 b2 x x' _ h=>by cases t<;>cases h)⟩,(fun t x h=>by cases h),Fr.refl _ w⟩,rfl⟩⟩
 ·cases hp
def zb9:List PT→Option (Bool×AV×List Blk)
 | [.one (.s (.int .u64 x))]=>some (okU .f64 x,A1 (.flt .f64 (cnI .f64 x)),[])
 | _=>none
theorem zqq:SumOne J 167 zb9:=by
 intro pts v news hp w vals hv
 unfold zb9 at hp
 split at hp
 ·rename_i x
  injection hp with hp
  injection hp with h1 hp
  injection hp with h2 h3
  subst h2
  subst h3
  obtain⟨l,hl⟩:∃ l,l=vals.toList:=⟨_,rfl⟩
  rw[← hl] at hv
  cases hv with
  | cons a1 a2=>
   cases a2
   have hb1:_=Value.int .u64 x:=a1
   subst hb1
   rename_i hx
   have hvals:vals=#[.int .u64 x]:=by rw[← Array.toList_inj,← hl]
   subst hvals
   have hw:=okU_lt h1
   refine⟨nat_tame Tryz.func167 (Eq.mpr (by kernel_rfl:_=(Mute (.extern 167)∧True)) ⟨.inr ⟨_,rfl⟩,trivial⟩),.inl ⟨_,w,by (simp only[callFunc,Sem.run_bind,run_program,Result.andThen_ok,Tryz.func167];rfl),NoB,⟨⟨(fun t b' h=>by cases t<;>cases h),(fun t t' b1 b2 x x' _ h=>by cases t<;>cases h)⟩,(fun t x h=>by cases h),Fr.refl _ w⟩,⟨_,rfl,hw,rfl⟩⟩⟩
 ·cases hp
def zg7:List PT→Option (Bool×AV×List Blk)
 | [.one (.s (.flt .f64 x))]=>some (bnot (nanQ .f64 x),A1 (.int .u64 x),[])
 | _=>none
theorem zw2:SumOne J 173 zg7:=by
 intro pts v news hp w vals hv
 unfold zg7 at hp
 split at hp
 ·rename_i x
  injection hp with hp
  injection hp with h1 hp
  injection hp with h2 h3
  subst h2
  subst h3
  obtain⟨l,hl⟩:∃ l,l=vals.toList:=⟨_,rfl⟩
  rw[← hl] at hv
  cases hv with
  | cons a1 a2=>
   cases a2
   obtain⟨b,hb1,hb2,hb3⟩:=a1
   subst hb1
   rename_i hx
   have hvals:vals=#[.float .f64 b]:=by rw[← Array.toList_inj,← hl]
   subst hvals
   have hn:nanB .f64 b=false:=by rw[← u4k,hb3];simpa [bnot,nanQ] using h1
   rw[u03 hn] at hb3
   subst hb3
   refine⟨nat_tame Tryz.func173 (Eq.mpr (by kernel_rfl:_=(Mute (.extern 173)∧True)) ⟨.inr ⟨_,rfl⟩,trivial⟩),.inl ⟨_,w,by (simp only[callFunc,Sem.run_bind,run_program,Result.andThen_ok,Tryz.func173];rfl),NoB,⟨⟨(fun t b' h=>by cases t<;>cases h),(fun t t' b1 b2 x x' _ h=>by cases t<;>cases h)⟩,(fun t x h=>by cases h),Fr.refl _ w⟩,rfl⟩⟩
 ·cases hp
def zk2:List PT→Option (Bool×AV×List Blk)
 | [.one (.s (.flt .f64 x))]=>some (bnot (nanQ .f64 x),A1 (.flt .f64 (fint .zero x)),[])
 | _=>none
theorem zzf:SumOne J 177 zk2:=by
 intro pts v news hp w vals hv
 unfold zk2 at hp
 split at hp
 ·rename_i x
  injection hp with hp
  injection hp with h1 hp
  injection hp with h2 h3
  subst h2
  subst h3
  obtain⟨l,hl⟩:∃ l,l=vals.toList:=⟨_,rfl⟩
  rw[← hl] at hv
  cases hv with
  | cons a1 a2=>
   cases a2
   obtain⟨b,hb1,hb2,hb3⟩:=a1
   subst hb1
   rename_i hx
   have hvals:vals=#[.float .f64 b]:=by rw[← Array.toList_inj,← hl]
   subst hvals
   have hn:nanB .f64 b=false:=by rw[← u4k,hb3];simpa [bnot,nanQ] using h1
   rw[u03 hn] at hb3
   subst hb3
   refine⟨nat_tame Tryz.func177 (Eq.mpr (by kernel_rfl:_=(Mute (.extern 177)∧Tame Tryz.prog (do let v ← Extern.MathFloor.toIntegral "math.archTrunc" .zero #[.float .f64 b];pure (.value v):Sem Next))) ⟨.inr ⟨_,rfl⟩,tv (t_integral _ _ _)⟩),.inl ⟨_,w,by (simp only[callFunc,Sem.run_bind,run_program,Result.andThen_ok,Tryz.func177];change (do let v ← Extern.MathFloor.toIntegral "math.archTrunc" .zero #[.float .f64 b];pure (.value v):Sem Next).run Tryz.prog w=_;rw[Sem.run_bind,run_fint hn];rfl),NoB,⟨⟨(fun t b' h=>by cases t<;>cases h),(fun t t' b1 b2 x x' _ h=>by cases t<;>cases h)⟩,(fun t x h=>by cases h),Fr.refl _ w⟩,fint_rel hn⟩⟩
 ·cases hp
def zjt:List PT→Option (Bool×AV×List Blk)
 | [.one (.s (.flt .f64 x))]=>some (bnot (nanQ .f64 x),A1 (.flt .f64 (fint .down x)),[])
 | _=>none
theorem y0h:SumOne J 179 zjt:=by
 intro pts v news hp w vals hv
 unfold zjt at hp
 split at hp
 ·rename_i x
  injection hp with hp
  injection hp with h1 hp
  injection hp with h2 h3
  subst h2
  subst h3
  obtain⟨l,hl⟩:∃ l,l=vals.toList:=⟨_,rfl⟩
  rw[← hl] at hv
  cases hv with
  | cons a1 a2=>
   cases a2
   obtain⟨b,hb1,hb2,hb3⟩:=a1
   subst hb1
   rename_i hx
   have hvals:vals=#[.float .f64 b]:=by rw[← Array.toList_inj,← hl]
   subst hvals
   have hn:nanB .f64 b=false:=by rw[← u4k,hb3];simpa [bnot,nanQ] using h1
   rw[u03 hn] at hb3
   subst hb3
   refine⟨nat_tame Tryz.func179 (Eq.mpr (by kernel_rfl:_=(Mute (.extern 179)∧Tame Tryz.prog (do let v ← Extern.MathFloor.toIntegral "math.archFloor" .down #[.float .f64 b];pure (.value v):Sem Next))) ⟨.inr ⟨_,rfl⟩,tv (t_integral _ _ _)⟩),.inl ⟨_,w,by (simp only[callFunc,Sem.run_bind,run_program,Result.andThen_ok,Tryz.func179];change (do let v ← Extern.MathFloor.toIntegral "math.archFloor" .down #[.float .f64 b];pure (.value v):Sem Next).run Tryz.prog w=_;rw[Sem.run_bind,run_fint hn];rfl),NoB,⟨⟨(fun t b' h=>by cases t<;>cases h),(fun t t' b1 b2 x x' _ h=>by cases t<;>cases h)⟩,(fun t x h=>by cases h),Fr.refl _ w⟩,fint_rel hn⟩⟩
 ·cases hp
def sF{α:Type}[Inhabited α] (o:Option α→Option (AV×List Blk)) (x:Option α):Option (Bool×AV×List Blk):=sP x.isSome o (x.getD default)
theorem fin3{α:Type}[Inhabited α] {a:Option (AV×List Blk)} {o:Option α→Option (AV×List Blk)} {x:Option α} {v:AV} {news:List Blk} (h:a=o x) (hp:sF o x=some (true,v,news)):a=some (v,news):=fin2 h hp
def sL{α:Type}(lo:Option α→LO)(x:Option α):Bool×LO:=(x.isSome,lo x)
theorem mkT {tb:List (Nat×(List PT→Option (Bool×AV×List Blk)))} {lt:List ((Nat×Nat)×(Nat→St→Option (Bool×LO)))} {J:Jd Tryz.prog} (h1:SumL J tb) (h2:LpL J fnTab lt) {g:FuncId} {F:List PT→Option (Bool×AV×List Blk)} (h:∀ pts v news,F pts=some (true,v,news)→ev8 ⟨tyTab,fnTab,tblSum tb,tblLp lt⟩ g pts=some (v,news)):SumOne J g F:=
 sum_of (Γ:=⟨tyTab,fnTab,tblSum tb,tblLp lt⟩) (fuel:=8) (d:=8) tyTab_ok (FnL.ok fnTab_ok _ _) (LpL.ok h2) (SumL.ok h1 _) mixed fun pts v news hp _=>h pts v news hp
theorem lpK {tb:List (Nat×(List PT→Option (Bool×AV×List Blk)))} {lt:List ((Nat×Nat)×(Nat→St→Option (Bool×LO)))} {J:Jd Tryz.prog} (h1:SumL J tb) (h2:LpL J fnTab lt) {f id lo0:Nat} {fi:FnI} (hfi:Rf.look fnTab f=some fi) (hu:noTwo (lids (loopsIn fi.code))=true) {p:Pz St} {F:List Hv→Bool×LO} {q:List Hv→St}
  (hq:∀ hs,p.fil hs 0=q hs) (h:∀ hs,(F hs).1=true→iter f id lo0 (ev9 ⟨tyTab,fnTab,tblSum tb,tblLp lt⟩ f id lo0 fi) big (q hs) (fun e st=>some (e,st))=some (pick (F hs).2)) (hb:Nat.beq id bodyId=false:=by rfl):LoopOne J fnTab f id (lpT lo0 p F):=
 lp9 (Γ:=⟨tyTab,fnTab,tblSum tb,tblLp lt⟩) tyTab_ok (FnL.ok fnTab_ok _ _) (LpL.ok h2) (SumL.ok h1 _) mixed hfi hu hq h hb
def tb0:List (Nat×(List PT→Option (Bool×AV×List Blk))):=[(147,zg8),(167,zb9),(173,zg7),(177,zk2),(179,zjt)]
def lt0:List ((Nat×Nat)×(Nat→St→Option (Bool×LO))):=[]
def Γ0:Ctx:=⟨tyTab,fnTab,tblSum tb0,tblLp lt0⟩
theorem z70:SumL J tb0:=SumL.cons zwp (SumL.cons zqq (SumL.cons zw2 (SumL.cons zzf (SumL.cons y0h (SumL.nil)))))
theorem z6y:LpL J fnTab lt0:=LpL.nil
def zj0  : Option (Bool)→Option (AV×List Blk)
 | some r=>some ((.v (.one (.bool r))),[])
 | none=>none
def zk7:List PT→Option (Bool×AV×List Blk)
 | [.one (.s (.flt .f64 a)),.one (.s (.flt .f64 b))]=>sF zj0 (z5j a b)
 | _=>none
theorem y5p:ev8 Γ0 35 [.one (.s (.flt .f64 a0)),.one (.s (.flt .f64 a1))]=zj0 (z5j a0 a1):=tr2 (zxq a0 a1 zj0 rfl (fun c0_=>some c0_)) (by kernel_rfl)
theorem zzs:SumOne J 35 zk7:=mkT z70 z6y fun pts v news hp=>by
 unfold zk7 at hp
 split at hp
 ·exact fin3 (y5p ..) hp
 ·cases hp
def zor  : Option (Bool)→Option (AV×List Blk)
 | some r=>some ((.v (.one (.bool r))),[])
 | none=>none
def zpk:List PT→Option (Bool×AV×List Blk)
 | [.one (.s (.int .i64 n_)),.one (.s (.int .i64 low)),.one (.s (.int .i64 q22))]=>sF zor (z84 n_ low q22)
 | _=>none
theorem y9i:ev8 Γ0 52 [.one (.s (.int .i64 c0)),.one (.s (.int .i64 c1)),.one (.s (.int .i64 c2))]=zor (z84 c0 c1 c2):=tr2 (y3z c0 c1 c2 zor rfl (fun c0_=>some c0_)) (by kernel_rfl)
theorem y53:SumOne J 52 zpk:=mkT z70 z6y fun pts v news hp=>by
 unfold zpk at hp
 split at hp
 ·exact fin3 (y9i ..) hp
 ·cases hp
def zkz  : Option (Bool)→Option (AV×List Blk)
 | some r=>some ((.v (.one (.bool r))),[])
 | none=>none
def zl8:List PT→Option (Bool×AV×List Blk)
 | [.one (.s (.flt .f32 x))]=>sF zkz (z7n x)
 | _=>none
theorem y7a:ev8 Γ0 65 [.one (.s (.flt .f32 a0))]=zkz (z7n a0):=tr2 (y08 a0 zkz rfl (fun c0_=>some c0_)) (by kernel_rfl)
theorem y1b:SumOne J 65 zl8:=mkT z70 z6y fun pts v news hp=>by
 unfold zl8 at hp
 split at hp
 ·exact fin3 (y7a ..) hp
 ·cases hp
def zr6  : Option (Bool)→Option (AV×List Blk)
 | some r=>some ((.v (.one (.bool r))),[])
 | none=>none
def zr3:List PT→Option (Bool×AV×List Blk)
 | [.one (.s (.int .i64 n_)),.one (.s (.int .i64 low)),.one (.s (.int .i64 q22))]=>sF zr6 (z98 n_ low q22)
 | _=>none
theorem ya0:ev8 Γ0 68 [.one (.s (.int .i64 c0)),.one (.s (.int .i64 c1)),.one (.s (.int .i64 c2))]=zr6 (z98 c0 c1 c2):=tr2 (y4o c0 c1 c2 zr6 rfl (fun c0_=>some c0_)) (by kernel_rfl)
theorem y77:SumOne J 68 zr3:=mkT z70 z6y fun pts v news hp=>by
 unfold zr3 at hp
 split at hp
 ·exact fin3 (ya0 ..) hp
 ·cases hp
def zi0  : Option (Int)→Option (AV×List Blk)
 | some r=>some ((.v (.one (.int .i64 r))),[])
 | none=>none
def zhi:List PT→Option (Bool×AV×List Blk)
 | [.one (.row 3 a_n (.fl .f32 a)),.one (.s (.int .i64 q2i))]=>sF zi0 (z51 a_n a q2i)
 | _=>none
theorem y3m:ev8 Γ0 71 [.one (.row 3 a0 (.fl .f32 g1)),.one (.s (.int .i64 c2))]=zi0 (z51 a0 g1 c2):=tr2 (zvp a0 g1 c2 zi0 rfl (fun c0_=>some c0_)) (by kernel_rfl)
theorem zy5:SumOne J 71 zhi:=mkT z70 z6y fun pts v news hp=>by
 unfold zhi at hp
 split at hp
 ·exact fin3 (y3m ..) hp
 ·cases hp
def zk4  : Option (Bool)→Option (AV×List Blk)
 | some r=>some ((.v (.one (.bool r))),[])
 | none=>none
def zjg:List PT→Option (Bool×AV×List Blk)
 | [.one (.s (.flt .f32 x))]=>sF zk4 (z79 x)
 | _=>none
theorem y65:ev8 Γ0 84 [.one (.s (.flt .f32 a0))]=zk4 (z79 a0):=tr2 (zy8 a0 zk4 rfl (fun c0_=>some c0_)) (by kernel_rfl)
theorem y0c:SumOne J 84 zjg:=mkT z70 z6y fun pts v news hp=>by
 unfold zjg at hp
 split at hp
 ·exact fin3 (y65 ..) hp
 ·cases hp
def zhb  : Option (Int)→Option (AV×List Blk)
 | some r=>some ((.v (.one (.int .i64 r))),[])
 | none=>none
def zi5:List PT→Option (Bool×AV×List Blk)
 | [.one (.row 1 a_n (.fl .f32 a)),.one (.s (.int .i64 q2i))]=>sF zhb (z4w a_n a q2i)
 | _=>none
theorem y3f:ev8 Γ0 117 [.one (.row 1 a0 (.fl .f32 g1)),.one (.s (.int .i64 c2))]=zhb (z4w a0 g1 c2):=tr2 (zww a0 g1 c2 zhb rfl (fun c0_=>some c0_)) (by kernel_rfl)
theorem zyo:SumOne J 117 zi5:=mkT z70 z6y fun pts v news hp=>by
 unfold zi5 at hp
 split at hp
 ·exact fin3 (y3f ..) hp
 ·cases hp
def ziz:Option (Unit)→Option (AV×List Blk)
 | some r=>some ((.v (.agg [(.flt .f32 a0),(.flt .f32 a1),(.flt .f32 a2)])),[])
 | none=>none
def zjw:List PT→Option (Bool×AV×List Blk)
 | [.agg [.s (.flt .f32 q2n),.s (.flt .f32 q2q),.s (.flt .f32 q2p)]]=>sF (ziz q2n q2q q2p) (zji q2n q2q q2p)
 | _=>none
theorem y57:ev8 Γ0 118 [.agg [.s (.flt .f32 a0),.s (.flt .f32 a1),.s (.flt .f32 a2)]]=(ziz a0 a1 a2) (zji a0 a1 a2):=tr2 (zxo a0 a1 a2 (ziz a0 a1 a2) rfl (fun _=>some ())) (by kernel_rfl)
theorem y0m:SumOne J 118 zjw:=mkT z70 z6y fun pts v news hp=>by
 unfold zjw at hp
 split at hp
 ·exact fin3 (y57 ..) hp
 ·cases hp
def zml  : Option (Bool)→Option (AV×List Blk)
 | some r=>some ((.v (.one (.bool r))),[])
 | none=>none
def zli:List PT→Option (Bool×AV×List Blk)
 | [.one (.s (.flt .f32 x)),.one (.s (.flt .f32 low)),.one (.s (.flt .f32 q22))]=>sF zml (z6c x low q22)
 | _=>none
theorem y6s:ev8 Γ0 134 [.one (.s (.flt .f32 a0)),.one (.s (.flt .f32 a1)),.one (.s (.flt .f32 a2))]=zml (z6c a0 a1 a2):=tr2 (y0u a0 a1 a2 zml rfl (fun c0_=>some c0_)) (by kernel_rfl)
theorem y20:SumOne J 134 zli:=mkT z70 z6y fun pts v news hp=>by
 unfold zli at hp
 split at hp
 ·exact fin3 (y6s ..) hp
 ·cases hp
def zcr  : Option (Nat)→Option (AV×List Blk)
 | some r=>some ((.v (.one (.flt .f32 r))),[])
 | none=>none
def zct:List PT→Option (Bool×AV×List Blk)
 | [.agg [.row 1 q00 (.fl .f32 q03),.row 1 q02 (.fl .f32 q05),.row 1 q01 (.fl .f32 q04),.row 3 q06 (.fl .f32 q07),.s (.int .i64 q0g),.s (.flt .f32 q0k),.s (.flt .f32 q0j)],.one (.s (.int .i64 i))]=>sF zcr (z30 q00 q03 q02 q05 q01 q04 q06 q07 q0g q0k q0j i)
 | _=>none
theorem zwu:ev8 Γ0 142 [.agg [.row 1 a0 (.fl .f32 g1),.row 1 a2 (.fl .f32 g3),.row 1 a4 (.fl .f32 g5),.row 3 a6 (.fl .f32 g7),.s (.int .i64 c8),.s (.flt .f32 a9),.s (.flt .f32 a10)],.one (.s (.int .i64 c11))]=zcr (z30 a0 g1 a2 g3 a4 g5 a6 g7 c8 a9 a10 c11):=tr2 (zqo a0 g1 a2 g3 a4 g5 a6 g7 c8 a9 a10 c11 zcr rfl (fun c0_=>some c0_)) (by kernel_rfl)
theorem zrb:SumOne J 142 zct:=mkT z70 z6y fun pts v news hp=>by
 unfold zct at hp
 split at hp
 ·exact fin3 (zwu ..) hp
 ·cases hp
def zov  : Option (Nat)→Option (AV×List Blk)
 | some r=>some ((.v (.one (.flt .f32 r))),[])
 | none=>none
def zp4:List PT→Option (Bool×AV×List Blk)
 | [.ptr [.row 1 q00 (.fl .f32 q03),.row 1 q02 (.fl .f32 q05),.row 1 q01 (.fl .f32 q04),.row 3 q06 (.fl .f32 q07),.s (.int .i64 q0g),.s (.flt .f32 q0k),.s (.flt .f32 q0j)],.one (.s (.int .i64 i)),.one (.s (.flt .f32 q3l))]=>sF zov (z89 q00 q03 q02 q05 q01 q04 q06 q07 q0g q0k q0j i q3l)
 | _=>none
theorem y97:ev8 Γ0 151 [.ptr [.row 1 a0 (.fl .f32 g1),.row 1 a2 (.fl .f32 g3),.row 1 a4 (.fl .f32 g5),.row 3 a6 (.fl .f32 g7),.s (.int .i64 c8),.s (.flt .f32 a9),.s (.flt .f32 a10)],.one (.s (.int .i64 c11)),.one (.s (.flt .f32 a12))]=zov (z89 a0 g1 a2 g3 a4 g5 a6 g7 c8 a9 a10 c11 a12):=tr2 (y3u a0 g1 a2 g3 a4 g5 a6 g7 c8 a9 a10 c11 a12 zov rfl (fun c0_=>some c0_)) (by kernel_rfl)
theorem y5j:SumOne J 151 zp4:=mkT z70 z6y fun pts v news hp=>by
 unfold zp4 at hp
 split at hp
 ·exact fin3 (y97 ..) hp
 ·cases hp
def zgb  : Option (Nat)→Option (AV×List Blk)
 | some r=>some ((.v (.one (.flt .f32 r))),[])
 | none=>none
def zgf:List PT→Option (Bool×AV×List Blk)
 | [.ptr [.row 1 q00 (.fl .f32 q03),.row 1 q02 (.fl .f32 q05),.row 1 q01 (.fl .f32 q04),.row 3 q06 (.fl .f32 q07),.s (.int .i64 q0g),.s (.flt .f32 q0k),.s (.flt .f32 q0j)],.one (.s (.int .i64 i))]=>sF zgb (z46 q00 q03 q02 q05 q01 q04 q06 q07 q0g q0k q0j i)
 | _=>none
theorem y24:ev8 Γ0 152 [.ptr [.row 1 a0 (.fl .f32 g1),.row 1 a2 (.fl .f32 g3),.row 1 a4 (.fl .f32 g5),.row 3 a6 (.fl .f32 g7),.s (.int .i64 c8),.s (.flt .f32 a9),.s (.flt .f32 a10)],.one (.s (.int .i64 c11))]=zgb (z46 a0 g1 a2 g3 a4 g5 a6 g7 c8 a9 a10 c11):=tr2 (zua a0 g1 a2 g3 a4 g5 a6 g7 c8 a9 a10 c11 zgb rfl (fun c0_=>some c0_)) (by kernel_rfl)
theorem zwe:SumOne J 152 zgf:=mkT z70 z6y fun pts v news hp=>by
 unfold zgf at hp
 split at hp
 ·exact fin3 (y24 ..) hp
 ·cases hp
def zxm  : Option (Nat)→Option (AV×List Blk)
 | some r=>some ((.v (.one (.flt .f64 r))),[])
 | none=>none
def zye:List PT→Option (Bool×AV×List Blk)
 | []=>sF zxm zei
 | _=>none
theorem yaq  : ev8 Γ0 158 []=zxm (zei):=tr2 (y8m  zxm rfl (fun c0_=>some c0_)) (by kernel_rfl)
theorem y90:SumOne J 158 zye:=mkT z70 z6y fun pts v news hp=>by
 unfold zye at hp
 split at hp
 ·exact fin3 yaq hp
 ·cases hp
def zsy  : Option (Nat)→Option (AV×List Blk)
 | some r=>some ((.v (.one (.flt .f32 r))),[])
 | none=>none
def zsd:List PT→Option (Bool×AV×List Blk)
 | [.one (.s (.flt .f32 a)),.one (.s (.flt .f32 b)),.one (.s (.flt .f32 q3g))]=>sF zsy (zcy a b q3g)
 | _=>none
theorem y9j:ev8 Γ0 162 [.one (.s (.flt .f32 a0)),.one (.s (.flt .f32 a1)),.one (.s (.flt .f32 a2))]=zsy (zcy a0 a1 a2):=tr2 (y56 a0 a1 a2 zsy rfl (fun c0_=>some c0_)) (by kernel_rfl)
theorem y6q:SumOne J 162 zsd:=mkT z70 z6y fun pts v news hp=>by
 unfold zsd at hp
 split at hp
 ·exact fin3 (y9j ..) hp
 ·cases hp
def zjj  : Option (Nat)→Option (AV×List Blk)
 | some r=>some ((.v (.one (.flt .f32 r))),[])
 | none=>none
def zk1:List PT→Option (Bool×AV×List Blk)
 | [.one (.s (.flt .f64 x))]=>sF zjj (z5k x)
 | _=>none
theorem y5w:ev8 Γ0 163 [.one (.s (.flt .f64 a0))]=zjj (z5k a0):=tr2 (zxe a0 zjj rfl (fun c0_=>some c0_)) (by kernel_rfl)
theorem zzi:SumOne J 163 zk1:=mkT z70 z6y fun pts v news hp=>by
 unfold zk1 at hp
 split at hp
 ·exact fin3 (y5w ..) hp
 ·cases hp
def zyk  : Option (Nat)→Option (AV×List Blk)
 | some r=>some ((.v (.one (.flt .f64 r))),[])
 | none=>none
def zxf:List PT→Option (Bool×AV×List Blk)
 | [.one (.s (.flt .f64 x))]=>sF zyk (zdy x)
 | _=>none
theorem yar:ev8 Γ0 168 [.one (.s (.flt .f64 a0))]=zyk (zdy a0):=tr2 (y7d a0 zyk rfl (fun c0_=>some c0_)) (by kernel_rfl)
theorem y9g:SumOne J 168 zxf:=mkT z70 z6y fun pts v news hp=>by
 unfold zxf at hp
 split at hp
 ·exact fin3 (yar ..) hp
 ·cases hp
def tb1:List (Nat×(List PT→Option (Bool×AV×List Blk))):=(35,zk7)::(52,zpk)::(65,zl8)::(68,zr3)::(71,zhi)::(84,zjg)::(117,zi5)::(118,zjw)::(134,zli)::(142,zct)::(151,zp4)::(152,zgf)::(158,zye)::(162,zsd)::(163,zk1)::(168,zxf)::tb0
def lt1:List ((Nat×Nat)×(Nat→St→Option (Bool×LO))):=lt0
def Γ1:Ctx:=⟨tyTab,fnTab,tblSum tb1,tblLp lt1⟩
theorem z5x:SumL J tb1:=SumL.cons zzs (SumL.cons y53 (SumL.cons y1b (SumL.cons y77 (SumL.cons zy5 (SumL.cons y0c (SumL.cons zyo (SumL.cons y0m (SumL.cons y20 (SumL.cons zrb (SumL.cons y5j (SumL.cons zwe (SumL.cons y90 (SumL.cons y6q (SumL.cons zzi (SumL.cons y9g (z70))))))))))))))))
theorem z63:LpL J fnTab lt1:=z6y
def znq  : Option (Nat×Bool)→Option (AV×List Blk)
 | some r=>some ((.tup [(.one (.flt .f32 r.1)),(.one (.bool r.2))]),[])
 | none=>none
def zo8:List PT→Option (Bool×AV×List Blk)
 | [.one (.s (.flt .f32 x))]=>sF znq (z65 x)
 | _=>none
theorem y86:ev8 Γ1 59 [.one (.s (.flt .f32 a0))]=znq (z65 a0):=tr2 (y27 a0 znq rfl (fun c0_ c1_=>some (c0_,c1_))) (by kernel_rfl)
theorem y3l:SumOne J 59 zo8:=mkT z5x z63 fun pts v news hp=>by
 unfold zo8 at hp
 split at hp
 ·exact fin3 (y86 ..) hp
 ·cases hp
def ziw  : Option (Int)→Option (AV×List Blk)
 | some r=>some ((.v (.one (.int .i64 r))),[])
 | none=>none
def ziv:List PT→Option (Bool×AV×List Blk)
 | [.agg [.row 1 q1r (.fl .f32 q25),.row 1 q1x (.fl .f32 q28),.row 1 q1y (.fl .f32 q29)],.one (.s (.int .i64 q2i))]=>sF ziw (z5o q1r q25 q1x q28 q1y q29 q2i)
 | _=>none
theorem y4y:ev8 Γ1 70 [.agg [.row 1 a0 (.fl .f32 g1),.row 1 a2 (.fl .f32 g3),.row 1 a4 (.fl .f32 g5)],.one (.s (.int .i64 c6))]=ziw (z5o a0 g1 a2 g3 a4 g5 c6):=tr2 (zxs a0 g1 a2 g3 a4 g5 c6 ziw rfl (fun c0_=>some c0_)) (by kernel_rfl)
theorem zzz:SumOne J 70 ziv:=mkT z5x z63 fun pts v news hp=>by
 unfold ziv at hp
 split at hp
 ·exact fin3 (y4y ..) hp
 ·cases hp
def zju  : Option (Nat×Bool)→Option (AV×List Blk)
 | some r=>some ((.tup [(.one (.flt .f32 r.1)),(.one (.bool r.2))]),[])
 | none=>none
def zjf:List PT→Option (Bool×AV×List Blk)
 | [.one (.s (.flt .f32 x))]=>sF zju (z48 x)
 | _=>none
theorem y60:ev8 Γ1 72 [.one (.s (.flt .f32 a0))]=zju (z48 a0):=tr2 (zyp a0 zju rfl (fun c0_ c1_=>some (c0_,c1_))) (by kernel_rfl)
theorem y0l:SumOne J 72 zjf:=mkT z5x z63 fun pts v news hp=>by
 unfold zjf at hp
 split at hp
 ·exact fin3 (y60 ..) hp
 ·cases hp
def zmi  : Option (Bool)→Option (AV×List Blk)
 | some r=>some ((.v (.one (.bool r))),[])
 | none=>none
def zmg:List PT→Option (Bool×AV×List Blk)
 | [.one (.s (.flt .f32 x))]=>sF zmi (z6h x)
 | _=>none
theorem y68:ev8 Γ1 83 [.one (.s (.flt .f32 a0))]=zmi (z6h a0):=tr2 (y0t a0 zmi rfl (fun c0_=>some c0_)) (by kernel_rfl)
theorem y2b:SumOne J 83 zmg:=mkT z5x z63 fun pts v news hp=>by
 unfold zmg at hp
 split at hp
 ·exact fin3 (y68 ..) hp
 ·cases hp
def zo3  : Option (Bool)→Option (AV×List Blk)
 | some r=>some ((.v (.one (.bool r))),[])
 | none=>none
def znv:List PT→Option (Bool×AV×List Blk)
 | [.one (.s (.flt .f32 x))]=>sF zo3 (z75 x)
 | _=>none
theorem y8c:ev8 Γ1 90 [.one (.s (.flt .f32 a0))]=zo3 (z75 a0):=tr2 (y2e a0 zo3 rfl (fun c0_=>some c0_)) (by kernel_rfl)
theorem y4f:SumOne J 90 znv:=mkT z5x z63 fun pts v news hp=>by
 unfold znv at hp
 split at hp
 ·exact fin3 (y8c ..) hp
 ·cases hp
def zel  : Option (Bool)→Option (AV×List Blk)
 | some r=>some ((.v (.one (.bool r))),[])
 | none=>none
def zdf:List PT→Option (Bool×AV×List Blk)
 | [.one (.s (.flt .f32 x))]=>sF zel (z3h x)
 | _=>none
theorem zy7:ev8 Γ1 115 [.one (.s (.flt .f32 a0))]=zel (z3h a0):=tr2 (zrx a0 zel rfl (fun c0_=>some c0_)) (by kernel_rfl)
theorem zt4:SumOne J 115 zdf:=mkT z5x z63 fun pts v news hp=>by
 unfold zdf at hp
 split at hp
 ·exact fin3 (zy7 ..) hp
 ·cases hp
def zjl  : Option (Bool)→Option (AV×List Blk)
 | some r=>some ((.v (.one (.bool r))),[])
 | none=>none
def zjh:List PT→Option (Bool×AV×List Blk)
 | [.agg [.s (.flt .f32 q2n),.s (.flt .f32 q2q),.s (.flt .f32 q2p)],.agg [.s (.flt .f32 q33),.s (.flt .f32 q38),.s (.flt .f32 q37)]]=>sF zjl (z5q q2n q2q q2p q33 q38 q37)
 | _=>none
theorem y5n:ev8 Γ1 119 [.agg [.s (.flt .f32 a0),.s (.flt .f32 a1),.s (.flt .f32 a2)],.agg [.s (.flt .f32 a3),.s (.flt .f32 a4),.s (.flt .f32 a5)]]=zjl (z5q a0 a1 a2 a3 a4 a5):=tr2 (zyx a0 a1 a2 a3 a4 a5 zjl rfl (fun c0_=>some c0_)) (by kernel_rfl)
theorem y0o:SumOne J 119 zjh:=mkT z5x z63 fun pts v news hp=>by
 unfold zjh at hp
 split at hp
 ·exact fin3 (y5n ..) hp
 ·cases hp
def zm7  : Option (Bool)→Option (AV×List Blk)
 | some r=>some ((.v (.one (.bool r))),[])
 | none=>none
def zly:List PT→Option (Bool×AV×List Blk)
 | [.one (.s (.flt .f32 x))]=>sF zm7 (z6f x)
 | _=>none
theorem y6v:ev8 Γ1 121 [.one (.s (.flt .f32 a0))]=zm7 (z6f a0):=tr2 (y0j a0 zm7 rfl (fun c0_=>some c0_)) (by kernel_rfl)
theorem y1i:SumOne J 121 zly:=mkT z5x z63 fun pts v news hp=>by
 unfold zly at hp
 split at hp
 ·exact fin3 (y6v ..) hp
 ·cases hp
def zm2  : Option (Bool)→Option (AV×List Blk)
 | some r=>some ((.v (.one (.bool r))),[])
 | none=>none
def zkt:List PT→Option (Bool×AV×List Blk)
 | [.ptr [.row 1 q00 (.fl .f32 q03),.row 1 q02 (.fl .f32 q05),.row 1 q01 (.fl .f32 q04),.row 3 q06 (.fl .f32 q07),.s (.int .i64 q0g),.s (.flt .f32 q0k),.s (.flt .f32 q0j)],.one (.s (.int .i64 i)),.one (.s (.flt .f32 q0l))]=>sF zm2 (z6d q00 q03 q02 q05 q01 q04 q06 q07 q0g q0k q0j i q0l)
 | _=>none
theorem y76:ev8 Γ1 128 [.ptr [.row 1 a0 (.fl .f32 g1),.row 1 a2 (.fl .f32 g3),.row 1 a4 (.fl .f32 g5),.row 3 a6 (.fl .f32 g7),.s (.int .i64 c8),.s (.flt .f32 a9),.s (.flt .f32 a10)],.one (.s (.int .i64 c11)),.one (.s (.flt .f32 a12))]=zm2 (z6d a0 g1 a2 g3 a4 g5 a6 g7 c8 a9 a10 c11 a12):=tr2 (y0i a0 g1 a2 g3 a4 g5 a6 g7 c8 a9 a10 c11 a12 zm2 rfl (fun c0_=>some c0_)) (by kernel_rfl)
theorem y2j:SumOne J 128 zkt:=mkT z5x z63 fun pts v news hp=>by
 unfold zkt at hp
 split at hp
 ·exact fin3 (y76 ..) hp
 ·cases hp
def zp3  : Option (Nat×Nat×Bool)→Option (AV×List Blk)
 | some r=>some ((.tup [(.one (.flt .f32 r.1)),(.one (.flt .f32 r.2.1)),(.one (.bool r.2.2))]),[])
 | none=>none
def zpd:List PT→Option (Bool×AV×List Blk)
 | [.one (.s (.flt .f32 x)),.one (.s (.flt .f32 y))]=>sF zp3 (z5f x y)
 | _=>none
theorem y99:ev8 Γ1 131 [.one (.s (.flt .f32 a0)),.one (.s (.flt .f32 a1))]=zp3 (z5f a0 a1):=tr2 (y41 a0 a1 zp3 rfl (fun c0_ c1_ c2_=>some (c0_,c1_,c2_))) (by kernel_rfl)
theorem y4r:SumOne J 131 zpd:=mkT z5x z63 fun pts v news hp=>by
 unfold zpd at hp
 split at hp
 ·exact fin3 (y99 ..) hp
 ·cases hp
def zg4  : Option (Bool)→Option (AV×List Blk)
 | some r=>some ((.v (.one (.bool r))),[])
 | none=>none
def zgg:List PT→Option (Bool×AV×List Blk)
 | [.one (.s (.flt .f32 x))]=>sF zg4 (z49 x)
 | _=>none
theorem y1o:ev8 Γ1 153 [.one (.s (.flt .f32 a0))]=zg4 (z49 a0):=tr2 (zuq a0 zg4 rfl (fun c0_=>some c0_)) (by kernel_rfl)
theorem zwb:SumOne J 153 zgg:=mkT z5x z63 fun pts v news hp=>by
 unfold zgg at hp
 split at hp
 ·exact fin3 (y1o ..) hp
 ·cases hp
def zb2  : Option (Bool)→Option (AV×List Blk)
 | some r=>some ((.v (.one (.bool r))),[])
 | none=>none
def zb5:List PT→Option (Bool×AV×List Blk)
 | [.agg [.row 1 q00 (.fl .f32 q03),.row 1 q02 (.fl .f32 q05),.row 1 q01 (.fl .f32 q04),.row 3 q06 (.fl .f32 q07),.s (.int .i64 q0g),.s (.flt .f32 q0k),.s (.flt .f32 q0j)],.one (.s (.int .i64 i))]=>sF zb2 (z2n q00 q03 q02 q05 q01 q04 q06 q07 q0g q0k q0j i)
 | _=>none
theorem zv0:ev8 Γ1 155 [.agg [.row 1 a0 (.fl .f32 g1),.row 1 a2 (.fl .f32 g3),.row 1 a4 (.fl .f32 g5),.row 3 a6 (.fl .f32 g7),.s (.int .i64 c8),.s (.flt .f32 a9),.s (.flt .f32 a10)],.one (.s (.int .i64 c11))]=zb2 (z2n a0 g1 a2 g3 a4 g5 a6 g7 c8 a9 a10 c11):=tr2 (zph a0 g1 a2 g3 a4 g5 a6 g7 c8 a9 a10 c11 zb2 rfl (fun c0_=>some c0_)) (by kernel_rfl)
theorem zqu:SumOne J 155 zb5:=mkT z5x z63 fun pts v news hp=>by
 unfold zb5 at hp
 split at hp
 ·exact fin3 (zv0 ..) hp
 ·cases hp
def zp1  : Option (Bool)→Option (AV×List Blk)
 | some r=>some ((.v (.one (.bool r))),[])
 | none=>none
def zpb:List PT→Option (Bool×AV×List Blk)
 | [.one (.s (.flt .f32 q1p))]=>sF zp1 (z83 q1p)
 | _=>none
theorem y94:ev8 Γ1 156 [.one (.s (.flt .f32 a0))]=zp1 (z83 a0):=tr2 (y2y a0 zp1 rfl (fun c0_=>some c0_)) (by kernel_rfl)
theorem y5m:SumOne J 156 zpb:=mkT z5x z63 fun pts v news hp=>by
 unfold zpb at hp
 split at hp
 ·exact fin3 (y94 ..) hp
 ·cases hp
def zoq  : Option (Bool)→Option (AV×List Blk)
 | some r=>some ((.v (.one (.bool r))),[])
 | none=>none
def zp7:List PT→Option (Bool×AV×List Blk)
 | [.one (.s (.flt .f64 x))]=>sF zoq (z86 x)
 | _=>none
theorem y93:ev8 Γ1 159 [.one (.s (.flt .f64 a0))]=zoq (z86 a0):=tr2 (y44 a0 zoq rfl (fun c0_=>some c0_)) (by kernel_rfl)
theorem y4p:SumOne J 159 zp7:=mkT z5x z63 fun pts v news hp=>by
 unfold zp7 at hp
 split at hp
 ·exact fin3 (y93 ..) hp
 ·cases hp
def z8s:St:=(.mk [(0,(.v (.one (.vw 0 0 a0 1)))),(3,(.v (.one (.sl 1 0 a1 1)))),(4,(.v (.one (.int .i64 c2))))] [(.mk false (.fl .f32 g3)),(.mk true (.fl .f32 g4))])
def zcq:St:=(.mk [(0,(.v (.one (.vw 0 0 a0 1)))),(3,(.v (.one (.sl 1 0 a1 1)))),(4,(.v (.one (.int .i64 c3)))),(11,(.v (.one (.bool e4))))] [(.mk false (.fl .f32 g2)),(.mk true (.fl .f32 g5))])
def ze2:Option ((Int×Bool×(List Nat)))→Option (Ex×St)
 | none=>none
 | some r=>some ((.exit 0),(zcq a0 a1 g2 r.1 r.2.1 r.2.2))
def zke (x:Option ((Int×Bool×(List Nat)))):LO:=(.one (.exit 0) (zcq a0 a1 g2 (x.getD default).1 (x.getD default).2.1 (x.getD default).2.2))
def zv2:Bool×LO:=sL (zke a0 a1 g3) (z10 a0 a1 g3 big c2 g4)
def zme:Nat→St→Option (Bool×LO):=lpT 1 (pSt [(pTm 0 (pV (pOne (pVw 0 (liN 0) 1)))),(pTm 3 (pV (pOne (pSl 1 (liN 0) 1)))),(pTm 4 (pV (pOne (pInt .i64))))] [(pBlk false (pFl .f32)),(pBlk true (pFl .f32))]) (fun hs=>zv2 (hN hs 0) (hN hs 1) (hI hs 2) (hLn hs 3) (hLn hs 4))
theorem zxz:∀ x:Option ((Int×Bool×(List Nat))),x.isSome=true→(ze2 a0 a1 g2) x=some (pick (zke a0 a1 g2 x))
 | none,h=>by cases h
 | some r,_=>rfl
theorem zy9 (K:Ex→St→Option (Ex×St)):ev9 Γ1 45 3 1 fi45 (z8s a0 a1 c2 g3 g4) K=z1v a0 a1 g3 c2 g4 (fun i' b1'=>K .normal (z8s a0 a1 i' g3 b1')) (fun c0_ c1_ c2_=>K (.exit 0) (zcq a0 a1 g3 c0_ c1_ c2_)):=by kernel_rfl
theorem zx8:∀ (n:Nat) (i:Int) (b1:List Nat),iter 45 3 1 (ev9 Γ1 45 3 1 fi45) n (z8s a0 a1 i g2 b1) (fun e st=>some (e,st))=(ze2 a0 a1 g2) (z10 a0 a1 g2 n i b1):=by
 intro n
 induction n with
 | zero=>intros;rfl
 | succ n ih=>
  intro i b1
  refine Eq.trans (iter_succ ..) (Eq.trans (zy9 ..) (Eq.trans ?_ (zsk a0 a1 g2 i b1 (ze2 a0 a1 g2) rfl (fun i' b1'=>z10 a0 a1 g2 n i' b1') (fun c0_ c1_ c2_=>some (c0_,c1_,c2_)))))
  exact congrArg (fun kn_=>z1v a0 a1 g2 i b1 kn_ _) (funext fun i'=>funext fun b1'=>ih ..)
theorem zth:LoopOne J fnTab 45 3 zme:=lpK z5x z63 (fi:=fi45) (by kernel_rfl) (by kernel_rfl) (q:=fun hs=>(z8s (hN hs 0) (hN hs 1) (hI hs 2) (hLn hs 3) (hLn hs 4))) (fun hs=>by kernel_rfl) fun hs h1=>Eq.trans (zx8 (hN hs 0) (hN hs 1) (hLn hs 3) big (hI hs 2) (hLn hs 4)) (zxz (hN hs 0) (hN hs 1) (hLn hs 3) _ h1)
def z6u:St:=(.mk [(1,(.v (.one (.vw 4 0 a0 1)))),(2,(.v (.one (.ptr 5 0 7)))),(5,(.v (.one (.flt .f32 a1)))),(6,(.v (.one (.int .i64 c2))))] [(.mk false (.fl .f32 g3)),(.mk false (.fl .f32 g4)),(.mk false (.fl .f32 g5)),(.mk false (.fl .f32 g6)),(.mk false (.fl .f32 g7)),(.mk true (.cells [(.vw 0 0 a8 1),(.vw 1 0 a9 1),(.vw 2 0 a10 1),(.vw 3 0 a11 3),(.int .i64 c12),(.flt .f32 a13),(.flt .f32 a14)]))])
def z8z:St:=(.mk [(1,(.v (.one (.vw 4 0 a0 1)))),(2,(.v (.one (.ptr 5 0 7)))),(5,(.v (.one (.flt .f32 a13)))),(6,(.v (.one (.int .i64 c14)))),(11,(.v (.one (.bool e15))))] [(.mk false (.fl .f32 g1)),(.mk false (.fl .f32 g2)),(.mk false (.fl .f32 g3)),(.mk false (.fl .f32 g4)),(.mk false (.fl .f32 g5)),(.mk true (.cells [(.vw 0 0 a6 1),(.vw 1 0 a7 1),(.vw 2 0 a8 1),(.vw 3 0 a9 3),(.int .i64 c10),(.flt .f32 a11),(.flt .f32 a12)]))])
def z9t:Option ((Nat×Int×Bool))→Option (Ex×St)
 | none=>none
 | some r=>some ((.exit 0),(z8z a0 g1 g2 g3 g4 g5 a6 a7 a8 a9 c10 a11 a12 r.1 r.2.1 r.2.2))
def zg6 (x:Option ((Nat×Int×Bool))):LO:=(.one (.exit 0) (z8z a0 g1 g2 g3 g4 g5 a6 a7 a8 a9 c10 a11 a12 (x.getD default).1 (x.getD default).2.1 (x.getD default).2.2))
def zqw:Bool×LO:=sL (zg6 a0 g3 g4 g5 g6 g7 a8 a9 a10 a11 c12 a13 a14) (z0d a0 g6 g7 a11 big a1 c2)
def zh3:Nat→St→Option (Bool×LO):=lpT 5 (pSt [(pTm 1 (pV (pOne (pVw 4 (liN 0) 1)))),(pTm 2 (pV (pOne (pPtr 5 (liN 0) 7)))),(pTm 5 (pV (pOne (pFlt .f32)))),(pTm 6 (pV (pOne (pInt .i64))))] [(pBlk false (pFl .f32)),(pBlk false (pFl .f32)),(pBlk false (pFl .f32)),(pBlk false (pFl .f32)),(pBlk false (pFl .f32)),(pBlk true (pCells [(pVw 0 (liN 0) 1),(pVw 1 (liN 0) 1),(pVw 2 (liN 0) 1),(pVw 3 (liN 0) 3),(pInt .i64),(pFlt .f32),(pFlt .f32)]))]) (fun hs=>zqw (hN hs 0) (hN hs 1) (hI hs 2) (hLn hs 3) (hLn hs 4) (hLn hs 5) (hLn hs 6) (hLn hs 7) (hN hs 8) (hN hs 9) (hN hs 10) (hN hs 11) (hI hs 12) (hN hs 13) (hN hs 14))
theorem ztm:∀ x:Option ((Nat×Int×Bool)),x.isSome=true→(z9t a0 g1 g2 g3 g4 g5 a6 a7 a8 a9 c10 a11 a12) x=some (pick (zg6 a0 g1 g2 g3 g4 g5 a6 a7 a8 a9 c10 a11 a12 x))
 | none,h=>by cases h
 | some r,_=>rfl
theorem ztq (K:Ex→St→Option (Ex×St)):ev9 Γ1 60 3 5 fi60 (z6u a0 a1 c2 g3 g4 g5 g6 g7 a8 a9 a10 a11 c12 a13 a14) K=z15 a0 g6 g7 a11 a1 c2 (fun all' i'=>K .normal (z6u a0 all' i' g3 g4 g5 g6 g7 a8 a9 a10 a11 c12 a13 a14)) (fun c0_ c1_ c2_=>K (.exit 0) (z8z a0 g3 g4 g5 g6 g7 a8 a9 a10 a11 c12 a13 a14 c0_ c1_ c2_)):=by kernel_rfl
theorem zt0:∀ (n all:Nat) (i:Int),iter 60 3 5 (ev9 Γ1 60 3 5 fi60) n (z6u a0 all i g1 g2 g3 g4 g5 a6 a7 a8 a9 c10 a11 a12) (fun e st=>some (e,st))=(z9t a0 g1 g2 g3 g4 g5 a6 a7 a8 a9 c10 a11 a12) (z0d a0 g4 g5 a9 n all i):=by
 intro n
 induction n with
 | zero=>intros;rfl
 | succ n ih=>
  intro all i
  refine Eq.trans (iter_succ ..) (Eq.trans (ztq ..) (Eq.trans ?_ (zom a0 g4 g5 a9 all i (z9t a0 g1 g2 g3 g4 g5 a6 a7 a8 a9 c10 a11 a12) rfl (fun all' i'=>z0d a0 g4 g5 a9 n all' i') (fun c0_ c1_ c2_=>some (c0_,c1_,c2_)))))
  exact congrArg (fun kn_=>z15 a0 g4 g5 a9 all i kn_ _) (funext fun all'=>funext fun i'=>ih ..)
theorem zoy:LoopOne J fnTab 60 3 zh3:=lpK z5x z63 (fi:=fi60) (by kernel_rfl) (by kernel_rfl) (q:=fun hs=>(z6u (hN hs 0) (hN hs 1) (hI hs 2) (hLn hs 3) (hLn hs 4) (hLn hs 5) (hLn hs 6) (hLn hs 7) (hN hs 8) (hN hs 9) (hN hs 10) (hN hs 11) (hI hs 12) (hN hs 13) (hN hs 14))) (fun hs=>by kernel_rfl) fun hs h1=>Eq.trans (zt0 (hN hs 0) (hLn hs 3) (hLn hs 4) (hLn hs 5) (hLn hs 6) (hLn hs 7) (hN hs 8) (hN hs 9) (hN hs 10) (hN hs 11) (hI hs 12) (hN hs 13) (hN hs 14) big (hN hs 1) (hI hs 2)) (ztm (hN hs 0) (hLn hs 3) (hLn hs 4) (hLn hs 5) (hLn hs 6) (hLn hs 7) (hN hs 8) (hN hs 9) (hN hs 10) (hN hs 11) (hI hs 12) (hN hs 13) (hN hs 14) _ h1)
def zdj:St:=(.mk [(0,(.v (.one (.ptr 4 0 7)))),(1,(.v (.one (.vw 5 0 a0 1)))),(5,(.v (.one (.flt .f32 a1)))),(6,(.v (.one (.int .i64 c2))))] [(.mk false (.fl .f32 g3)),(.mk false (.fl .f32 g4)),(.mk false (.fl .f32 g5)),(.mk false (.fl .f32 g6)),(.mk false (.cells [(.vw 0 0 a7 1),(.vw 1 0 a8 1),(.vw 2 0 a9 1),(.vw 3 0 a10 3),(.int .i64 c11),(.flt .f32 a12),(.flt .f32 a13)])),(.mk false (.fl .f32 g14))])
def zhr:St:=(.mk [(0,(.v (.one (.ptr 4 0 7)))),(1,(.v (.one (.vw 5 0 a0 1)))),(5,(.v (.one (.flt .f32 a13)))),(6,(.v (.one (.int .i64 c14)))),(12,(.v (.one (.bool e15))))] [(.mk false (.fl .f32 g1)),(.mk false (.fl .f32 g2)),(.mk false (.fl .f32 g3)),(.mk false (.fl .f32 g4)),(.mk false (.cells [(.vw 0 0 a5 1),(.vw 1 0 a6 1),(.vw 2 0 a7 1),(.vw 3 0 a8 3),(.int .i64 c9),(.flt .f32 a10),(.flt .f32 a11)])),(.mk false (.fl .f32 g12))])
def zk5:Option ((Nat×Int×Bool))→Option (Ex×St)
 | none=>none
 | some r=>some ((.exit 0),(zhr a0 g1 g2 g3 g4 a5 a6 a7 a8 c9 a10 a11 g12 r.1 r.2.1 r.2.2))
def zqb (x:Option ((Nat×Int×Bool))):LO:=(.one (.exit 0) (zhr a0 g1 g2 g3 g4 a5 a6 a7 a8 c9 a10 a11 g12 (x.getD default).1 (x.getD default).2.1 (x.getD default).2.2))
def y1l:Bool×LO:=sL (zqb a0 g3 g4 g5 g6 a7 a8 a9 a10 c11 a12 a13 g14) (z0u a0 g6 a10 g14 big a1 c2)
def zso:Nat→St→Option (Bool×LO):=lpT 6 (pSt [(pTm 0 (pV (pOne (pPtr 4 (liN 0) 7)))),(pTm 1 (pV (pOne (pVw 5 (liN 0) 1)))),(pTm 5 (pV (pOne (pFlt .f32)))),(pTm 6 (pV (pOne (pInt .i64))))] [(pBlk false (pFl .f32)),(pBlk false (pFl .f32)),(pBlk false (pFl .f32)),(pBlk false (pFl .f32)),(pBlk false (pCells [(pVw 0 (liN 0) 1),(pVw 1 (liN 0) 1),(pVw 2 (liN 0) 1),(pVw 3 (liN 0) 3),(pInt .i64),(pFlt .f32),(pFlt .f32)])),(pBlk false (pFl .f32))]) (fun hs=>y1l (hN hs 0) (hN hs 1) (hI hs 2) (hLn hs 3) (hLn hs 4) (hLn hs 5) (hLn hs 6) (hN hs 7) (hN hs 8) (hN hs 9) (hN hs 10) (hI hs 11) (hN hs 12) (hN hs 13) (hLn hs 14))
theorem y4s:∀ x:Option ((Nat×Int×Bool)),x.isSome=true→(zk5 a0 g1 g2 g3 g4 a5 a6 a7 a8 c9 a10 a11 g12) x=some (pick (zqb a0 g1 g2 g3 g4 a5 a6 a7 a8 c9 a10 a11 g12 x))
 | none,h=>by cases h
 | some r,_=>rfl
theorem y4w (K:Ex→St→Option (Ex×St)):ev9 Γ1 73 3 6 fi73 (zdj a0 a1 c2 g3 g4 g5 g6 a7 a8 a9 a10 c11 a12 a13 g14) K=z3j a0 g6 a10 g14 a1 c2 (fun sum' i'=>K .normal (zdj a0 sum' i' g3 g4 g5 g6 a7 a8 a9 a10 c11 a12 a13 g14)) (fun c0_ c1_ c2_=>K (.exit 0) (zhr a0 g3 g4 g5 g6 a7 a8 a9 a10 c11 a12 a13 g14 c0_ c1_ c2_)):=by kernel_rfl
theorem y4q:∀ (n sum:Nat) (i:Int),iter 73 3 6 (ev9 Γ1 73 3 6 fi73) n (zdj a0 sum i g1 g2 g3 g4 a5 a6 a7 a8 c9 a10 a11 g12) (fun e st=>some (e,st))=(zk5 a0 g1 g2 g3 g4 a5 a6 a7 a8 c9 a10 a11 g12) (z0u a0 g4 a8 g12 n sum i):=by
 intro n
 induction n with
 | zero=>intros;rfl
 | succ n ih=>
  intro sum i
  refine Eq.trans (iter_succ ..) (Eq.trans (y4w ..) (Eq.trans ?_ (zxk a0 g4 a8 g12 sum i (zk5 a0 g1 g2 g3 g4 a5 a6 a7 a8 c9 a10 a11 g12) rfl (fun sum' i'=>z0u a0 g4 a8 g12 n sum' i') (fun c0_ c1_ c2_=>some (c0_,c1_,c2_)))))
  exact congrArg (fun kn_=>z3j a0 g4 a8 g12 sum i kn_ _) (funext fun sum'=>funext fun i'=>ih ..)
theorem y07:LoopOne J fnTab 73 3 zso:=lpK z5x z63 (fi:=fi73) (by kernel_rfl) (by kernel_rfl) (q:=fun hs=>(zdj (hN hs 0) (hN hs 1) (hI hs 2) (hLn hs 3) (hLn hs 4) (hLn hs 5) (hLn hs 6) (hN hs 7) (hN hs 8) (hN hs 9) (hN hs 10) (hI hs 11) (hN hs 12) (hN hs 13) (hLn hs 14))) (fun hs=>by kernel_rfl) fun hs h1=>Eq.trans (y4q (hN hs 0) (hLn hs 3) (hLn hs 4) (hLn hs 5) (hLn hs 6) (hN hs 7) (hN hs 8) (hN hs 9) (hN hs 10) (hI hs 11) (hN hs 12) (hN hs 13) (hLn hs 14) big (hN hs 1) (hI hs 2)) (y4s (hN hs 0) (hLn hs 3) (hLn hs 4) (hLn hs 5) (hLn hs 6) (hN hs 7) (hN hs 8) (hN hs 9) (hN hs 10) (hI hs 11) (hN hs 12) (hN hs 13) (hLn hs 14) _ h1)
def z4l:St:=(.mk [(0,(.v (.one (.vw 0 0 a0 1)))),(1,(.v (.one (.bool e1)))),(7,(.v (.one (.int .i64 c2)))),(8,(.v (.one (.int .i64 c3))))] [(.mk false (.bl m4))])
def z6q(sn:Nat)(v:Bool)(t7:Int)(b0:List Bool)(c0_:Int):St:=(.mk [(4,(.v (.one (.int .i64 c0_))))] [(.mk false (.bl b0))])
def z6r:St:=(.mk [(0,(.v (.one (.vw 0 0 a0 1)))),(1,(.v (.one (.bool e1)))),(7,(.v (.one (.int .i64 c2)))),(8,(.v (.one (.int .i64 c4)))),(9,(.v (.one (.bool e5))))] [(.mk false (.bl m3))])
def z77:Option ((Int)⊕(Int×Bool))→Option (Ex×St)
 | none=>none
 | some (Sum.inl r)=>some (.ret,(z6q a0 e1 c2 m3 r))
 | some (Sum.inr r)=>some ((.exit 0),(z6r a0 e1 c2 m3 r.1 r.2))
def zbh (x:Option ((Int)⊕(Int×Bool))):LO:=(.two (oL x) (.one .ret (z6q a0 e1 c2 m3 ((tL x).getD default))) (.one (.exit 0) (z6r a0 e1 c2 m3 ((tR x).getD default).1 ((tR x).getD default).2)))
def zm6:Bool×LO:=sL (zbh a0 e1 c2 m4) (z04 a0 e1 c2 m4 big c3)
def zcn:Nat→St→Option (Bool×LO):=lpT 1 (pSt [(pTm 0 (pV (pOne (pVw 0 (liN 0) 1)))),(pTm 1 (pV (pOne pBool))),(pTm 7 (pV (pOne (pInt .i64)))),(pTm 8 (pV (pOne (pInt .i64))))] [(pBlk false pBl)]) (fun hs=>zm6 (hN hs 0) (hB hs 1) (hI hs 2) (hI hs 3) (hLb hs 4))
theorem znb:∀ x:Option ((Int)⊕(Int×Bool)),x.isSome=true→(z77 a0 e1 c2 m3) x=some (pick (zbh a0 e1 c2 m3 x))
 | none,h=>by cases h
 | some (Sum.inl r),_=>rfl
 | some (Sum.inr r),_=>rfl
theorem zns (K:Ex→St→Option (Ex×St)):ev9 Γ1 113 2 1 fi113 (z4l a0 e1 c2 c3 m4) K=z0t a0 e1 c2 m4 c3 (fun t8'=>K .normal (z4l a0 e1 c2 t8' m4)) (fun c0_=>K .ret (z6q a0 e1 c2 m4 c0_)) (fun c0_ c1_=>K (.exit 0) (z6r a0 e1 c2 m4 c0_ c1_)):=by kernel_rfl
theorem zn3:∀ (n:Nat) (t8:Int),iter 113 2 1 (ev9 Γ1 113 2 1 fi113) n (z4l a0 e1 c2 t8 m3) (fun e st=>some (e,st))=(z77 a0 e1 c2 m3) (z04 a0 e1 c2 m3 n t8):=by
 intro n
 induction n with
 | zero=>intros;rfl
 | succ n ih=>
  intro t8
  refine Eq.trans (iter_succ ..) (Eq.trans (zns ..) (Eq.trans ?_ (zjc a0 e1 c2 m3 t8 (z77 a0 e1 c2 m3) rfl (fun t8'=>z04 a0 e1 c2 m3 n t8') (fun c0_=>some (Sum.inl c0_)) (fun c0_ c1_=>some (Sum.inr (c0_,c1_))))))
  exact congrArg (fun kn_=>z0t a0 e1 c2 m3 t8 kn_ _ _) (funext fun t8'=>ih ..)
theorem zko:LoopOne J fnTab 113 2 zcn:=lpK z5x z63 (fi:=fi113) (by kernel_rfl) (by kernel_rfl) (q:=fun hs=>(z4l (hN hs 0) (hB hs 1) (hI hs 2) (hI hs 3) (hLb hs 4))) (fun hs=>by kernel_rfl) fun hs h1=>Eq.trans (zn3 (hN hs 0) (hB hs 1) (hI hs 2) (hLb hs 4) big (hI hs 3)) (znb (hN hs 0) (hB hs 1) (hI hs 2) (hLb hs 4) _ h1)
def tb2:List (Nat×(List PT→Option (Bool×AV×List Blk))):=(59,zo8)::(70,ziv)::(72,zjf)::(83,zmg)::(90,znv)::(115,zdf)::(119,zjh)::(121,zly)::(128,zkt)::(131,zpd)::(153,zgg)::(155,zb5)::(156,zpb)::(159,zp7)::tb1
def lt2:List ((Nat×Nat)×(Nat→St→Option (Bool×LO))):=((45,3),zme)::((60,3),zh3)::((73,3),zso)::((113,2),zcn)::lt1
def Γ2:Ctx:=⟨tyTab,fnTab,tblSum tb2,tblLp lt2⟩
theorem zeu:SumL J tb2:=SumL.cons y3l (SumL.cons zzz (SumL.cons y0l (SumL.cons y2b (SumL.cons y4f (SumL.cons zt4 (SumL.cons y0o (SumL.cons y1i (SumL.cons y2j (SumL.cons y4r (SumL.cons zwb (SumL.cons zqu (SumL.cons y5m (SumL.cons y4p (z5x))))))))))))))
theorem zer:LpL J fnTab lt2:=LpL.cons zth (LpL.cons zoy (LpL.cons y07 (LpL.cons zko (z63))))
def zo7  : Option (Int)→Option (AV×List Blk)
 | some r=>some ((.v (.one (.int .i64 r))),[])
 | none=>none
def zo6:List PT→Option (Bool×AV×List Blk)
 | [.agg [.row 1 q0x (.fl .f32 q1b),.row 1 q0z (.fl .f32 q1e),.row 1 q13 (.fl .f32 q1f),.row 3 q1o (.fl .f32 q1u),.s (.int .i64 q27),.s (.flt .f32 q2c),.s (.flt .f32 q2d)],.one (.s (.int .i64 q2i))]=>sF zo7 (z7c q0x q1b q0z q1e q13 q1f q1o q1u q27 q2c q2d q2i)
 | _=>none
theorem y8a:ev8 Γ2 32 [.agg [.row 1 a0 (.fl .f32 g1),.row 1 a2 (.fl .f32 g3),.row 1 a4 (.fl .f32 g5),.row 3 a6 (.fl .f32 g7),.s (.int .i64 c8),.s (.flt .f32 a9),.s (.flt .f32 a10)],.one (.s (.int .i64 c11))]=zo7 (z7c a0 g1 a2 g3 a4 g5 a6 g7 c8 a9 a10 c11):=tr2 (y1e a0 g1 a2 g3 a4 g5 a6 g7 c8 a9 a10 c11 zo7 rfl (fun c0_=>some c0_)) (by kernel_rfl)
theorem y46:SumOne J 32 zo6:=mkT zeu zer fun pts v news hp=>by
 unfold zo6 at hp
 split at hp
 ·exact fin3 (y8a ..) hp
 ·cases hp
def zh8  : Option (Nat×(List Nat))→Option (AV×List Blk)
 | some r=>some ((.v (.one (.sl 0 0 r.1 1))),[(.mk true (.fl .f32 r.2))])
 | none=>none
def zhp:List PT→Option (Bool×AV×List Blk)
 | [.one (.row 1 a_n (.fl .f32 a))]=>sF zh8 (z3r a_n a)
 | _=>none
theorem y3e:ev8 Γ2 45 [.one (.row 1 a0 (.fl .f32 g1))]=zh8 (z3r a0 g1):=tr2 (zwo a0 g1 zh8 rfl (fun c0_ c1_=>some (c0_,c1_))) (by kernel_rfl)
theorem zy3:SumOne J 45 zhp:=mkT zeu zer fun pts v news hp=>by
 unfold zhp at hp
 split at hp
 ·exact fin3 (y3e ..) hp
 ·cases hp
def zea  : Option (Nat)→Option (AV×List Blk)
 | some r=>some ((.v (.one (.flt .f32 r))),[])
 | none=>none
def zdz:List PT→Option (Bool×AV×List Blk)
 | [.agg [.row 1 q00 (.fl .f32 q03),.row 1 q02 (.fl .f32 q05),.row 1 q01 (.fl .f32 q04),.row 3 q06 (.fl .f32 q07),.s (.int .i64 q0g),.s (.flt .f32 q0k),.s (.flt .f32 q0j)],.one (.row 1 q1s (.fl .f32 q26))]=>sF zea (z3i q00 q03 q02 q05 q01 q04 q06 q07 q0g q0k q0j q1s q26)
 | _=>none
theorem zxc:ev8 Γ2 60 [.agg [.row 1 a0 (.fl .f32 g1),.row 1 a2 (.fl .f32 g3),.row 1 a4 (.fl .f32 g5),.row 3 a6 (.fl .f32 g7),.s (.int .i64 c8),.s (.flt .f32 a9),.s (.flt .f32 a10)],.one (.row 1 a11 (.fl .f32 g12))]=zea (z3i a0 g1 a2 g3 a4 g5 a6 g7 c8 a9 a10 a11 g12):=tr2 (zrz a0 g1 a2 g3 a4 g5 a6 g7 c8 a9 a10 a11 g12 zea rfl (fun c0_=>some c0_)) (by kernel_rfl)
theorem ztg:SumOne J 60 zdz:=mkT zeu zer fun pts v news hp=>by
 unfold zdz at hp
 split at hp
 ·exact fin3 (zxc ..) hp
 ·cases hp
def zpi  : Option (Nat)→Option (AV×List Blk)
 | some r=>some ((.v (.one (.flt .f32 r))),[])
 | none=>none
def zp6:List PT→Option (Bool×AV×List Blk)
 | [.ptr [.row 1 q00 (.fl .f32 q03),.row 1 q02 (.fl .f32 q05),.row 1 q01 (.fl .f32 q04),.row 3 q06 (.fl .f32 q07),.s (.int .i64 q0g),.s (.flt .f32 q0k),.s (.flt .f32 q0j)],.one (.row 1 q1s (.fl .f32 q26))]=>sF zpi (z85 q00 q03 q02 q05 q01 q04 q06 q07 q0g q0k q0j q1s q26)
 | _=>none
theorem y9d:ev8 Γ2 73 [.ptr [.row 1 a0 (.fl .f32 g1),.row 1 a2 (.fl .f32 g3),.row 1 a4 (.fl .f32 g5),.row 3 a6 (.fl .f32 g7),.s (.int .i64 c8),.s (.flt .f32 a9),.s (.flt .f32 a10)],.one (.row 1 a11 (.fl .f32 g12))]=zpi (z85 a0 g1 a2 g3 a4 g5 a6 g7 c8 a9 a10 a11 g12):=tr2 (y3a a0 g1 a2 g3 a4 g5 a6 g7 c8 a9 a10 a11 g12 zpi rfl (fun c0_=>some c0_)) (by kernel_rfl)
theorem y59:SumOne J 73 zp6:=mkT zeu zer fun pts v news hp=>by
 unfold zp6 at hp
 split at hp
 ·exact fin3 (y9d ..) hp
 ·cases hp
def z8o  : Option (Int)→Option (AV×List Blk)
 | some r=>some ((.v (.one (.int .i64 r))),[])
 | none=>none
def z8f:List PT→Option (Bool×AV×List Blk)
 | [.one (.row 1 s_n (.bl s)),.one (.s (.bool v))]=>sF z8o (z1z s_n s v)
 | _=>none
theorem zqk:ev8 Γ2 113 [.one (.row 1 a0 (.bl m1)),.one (.s (.bool e2))]=z8o (z1z a0 m1 e2):=tr2 (zmn a0 m1 e2 z8o rfl (fun c0_=>some c0_)) (by kernel_rfl)
theorem znp:SumOne J 113 z8f:=mkT zeu zer fun pts v news hp=>by
 unfold z8f at hp
 split at hp
 ·exact fin3 (zqk ..) hp
 ·cases hp
def zhy  : Option (Bool)→Option (AV×List Blk)
 | some r=>some ((.v (.one (.bool r))),[])
 | none=>none
def zho:List PT→Option (Bool×AV×List Blk)
 | [.one (.s (.flt .f32 x))]=>sF zhy (z52 x)
 | _=>none
theorem y3k:ev8 Γ2 154 [.one (.s (.flt .f32 a0))]=zhy (z52 a0):=tr2 (zvo a0 zhy rfl (fun c0_=>some c0_)) (by kernel_rfl)
theorem zyn:SumOne J 154 zho:=mkT zeu zer fun pts v news hp=>by
 unfold zho at hp
 split at hp
 ·exact fin3 (y3k ..) hp
 ·cases hp
def zr7  : Option (Nat)→Option (AV×List Blk)
 | some r=>some ((.v (.one (.flt .f64 r))),[])
 | none=>none
def zri:List PT→Option (Bool×AV×List Blk)
 | [.one (.s (.flt .f64 x))]=>sF zr7 (z9c x)
 | _=>none
theorem y9w:ev8 Γ2 174 [.one (.s (.flt .f64 a0))]=zr7 (z9c a0):=tr2 (y51 a0 zr7 rfl (fun c0_=>some c0_)) (by kernel_rfl)
theorem y6g:SumOne J 174 zri:=mkT zeu zer fun pts v news hp=>by
 unfold zri at hp
 split at hp
 ·exact fin3 (y9w ..) hp
 ·cases hp
def z8r:St:=(.mk [(0,(.v (.one (.vw 0 0 a0 1)))),(1,(.v (.one (.vw 1 0 a1 1)))),(5,(.v (.one (.int .i64 c2))))] [(.mk false (.fl .f32 g3)),(.mk false (.fl .f32 g4))])
def zcl(an bn:Nat)(b0 b1:List Nat):St:=(.mk [(4,(.v (.one (.bool false))))] [(.mk false (.fl .f32 b0)),(.mk false (.fl .f32 b1))])
def zcm:St:=(.mk [(0,(.v (.one (.vw 0 0 a0 1)))),(1,(.v (.one (.vw 1 0 a1 1)))),(5,(.v (.one (.int .i64 c4)))),(14,(.v (.one (.bool e5))))] [(.mk false (.fl .f32 g2)),(.mk false (.fl .f32 g3))])
def zdw:Option ((Unit)⊕(Int×Bool))→Option (Ex×St)
 | none=>none
 | some (Sum.inl r)=>some (.ret,(zcl a0 a1 g2 g3))
 | some (Sum.inr r)=>some ((.exit 0),(zcm a0 a1 g2 g3 r.1 r.2))
def zkf (x:Option ((Unit)⊕(Int×Bool))):LO:=(.two (oL x) (.one .ret (zcl a0 a1 g2 g3)) (.one (.exit 0) (zcm a0 a1 g2 g3 ((tR x).getD default).1 ((tR x).getD default).2)))
def zus:Bool×LO:=sL (zkf a0 a1 g3 g4) (z0z a0 a1 g3 g4 big c2)
def zl6:Nat→St→Option (Bool×LO):=lpT 2 (pSt [(pTm 0 (pV (pOne (pVw 0 (liN 0) 1)))),(pTm 1 (pV (pOne (pVw 1 (liN 0) 1)))),(pTm 5 (pV (pOne (pInt .i64))))] [(pBlk false (pFl .f32)),(pBlk false (pFl .f32))]) (fun hs=>zus (hN hs 0) (hN hs 1) (hI hs 2) (hLn hs 3) (hLn hs 4))
theorem zys:∀ x:Option ((Unit)⊕(Int×Bool)),x.isSome=true→(zdw a0 a1 g2 g3) x=some (pick (zkf a0 a1 g2 g3 x))
 | none,h=>by cases h
 | some (Sum.inl r),_=>rfl
 | some (Sum.inr r),_=>rfl
theorem zxa (K:Ex→St→Option (Ex×St)):ev9 Γ2 37 4 2 fi37 (z8r a0 a1 c2 g3 g4) K=z1x a0 a1 g3 g4 c2 (fun i'=>K .normal (z8r a0 a1 i' g3 g4)) (fun _=>K .ret (zcl a0 a1 g3 g4)) (fun c0_ c1_=>K (.exit 0) (zcm a0 a1 g3 g4 c0_ c1_)):=by kernel_rfl
theorem zxw:∀ (n:Nat) (i:Int),iter 37 4 2 (ev9 Γ2 37 4 2 fi37) n (z8r a0 a1 i g2 g3) (fun e st=>some (e,st))=(zdw a0 a1 g2 g3) (z0z a0 a1 g2 g3 n i):=by
 intro n
 induction n with
 | zero=>intros;rfl
 | succ n ih=>
  intro i
  refine Eq.trans (iter_succ ..) (Eq.trans (zxa ..) (Eq.trans ?_ (zss a0 a1 g2 g3 i (zdw a0 a1 g2 g3) rfl (fun i'=>z0z a0 a1 g2 g3 n i') (fun _=>some (Sum.inl ())) (fun c0_ c1_=>some (Sum.inr (c0_,c1_))))))
  exact congrArg (fun kn_=>z1x a0 a1 g2 g3 i kn_ _ _) (funext fun i'=>ih ..)
theorem ztr:LoopOne J fnTab 37 4 zl6:=lpK zeu zer (fi:=fi37) (by kernel_rfl) (by kernel_rfl) (q:=fun hs=>(z8r (hN hs 0) (hN hs 1) (hI hs 2) (hLn hs 3) (hLn hs 4))) (fun hs=>by kernel_rfl) fun hs h1=>Eq.trans (zxw (hN hs 0) (hN hs 1) (hLn hs 3) (hLn hs 4) big (hI hs 2)) (zys (hN hs 0) (hN hs 1) (hLn hs 3) (hLn hs 4) _ h1)
def z8m:St:=(.mk [(0,(.v (.one (.vw 0 0 a0 3)))),(3,(.v (.one (.sl 1 0 a1 3)))),(4,(.v (.one (.int .i64 c2))))] [(.mk false (.fl .f32 g3)),(.mk true (.fl .f32 g4))])
def zcb:St:=(.mk [(0,(.v (.one (.vw 0 0 a0 3)))),(3,(.v (.one (.sl 1 0 a1 3)))),(4,(.v (.one (.int .i64 c3)))),(11,(.v (.one (.bool e4))))] [(.mk false (.fl .f32 g2)),(.mk true (.fl .f32 g5))])
def zdd:Option ((Int×Bool×(List Nat)))→Option (Ex×St)
 | none=>none
 | some r=>some ((.exit 0),(zcb a0 a1 g2 r.1 r.2.1 r.2.2))
def zkg (x:Option ((Int×Bool×(List Nat)))):LO:=(.one (.exit 0) (zcb a0 a1 g2 (x.getD default).1 (x.getD default).2.1 (x.getD default).2.2))
def zva:Bool×LO:=sL (zkg a0 a1 g3) (z0m a0 a1 g3 big c2 g4)
def zlz:Nat→St→Option (Bool×LO):=lpT 1 (pSt [(pTm 0 (pV (pOne (pVw 0 (liN 0) 3)))),(pTm 3 (pV (pOne (pSl 1 (liN 0) 3)))),(pTm 4 (pV (pOne (pInt .i64))))] [(pBlk false (pFl .f32)),(pBlk true (pFl .f32))]) (fun hs=>zva (hN hs 0) (hN hs 1) (hI hs 2) (hLn hs 3) (hLn hs 4))
theorem zxd:∀ x:Option ((Int×Bool×(List Nat))),x.isSome=true→(zdd a0 a1 g2) x=some (pick (zkg a0 a1 g2 x))
 | none,h=>by cases h
 | some r,_=>rfl
theorem zyv (K:Ex→St→Option (Ex×St)):ev9 Γ2 75 3 1 fi75 (z8m a0 a1 c2 g3 g4) K=z1w a0 a1 g3 c2 g4 (fun i' b1'=>K .normal (z8m a0 a1 i' g3 b1')) (fun c0_ c1_ c2_=>K (.exit 0) (zcb a0 a1 g3 c0_ c1_ c2_)):=by kernel_rfl
theorem zxl:∀ (n:Nat) (i:Int) (b1:List Nat),iter 75 3 1 (ev9 Γ2 75 3 1 fi75) n (z8m a0 a1 i g2 b1) (fun e st=>some (e,st))=(zdd a0 a1 g2) (z0m a0 a1 g2 n i b1):=by
 intro n
 induction n with
 | zero=>intros;rfl
 | succ n ih=>
  intro i b1
  refine Eq.trans (iter_succ ..) (Eq.trans (zyv ..) (Eq.trans ?_ (zrk a0 a1 g2 i b1 (zdd a0 a1 g2) rfl (fun i' b1'=>z0m a0 a1 g2 n i' b1') (fun c0_ c1_ c2_=>some (c0_,c1_,c2_)))))
  exact congrArg (fun kn_=>z1w a0 a1 g2 i b1 kn_ _) (funext fun i'=>funext fun b1'=>ih ..)
theorem ztl:LoopOne J fnTab 75 3 zlz:=lpK zeu zer (fi:=fi75) (by kernel_rfl) (by kernel_rfl) (q:=fun hs=>(z8m (hN hs 0) (hN hs 1) (hI hs 2) (hLn hs 3) (hLn hs 4))) (fun hs=>by kernel_rfl) fun hs h1=>Eq.trans (zxl (hN hs 0) (hN hs 1) (hLn hs 3) big (hI hs 2) (hLn hs 4)) (zxd (hN hs 0) (hN hs 1) (hLn hs 3) _ h1)
def z7g:St:=(.mk [(4,(.v (.one (.bool e0)))),(5,(.v (.one (.flt .f64 a1)))),(6,(.v (.one (.flt .f64 a2)))),(7,(.v (.one (.flt .f64 a3)))),(8,(.v (.one (.int .i64 c4))))] [])
def za0:St:=(.mk [(4,(.v (.one (.bool e0)))),(5,(.v (.one (.flt .f64 a1)))),(6,(.v (.one (.flt .f64 a2)))),(7,(.v (.one (.flt .f64 a3)))),(8,(.v (.one (.int .i64 c4)))),(44,(.v (.one (.bool e5))))] [])
def zb6:Option ((Nat×Int×Bool))→Option (Ex×St)
 | none=>none
 | some r=>some ((.exit 0),(za0 e0 a1 a2 r.1 r.2.1 r.2.2))
def zh6 (x:Option ((Nat×Int×Bool))):LO:=(.one (.exit 0) (za0 e0 a1 a2 (x.getD default).1 (x.getD default).2.1 (x.getD default).2.2))
def zsp:Bool×LO:=sL (zh6 e0 a1 a2) (z0j a2 big a3 c4)
def zib:Nat→St→Option (Bool×LO):=lpT 0 (pSt [(pTm 4 (pV (pOne pBool))),(pTm 5 (pV (pOne (pFlt .f64)))),(pTm 6 (pV (pOne (pFlt .f64)))),(pTm 7 (pV (pOne (pFlt .f64)))),(pTm 8 (pV (pOne (pInt .i64))))] []) (fun hs=>zsp (hB hs 0) (hN hs 1) (hN hs 2) (hN hs 3) (hI hs 4))
theorem zuy:∀ x:Option ((Nat×Int×Bool)),x.isSome=true→(zb6 e0 a1 a2) x=some (pick (zh6 e0 a1 a2 x))
 | none,h=>by cases h
 | some r,_=>rfl
theorem zvb (K:Ex→St→Option (Ex×St)):ev9 Γ2 164 17 0 fi164 (z7g e0 a1 a2 a3 c4) K=z1g a2 a3 c4 (fun t7' t8'=>K .normal (z7g e0 a1 a2 t7' t8')) (fun c0_ c1_ c2_=>K (.exit 0) (za0 e0 a1 a2 c0_ c1_ c2_)):=by kernel_rfl
theorem zum:∀ (n t7:Nat) (t8:Int),iter 164 17 0 (ev9 Γ2 164 17 0 fi164) n (z7g e0 a1 a2 t7 t8) (fun e st=>some (e,st))=(zb6 e0 a1 a2) (z0j a2 n t7 t8):=by
 intro n
 induction n with
 | zero=>intros;rfl
 | succ n ih=>
  intro t7 t8
  refine Eq.trans (iter_succ ..) (Eq.trans (zvb ..) (Eq.trans ?_ (zpe a2 t7 t8 (zb6 e0 a1 a2) rfl (fun t7' t8'=>z0j a2 n t7' t8') (fun c0_ c1_ c2_=>some (c0_,c1_,c2_)))))
  exact congrArg (fun kn_=>z1g a2 t7 t8 kn_ _) (funext fun t7'=>funext fun t8'=>ih ..)
theorem zqt:LoopOne J fnTab 164 17 zib:=lpK zeu zer (fi:=fi164) (by kernel_rfl) (by kernel_rfl) (q:=fun hs=>(z7g (hB hs 0) (hN hs 1) (hN hs 2) (hN hs 3) (hI hs 4))) (fun hs=>by kernel_rfl) fun hs h1=>Eq.trans (zum (hB hs 0) (hN hs 1) (hN hs 2) big (hN hs 3) (hI hs 4)) (zuy (hB hs 0) (hN hs 1) (hN hs 2) _ h1)
def tb3:List (Nat×(List PT→Option (Bool×AV×List Blk))):=(32,zo6)::(45,zhp)::(60,zdz)::(73,zp6)::(113,z8f)::(154,zho)::(174,zri)::tb2
def lt3:List ((Nat×Nat)×(Nat→St→Option (Bool×LO))):=((37,4),zl6)::((75,3),zlz)::((164,17),zib)::lt2
def Γ3:Ctx:=⟨tyTab,fnTab,tblSum tb3,tblLp lt3⟩
theorem zeq:SumL J tb3:=SumL.cons y46 (SumL.cons zy3 (SumL.cons ztg (SumL.cons y59 (SumL.cons znp (SumL.cons zyn (SumL.cons y6g (zeu)))))))
theorem zew:LpL J fnTab lt3:=LpL.cons ztr (LpL.cons ztl (LpL.cons zqt (zer)))
def zhe  : Option (Bool)→Option (AV×List Blk)
 | some r=>some ((.v (.one (.bool r))),[])
 | none=>none
def zh9:List PT→Option (Bool×AV×List Blk)
 | [.one (.row 1 a_n (.fl .f32 a)),.one (.row 1 b_n (.fl .f32 b))]=>sF zhe (z4v a_n a b_n b)
 | _=>none
theorem y3t:ev8 Γ3 37 [.one (.row 1 a0 (.fl .f32 g1)),.one (.row 1 a2 (.fl .f32 g3))]=zhe (z4v a0 g1 a2 g3):=tr2 (zvu a0 g1 a2 g3 zhe rfl (fun c0_=>some c0_)) (by kernel_rfl)
theorem zy1:SumOne J 37 zh9:=mkT zeq zew fun pts v news hp=>by
 unfold zh9 at hp
 split at hp
 ·exact fin3 (y3t ..) hp
 ·cases hp
def z72  : Option (Bool)→Option (AV×List Blk)
 | some r=>some ((.v (.one (.bool r))),[])
 | none=>none
def z7d:List PT→Option (Bool×AV×List Blk)
 | [.one (.row 1 s_n (.bl s)),.one (.s (.bool v))]=>sF z72 (z18 s_n s v)
 | _=>none
theorem zno:ev8 Γ3 58 [.one (.row 1 a0 (.bl m1)),.one (.s (.bool e2))]=z72 (z18 a0 m1 e2):=tr2 (zjv a0 m1 e2 z72 rfl (fun c0_=>some c0_)) (by kernel_rfl)
theorem zkm:SumOne J 58 z7d:=mkT zeq zew fun pts v news hp=>by
 unfold z7d at hp
 split at hp
 ·exact fin3 (zno ..) hp
 ·cases hp
def zj5  : Option (Nat×Nat×Nat×(List Nat)×(List Nat)×(List Nat))→Option (AV×List Blk)
 | some r=>some ((.v (.agg [(.sl 0 0 r.1 1),(.sl 1 0 r.2.1 1),(.sl 2 0 r.2.2.1 1)])),[(.mk true (.fl .f32 r.2.2.2.1)),(.mk true (.fl .f32 r.2.2.2.2.1)),(.mk true (.fl .f32 r.2.2.2.2.2))])
 | none=>none
def zj2:List PT→Option (Bool×AV×List Blk)
 | [.agg [.row 1 q1r (.fl .f32 q25),.row 1 q1x (.fl .f32 q28),.row 1 q1y (.fl .f32 q29)]]=>sF zj5 (z1q q1r q25 q1x q28 q1y q29)
 | _=>none
theorem y5b:ev8 Γ3 74 [.agg [.row 1 a0 (.fl .f32 g1),.row 1 a2 (.fl .f32 g3),.row 1 a4 (.fl .f32 g5)]]=zj5 (z1q a0 g1 a2 g3 a4 g5):=tr2 (zx5 a0 g1 a2 g3 a4 g5 zj5 rfl (fun c0_ c1_ c2_ c3_ c4_ c5_=>some (c0_,c1_,c2_,c3_,c4_,c5_))) (by kernel_rfl)
theorem zzh:SumOne J 74 zj2:=mkT zeq zew fun pts v news hp=>by
 unfold zj2 at hp
 split at hp
 ·exact fin3 (y5b ..) hp
 ·cases hp
def zhl  : Option (Nat×(List Nat))→Option (AV×List Blk)
 | some r=>some ((.v (.one (.sl 0 0 r.1 3))),[(.mk true (.fl .f32 r.2))])
 | none=>none
def zhk:List PT→Option (Bool×AV×List Blk)
 | [.one (.row 3 a_n (.fl .f32 a))]=>sF zhl (z3t a_n a)
 | _=>none
theorem y39:ev8 Γ3 75 [.one (.row 3 a0 (.fl .f32 g1))]=zhl (z3t a0 g1):=tr2 (zvw a0 g1 zhl rfl (fun c0_ c1_=>some (c0_,c1_))) (by kernel_rfl)
theorem zyh:SumOne J 75 zhk:=mkT zeq zew fun pts v news hp=>by
 unfold zhk at hp
 split at hp
 ·exact fin3 (y39 ..) hp
 ·cases hp
def zfz  : Option (Nat)→Option (AV×List Blk)
 | some r=>some ((.v (.one (.flt .f64 r))),[])
 | none=>none
def zga:List PT→Option (Bool×AV×List Blk)
 | [.one (.s (.flt .f64 q1k))]=>sF zfz (z20 q1k)
 | _=>none
theorem y0z:ev8 Γ3 164 [.one (.s (.flt .f64 a0))]=zfz (z20 a0):=tr2 (zub a0 zfz rfl (fun c0_=>some c0_)) (by kernel_rfl)
theorem zvh:SumOne J 164 zga:=mkT zeq zew fun pts v news hp=>by
 unfold zga at hp
 split at hp
 ·exact fin3 (y0z ..) hp
 ·cases hp
def zhx  : Option (Nat)→Option (AV×List Blk)
 | some r=>some ((.v (.one (.flt .f64 r))),[])
 | none=>none
def zi8:List PT→Option (Bool×AV×List Blk)
 | [.one (.s (.flt .f64 q2j))]=>sF zhx (z53 q2j)
 | _=>none
theorem y3g:ev8 Γ3 169 [.one (.s (.flt .f64 a0))]=zhx (z53 a0):=tr2 (zwa a0 zhx rfl (fun c0_=>some c0_)) (by kernel_rfl)
theorem zyw:SumOne J 169 zi8:=mkT zeq zew fun pts v news hp=>by
 unfold zi8 at hp
 split at hp
 ·exact fin3 (y3g ..) hp
 ·cases hp
def z8i:St:=(.mk [(0,(.v (.one (.vw 0 0 a0 3)))),(1,(.v (.one (.vw 1 0 a1 3)))),(5,(.v (.one (.int .i64 c2))))] [(.mk false (.fl .f32 g3)),(.mk false (.fl .f32 g4))])
def zcd(an bn:Nat)(b0 b1:List Nat):St:=(.mk [(4,(.v (.one (.bool false))))] [(.mk false (.fl .f32 b0)),(.mk false (.fl .f32 b1))])
def zd0:St:=(.mk [(0,(.v (.one (.vw 0 0 a0 3)))),(1,(.v (.one (.vw 1 0 a1 3)))),(5,(.v (.one (.int .i64 c4)))),(14,(.v (.one (.bool e5))))] [(.mk false (.fl .f32 g2)),(.mk false (.fl .f32 g3))])
def zen:Option ((Unit)⊕(Int×Bool))→Option (Ex×St)
 | none=>none
 | some (Sum.inl r)=>some (.ret,(zcd a0 a1 g2 g3))
 | some (Sum.inr r)=>some ((.exit 0),(zd0 a0 a1 g2 g3 r.1 r.2))
def zk8 (x:Option ((Unit)⊕(Int×Bool))):LO:=(.two (oL x) (.one .ret (zcd a0 a1 g2 g3)) (.one (.exit 0) (zd0 a0 a1 g2 g3 ((tR x).getD default).1 ((tR x).getD default).2)))
def zv6:Bool×LO:=sL (zk8 a0 a1 g3 g4) (z11 a0 a1 g3 g4 big c2)
def zlq:Nat→St→Option (Bool×LO):=lpT 2 (pSt [(pTm 0 (pV (pOne (pVw 0 (liN 0) 3)))),(pTm 1 (pV (pOne (pVw 1 (liN 0) 3)))),(pTm 5 (pV (pOne (pInt .i64))))] [(pBlk false (pFl .f32)),(pBlk false (pFl .f32))]) (fun hs=>zv6 (hN hs 0) (hN hs 1) (hI hs 2) (hLn hs 3) (hLn hs 4))
theorem zxr:∀ x:Option ((Unit)⊕(Int×Bool)),x.isSome=true→(zen a0 a1 g2 g3) x=some (pick (zk8 a0 a1 g2 g3 x))
 | none,h=>by cases h
 | some (Sum.inl r),_=>rfl
 | some (Sum.inr r),_=>rfl
theorem zxu (K:Ex→St→Option (Ex×St)):ev9 Γ3 77 4 2 fi77 (z8i a0 a1 c2 g3 g4) K=z1y a0 a1 g3 g4 c2 (fun i'=>K .normal (z8i a0 a1 i' g3 g4)) (fun _=>K .ret (zcd a0 a1 g3 g4)) (fun c0_ c1_=>K (.exit 0) (zd0 a0 a1 g3 g4 c0_ c1_)):=by kernel_rfl
theorem zyb:∀ (n:Nat) (i:Int),iter 77 4 2 (ev9 Γ3 77 4 2 fi77) n (z8i a0 a1 i g2 g3) (fun e st=>some (e,st))=(zen a0 a1 g2 g3) (z11 a0 a1 g2 g3 n i):=by
 intro n
 induction n with
 | zero=>intros;rfl
 | succ n ih=>
  intro i
  refine Eq.trans (iter_succ ..) (Eq.trans (zxu ..) (Eq.trans ?_ (zrg a0 a1 g2 g3 i (zen a0 a1 g2 g3) rfl (fun i'=>z11 a0 a1 g2 g3 n i') (fun _=>some (Sum.inl ())) (fun c0_ c1_=>some (Sum.inr (c0_,c1_))))))
  exact congrArg (fun kn_=>z1y a0 a1 g2 g3 i kn_ _ _) (funext fun i'=>ih ..)
theorem zt2:LoopOne J fnTab 77 4 zlq:=lpK zeq zew (fi:=fi77) (by kernel_rfl) (by kernel_rfl) (q:=fun hs=>(z8i (hN hs 0) (hN hs 1) (hI hs 2) (hLn hs 3) (hLn hs 4))) (fun hs=>by kernel_rfl) fun hs h1=>Eq.trans (zyb (hN hs 0) (hN hs 1) (hLn hs 3) (hLn hs 4) big (hI hs 2)) (zxr (hN hs 0) (hN hs 1) (hLn hs 3) (hLn hs 4) _ h1)
def zfq:St:=(.mk [(0,(.v (.one (.ptr 3 0 3)))),(3,(.v (.one (.int .i64 c0)))),(4,(.v (.one (.int .i64 c1))))] [(.mk false (.fl .f32 g2)),(.mk false (.fl .f32 g3)),(.mk false (.fl .f32 g4)),(.mk false (.cells [(.vw 0 0 a5 1),(.vw 1 0 a6 1),(.vw 2 0 a7 1)]))])
def zjx(t3:Int)(b0 b1 b2:List Nat)(q1q q24 q23:Nat):St:=(.mk [(2,(.v (.one (.bool false))))] [(.mk false (.fl .f32 b0)),(.mk false (.fl .f32 b1)),(.mk false (.fl .f32 b2)),(.mk false (.cells [(.vw 0 0 q1q 1),(.vw 1 0 q24 1),(.vw 2 0 q23 1)]))])
def zjp:St:=(.mk [(0,(.v (.one (.ptr 3 0 3)))),(3,(.v (.one (.int .i64 c0)))),(4,(.v (.one (.int .i64 c7)))),(36,(.v (.one (.bool e8))))] [(.mk false (.fl .f32 g1)),(.mk false (.fl .f32 g2)),(.mk false (.fl .f32 g3)),(.mk false (.cells [(.vw 0 0 a4 1),(.vw 1 0 a5 1),(.vw 2 0 a6 1)]))])
def zkx:Option ((Unit)⊕(Int×Bool))→Option (Ex×St)
 | none=>none
 | some (Sum.inl r)=>some (.ret,(zjx c0 g1 g2 g3 a4 a5 a6))
 | some (Sum.inr r)=>some ((.exit 0),(zjp c0 g1 g2 g3 a4 a5 a6 r.1 r.2))
def zs3 (x:Option ((Unit)⊕(Int×Bool))):LO:=(.two (oL x) (.one .ret (zjx c0 g1 g2 g3 a4 a5 a6)) (.one (.exit 0) (zjp c0 g1 g2 g3 a4 a5 a6 ((tR x).getD default).1 ((tR x).getD default).2)))
def y40:Bool×LO:=sL (zs3 c0 g2 g3 g4 a5 a6 a7) (z1j c0 g2 g3 g4 a5 a6 a7 big c1)
def ztz:Nat→St→Option (Bool×LO):=lpT 4 (pSt [(pTm 0 (pV (pOne (pPtr 3 (liN 0) 3)))),(pTm 3 (pV (pOne (pInt .i64)))),(pTm 4 (pV (pOne (pInt .i64))))] [(pBlk false (pFl .f32)),(pBlk false (pFl .f32)),(pBlk false (pFl .f32)),(pBlk false (pCells [(pVw 0 (liN 0) 1),(pVw 1 (liN 0) 1),(pVw 2 (liN 0) 1)]))]) (fun hs=>y40 (hI hs 0) (hI hs 1) (hLn hs 2) (hLn hs 3) (hLn hs 4) (hN hs 5) (hN hs 6) (hN hs 7))
theorem y6j:∀ x:Option ((Unit)⊕(Int×Bool)),x.isSome=true→(zkx c0 g1 g2 g3 a4 a5 a6) x=some (pick (zs3 c0 g1 g2 g3 a4 a5 a6 x))
 | none,h=>by cases h
 | some (Sum.inl r),_=>rfl
 | some (Sum.inr r),_=>rfl
theorem y6k (K:Ex→St→Option (Ex×St)):ev9 Γ3 120 5 4 fi120 (zfq c0 c1 g2 g3 g4 a5 a6 a7) K=z40 c0 g2 g3 g4 a5 a6 a7 c1 (fun t4'=>K .normal (zfq c0 t4' g2 g3 g4 a5 a6 a7)) (fun _=>K .ret (zjx c0 g2 g3 g4 a5 a6 a7)) (fun c0_ c1_=>K (.exit 0) (zjp c0 g2 g3 g4 a5 a6 a7 c0_ c1_)):=by kernel_rfl
theorem y6l:∀ (n:Nat) (t4:Int),iter 120 5 4 (ev9 Γ3 120 5 4 fi120) n (zfq c0 t4 g1 g2 g3 a4 a5 a6) (fun e st=>some (e,st))=(zkx c0 g1 g2 g3 a4 a5 a6) (z1j c0 g1 g2 g3 a4 a5 a6 n t4):=by
 intro n
 induction n with
 | zero=>intros;rfl
 | succ n ih=>
  intro t4
  refine Eq.trans (iter_succ ..) (Eq.trans (y6k ..) (Eq.trans ?_ (y0g c0 g1 g2 g3 a4 a5 a6 t4 (zkx c0 g1 g2 g3 a4 a5 a6) rfl (fun t4'=>z1j c0 g1 g2 g3 a4 a5 a6 n t4') (fun _=>some (Sum.inl ())) (fun c0_ c1_=>some (Sum.inr (c0_,c1_))))))
  exact congrArg (fun kn_=>z40 c0 g1 g2 g3 a4 a5 a6 t4 kn_ _ _) (funext fun t4'=>ih ..)
theorem y1n:LoopOne J fnTab 120 5 ztz:=lpK zeq zew (fi:=fi120) (by kernel_rfl) (by kernel_rfl) (q:=fun hs=>(zfq (hI hs 0) (hI hs 1) (hLn hs 2) (hLn hs 3) (hLn hs 4) (hN hs 5) (hN hs 6) (hN hs 7))) (fun hs=>by kernel_rfl) fun hs h1=>Eq.trans (y6l (hI hs 0) (hLn hs 2) (hLn hs 3) (hLn hs 4) (hN hs 5) (hN hs 6) (hN hs 7) big (hI hs 1)) (y6j (hI hs 0) (hLn hs 2) (hLn hs 3) (hLn hs 4) (hN hs 5) (hN hs 6) (hN hs 7) _ h1)
def z1d:St:=(.mk [(0,(.v (.one (.vw 0 0 a0 1)))),(1,(.v (.one (.fn 115 [])))),(7,(.v (.one (.int .i64 c1)))),(8,(.v (.one (.int .i64 c2))))] [(.mk false (.fl .f32 g3))])
def z2j(sn:Nat)(t7:Int)(b0:List Nat)(c0_:Int):St:=(.mk [(4,(.v (.one (.int .i64 c0_))))] [(.mk false (.fl .f32 b0))])
def z2i:St:=(.mk [(0,(.v (.one (.vw 0 0 a0 1)))),(1,(.v (.one (.fn 115 [])))),(7,(.v (.one (.int .i64 c1)))),(8,(.v (.one (.int .i64 c3)))),(9,(.v (.one (.bool e4))))] [(.mk false (.fl .f32 g2))])
def z2p:Option ((Int)⊕(Int×Bool))→Option (Ex×St)
 | none=>none
 | some (Sum.inl r)=>some (.ret,(z2j a0 c1 g2 r))
 | some (Sum.inr r)=>some ((.exit 0),(z2i a0 c1 g2 r.1 r.2))
def z56 (x:Option ((Int)⊕(Int×Bool))):LO:=(.two (oL x) (.one .ret (z2j a0 c1 g2 ((tL x).getD default))) (.one (.exit 0) (z2i a0 c1 g2 ((tR x).getD default).1 ((tR x).getD default).2)))
def z9r:Bool×LO:=sL (z56 a0 c1 g3) (z01 a0 c1 g3 big c2)
def z5d:Nat→St→Option (Bool×LO):=lpT 1 (pSt [(pTm 0 (pV (pOne (pVw 0 (liN 0) 1)))),(pTm 1 (pV (pOne (pFn 115 [])))),(pTm 7 (pV (pOne (pInt .i64)))),(pTm 8 (pV (pOne (pInt .i64))))] [(pBlk false (pFl .f32))]) (fun hs=>z9r (hN hs 0) (hI hs 1) (hI hs 2) (hLn hs 3))
theorem zbe:∀ x:Option ((Int)⊕(Int×Bool)),x.isSome=true→(z2p a0 c1 g2) x=some (pick (z56 a0 c1 g2 x))
 | none,h=>by cases h
 | some (Sum.inl r),_=>rfl
 | some (Sum.inr r),_=>rfl
theorem zat (K:Ex→St→Option (Ex×St)):ev9 Γ3 146 2 1 fi146 (z1d a0 c1 c2 g3) K=z0a a0 c1 g3 c2 (fun t8'=>K .normal (z1d a0 c1 t8' g3)) (fun c0_=>K .ret (z2j a0 c1 g3 c0_)) (fun c0_ c1_=>K (.exit 0) (z2i a0 c1 g3 c0_ c1_)):=by kernel_rfl
theorem zb3:∀ (n:Nat) (t8:Int),iter 146 2 1 (ev9 Γ3 146 2 1 fi146) n (z1d a0 c1 t8 g2) (fun e st=>some (e,st))=(z2p a0 c1 g2) (z01 a0 c1 g2 n t8):=by
 intro n
 induction n with
 | zero=>intros;rfl
 | succ n ih=>
  intro t8
  refine Eq.trans (iter_succ ..) (Eq.trans (zat ..) (Eq.trans ?_ (z93 a0 c1 g2 t8 (z2p a0 c1 g2) rfl (fun t8'=>z01 a0 c1 g2 n t8') (fun c0_=>some (Sum.inl c0_)) (fun c0_ c1_=>some (Sum.inr (c0_,c1_))))))
  exact congrArg (fun kn_=>z0a a0 c1 g2 t8 kn_ _ _) (funext fun t8'=>ih ..)
theorem z9n:LoopOne J fnTab 146 2 z5d:=lpK zeq zew (fi:=fi146) (by kernel_rfl) (by kernel_rfl) (q:=fun hs=>(z1d (hN hs 0) (hI hs 1) (hI hs 2) (hLn hs 3))) (fun hs=>by kernel_rfl) fun hs h1=>Eq.trans (zb3 (hN hs 0) (hI hs 1) (hLn hs 3) big (hI hs 2)) (zbe (hN hs 0) (hI hs 1) (hLn hs 3) _ h1)
def z1l:St:=(.mk [(0,(.v (.one (.vw 0 0 a0 1)))),(1,(.v (.one (.fn 153 [])))),(7,(.v (.one (.int .i64 c1)))),(8,(.v (.one (.int .i64 c2))))] [(.mk false (.fl .f32 g3))])
def z2q(sn:Nat)(t7:Int)(b0:List Nat)(c0_:Int):St:=(.mk [(4,(.v (.one (.int .i64 c0_))))] [(.mk false (.fl .f32 b0))])
def z2r:St:=(.mk [(0,(.v (.one (.vw 0 0 a0 1)))),(1,(.v (.one (.fn 153 [])))),(7,(.v (.one (.int .i64 c1)))),(8,(.v (.one (.int .i64 c3)))),(9,(.v (.one (.bool e4))))] [(.mk false (.fl .f32 g2))])
def z2z:Option ((Int)⊕(Int×Bool))→Option (Ex×St)
 | none=>none
 | some (Sum.inl r)=>some (.ret,(z2q a0 c1 g2 r))
 | some (Sum.inr r)=>some ((.exit 0),(z2r a0 c1 g2 r.1 r.2))
def z5g (x:Option ((Int)⊕(Int×Bool))):LO:=(.two (oL x) (.one .ret (z2q a0 c1 g2 ((tL x).getD default))) (.one (.exit 0) (z2r a0 c1 g2 ((tR x).getD default).1 ((tR x).getD default).2)))
def zax:Bool×LO:=sL (z5g a0 c1 g3) (z02 a0 c1 g3 big c2)
def z64:Nat→St→Option (Bool×LO):=lpT 1 (pSt [(pTm 0 (pV (pOne (pVw 0 (liN 0) 1)))),(pTm 1 (pV (pOne (pFn 153 [])))),(pTm 7 (pV (pOne (pInt .i64)))),(pTm 8 (pV (pOne (pInt .i64))))] [(pBlk false (pFl .f32))]) (fun hs=>zax (hN hs 0) (hI hs 1) (hI hs 2) (hLn hs 3))
theorem zd3:∀ x:Option ((Int)⊕(Int×Bool)),x.isSome=true→(z2z a0 c1 g2) x=some (pick (z5g a0 c1 g2 x))
 | none,h=>by cases h
 | some (Sum.inl r),_=>rfl
 | some (Sum.inr r),_=>rfl
theorem zcp (K:Ex→St→Option (Ex×St)):ev9 Γ3 146 2 1 fi146 (z1l a0 c1 c2 g3) K=z0b a0 c1 g3 c2 (fun t8'=>K .normal (z1l a0 c1 t8' g3)) (fun c0_=>K .ret (z2q a0 c1 g3 c0_)) (fun c0_ c1_=>K (.exit 0) (z2r a0 c1 g3 c0_ c1_)):=by kernel_rfl
theorem zci:∀ (n:Nat) (t8:Int),iter 146 2 1 (ev9 Γ3 146 2 1 fi146) n (z1l a0 c1 t8 g2) (fun e st=>some (e,st))=(z2z a0 c1 g2) (z02 a0 c1 g2 n t8):=by
 intro n
 induction n with
 | zero=>intros;rfl
 | succ n ih=>
  intro t8
  refine Eq.trans (iter_succ ..) (Eq.trans (zcp ..) (Eq.trans ?_ (z9u a0 c1 g2 t8 (z2z a0 c1 g2) rfl (fun t8'=>z02 a0 c1 g2 n t8') (fun c0_=>some (Sum.inl c0_)) (fun c0_ c1_=>some (Sum.inr (c0_,c1_))))))
  exact congrArg (fun kn_=>z0b a0 c1 g2 t8 kn_ _ _) (funext fun t8'=>ih ..)
theorem za4:LoopOne J fnTab 146 2 z64:=lpK zeq zew (fi:=fi146) (by kernel_rfl) (by kernel_rfl) (q:=fun hs=>(z1l (hN hs 0) (hI hs 1) (hI hs 2) (hLn hs 3))) (fun hs=>by kernel_rfl) fun hs h1=>Eq.trans (zci (hN hs 0) (hI hs 1) (hLn hs 3) big (hI hs 2)) (zd3 (hN hs 0) (hI hs 1) (hLn hs 3) _ h1)
def tb4:List (Nat×(List PT→Option (Bool×AV×List Blk))):=(37,zh9)::(58,z7d)::(74,zj2)::(75,zhk)::(164,zga)::(169,zi8)::tb3
def lt4:List ((Nat×Nat)×(Nat→St→Option (Bool×LO))):=((77,4),zlq)::((120,5),ztz)::((146,2),z5d)::((146,2),z64)::lt3
def Γ4:Ctx:=⟨tyTab,fnTab,tblSum tb4,tblLp lt4⟩
theorem zid:SumL J tb4:=SumL.cons zy1 (SumL.cons zkm (SumL.cons zzh (SumL.cons zyh (SumL.cons zvh (SumL.cons zyw (zeq))))))
theorem zih:LpL J fnTab lt4:=LpL.cons zt2 (LpL.cons y1n (LpL.cons z9n (LpL.cons za4 (zew))))
def zo5:Option (Nat×Nat×Nat×Nat×(List Nat)×(List Nat)×(List Nat)×(List Nat))→Option (AV×List Blk)
 | some r=>some ((.v (.agg [(.sl 0 0 r.1 1),(.sl 1 0 r.2.1 1),(.sl 2 0 r.2.2.1 1),(.sl 3 0 r.2.2.2.1 3),(.int .i64 c0),(.flt .f32 a1),(.flt .f32 a2)])),[(.mk true (.fl .f32 r.2.2.2.2.1)),(.mk true (.fl .f32 r.2.2.2.2.2.1)),(.mk true (.fl .f32 r.2.2.2.2.2.2.1)),(.mk true (.fl .f32 r.2.2.2.2.2.2.2))])
 | none=>none
def zn2:List PT→Option (Bool×AV×List Blk)
 | [.agg [.row 1 q0x (.fl .f32 q1b),.row 1 q0z (.fl .f32 q1e),.row 1 q13 (.fl .f32 q1f),.row 3 q1o (.fl .f32 q1u),.s (.int .i64 q27),.s (.flt .f32 q2c),.s (.flt .f32 q2d)]]=>sF (zo5 q27 q2c q2d) (z1o q0x q1b q0z q1e q13 q1f q1o q1u q27 q2c q2d)
 | _=>none
theorem y7e:ev8 Γ4 34 [.agg [.row 1 a0 (.fl .f32 g1),.row 1 a2 (.fl .f32 g3),.row 1 a4 (.fl .f32 g5),.row 3 a6 (.fl .f32 g7),.s (.int .i64 c8),.s (.flt .f32 a9),.s (.flt .f32 a10)]]=(zo5 c8 a9 a10) (z1o a0 g1 a2 g3 a4 g5 a6 g7 c8 a9 a10):=tr2 (y22 a0 g1 a2 g3 a4 g5 a6 g7 c8 a9 a10 (zo5 c8 a9 a10) rfl (fun c0_ c1_ c2_ c3_ c4_ c5_ c6_ c7_=>some (c0_,c1_,c2_,c3_,c4_,c5_,c6_,c7_))) (by kernel_rfl)
theorem y4c:SumOne J 34 zn2:=mkT zid zih fun pts v news hp=>by
 unfold zn2 at hp
 split at hp
 ·exact fin3 (y7e ..) hp
 ·cases hp
def ziy  : Option (Bool)→Option (AV×List Blk)
 | some r=>some ((.v (.one (.bool r))),[])
 | none=>none
def zk0:List PT→Option (Bool×AV×List Blk)
 | [.agg [.row 1 q1r (.fl .f32 q25),.row 1 q1x (.fl .f32 q28),.row 1 q1y (.fl .f32 q29)],.agg [.row 1 q2x (.fl .f32 q34),.row 1 q2z (.fl .f32 q36),.row 1 q30 (.fl .f32 q39)]]=>sF ziy (z5r q1r q25 q1x q28 q1y q29 q2x q34 q2z q36 q30 q39)
 | _=>none
theorem y64:ev8 Γ4 76 [.agg [.row 1 a0 (.fl .f32 g1),.row 1 a2 (.fl .f32 g3),.row 1 a4 (.fl .f32 g5)],.agg [.row 1 a6 (.fl .f32 g7),.row 1 a8 (.fl .f32 g9),.row 1 a10 (.fl .f32 g11)]]=ziy (z5r a0 g1 a2 g3 a4 g5 a6 g7 a8 g9 a10 g11):=tr2 (zx9 a0 g1 a2 g3 a4 g5 a6 g7 a8 g9 a10 g11 ziy rfl (fun c0_=>some c0_)) (by kernel_rfl)
theorem zzm:SumOne J 76 zk0:=mkT zid zih fun pts v news hp=>by
 unfold zk0 at hp
 split at hp
 ·exact fin3 (y64 ..) hp
 ·cases hp
def zi6  : Option (Bool)→Option (AV×List Blk)
 | some r=>some ((.v (.one (.bool r))),[])
 | none=>none
def zhm:List PT→Option (Bool×AV×List Blk)
 | [.one (.row 3 a_n (.fl .f32 a)),.one (.row 3 b_n (.fl .f32 b))]=>sF zi6 (z4x a_n a b_n b)
 | _=>none
theorem y3v:ev8 Γ4 77 [.one (.row 3 a0 (.fl .f32 g1)),.one (.row 3 a2 (.fl .f32 g3))]=zi6 (z4x a0 g1 a2 g3):=tr2 (zwq a0 g1 a2 g3 zi6 rfl (fun c0_=>some c0_)) (by kernel_rfl)
theorem zy2:SumOne J 77 zhm:=mkT zid zih fun pts v news hp=>by
 unfold zhm at hp
 split at hp
 ·exact fin3 (y3v ..) hp
 ·cases hp
def zsv  : Option (Bool)→Option (AV×List Blk)
 | some r=>some ((.v (.one (.bool r))),[])
 | none=>none
def zra:List PT→Option (Bool×AV×List Blk)
 | [.ptr [.row 1 q0b (.fl .f32 q0h),.row 1 q15 (.fl .f32 q1i),.row 1 q16 (.fl .f32 q1j)]]=>sF zsv (z99 q0b q0h q15 q1i q16 q1j)
 | _=>none
theorem ya2:ev8 Γ4 120 [.ptr [.row 1 a0 (.fl .f32 g1),.row 1 a2 (.fl .f32 g3),.row 1 a4 (.fl .f32 g5)]]=zsv (z99 a0 g1 a2 g3 a4 g5):=tr2 (y5o a0 g1 a2 g3 a4 g5 zsv rfl (fun c0_=>some c0_)) (by kernel_rfl)
theorem y71:SumOne J 120 zra:=mkT zid zih fun pts v news hp=>by
 unfold zra at hp
 split at hp
 ·exact fin3 (ya2 ..) hp
 ·cases hp
def z39  : Option (Int)→Option (AV×List Blk)
 | some r=>some ((.v (.one (.int .i64 r))),[])
 | none=>none
def z3b:List PT→Option (Bool×AV×List Blk)
 | [.one (.row 1 s_n (.fl .f32 s)),.fn 115 []]=>sF z39 (z0l s_n s)
 | _=>none
theorem zd7:ev8 Γ4 146 [.one (.row 1 a0 (.fl .f32 g1)),.fn 115 []]=z39 (z0l a0 g1):=tr2 (za6 a0 g1 z39 rfl (fun c0_=>some c0_)) (by kernel_rfl)
theorem zb8:SumOne J 146 z3b:=mkT zid zih fun pts v news hp=>by
 unfold z3b at hp
 split at hp
 ·exact fin3 (zd7 ..) hp
 ·cases hp
def z3o  : Option (Int)→Option (AV×List Blk)
 | some r=>some ((.v (.one (.int .i64 r))),[])
 | none=>none
def z3n:List PT→Option (Bool×AV×List Blk)
 | [.one (.row 1 s_n (.fl .f32 s)),.fn 153 []]=>sF z3o (z0n s_n s)
 | _=>none
theorem zev:ev8 Γ4 146 [.one (.row 1 a0 (.fl .f32 g1)),.fn 153 []]=z3o (z0n a0 g1):=tr2 (zbm a0 g1 z3o rfl (fun c0_=>some c0_)) (by kernel_rfl)
theorem zcg:SumOne J 146 z3n:=mkT zid zih fun pts v news hp=>by
 unfold z3n at hp
 split at hp
 ·exact fin3 (zev ..) hp
 ·cases hp
def zo4  : Option (Nat)→Option (AV×List Blk)
 | some r=>some ((.v (.one (.flt .f32 r))),[])
 | none=>none
def znf:List PT→Option (Bool×AV×List Blk)
 | [.one (.s (.flt .f32 x))]=>sF zo4 (z5y x)
 | _=>none
theorem y8h:ev8 Γ4 148 [.one (.s (.flt .f32 a0))]=zo4 (z5y a0):=tr2 (y14 a0 zo4 rfl (fun c0_=>some c0_)) (by kernel_rfl)
theorem y33:SumOne J 148 znf:=mkT zid zih fun pts v news hp=>by
 unfold znf at hp
 split at hp
 ·exact fin3 (y8h ..) hp
 ·cases hp
def z1r:St:=(.mk [(0,(.v (.one (.vw 0 0 a0 1)))),(1,(.v (.one (.fn 154 [])))),(7,(.v (.one (.int .i64 c1)))),(8,(.v (.one (.int .i64 c2))))] [(.mk false (.fl .f32 g3))])
def z36(sn:Nat)(t7:Int)(b0:List Nat)(c0_:Int):St:=(.mk [(4,(.v (.one (.int .i64 c0_))))] [(.mk false (.fl .f32 b0))])
def z34:St:=(.mk [(0,(.v (.one (.vw 0 0 a0 1)))),(1,(.v (.one (.fn 154 [])))),(7,(.v (.one (.int .i64 c1)))),(8,(.v (.one (.int .i64 c3)))),(9,(.v (.one (.bool e4))))] [(.mk false (.fl .f32 g2))])
def z3d:Option ((Int)⊕(Int×Bool))→Option (Ex×St)
 | none=>none
 | some (Sum.inl r)=>some (.ret,(z36 a0 c1 g2 r))
 | some (Sum.inr r)=>some ((.exit 0),(z34 a0 c1 g2 r.1 r.2))
def z62 (x:Option ((Int)⊕(Int×Bool))):LO:=(.two (oL x) (.one .ret (z36 a0 c1 g2 ((tL x).getD default))) (.one (.exit 0) (z34 a0 c1 g2 ((tR x).getD default).1 ((tR x).getD default).2)))
def zbi:Bool×LO:=sL (z62 a0 c1 g3) (z03 a0 c1 g3 big c2)
def z69:Nat→St→Option (Bool×LO):=lpT 1 (pSt [(pTm 0 (pV (pOne (pVw 0 (liN 0) 1)))),(pTm 1 (pV (pOne (pFn 154 [])))),(pTm 7 (pV (pOne (pInt .i64)))),(pTm 8 (pV (pOne (pInt .i64))))] [(pBlk false (pFl .f32))]) (fun hs=>zbi (hN hs 0) (hI hs 1) (hI hs 2) (hLn hs 3))
theorem zd5:∀ x:Option ((Int)⊕(Int×Bool)),x.isSome=true→(z3d a0 c1 g2) x=some (pick (z62 a0 c1 g2 x))
 | none,h=>by cases h
 | some (Sum.inl r),_=>rfl
 | some (Sum.inr r),_=>rfl
theorem zd9 (K:Ex→St→Option (Ex×St)):ev9 Γ4 146 2 1 fi146 (z1r a0 c1 c2 g3) K=z0c a0 c1 g3 c2 (fun t8'=>K .normal (z1r a0 c1 t8' g3)) (fun c0_=>K .ret (z36 a0 c1 g3 c0_)) (fun c0_ c1_=>K (.exit 0) (z34 a0 c1 g3 c0_ c1_)):=by kernel_rfl
theorem zd8:∀ (n:Nat) (t8:Int),iter 146 2 1 (ev9 Γ4 146 2 1 fi146) n (z1r a0 c1 t8 g2) (fun e st=>some (e,st))=(z3d a0 c1 g2) (z03 a0 c1 g2 n t8):=by
 intro n
 induction n with
 | zero=>intros;rfl
 | succ n ih=>
  intro t8
  refine Eq.trans (iter_succ ..) (Eq.trans (zd9 ..) (Eq.trans ?_ (za8 a0 c1 g2 t8 (z3d a0 c1 g2) rfl (fun t8'=>z03 a0 c1 g2 n t8') (fun c0_=>some (Sum.inl c0_)) (fun c0_ c1_=>some (Sum.inr (c0_,c1_))))))
  exact congrArg (fun kn_=>z0c a0 c1 g2 t8 kn_ _ _) (funext fun t8'=>ih ..)
theorem zaw:LoopOne J fnTab 146 2 z69:=lpK zid zih (fi:=fi146) (by kernel_rfl) (by kernel_rfl) (q:=fun hs=>(z1r (hN hs 0) (hI hs 1) (hI hs 2) (hLn hs 3))) (fun hs=>by kernel_rfl) fun hs h1=>Eq.trans (zd8 (hN hs 0) (hI hs 1) (hLn hs 3) big (hI hs 2)) (zd5 (hN hs 0) (hI hs 1) (hLn hs 3) _ h1)
def tb5:List (Nat×(List PT→Option (Bool×AV×List Blk))):=(34,zn2)::(76,zk0)::(77,zhm)::(120,zra)::(146,z3b)::(146,z3n)::(148,znf)::tb4
def lt5:List ((Nat×Nat)×(Nat→St→Option (Bool×LO))):=((146,2),z69)::lt4
def Γ5:Ctx:=⟨tyTab,fnTab,tblSum tb5,tblLp lt5⟩
theorem zwt:SumL J tb5:=SumL.cons y4c (SumL.cons zzm (SumL.cons zy2 (SumL.cons y71 (SumL.cons zb8 (SumL.cons zcg (SumL.cons y33 (zid)))))))
theorem zvx:LpL J fnTab lt5:=LpL.cons zaw (zih)
def zo0  : Option (Bool)→Option (AV×List Blk)
 | some r=>some ((.v (.one (.bool r))),[])
 | none=>none
def znz:List PT→Option (Bool×AV×List Blk)
 | [.agg [.row 1 q0x (.fl .f32 q1b),.row 1 q0z (.fl .f32 q1e),.row 1 q13 (.fl .f32 q1f),.row 3 q1o (.fl .f32 q1u),.s (.int .i64 q27),.s (.flt .f32 q2c),.s (.flt .f32 q2d)],.agg [.row 1 q2f (.fl .f32 q2k),.row 1 q2h (.fl .f32 q2l),.row 1 q2g (.fl .f32 q2m),.row 3 q2o (.fl .f32 q2y),.s (.int .i64 q3a),.s (.flt .f32 q3e),.s (.flt .f32 q3b)]]=>sF zo0 (z7b q0x q1b q0z q1e q13 q1f q1o q1u q27 q2c q2d q2f q2k q2h q2l q2g q2m q2o q2y q3a q3e q3b)
 | _=>none
theorem y8g:ev8 Γ5 36 [.agg [.row 1 a0 (.fl .f32 g1),.row 1 a2 (.fl .f32 g3),.row 1 a4 (.fl .f32 g5),.row 3 a6 (.fl .f32 g7),.s (.int .i64 c8),.s (.flt .f32 a9),.s (.flt .f32 a10)],.agg [.row 1 a11 (.fl .f32 g12),.row 1 a13 (.fl .f32 g14),.row 1 a15 (.fl .f32 g16),.row 3 a17 (.fl .f32 g18),.s (.int .i64 c19),.s (.flt .f32 a20),.s (.flt .f32 a21)]]=zo0 (z7b a0 g1 a2 g3 a4 g5 a6 g7 c8 a9 a10 a11 g12 a13 g14 a15 g16 a17 g18 c19 a20 a21):=tr2 (y1s a0 g1 a2 g3 a4 g5 a6 g7 c8 a9 a10 a11 g12 a13 g14 a15 g16 a17 g18 c19 a20 a21 zo0 rfl (fun c0_=>some c0_)) (by kernel_rfl)
theorem y3i:SumOne J 36 znz:=mkT zwt zvx fun pts v news hp=>by
 unfold znz at hp
 split at hp
 ·exact fin3 (y8g ..) hp
 ·cases hp
def z3v  : Option (Int)→Option (AV×List Blk)
 | some r=>some ((.v (.one (.int .i64 r))),[])
 | none=>none
def z3x:List PT→Option (Bool×AV×List Blk)
 | [.one (.row 1 s_n (.fl .f32 s)),.fn 154 []]=>sF z3v (z0p s_n s)
 | _=>none
theorem zf2:ev8 Γ5 146 [.one (.row 1 a0 (.fl .f32 g1)),.fn 154 []]=z3v (z0p a0 g1):=tr2 (zcs a0 g1 z3v rfl (fun c0_=>some c0_)) (by kernel_rfl)
theorem zd4:SumOne J 146 z3x:=mkT zwt zvx fun pts v news hp=>by
 unfold z3x at hp
 split at hp
 ·exact fin3 (zf2 ..) hp
 ·cases hp
def zsg  : Option (Nat)→Option (AV×List Blk)
 | some r=>some ((.v (.one (.flt .f64 r))),[])
 | none=>none
def zs1:List PT→Option (Bool×AV×List Blk)
 | [.one (.s (.flt .f64 x))]=>sF zsg (z90 x)
 | _=>none
theorem y9v:ev8 Γ5 175 [.one (.s (.flt .f64 a0))]=zsg (z90 a0):=tr2 (y5s a0 zsg rfl (fun c0_=>some c0_)) (by kernel_rfl)
theorem y6y:SumOne J 175 zs1:=mkT zwt zvx fun pts v news hp=>by
 unfold zs1 at hp
 split at hp
 ·exact fin3 (y9v ..) hp
 ·cases hp
def zh0:St:=(.mk [(4,(.v (.one (.bool e0)))),(5,(.v (.one (.flt .f64 a1)))),(6,(.v (.one (.flt .f64 a2)))),(7,(.v (.one (.flt .f64 a3)))),(8,(.v (.one (.flt .f64 a4))))] [])
def zmm:St:=(.mk [(4,(.v (.one (.bool e0)))),(5,(.v (.one (.flt .f64 a1)))),(6,(.v (.one (.flt .f64 a2)))),(7,(.v (.one (.flt .f64 a3)))),(8,(.v (.one (.flt .f64 a4)))),(25,(.v (.one (.bool e5))))] [])
def znm:Option ((Nat×Nat×Bool))→Option (Ex×St)
 | none=>none
 | some r=>some ((.exit 0),(zmm e0 a1 a2 r.1 r.2.1 r.2.2))
def zu5 (x:Option ((Nat×Nat×Bool))):LO:=(.one (.exit 0) (zmm e0 a1 a2 (x.getD default).1 (x.getD default).2.1 (x.getD default).2.2))
def y5i:Bool×LO:=sL (zu5 e0 a1 a2) (z1m a2 big a3 a4)
def zx2:Nat→St→Option (Bool×LO):=lpT 0 (pSt [(pTm 4 (pV (pOne pBool))),(pTm 5 (pV (pOne (pFlt .f64)))),(pTm 6 (pV (pOne (pFlt .f64)))),(pTm 7 (pV (pOne (pFlt .f64)))),(pTm 8 (pV (pOne (pFlt .f64))))] []) (fun hs=>y5i (hB hs 0) (hN hs 1) (hN hs 2) (hN hs 3) (hN hs 4))
theorem y8d:∀ x:Option ((Nat×Nat×Bool)),x.isSome=true→(znm e0 a1 a2) x=some (pick (zu5 e0 a1 a2 x))
 | none,h=>by cases h
 | some r,_=>rfl
theorem y88 (K:Ex→St→Option (Ex×St)):ev9 Γ5 160 9 0 fi160 (zh0 e0 a1 a2 a3 a4) K=z4n a2 a3 a4 (fun p' k'=>K .normal (zh0 e0 a1 a2 p' k')) (fun c0_ c1_ c2_=>K (.exit 0) (zmm e0 a1 a2 c0_ c1_ c2_)):=by kernel_rfl
theorem y8f:∀ (n p k:Nat),iter 160 9 0 (ev9 Γ5 160 9 0 fi160) n (zh0 e0 a1 a2 p k) (fun e st=>some (e,st))=(znm e0 a1 a2) (z1m a2 n p k):=by
 intro n
 induction n with
 | zero=>intros;rfl
 | succ n ih=>
  intro p k
  refine Eq.trans (iter_succ ..) (Eq.trans (y88 ..) (Eq.trans ?_ (y16 a2 p k (znm e0 a1 a2) rfl (fun p' k'=>z1m a2 n p' k') (fun c0_ c1_ c2_=>some (c0_,c1_,c2_)))))
  exact congrArg (fun kn_=>z4n a2 p k kn_ _) (funext fun p'=>funext fun k'=>ih ..)
theorem y32:LoopOne J fnTab 160 9 zx2:=lpK zwt zvx (fi:=fi160) (by kernel_rfl) (by kernel_rfl) (q:=fun hs=>(zh0 (hB hs 0) (hN hs 1) (hN hs 2) (hN hs 3) (hN hs 4))) (fun hs=>by kernel_rfl) fun hs h1=>Eq.trans (y8f (hB hs 0) (hN hs 1) (hN hs 2) big (hN hs 3) (hN hs 4)) (y8d (hB hs 0) (hN hs 1) (hN hs 2) _ h1)
def tb6:List (Nat×(List PT→Option (Bool×AV×List Blk))):=(36,znz)::(146,z3x)::(175,zs1)::tb5
def lt6:List ((Nat×Nat)×(Nat→St→Option (Bool×LO))):=((160,9),zx2)::lt5
def Γ6:Ctx:=⟨tyTab,fnTab,tblSum tb6,tblLp lt6⟩
theorem zmj:SumL J tb6:=SumL.cons y3i (SumL.cons zd4 (SumL.cons y6y (zwt)))
theorem zlt:LpL J fnTab lt6:=LpL.cons y32 (zvx)
def z2o  : Option (Bool)→Option (AV×List Blk)
 | some r=>some ((.v (.one (.bool r))),[])
 | none=>none
def z2l:List PT→Option (Bool×AV×List Blk)
 | [.one (.row 1 s_n (.fl .f32 s)),.fn 115 []]=>sF z2o (z0g s_n s)
 | _=>none
theorem zbb:ev8 Γ6 114 [.one (.row 1 a0 (.fl .f32 g1)),.fn 115 []]=z2o (z0g a0 g1):=tr2 (z9e a0 g1 z2o rfl (fun c0_=>some c0_)) (by kernel_rfl)
theorem z9j:SumOne J 114 z2l:=mkT zmj zlt fun pts v news hp=>by
 unfold z2l at hp
 split at hp
 ·exact fin3 (zbb ..) hp
 ·cases hp
def z32  : Option (Bool)→Option (AV×List Blk)
 | some r=>some ((.v (.one (.bool r))),[])
 | none=>none
def z31:List PT→Option (Bool×AV×List Blk)
 | [.one (.row 1 s_n (.fl .f32 s)),.fn 153 []]=>sF z32 (z0i s_n s)
 | _=>none
theorem zco:ev8 Γ6 114 [.one (.row 1 a0 (.fl .f32 g1)),.fn 153 []]=z32 (z0i a0 g1):=tr2 (za1 a0 g1 z32 rfl (fun c0_=>some c0_)) (by kernel_rfl)
theorem zad:SumOne J 114 z31:=mkT zmj zlt fun pts v news hp=>by
 unfold z31 at hp
 split at hp
 ·exact fin3 (zco ..) hp
 ·cases hp
def z3c  : Option (Bool)→Option (AV×List Blk)
 | some r=>some ((.v (.one (.bool r))),[])
 | none=>none
def z38:List PT→Option (Bool×AV×List Blk)
 | [.one (.row 1 s_n (.fl .f32 s)),.fn 154 []]=>sF z3c (z0k s_n s)
 | _=>none
theorem zd6:ev8 Γ6 114 [.one (.row 1 a0 (.fl .f32 g1)),.fn 154 []]=z3c (z0k a0 g1):=tr2 (zap a0 g1 z3c rfl (fun c0_=>some c0_)) (by kernel_rfl)
theorem zb7:SumOne J 114 z38:=mkT zmj zlt fun pts v news hp=>by
 unfold z38 at hp
 split at hp
 ·exact fin3 (zd6 ..) hp
 ·cases hp
def zug  : Option (Nat)→Option (AV×List Blk)
 | some r=>some ((.v (.one (.flt .f64 r))),[])
 | none=>none
def zv3:List PT→Option (Bool×AV×List Blk)
 | [.one (.s (.flt .f64 q2j))]=>sF zug (zb1 q2j)
 | _=>none
theorem ya6:ev8 Γ6 160 [.one (.s (.flt .f64 a0))]=zug (zb1 a0):=tr2 (y6p a0 zug rfl (fun c0_=>some c0_)) (by kernel_rfl)
theorem y8b:SumOne J 160 zv3:=mkT zmj zlt fun pts v news hp=>by
 unfold zv3 at hp
 split at hp
 ·exact fin3 (ya6 ..) hp
 ·cases hp
def zjq  : Option (Nat)→Option (AV×List Blk)
 | some r=>some ((.v (.one (.flt .f32 r))),[])
 | none=>none
def zk3:List PT→Option (Bool×AV×List Blk)
 | [.one (.s (.flt .f32 x))]=>sF zjq (z5i x)
 | _=>none
theorem y62:ev8 Γ6 170 [.one (.s (.flt .f32 a0))]=zjq (z5i a0):=tr2 (zyi a0 zjq rfl (fun c0_=>some c0_)) (by kernel_rfl)
theorem y0r:SumOne J 170 zk3:=mkT zmj zlt fun pts v news hp=>by
 unfold zk3 at hp
 split at hp
 ·exact fin3 (y62 ..) hp
 ·cases hp
def znr  : Option (Nat)→Option (AV×List Blk)
 | some r=>some ((.v (.one (.flt .f32 r))),[])
 | none=>none
def znc:List PT→Option (Bool×AV×List Blk)
 | [.one (.s (.flt .f32 x))]=>sF znr (z71 x)
 | _=>none
theorem y8j:ev8 Γ6 181 [.one (.s (.flt .f32 a0))]=znr (z71 a0):=tr2 (y15 a0 znr rfl (fun c0_=>some c0_)) (by kernel_rfl)
theorem y31:SumOne J 181 znc:=mkT zmj zlt fun pts v news hp=>by
 unfold znc at hp
 split at hp
 ·exact fin3 (y8j ..) hp
 ·cases hp
def zfv:St:=(.mk [(0,(.v (.one (.ptr 4 0 7)))),(4,(.v (.one (.flt .f32 a0)))),(57,(.v (.one (.int .i64 c1)))),(58,(.v (.one (.int .i64 c2))))] [(.mk false (.fl .f32 g3)),(.mk false (.fl .f32 g4)),(.mk false (.fl .f32 g5)),(.mk false (.fl .f32 g6)),(.mk false (.cells [(.vw 0 0 a7 1),(.vw 1 0 a8 1),(.vw 2 0 a9 1),(.vw 3 0 a10 3),(.int .i64 c11),(.flt .f32 a12),(.flt .f32 a13)]))])
def zjr(t57:Int)(b0 b1 b2 b3:List Nat)(q18 q17 q19 q0w:Nat)(q1m:Int)(q1l q1a:Nat):St:=(.mk [(2,(.v (.one (.bool false))))] [(.mk false (.fl .f32 b0)),(.mk false (.fl .f32 b1)),(.mk false (.fl .f32 b2)),(.mk false (.fl .f32 b3)),(.mk false (.cells [(.vw 0 0 q18 1),(.vw 1 0 q17 1),(.vw 2 0 q19 1),(.vw 3 0 q0w 3),(.int .i64 q1m),(.flt .f32 q1l),(.flt .f32 q1a)]))])
def zjy:St:=(.mk [(0,(.v (.one (.ptr 4 0 7)))),(4,(.v (.one (.flt .f32 a12)))),(57,(.v (.one (.int .i64 c0)))),(58,(.v (.one (.int .i64 c13)))),(59,(.v (.one (.bool e14))))] [(.mk false (.fl .f32 g1)),(.mk false (.fl .f32 g2)),(.mk false (.fl .f32 g3)),(.mk false (.fl .f32 g4)),(.mk false (.cells [(.vw 0 0 a5 1),(.vw 1 0 a6 1),(.vw 2 0 a7 1),(.vw 3 0 a8 3),(.int .i64 c9),(.flt .f32 a10),(.flt .f32 a11)]))])
def zm0:Option ((Unit)⊕(Nat×Int×Bool))→Option (Ex×St)
 | none=>none
 | some (Sum.inl r)=>some (.ret,(zjr c0 g1 g2 g3 g4 a5 a6 a7 a8 c9 a10 a11))
 | some (Sum.inr r)=>some ((.exit 0),(zjy c0 g1 g2 g3 g4 a5 a6 a7 a8 c9 a10 a11 r.1 r.2.1 r.2.2))
def zs8 (x:Option ((Unit)⊕(Nat×Int×Bool))):LO:=(.two (oL x) (.one .ret (zjr c0 g1 g2 g3 g4 a5 a6 a7 a8 c9 a10 a11)) (.one (.exit 0) (zjy c0 g1 g2 g3 g4 a5 a6 a7 a8 c9 a10 a11 ((tR x).getD default).1 ((tR x).getD default).2.1 ((tR x).getD default).2.2)))
def y2w:Bool×LO:=sL (zs8 c1 g3 g4 g5 g6 a7 a8 a9 a10 c11 a12 a13) (z0x c1 g6 a10 a13 big a0 c2)
def zu9:Nat→St→Option (Bool×LO):=lpT 5 (pSt [(pTm 0 (pV (pOne (pPtr 4 (liN 0) 7)))),(pTm 4 (pV (pOne (pFlt .f32)))),(pTm 57 (pV (pOne (pInt .i64)))),(pTm 58 (pV (pOne (pInt .i64))))] [(pBlk false (pFl .f32)),(pBlk false (pFl .f32)),(pBlk false (pFl .f32)),(pBlk false (pFl .f32)),(pBlk false (pCells [(pVw 0 (liN 0) 1),(pVw 1 (liN 0) 1),(pVw 2 (liN 0) 1),(pVw 3 (liN 0) 3),(pInt .i64),(pFlt .f32),(pFlt .f32)]))]) (fun hs=>y2w (hN hs 0) (hI hs 1) (hI hs 2) (hLn hs 3) (hLn hs 4) (hLn hs 5) (hLn hs 6) (hN hs 7) (hN hs 8) (hN hs 9) (hN hs 10) (hI hs 11) (hN hs 12) (hN hs 13))
theorem y72:∀ x:Option ((Unit)⊕(Nat×Int×Bool)),x.isSome=true→(zm0 c0 g1 g2 g3 g4 a5 a6 a7 a8 c9 a10 a11) x=some (pick (zs8 c0 g1 g2 g3 g4 a5 a6 a7 a8 c9 a10 a11 x))
 | none,h=>by cases h
 | some (Sum.inl r),_=>rfl
 | some (Sum.inr r),_=>rfl
theorem y6c (K:Ex→St→Option (Ex×St)):ev9 Γ6 82 6 5 fi82 (zfv a0 c1 c2 g3 g4 g5 g6 a7 a8 a9 a10 c11 a12 a13) K=z41 c1 g6 a10 a13 a0 c2 (fun t4' t58'=>K .normal (zfv t4' c1 t58' g3 g4 g5 g6 a7 a8 a9 a10 c11 a12 a13)) (fun _=>K .ret (zjr c1 g3 g4 g5 g6 a7 a8 a9 a10 c11 a12 a13)) (fun c0_ c1_ c2_=>K (.exit 0) (zjy c1 g3 g4 g5 g6 a7 a8 a9 a10 c11 a12 a13 c0_ c1_ c2_)):=by kernel_rfl
theorem y6i:∀ (n t4:Nat) (t58:Int),iter 82 6 5 (ev9 Γ6 82 6 5 fi82) n (zfv t4 c0 t58 g1 g2 g3 g4 a5 a6 a7 a8 c9 a10 a11) (fun e st=>some (e,st))=(zm0 c0 g1 g2 g3 g4 a5 a6 a7 a8 c9 a10 a11) (z0x c0 g4 a8 a11 n t4 t58):=by
 intro n
 induction n with
 | zero=>intros;rfl
 | succ n ih=>
  intro t4 t58
  refine Eq.trans (iter_succ ..) (Eq.trans (y6c ..) (Eq.trans ?_ (zzq c0 g4 a8 a11 t4 t58 (zm0 c0 g1 g2 g3 g4 a5 a6 a7 a8 c9 a10 a11) rfl (fun t4' t58'=>z0x c0 g4 a8 a11 n t4' t58') (fun _=>some (Sum.inl ())) (fun c0_ c1_ c2_=>some (Sum.inr (c0_,c1_,c2_))))))
  exact congrArg (fun kn_=>z41 c0 g4 a8 a11 t4 t58 kn_ _ _) (funext fun t4'=>funext fun t58'=>ih ..)
theorem y2a:LoopOne J fnTab 82 6 zu9:=lpK zmj zlt (fi:=fi82) (by kernel_rfl) (by kernel_rfl) (q:=fun hs=>(zfv (hN hs 0) (hI hs 1) (hI hs 2) (hLn hs 3) (hLn hs 4) (hLn hs 5) (hLn hs 6) (hN hs 7) (hN hs 8) (hN hs 9) (hN hs 10) (hI hs 11) (hN hs 12) (hN hs 13))) (fun hs=>by kernel_rfl) fun hs h1=>Eq.trans (y6i (hI hs 1) (hLn hs 3) (hLn hs 4) (hLn hs 5) (hLn hs 6) (hN hs 7) (hN hs 8) (hN hs 9) (hN hs 10) (hI hs 11) (hN hs 12) (hN hs 13) big (hN hs 0) (hI hs 2)) (y72 (hI hs 1) (hLn hs 3) (hLn hs 4) (hLn hs 5) (hLn hs 6) (hN hs 7) (hN hs 8) (hN hs 9) (hN hs 10) (hI hs 11) (hN hs 12) (hN hs 13) _ h1)
def tb7:List (Nat×(List PT→Option (Bool×AV×List Blk))):=(114,z2l)::(114,z31)::(114,z38)::(160,zv3)::(170,zk3)::(181,znc)::tb6
def lt7:List ((Nat×Nat)×(Nat→St→Option (Bool×LO))):=((82,6),zu9)::lt6
def Γ7:Ctx:=⟨tyTab,fnTab,tblSum tb7,tblLp lt7⟩
theorem zr9:SumL J tb7:=SumL.cons z9j (SumL.cons zad (SumL.cons zb7 (SumL.cons y8b (SumL.cons y0r (SumL.cons y31 (zmj))))))
theorem zrn:LpL J fnTab lt7:=LpL.cons y2a (zlt)
def zgh  : Option (Bool)→Option (AV×List Blk)
 | some r=>some ((.v (.one (.bool r))),[])
 | none=>none
def zg0:List PT→Option (Bool×AV×List Blk)
 | [.one (.row 1 q1s (.fl .f32 q26))]=>sF zgh (z1i q1s q26)
 | _=>none
theorem y29:ev8 Γ7 64 [.one (.row 1 a0 (.fl .f32 g1))]=zgh (z1i a0 g1):=tr2 (zur a0 g1 zgh rfl (fun c0_=>some c0_)) (by kernel_rfl)
theorem zwm:SumOne J 64 zg0:=mkT zr9 zrn fun pts v news hp=>by
 unfold zg0 at hp
 split at hp
 ·exact fin3 (y29 ..) hp
 ·cases hp
def zrf  : Option (Bool)→Option (AV×List Blk)
 | some r=>some ((.v (.one (.bool r))),[])
 | none=>none
def zsm:List PT→Option (Bool×AV×List Blk)
 | [.ptr [.row 1 q08 (.fl .f32 q0c),.row 1 q0a (.fl .f32 q0e),.row 1 q09 (.fl .f32 q0d),.row 3 q0f (.fl .f32 q0i),.s (.int .i64 q0n),.s (.flt .f32 q0s),.s (.flt .f32 q0r)]]=>sF zrf (z9d q08 q0c q0a q0e q09 q0d q0f q0i q0n q0s q0r)
 | _=>none
theorem y9o:ev8 Γ7 82 [.ptr [.row 1 a0 (.fl .f32 g1),.row 1 a2 (.fl .f32 g3),.row 1 a4 (.fl .f32 g5),.row 3 a6 (.fl .f32 g7),.s (.int .i64 c8),.s (.flt .f32 a9),.s (.flt .f32 a10)]]=zrf (z9d a0 g1 a2 g3 a4 g5 a6 g7 c8 a9 a10):=tr2 (y5r a0 g1 a2 g3 a4 g5 a6 g7 c8 a9 a10 zrf rfl (fun c0_=>some c0_)) (by kernel_rfl)
theorem y6d:SumOne J 82 zsm:=mkT zr9 zrn fun pts v news hp=>by
 unfold zsm at hp
 split at hp
 ·exact fin3 (y9o ..) hp
 ·cases hp
def zj3  : Option (Bool)→Option (AV×List Blk)
 | some r=>some ((.v (.one (.bool r))),[])
 | none=>none
def zj7:List PT→Option (Bool×AV×List Blk)
 | [.one (.row 1 q1s (.fl .f32 q26))]=>sF zj3 (z4f q1s q26)
 | _=>none
theorem y5h:ev8 Γ7 132 [.one (.row 1 a0 (.fl .f32 g1))]=zj3 (z4f a0 g1):=tr2 (zxh a0 g1 zj3 rfl (fun c0_=>some c0_)) (by kernel_rfl)
theorem zzv:SumOne J 132 zj7:=mkT zr9 zrn fun pts v news hp=>by
 unfold zj7 at hp
 split at hp
 ·exact fin3 (y5h ..) hp
 ·cases hp
def zlm  : Option (Bool)→Option (AV×List Blk)
 | some r=>some ((.v (.one (.bool r))),[])
 | none=>none
def zkw:List PT→Option (Bool×AV×List Blk)
 | [.one (.row 1 q1s (.fl .f32 q26))]=>sF zlm (z6e q1s q26)
 | _=>none
theorem y74:ev8 Γ7 133 [.one (.row 1 a0 (.fl .f32 g1))]=zlm (z6e a0 g1):=tr2 (y01 a0 g1 zlm rfl (fun c0_=>some c0_)) (by kernel_rfl)
theorem y18:SumOne J 133 zkw:=mkT zr9 zrn fun pts v news hp=>by
 unfold zkw at hp
 split at hp
 ·exact fin3 (y74 ..) hp
 ·cases hp
def zis  : Option (Nat)→Option (AV×List Blk)
 | some r=>some ((.v (.one (.flt .f32 r))),[])
 | none=>none
def zjm:List PT→Option (Bool×AV×List Blk)
 | [.one (.s (.flt .f32 x))]=>sF zis (z5p x)
 | _=>none
theorem y50:ev8 Γ7 141 [.one (.s (.flt .f32 a0))]=zis (z5p a0):=tr2 (zxn a0 zis rfl (fun c0_=>some c0_)) (by kernel_rfl)
theorem zzw:SumOne J 141 zjm:=mkT zr9 zrn fun pts v news hp=>by
 unfold zjm at hp
 split at hp
 ·exact fin3 (y50 ..) hp
 ·cases hp
def tb8:List (Nat×(List PT→Option (Bool×AV×List Blk))):=(64,zg0)::(82,zsm)::(132,zj7)::(133,zkw)::(141,zjm)::tb7
def lt8:List ((Nat×Nat)×(Nat→St→Option (Bool×LO))):=lt7
def Γ8:Ctx:=⟨tyTab,fnTab,tblSum tb8,tblLp lt8⟩
theorem zse:SumL J tb8:=SumL.cons zwm (SumL.cons y6d (SumL.cons zzv (SumL.cons y18 (SumL.cons zzw (zr9)))))
theorem zsi:LpL J fnTab lt8:=zrn
def zi1  : Option (Nat×Nat×Bool)→Option (AV×List Blk)
 | some r=>some ((.tup [(.one (.flt .f32 r.1)),(.one (.flt .f32 r.2.1)),(.one (.bool r.2.2))]),[])
 | none=>none
def zi7:List PT→Option (Bool×AV×List Blk)
 | [.one (.s (.flt .f32 x)),.one (.s (.flt .f32 y))]=>sF zi1 (z2v x y)
 | _=>none
theorem y30:ev8 Γ8 107 [.one (.s (.flt .f32 a0)),.one (.s (.flt .f32 a1))]=zi1 (z2v a0 a1):=tr2 (zvt a0 a1 zi1 rfl (fun c0_ c1_ c2_=>some (c0_,c1_,c2_))) (by kernel_rfl)
theorem zx3:SumOne J 107 zi7:=mkT zse zsi fun pts v news hp=>by
 unfold zi7 at hp
 split at hp
 ·exact fin3 (y30 ..) hp
 ·cases hp
def zhh  : Option (Bool)→Option (AV×List Blk)
 | some r=>some ((.v (.one (.bool r))),[])
 | none=>none
def zi3:List PT→Option (Bool×AV×List Blk)
 | [.ptr [.row 1 q00 (.fl .f32 q03),.row 1 q02 (.fl .f32 q05),.row 1 q01 (.fl .f32 q04),.row 3 q06 (.fl .f32 q07),.s (.int .i64 q0g),.s (.flt .f32 q0k),.s (.flt .f32 q0j)],.one (.s (.int .i64 i))]=>sF zhh (z4z q00 q03 q02 q05 q01 q04 q06 q07 q0g q0k q0j i)
 | _=>none
theorem y37:ev8 Γ8 127 [.ptr [.row 1 a0 (.fl .f32 g1),.row 1 a2 (.fl .f32 g3),.row 1 a4 (.fl .f32 g5),.row 3 a6 (.fl .f32 g7),.s (.int .i64 c8),.s (.flt .f32 a9),.s (.flt .f32 a10)],.one (.s (.int .i64 c11))]=zhh (z4z a0 g1 a2 g3 a4 g5 a6 g7 c8 a9 a10 c11):=tr2 (zwn a0 g1 a2 g3 a4 g5 a6 g7 c8 a9 a10 c11 zhh rfl (fun c0_=>some c0_)) (by kernel_rfl)
theorem zxv:SumOne J 127 zi3:=mkT zse zsi fun pts v news hp=>by
 unfold zi3 at hp
 split at hp
 ·exact fin3 (y37 ..) hp
 ·cases hp
def zck  : Option (Nat)→Option (AV×List Blk)
 | some r=>some ((.v (.one (.flt .f32 r))),[])
 | none=>none
def zcv:List PT→Option (Bool×AV×List Blk)
 | [.agg [.row 1 q00 (.fl .f32 q03),.row 1 q02 (.fl .f32 q05),.row 1 q01 (.fl .f32 q04),.row 3 q06 (.fl .f32 q07),.s (.int .i64 q0g),.s (.flt .f32 q0k),.s (.flt .f32 q0j)],.one (.s (.int .i64 i)),.one (.s (.flt .f32 q1p))]=>sF zck (z2x q00 q03 q02 q05 q01 q04 q06 q07 q0g q0k q0j i q1p)
 | _=>none
theorem zwy:ev8 Γ8 143 [.agg [.row 1 a0 (.fl .f32 g1),.row 1 a2 (.fl .f32 g3),.row 1 a4 (.fl .f32 g5),.row 3 a6 (.fl .f32 g7),.s (.int .i64 c8),.s (.flt .f32 a9),.s (.flt .f32 a10)],.one (.s (.int .i64 c11)),.one (.s (.flt .f32 a12))]=zck (z2x a0 g1 a2 g3 a4 g5 a6 g7 c8 a9 a10 c11 a12):=tr2 (zqi a0 g1 a2 g3 a4 g5 a6 g7 c8 a9 a10 c11 a12 zck rfl (fun c0_=>some c0_)) (by kernel_rfl)
theorem zs4:SumOne J 143 zcv:=mkT zse zsi fun pts v news hp=>by
 unfold zcv at hp
 split at hp
 ·exact fin3 (zwy ..) hp
 ·cases hp
def z16:St:=(.mk [(0,(.v (.one (.vw 0 0 a0 1)))),(1,(.v (.one (.fn 171 [(.ptr 4 0 1)])))),(7,(.v (.one (.int .i64 c1)))),(8,(.v (.one (.int .i64 c2))))] [(.mk false (.fl .f32 g3)),(.mk false (.fl .f32 g4)),(.mk false (.fl .f32 g5)),(.mk true (.cells [(.vw 0 0 a6 1),(.vw 1 0 a7 1),(.vw 2 0 a8 1)])),(.mk true (.cells [(.flt .f32 a9)]))])
def z2b(sn:Nat)(t7:Int)(b0 b1 b2:List Nat)(q1q q24 q23 b4:Nat)(c0_:Int):St:=(.mk [(4,(.v (.one (.int .i64 c0_))))] [(.mk false (.fl .f32 b0)),(.mk false (.fl .f32 b1)),(.mk false (.fl .f32 b2)),(.mk true (.cells [(.vw 0 0 q1q 1),(.vw 1 0 q24 1),(.vw 2 0 q23 1)])),(.mk true (.cells [(.flt .f32 b4)]))])
def z29:St:=(.mk [(0,(.v (.one (.vw 0 0 a0 1)))),(1,(.v (.one (.fn 171 [(.ptr 4 0 1)])))),(7,(.v (.one (.int .i64 c1)))),(8,(.v (.one (.int .i64 c9)))),(9,(.v (.one (.bool e10))))] [(.mk false (.fl .f32 g2)),(.mk false (.fl .f32 g3)),(.mk false (.fl .f32 g4)),(.mk true (.cells [(.vw 0 0 a5 1),(.vw 1 0 a6 1),(.vw 2 0 a7 1)])),(.mk true (.cells [(.flt .f32 a8)]))])
def z2h:Option ((Int)⊕(Int×Bool))→Option (Ex×St)
 | none=>none
 | some (Sum.inl r)=>some (.ret,(z2b a0 c1 g2 g3 g4 a5 a6 a7 a8 r))
 | some (Sum.inr r)=>some ((.exit 0),(z29 a0 c1 g2 g3 g4 a5 a6 a7 a8 r.1 r.2))
def z4r (x:Option ((Int)⊕(Int×Bool))):LO:=(.two (oL x) (.one .ret (z2b a0 c1 g2 g3 g4 a5 a6 a7 a8 ((tL x).getD default))) (.one (.exit 0) (z29 a0 c1 g2 g3 g4 a5 a6 a7 a8 ((tR x).getD default).1 ((tR x).getD default).2)))
def z9m:Bool×LO:=sL (z4r a0 c1 g3 g4 g5 a6 a7 a8 a9) (z00 a0 c1 g3 a9 big c2)
def z57:Nat→St→Option (Bool×LO):=lpT 5 (pSt [(pTm 0 (pV (pOne (pVw 0 (liN 0) 1)))),(pTm 1 (pV (pOne (pFn 171 [(pPtr 4 (liN 0) 1)])))),(pTm 7 (pV (pOne (pInt .i64)))),(pTm 8 (pV (pOne (pInt .i64))))] [(pBlk false (pFl .f32)),(pBlk false (pFl .f32)),(pBlk false (pFl .f32)),(pBlk true (pCells [(pVw 0 (liN 0) 1),(pVw 1 (liN 0) 1),(pVw 2 (liN 0) 1)])),(pBlk true (pCells [(pFlt .f32)]))]) (fun hs=>z9m (hN hs 0) (hI hs 1) (hI hs 2) (hLn hs 3) (hLn hs 4) (hLn hs 5) (hN hs 6) (hN hs 7) (hN hs 8) (hN hs 9))
theorem zan:∀ x:Option ((Int)⊕(Int×Bool)),x.isSome=true→(z2h a0 c1 g2 g3 g4 a5 a6 a7 a8) x=some (pick (z4r a0 c1 g2 g3 g4 a5 a6 a7 a8 x))
 | none,h=>by cases h
 | some (Sum.inl r),_=>rfl
 | some (Sum.inr r),_=>rfl
theorem za3 (K:Ex→St→Option (Ex×St)):ev9 Γ8 146 2 5 fi146 (z16 a0 c1 c2 g3 g4 g5 a6 a7 a8 a9) K=z08 a0 c1 g3 a9 c2 (fun t8'=>K .normal (z16 a0 c1 t8' g3 g4 g5 a6 a7 a8 a9)) (fun c0_=>K .ret (z2b a0 c1 g3 g4 g5 a6 a7 a8 a9 c0_)) (fun c0_ c1_=>K (.exit 0) (z29 a0 c1 g3 g4 g5 a6 a7 a8 a9 c0_ c1_)):=by kernel_rfl
theorem zai:∀ (n:Nat) (t8:Int),iter 146 2 5 (ev9 Γ8 146 2 5 fi146) n (z16 a0 c1 t8 g2 g3 g4 a5 a6 a7 a8) (fun e st=>some (e,st))=(z2h a0 c1 g2 g3 g4 a5 a6 a7 a8) (z00 a0 c1 g2 a8 n t8):=by
 intro n
 induction n with
 | zero=>intros;rfl
 | succ n ih=>
  intro t8
  refine Eq.trans (iter_succ ..) (Eq.trans (za3 ..) (Eq.trans ?_ (z8y a0 c1 g2 a8 t8 (z2h a0 c1 g2 g3 g4 a5 a6 a7 a8) rfl (fun t8'=>z00 a0 c1 g2 a8 n t8') (fun c0_=>some (Sum.inl c0_)) (fun c0_ c1_=>some (Sum.inr (c0_,c1_))))))
  exact congrArg (fun kn_=>z08 a0 c1 g2 a8 t8 kn_ _ _) (funext fun t8'=>ih ..)
theorem z9b:LoopOne J fnTab 146 2 z57:=lpK zse zsi (fi:=fi146) (by kernel_rfl) (by kernel_rfl) (q:=fun hs=>(z16 (hN hs 0) (hI hs 1) (hI hs 2) (hLn hs 3) (hLn hs 4) (hLn hs 5) (hN hs 6) (hN hs 7) (hN hs 8) (hN hs 9))) (fun hs=>by kernel_rfl) fun hs h1=>Eq.trans (zai (hN hs 0) (hI hs 1) (hLn hs 3) (hLn hs 4) (hLn hs 5) (hN hs 6) (hN hs 7) (hN hs 8) (hN hs 9) big (hI hs 2)) (zan (hN hs 0) (hI hs 1) (hLn hs 3) (hLn hs 4) (hLn hs 5) (hN hs 6) (hN hs 7) (hN hs 8) (hN hs 9) _ h1)
def zca:St:=(.mk [(0,(.v (.one (.ptr 3 0 3)))),(8,(.v (.one (.flt .f32 a0)))),(9,(.v (.one (.int .i64 c1)))),(10,(.v (.one (.int .i64 c2))))] [(.mk false (.fl .f32 g3)),(.mk false (.fl .f32 g4)),(.mk false (.fl .f32 g5)),(.mk false (.cells [(.vw 0 0 a6 1),(.vw 1 0 a7 1),(.vw 2 0 a8 1)]))])
def zfw:St:=(.mk [(0,(.v (.one (.ptr 3 0 3)))),(8,(.v (.one (.flt .f32 a0)))),(9,(.v (.one (.int .i64 c1)))),(10,(.v (.one (.int .i64 c8)))),(36,(.v (.one (.bool e9))))] [(.mk false (.fl .f32 g2)),(.mk false (.fl .f32 g3)),(.mk false (.fl .f32 g4)),(.mk false (.cells [(.vw 0 0 a5 1),(.vw 1 0 a6 1),(.vw 2 0 a7 1)]))])
def zh7:Option ((Int×Bool))→Option (Ex×St)
 | none=>none
 | some r=>some ((.exit 0),(zfw a0 c1 g2 g3 g4 a5 a6 a7 r.1 r.2))
def zon (x:Option ((Int×Bool))):LO:=(.one (.exit 0) (zfw a0 c1 g2 g3 g4 a5 a6 a7 (x.getD default).1 (x.getD default).2))
def zzo:Bool×LO:=sL (zon a0 c1 g3 g4 g5 a6 a7 a8) (z1c a0 g3 a6 big c2)
def zqd:Nat→St→Option (Bool×LO):=lpT 4 (pSt [(pTm 0 (pV (pOne (pPtr 3 (liN 0) 3)))),(pTm 8 (pV (pOne (pFlt .f32)))),(pTm 9 (pV (pOne (pInt .i64)))),(pTm 10 (pV (pOne (pInt .i64))))] [(pBlk false (pFl .f32)),(pBlk false (pFl .f32)),(pBlk false (pFl .f32)),(pBlk false (pCells [(pVw 0 (liN 0) 1),(pVw 1 (liN 0) 1),(pVw 2 (liN 0) 1)]))]) (fun hs=>zzo (hN hs 0) (hI hs 1) (hI hs 2) (hLn hs 3) (hLn hs 4) (hLn hs 5) (hN hs 6) (hN hs 7) (hN hs 8))
theorem y45:∀ x:Option ((Int×Bool)),x.isSome=true→(zh7 a0 c1 g2 g3 g4 a5 a6 a7) x=some (pick (zon a0 c1 g2 g3 g4 a5 a6 a7 x))
 | none,h=>by cases h
 | some r,_=>rfl
theorem y3p (K:Ex→St→Option (Ex×St)):ev9 Γ8 176 4 4 fi176 (zca a0 c1 c2 g3 g4 g5 a6 a7 a8) K=z2u a0 g3 a6 c2 (fun t10'=>K .normal (zca a0 c1 t10' g3 g4 g5 a6 a7 a8)) (fun c0_ c1_=>K (.exit 0) (zfw a0 c1 g3 g4 g5 a6 a7 a8 c0_ c1_)):=by kernel_rfl
theorem y48:∀ (n:Nat) (t10:Int),iter 176 4 4 (ev9 Γ8 176 4 4 fi176) n (zca a0 c1 t10 g2 g3 g4 a5 a6 a7) (fun e st=>some (e,st))=(zh7 a0 c1 g2 g3 g4 a5 a6 a7) (z1c a0 g2 a5 n t10):=by
 intro n
 induction n with
 | zero=>intros;rfl
 | succ n ih=>
  intro t10
  refine Eq.trans (iter_succ ..) (Eq.trans (y3p ..) (Eq.trans ?_ (zvk a0 g2 a5 t10 (zh7 a0 c1 g2 g3 g4 a5 a6 a7) rfl (fun t10'=>z1c a0 g2 a5 n t10') (fun c0_ c1_=>some (c0_,c1_)))))
  exact congrArg (fun kn_=>z2u a0 g2 a5 t10 kn_ _) (funext fun t10'=>ih ..)
theorem zyu:LoopOne J fnTab 176 4 zqd:=lpK zse zsi (fi:=fi176) (by kernel_rfl) (by kernel_rfl) (q:=fun hs=>(zca (hN hs 0) (hI hs 1) (hI hs 2) (hLn hs 3) (hLn hs 4) (hLn hs 5) (hN hs 6) (hN hs 7) (hN hs 8))) (fun hs=>by kernel_rfl) fun hs h1=>Eq.trans (y48 (hN hs 0) (hI hs 1) (hLn hs 3) (hLn hs 4) (hLn hs 5) (hN hs 6) (hN hs 7) (hN hs 8) big (hI hs 2)) (y45 (hN hs 0) (hI hs 1) (hLn hs 3) (hLn hs 4) (hLn hs 5) (hN hs 6) (hN hs 7) (hN hs 8) _ h1)
def tb9:List (Nat×(List PT→Option (Bool×AV×List Blk))):=(107,zi7)::(127,zi3)::(143,zcv)::tb8
def lt9:List ((Nat×Nat)×(Nat→St→Option (Bool×LO))):=((146,2),z57)::((176,4),zqd)::lt8
def Γ9:Ctx:=⟨tyTab,fnTab,tblSum tb9,tblLp lt9⟩
theorem zw8:SumL J tb9:=SumL.cons zx3 (SumL.cons zxv (SumL.cons zs4 (zse)))
theorem zx0:LpL J fnTab lt9:=LpL.cons z9b (LpL.cons zyu (zsi))
def zoz  : Option (Bool)→Option (AV×List Blk)
 | some r=>some ((.v (.one (.bool r))),[])
 | none=>none
def zpm:List PT→Option (Bool×AV×List Blk)
 | [.ptr [.row 1 q00 (.fl .f32 q03),.row 1 q02 (.fl .f32 q05),.row 1 q01 (.fl .f32 q04),.row 3 q06 (.fl .f32 q07),.s (.int .i64 q0g),.s (.flt .f32 q0k),.s (.flt .f32 q0j)],.one (.s (.int .i64 i)),.one (.s (.flt .f32 q14)),.one (.s (.flt .f32 q0v)),.one (.s (.flt .f32 q0l))]=>sF zoz (z8a q00 q03 q02 q05 q01 q04 q06 q07 q0g q0k q0j i q14 q0v q0l)
 | _=>none
theorem y9c:ev8 Γ9 87 [.ptr [.row 1 a0 (.fl .f32 g1),.row 1 a2 (.fl .f32 g3),.row 1 a4 (.fl .f32 g5),.row 3 a6 (.fl .f32 g7),.s (.int .i64 c8),.s (.flt .f32 a9),.s (.flt .f32 a10)],.one (.s (.int .i64 c11)),.one (.s (.flt .f32 a12)),.one (.s (.flt .f32 a13)),.one (.s (.flt .f32 a14))]=zoz (z8a a0 g1 a2 g3 a4 g5 a6 g7 c8 a9 a10 c11 a12 a13 a14):=tr2 (y2v a0 g1 a2 g3 a4 g5 a6 g7 c8 a9 a10 c11 a12 a13 a14 zoz rfl (fun c0_=>some c0_)) (by kernel_rfl)
theorem y54:SumOne J 87 zpm:=mkT zw8 zx0 fun pts v news hp=>by
 unfold zpm at hp
 split at hp
 ·exact fin3 (y9c ..) hp
 ·cases hp
def zb0  : Option (Int×Int×Nat×Nat×Nat)→Option (AV×List Blk)
 | some r=>some ((.tup [(.one (.int .i64 r.1)),(.one (.int .i64 r.2.1)),(.one (.flt .f32 r.2.2.1)),(.one (.flt .f32 r.2.2.2.1)),(.one (.flt .f32 r.2.2.2.2))]),[])
 | none=>none
def zbg:List PT→Option (Bool×AV×List Blk)
 | [.agg [.row 1 q0b (.fl .f32 q0h),.row 1 q15 (.fl .f32 q1i),.row 1 q16 (.fl .f32 q1j)],.one (.s (.flt .f32 x1))]=>sF zb0 (z0s q0b q0h q15 q1i q16 q1j x1)
 | _=>none
theorem zue:ev8 Γ9 161 [.agg [.row 1 a0 (.fl .f32 g1),.row 1 a2 (.fl .f32 g3),.row 1 a4 (.fl .f32 g5)],.one (.s (.flt .f32 a6))]=zb0 (z0s a0 g1 a2 g3 a4 g5 a6):=tr2 (zpf a0 g1 a2 g3 a4 g5 a6 zb0 rfl (fun c0_ c1_ c2_ c3_ c4_=>some (c0_,c1_,c2_,c3_,c4_))) (by kernel_rfl)
theorem zqs:SumOne J 161 zbg:=mkT zw8 zx0 fun pts v news hp=>by
 unfold zbg at hp
 split at hp
 ·exact fin3 (zue ..) hp
 ·cases hp
def zna  : Option (Int×Int×Nat×Nat)→Option (AV×List Blk)
 | some r=>some ((.tup [(.one (.int .i64 r.1)),(.one (.int .i64 r.2.1)),(.one (.flt .f32 r.2.2.1)),(.one (.flt .f32 r.2.2.2))]),[])
 | none=>none
def zn8:List PT→Option (Bool×AV×List Blk)
 | [.ptr [.row 1 q0b (.fl .f32 q0h),.row 1 q15 (.fl .f32 q1i),.row 1 q16 (.fl .f32 q1j)],.one (.s (.flt .f32 x1))]=>sF zna (z2y q0b q0h q15 q1i q16 q1j x1)
 | _=>none
theorem y7o:ev8 Γ9 176 [.ptr [.row 1 a0 (.fl .f32 g1),.row 1 a2 (.fl .f32 g3),.row 1 a4 (.fl .f32 g5)],.one (.s (.flt .f32 a6))]=zna (z2y a0 g1 a2 g3 a4 g5 a6):=tr2 (y1g a0 g1 a2 g3 a4 g5 a6 zna rfl (fun c0_ c1_ c2_ c3_=>some (c0_,c1_,c2_,c3_))) (by kernel_rfl)
theorem y4b:SumOne J 176 zn8:=mkT zw8 zx0 fun pts v news hp=>by
 unfold zn8 at hp
 split at hp
 ·exact fin3 (y7o ..) hp
 ·cases hp
def z7j:St:=(.mk [(1,(.v (.one (.ptr 3 0 3)))),(42,(.v (.one (.vw 0 0 a0 1)))),(43,(.v (.one (.int .i64 c1)))),(44,(.v (.one (.int .i64 c2))))] [(.mk false (.fl .f32 g3)),(.mk false (.fl .f32 g4)),(.mk false (.fl .f32 g5)),(.mk true (.cells [(.vw 0 0 a6 1),(.vw 1 0 a7 1),(.vw 2 0 a8 1)]))])
def z9s(q2w:Nat)(t43:Int)(b0 b1 b2:List Nat)(q1q q24 q23:Nat):St:=(.mk [(2,(.v (.one (.bool false))))] [(.mk false (.fl .f32 b0)),(.mk false (.fl .f32 b1)),(.mk false (.fl .f32 b2))])
def z9x:St:=(.mk [(1,(.v (.one (.ptr 3 0 3)))),(42,(.v (.one (.vw 0 0 a0 1)))),(43,(.v (.one (.int .i64 c1)))),(44,(.v (.one (.int .i64 c8)))),(45,(.v (.one (.bool e9))))] [(.mk false (.fl .f32 g2)),(.mk false (.fl .f32 g3)),(.mk false (.fl .f32 g4)),(.mk true (.cells [(.vw 0 0 a5 1),(.vw 1 0 a6 1),(.vw 2 0 a7 1)]))])
def zbf:Option ((Unit)⊕(Int×Bool))→Option (Ex×St)
 | none=>none
 | some (Sum.inl r)=>some (.ret,(z9s a0 c1 g2 g3 g4 a5 a6 a7))
 | some (Sum.inr r)=>some ((.exit 0),(z9x a0 c1 g2 g3 g4 a5 a6 a7 r.1 r.2))
def zh4 (x:Option ((Unit)⊕(Int×Bool))):LO:=(.two (oL x) (.one .ret (z9s a0 c1 g2 g3 g4 a5 a6 a7)) (.one (.exit 0) (z9x a0 c1 g2 g3 g4 a5 a6 a7 ((tR x).getD default).1 ((tR x).getD default).2)))
def zs2:Bool×LO:=sL (zh4 a0 c1 g3 g4 g5 a6 a7 a8) (z0o a0 c1 g3 a6 big c2)
def zie:Nat→St→Option (Bool×LO):=lpT 3 (pSt [(pTm 1 (pV (pOne (pPtr 3 (liN 0) 3)))),(pTm 42 (pV (pOne (pVw 0 (liN 0) 1)))),(pTm 43 (pV (pOne (pInt .i64)))),(pTm 44 (pV (pOne (pInt .i64))))] [(pBlk false (pFl .f32)),(pBlk false (pFl .f32)),(pBlk false (pFl .f32)),(pBlk true (pCells [(pVw 0 (liN 0) 1),(pVw 1 (liN 0) 1),(pVw 2 (liN 0) 1)]))]) (fun hs=>zs2 (hN hs 0) (hI hs 1) (hI hs 2) (hLn hs 3) (hLn hs 4) (hLn hs 5) (hN hs 6) (hN hs 7) (hN hs 8))
theorem zux:∀ x:Option ((Unit)⊕(Int×Bool)),x.isSome=true→(zbf a0 c1 g2 g3 g4 a5 a6 a7) x=some (pick (zh4 a0 c1 g2 g3 g4 a5 a6 a7 x))
 | none,h=>by cases h
 | some (Sum.inl r),_=>rfl
 | some (Sum.inr r),_=>rfl
theorem zut (K:Ex→St→Option (Ex×St)):ev9 Γ9 89 5 3 fi89 (z7j a0 c1 c2 g3 g4 g5 a6 a7 a8) K=z1f a0 c1 g3 a6 c2 (fun t44'=>K .normal (z7j a0 c1 t44' g3 g4 g5 a6 a7 a8)) (fun _=>K .ret (z9s a0 c1 g3 g4 g5 a6 a7 a8)) (fun c0_ c1_=>K (.exit 0) (z9x a0 c1 g3 g4 g5 a6 a7 a8 c0_ c1_)):=by kernel_rfl
theorem zv5:∀ (n:Nat) (t44:Int),iter 89 5 3 (ev9 Γ9 89 5 3 fi89) n (z7j a0 c1 t44 g2 g3 g4 a5 a6 a7) (fun e st=>some (e,st))=(zbf a0 c1 g2 g3 g4 a5 a6 a7) (z0o a0 c1 g2 a5 n t44):=by
 intro n
 induction n with
 | zero=>intros;rfl
 | succ n ih=>
  intro t44
  refine Eq.trans (iter_succ ..) (Eq.trans (zut ..) (Eq.trans ?_ (zou a0 c1 g2 a5 t44 (zbf a0 c1 g2 g3 g4 a5 a6 a7) rfl (fun t44'=>z0o a0 c1 g2 a5 n t44') (fun _=>some (Sum.inl ())) (fun c0_ c1_=>some (Sum.inr (c0_,c1_))))))
  exact congrArg (fun kn_=>z1f a0 c1 g2 a5 t44 kn_ _ _) (funext fun t44'=>ih ..)
theorem zqn:LoopOne J fnTab 89 5 zie:=lpK zw8 zx0 (fi:=fi89) (by kernel_rfl) (by kernel_rfl) (q:=fun hs=>(z7j (hN hs 0) (hI hs 1) (hI hs 2) (hLn hs 3) (hLn hs 4) (hLn hs 5) (hN hs 6) (hN hs 7) (hN hs 8))) (fun hs=>by kernel_rfl) fun hs h1=>Eq.trans (zv5 (hN hs 0) (hI hs 1) (hLn hs 3) (hLn hs 4) (hLn hs 5) (hN hs 6) (hN hs 7) (hN hs 8) big (hI hs 2)) (zux (hN hs 0) (hI hs 1) (hLn hs 3) (hLn hs 4) (hLn hs 5) (hN hs 6) (hN hs 7) (hN hs 8) _ h1)
def tb10:List (Nat×(List PT→Option (Bool×AV×List Blk))):=(87,zpm)::(161,zbg)::(176,zn8)::tb9
def lt10:List ((Nat×Nat)×(Nat→St→Option (Bool×LO))):=((89,5),zie)::lt9
def Γ10:Ctx:=⟨tyTab,fnTab,tblSum tb10,tblLp lt10⟩
theorem zvi:SumL J tb10:=SumL.cons y54 (SumL.cons zqs (SumL.cons y4b (zw8)))
theorem zwr:LpL J fnTab lt10:=LpL.cons zqn (zx0)
def zf9  : Option (Bool)→Option (AV×List Blk)
 | some r=>some ((.v (.one (.bool r))),[])
 | none=>none
def zfb:List PT→Option (Bool×AV×List Blk)
 | [.agg [.row 1 q0b (.fl .f32 q0h),.row 1 q15 (.fl .f32 q1i),.row 1 q16 (.fl .f32 q1j)]]=>sF zf9 (z3y q0b q0h q15 q1i q16 q1j)
 | _=>none
theorem y06:ev8 Γ10 89 [.agg [.row 1 a0 (.fl .f32 g1),.row 1 a2 (.fl .f32 g3),.row 1 a4 (.fl .f32 g5)]]=zf9 (z3y a0 g1 a2 g3 a4 g5):=tr2 (ztd a0 g1 a2 g3 a4 g5 zf9 rfl (fun c0_=>some c0_)) (by kernel_rfl)
theorem zud:SumOne J 89 zfb:=mkT zvi zwr fun pts v news hp=>by
 unfold zfb at hp
 split at hp
 ·exact fin3 (y06 ..) hp
 ·cases hp
def zhu  : Option (Nat)→Option (AV×List Blk)
 | some r=>some ((.v (.one (.flt .f32 r))),[])
 | none=>none
def zhq:List PT→Option (Bool×AV×List Blk)
 | [.agg [.row 1 q1c (.fl .f32 q1t),.row 1 q1g (.fl .f32 q20),.row 1 q1h (.fl .f32 q1z)],.one (.row 1 q1s (.fl .f32 q26)),.one (.s (.flt .f32 q2b))]=>sF zhu (z4y q1c q1t q1g q20 q1h q1z q1s q26 q2b)
 | _=>none
theorem y3q:ev8 Γ10 144 [.agg [.row 1 a0 (.fl .f32 g1),.row 1 a2 (.fl .f32 g3),.row 1 a4 (.fl .f32 g5)],.one (.row 1 a6 (.fl .f32 g7)),.one (.s (.flt .f32 a8))]=zhu (z4y a0 g1 a2 g3 a4 g5 a6 g7 a8):=tr2 (zw9 a0 g1 a2 g3 a4 g5 a6 g7 a8 zhu rfl (fun c0_=>some c0_)) (by kernel_rfl)
theorem zx4:SumOne J 144 zhq:=mkT zvi zwr fun pts v news hp=>by
 unfold zhq at hp
 split at hp
 ·exact fin3 (y3q ..) hp
 ·cases hp
def zr8  : Option (Nat)→Option (AV×List Blk)
 | some r=>some ((.v (.one (.flt .f32 r))),[])
 | none=>none
def zsr:List PT→Option (Bool×AV×List Blk)
 | [.ptr [.row 1 q1c (.fl .f32 q1t),.row 1 q1g (.fl .f32 q20),.row 1 q1h (.fl .f32 q1z)],.one (.row 1 q1s (.fl .f32 q26)),.one (.s (.flt .f32 q2b))]=>sF zr8 (z94 q1c q1t q1g q20 q1h q1z q1s q26 q2b)
 | _=>none
theorem y9x:ev8 Γ10 172 [.ptr [.row 1 a0 (.fl .f32 g1),.row 1 a2 (.fl .f32 g3),.row 1 a4 (.fl .f32 g5)],.one (.row 1 a6 (.fl .f32 g7)),.one (.s (.flt .f32 a8))]=zr8 (z94 a0 g1 a2 g3 a4 g5 a6 g7 a8):=tr2 (y5q a0 g1 a2 g3 a4 g5 a6 g7 a8 zr8 rfl (fun c0_=>some c0_)) (by kernel_rfl)
theorem y69:SumOne J 172 zsr:=mkT zvi zwr fun pts v news hp=>by
 unfold zsr at hp
 split at hp
 ·exact fin3 (y9x ..) hp
 ·cases hp
def tb11:List (Nat×(List PT→Option (Bool×AV×List Blk))):=(89,zfb)::(144,zhq)::(172,zsr)::tb10
def lt11:List ((Nat×Nat)×(Nat→St→Option (Bool×LO))):=lt10
def Γ11:Ctx:=⟨tyTab,fnTab,tblSum tb11,tblLp lt11⟩
theorem zwx:SumL J tb11:=SumL.cons zud (SumL.cons zx4 (SumL.cons y69 (zvi)))
theorem zw3:LpL J fnTab lt11:=zwr
def zf3  : Option (Nat×Nat)→Option (AV×List Blk)
 | some r=>some ((.tup [(.one (.flt .f32 r.1)),(.one (.flt .f32 r.2))]),[])
 | none=>none
def zf0:List PT→Option (Bool×AV×List Blk)
 | [.agg [.row 1 q00 (.fl .f32 q03),.row 1 q02 (.fl .f32 q05),.row 1 q01 (.fl .f32 q04),.row 3 q06 (.fl .f32 q07),.s (.int .i64 q0g),.s (.flt .f32 q0k),.s (.flt .f32 q0j)],.one (.s (.int .i64 i)),.one (.s (.flt .f32 q1p)),.one (.s (.flt .f32 q0l))]=>sF zf3 (z27 q00 q03 q02 q05 q01 q04 q06 q07 q0g q0k q0j i q1p q0l)
 | _=>none
theorem zzu:ev8 Γ11 106 [.agg [.row 1 a0 (.fl .f32 g1),.row 1 a2 (.fl .f32 g3),.row 1 a4 (.fl .f32 g5),.row 3 a6 (.fl .f32 g7),.s (.int .i64 c8),.s (.flt .f32 a9),.s (.flt .f32 a10)],.one (.s (.int .i64 c11)),.one (.s (.flt .f32 a12)),.one (.s (.flt .f32 a13))]=zf3 (z27 a0 g1 a2 g3 a4 g5 a6 g7 c8 a9 a10 c11 a12 a13):=tr2 (zt7 a0 g1 a2 g3 a4 g5 a6 g7 c8 a9 a10 c11 a12 a13 zf3 rfl (fun c0_ c1_=>some (c0_,c1_))) (by kernel_rfl)
theorem zuk:SumOne J 106 zf0:=mkT zwx zw3 fun pts v news hp=>by
 unfold zf0 at hp
 split at hp
 ·exact fin3 (zzu ..) hp
 ·cases hp
def zn9  : Option (Nat)→Option (AV×List Blk)
 | some r=>some ((.v (.one (.flt .f32 r))),[])
 | none=>none
def znx:List PT→Option (Bool×AV×List Blk)
 | [.ptr [.row 1 q1c (.fl .f32 q1t),.row 1 q1g (.fl .f32 q20),.row 1 q1h (.fl .f32 q1z)],.one (.s (.flt .f32 q2b))]=>sF zn9 (z78 q1c q1t q1g q20 q1h q1z q2b)
 | _=>none
theorem y7y:ev8 Γ11 165 [.ptr [.row 1 a0 (.fl .f32 g1),.row 1 a2 (.fl .f32 g3),.row 1 a4 (.fl .f32 g5)],.one (.s (.flt .f32 a6))]=zn9 (z78 a0 g1 a2 g3 a4 g5 a6):=tr2 (y1q a0 g1 a2 g3 a4 g5 a6 zn9 rfl (fun c0_=>some c0_)) (by kernel_rfl)
theorem y3y:SumOne J 165 znx:=mkT zwx zw3 fun pts v news hp=>by
 unfold znx at hp
 split at hp
 ·exact fin3 (y7y ..) hp
 ·cases hp
def zo9  : Option (Nat)→Option (AV×List Blk)
 | some r=>some ((.v (.one (.flt .f32 r))),[])
 | none=>none
def zn7:List PT→Option (Bool×AV×List Blk)
 | [.ptr [.row 1 q1c (.fl .f32 q1t),.row 1 q1g (.fl .f32 q20),.row 1 q1h (.fl .f32 q1z)],.one (.s (.flt .f32 q2b))]=>sF zo9 (z7a q1c q1t q1g q20 q1h q1z q2b)
 | _=>none
theorem y7i:ev8 Γ11 166 [.ptr [.row 1 a0 (.fl .f32 g1),.row 1 a2 (.fl .f32 g3),.row 1 a4 (.fl .f32 g5)],.one (.s (.flt .f32 a6))]=zo9 (z7a a0 g1 a2 g3 a4 g5 a6):=tr2 (y23 a0 g1 a2 g3 a4 g5 a6 zo9 rfl (fun c0_=>some c0_)) (by kernel_rfl)
theorem y2t:SumOne J 166 zn7:=mkT zwx zw3 fun pts v news hp=>by
 unfold zn7 at hp
 split at hp
 ·exact fin3 (y7i ..) hp
 ·cases hp
def tb12:List (Nat×(List PT→Option (Bool×AV×List Blk))):=(106,zf0)::(165,znx)::(166,zn7)::tb11
def lt12:List ((Nat×Nat)×(Nat→St→Option (Bool×LO))):=lt11
def Γ12:Ctx:=⟨tyTab,fnTab,tblSum tb12,tblLp lt12⟩
theorem zvj:SumL J tb12:=SumL.cons zuk (SumL.cons y3y (SumL.cons y2t (zwx)))
theorem zwd:LpL J fnTab lt12:=zw3
def zf6  : Option (Nat×Nat)→Option (AV×List Blk)
 | some r=>some ((.tup [(.one (.flt .f32 r.1)),(.one (.flt .f32 r.2))]),[])
 | none=>none
def zf8:List PT→Option (Bool×AV×List Blk)
 | [.agg [.row 1 q00 (.fl .f32 q03),.row 1 q02 (.fl .f32 q05),.row 1 q01 (.fl .f32 q04),.row 3 q06 (.fl .f32 q07),.s (.int .i64 q0g),.s (.flt .f32 q0k),.s (.flt .f32 q0j)],.one (.s (.int .i64 i)),.one (.s (.flt .f32 q1p)),.one (.s (.flt .f32 q0l))]=>sF zf6 (z2t q00 q03 q02 q05 q01 q04 q06 q07 q0g q0k q0j i q1p q0l)
 | _=>none
theorem y0d:ev8 Γ12 105 [.agg [.row 1 a0 (.fl .f32 g1),.row 1 a2 (.fl .f32 g3),.row 1 a4 (.fl .f32 g5),.row 3 a6 (.fl .f32 g7),.s (.int .i64 c8),.s (.flt .f32 a9),.s (.flt .f32 a10)],.one (.s (.int .i64 c11)),.one (.s (.flt .f32 a12)),.one (.s (.flt .f32 a13))]=zf6 (z2t a0 g1 a2 g3 a4 g5 a6 g7 c8 a9 a10 c11 a12 a13):=tr2 (ztk a0 g1 a2 g3 a4 g5 a6 g7 c8 a9 a10 c11 a12 a13 zf6 rfl (fun c0_ c1_=>some (c0_,c1_))) (by kernel_rfl)
theorem zuz:SumOne J 105 zf8:=mkT zvj zwd fun pts v news hp=>by
 unfold zf8 at hp
 split at hp
 ·exact fin3 (y0d ..) hp
 ·cases hp
def zjb  : Option (Nat×Nat)→Option (AV×List Blk)
 | some r=>some ((.tup [(.one (.flt .f32 r.1)),(.one (.flt .f32 r.2))]),[])
 | none=>none
def zix:List PT→Option (Bool×AV×List Blk)
 | [.ptr [.row 1 q00 (.fl .f32 q03),.row 1 q02 (.fl .f32 q05),.row 1 q01 (.fl .f32 q04),.row 3 q06 (.fl .f32 q07),.s (.int .i64 q0g),.s (.flt .f32 q0k),.s (.flt .f32 q0j)],.one (.s (.int .i64 i)),.one (.s (.flt .f32 q1p)),.one (.s (.flt .f32 q0l))]=>sF zjb (z47 q00 q03 q02 q05 q01 q04 q06 q07 q0g q0k q0j i q1p q0l)
 | _=>none
theorem y4x:ev8 Γ12 150 [.ptr [.row 1 a0 (.fl .f32 g1),.row 1 a2 (.fl .f32 g3),.row 1 a4 (.fl .f32 g5),.row 3 a6 (.fl .f32 g7),.s (.int .i64 c8),.s (.flt .f32 a9),.s (.flt .f32 a10)],.one (.s (.int .i64 c11)),.one (.s (.flt .f32 a12)),.one (.s (.flt .f32 a13))]=zjb (z47 a0 g1 a2 g3 a4 g5 a6 g7 c8 a9 a10 c11 a12 a13):=tr2 (zyq a0 g1 a2 g3 a4 g5 a6 g7 c8 a9 a10 c11 a12 a13 zjb rfl (fun c0_ c1_=>some (c0_,c1_))) (by kernel_rfl)
theorem y04:SumOne J 150 zix:=mkT zvj zwd fun pts v news hp=>by
 unfold zix at hp
 split at hp
 ·exact fin3 (y4x ..) hp
 ·cases hp
def z8u:St:=(.mk [(1,(.v (.one (.ptr 4 0 7)))),(4,(.v (.one (.flt .f32 a0)))),(43,(.v (.one (.vw 3 0 a1 3)))),(44,(.v (.one (.int .i64 c2)))),(45,(.v (.one (.int .i64 c3))))] [(.mk false (.fl .f32 g4)),(.mk false (.fl .f32 g5)),(.mk false (.fl .f32 g6)),(.mk false (.fl .f32 g7)),(.mk true (.cells [(.vw 0 0 a8 1),(.vw 1 0 a9 1),(.vw 2 0 a10 1),(.vw 3 0 a11 3),(.int .i64 c12),(.flt .f32 a13),(.flt .f32 a14)]))])
def zd2(q2u:Nat)(t44:Int)(b0 b1 b2 b3:List Nat)(q18 q17 q19 q0w:Nat)(q1m:Int)(q1l q1a:Nat):St:=(.mk [(2,(.v (.one (.bool false))))] [(.mk false (.fl .f32 b0)),(.mk false (.fl .f32 b1)),(.mk false (.fl .f32 b2)),(.mk false (.fl .f32 b3))])
def zcc:St:=(.mk [(1,(.v (.one (.ptr 4 0 7)))),(4,(.v (.one (.flt .f32 a13)))),(43,(.v (.one (.vw 3 0 a0 3)))),(44,(.v (.one (.int .i64 c1)))),(45,(.v (.one (.int .i64 c14)))),(46,(.v (.one (.bool e15))))] [(.mk false (.fl .f32 g2)),(.mk false (.fl .f32 g3)),(.mk false (.fl .f32 g4)),(.mk false (.fl .f32 g5)),(.mk true (.cells [(.vw 0 0 a6 1),(.vw 1 0 a7 1),(.vw 2 0 a8 1),(.vw 3 0 a9 3),(.int .i64 c10),(.flt .f32 a11),(.flt .f32 a12)]))])
def zde:Option ((Unit)⊕(Nat×Int×Bool))→Option (Ex×St)
 | none=>none
 | some (Sum.inl r)=>some (.ret,(zd2 a0 c1 g2 g3 g4 g5 a6 a7 a8 a9 c10 a11 a12))
 | some (Sum.inr r)=>some ((.exit 0),(zcc a0 c1 g2 g3 g4 g5 a6 a7 a8 a9 c10 a11 a12 r.1 r.2.1 r.2.2))
def zka (x:Option ((Unit)⊕(Nat×Int×Bool))):LO:=(.two (oL x) (.one .ret (zd2 a0 c1 g2 g3 g4 g5 a6 a7 a8 a9 c10 a11 a12)) (.one (.exit 0) (zcc a0 c1 g2 g3 g4 g5 a6 a7 a8 a9 c10 a11 a12 ((tR x).getD default).1 ((tR x).getD default).2.1 ((tR x).getD default).2.2)))
def zuo:Bool×LO:=sL (zka a1 c2 g4 g5 g6 g7 a8 a9 a10 a11 c12 a13 a14) (z0f a1 c2 g7 a14 big a0 c3)
def zmb:Nat→St→Option (Bool×LO):=lpT 4 (pSt [(pTm 1 (pV (pOne (pPtr 4 (liN 0) 7)))),(pTm 4 (pV (pOne (pFlt .f32)))),(pTm 43 (pV (pOne (pVw 3 (liN 0) 3)))),(pTm 44 (pV (pOne (pInt .i64)))),(pTm 45 (pV (pOne (pInt .i64))))] [(pBlk false (pFl .f32)),(pBlk false (pFl .f32)),(pBlk false (pFl .f32)),(pBlk false (pFl .f32)),(pBlk true (pCells [(pVw 0 (liN 0) 1),(pVw 1 (liN 0) 1),(pVw 2 (liN 0) 1),(pVw 3 (liN 0) 3),(pInt .i64),(pFlt .f32),(pFlt .f32)]))]) (fun hs=>zuo (hN hs 0) (hN hs 1) (hI hs 2) (hI hs 3) (hLn hs 4) (hLn hs 5) (hLn hs 6) (hLn hs 7) (hN hs 8) (hN hs 9) (hN hs 10) (hN hs 11) (hI hs 12) (hN hs 13) (hN hs 14))
theorem zyl:∀ x:Option ((Unit)⊕(Nat×Int×Bool)),x.isSome=true→(zde a0 c1 g2 g3 g4 g5 a6 a7 a8 a9 c10 a11 a12) x=some (pick (zka a0 c1 g2 g3 g4 g5 a6 a7 a8 a9 c10 a11 a12 x))
 | none,h=>by cases h
 | some (Sum.inl r),_=>rfl
 | some (Sum.inr r),_=>rfl
theorem zyy (K:Ex→St→Option (Ex×St)):ev9 Γ12 51 6 4 fi51 (z8u a0 a1 c2 c3 g4 g5 g6 g7 a8 a9 a10 a11 c12 a13 a14) K=z1u a1 c2 g7 a14 a0 c3 (fun t4' t45'=>K .normal (z8u t4' a1 c2 t45' g4 g5 g6 g7 a8 a9 a10 a11 c12 a13 a14)) (fun _=>K .ret (zd2 a1 c2 g4 g5 g6 g7 a8 a9 a10 a11 c12 a13 a14)) (fun c0_ c1_ c2_=>K (.exit 0) (zcc a1 c2 g4 g5 g6 g7 a8 a9 a10 a11 c12 a13 a14 c0_ c1_ c2_)):=by kernel_rfl
theorem zxg:∀ (n t4:Nat) (t45:Int),iter 51 6 4 (ev9 Γ12 51 6 4 fi51) n (z8u t4 a0 c1 t45 g2 g3 g4 g5 a6 a7 a8 a9 c10 a11 a12) (fun e st=>some (e,st))=(zde a0 c1 g2 g3 g4 g5 a6 a7 a8 a9 c10 a11 a12) (z0f a0 c1 g5 a12 n t4 t45):=by
 intro n
 induction n with
 | zero=>intros;rfl
 | succ n ih=>
  intro t4 t45
  refine Eq.trans (iter_succ ..) (Eq.trans (zyy ..) (Eq.trans ?_ (zr2 a0 c1 g5 a12 t4 t45 (zde a0 c1 g2 g3 g4 g5 a6 a7 a8 a9 c10 a11 a12) rfl (fun t4' t45'=>z0f a0 c1 g5 a12 n t4' t45') (fun _=>some (Sum.inl ())) (fun c0_ c1_ c2_=>some (Sum.inr (c0_,c1_,c2_))))))
  exact congrArg (fun kn_=>z1u a0 c1 g5 a12 t4 t45 kn_ _ _) (funext fun t4'=>funext fun t45'=>ih ..)
theorem zte:LoopOne J fnTab 51 6 zmb:=lpK zvj zwd (fi:=fi51) (by kernel_rfl) (by kernel_rfl) (q:=fun hs=>(z8u (hN hs 0) (hN hs 1) (hI hs 2) (hI hs 3) (hLn hs 4) (hLn hs 5) (hLn hs 6) (hLn hs 7) (hN hs 8) (hN hs 9) (hN hs 10) (hN hs 11) (hI hs 12) (hN hs 13) (hN hs 14))) (fun hs=>by kernel_rfl) fun hs h1=>Eq.trans (zxg (hN hs 1) (hI hs 2) (hLn hs 4) (hLn hs 5) (hLn hs 6) (hLn hs 7) (hN hs 8) (hN hs 9) (hN hs 10) (hN hs 11) (hI hs 12) (hN hs 13) (hN hs 14) big (hN hs 0) (hI hs 3)) (zyl (hN hs 1) (hI hs 2) (hLn hs 4) (hLn hs 5) (hLn hs 6) (hLn hs 7) (hN hs 8) (hN hs 9) (hN hs 10) (hN hs 11) (hI hs 12) (hN hs 13) (hN hs 14) _ h1)
def tb13:List (Nat×(List PT→Option (Bool×AV×List Blk))):=(105,zf8)::(150,zix)::tb12
def lt13:List ((Nat×Nat)×(Nat→St→Option (Bool×LO))):=((51,6),zmb)::lt12
def Γ13:Ctx:=⟨tyTab,fnTab,tblSum tb13,tblLp lt13⟩
theorem zwk:SumL J tb13:=SumL.cons zuz (SumL.cons y04 (zvj))
theorem zve:LpL J fnTab lt13:=LpL.cons zte (zwd)
def zi4  : Option (Bool)→Option (AV×List Blk)
 | some r=>some ((.v (.one (.bool r))),[])
 | none=>none
def zhz:List PT→Option (Bool×AV×List Blk)
 | [.agg [.row 1 q08 (.fl .f32 q0c),.row 1 q0a (.fl .f32 q0e),.row 1 q09 (.fl .f32 q0d),.row 3 q0f (.fl .f32 q0i),.s (.int .i64 q0n),.s (.flt .f32 q0s),.s (.flt .f32 q0r)]]=>sF zi4 (z4u q08 q0c q0a q0e q09 q0d q0f q0i q0n q0s q0r)
 | _=>none
theorem y2z:ev8 Γ13 51 [.agg [.row 1 a0 (.fl .f32 g1),.row 1 a2 (.fl .f32 g3),.row 1 a4 (.fl .f32 g5),.row 3 a6 (.fl .f32 g7),.s (.int .i64 c8),.s (.flt .f32 a9),.s (.flt .f32 a10)]]=zi4 (z4u a0 g1 a2 g3 a4 g5 a6 g7 c8 a9 a10):=tr2 (zvr a0 g1 a2 g3 a4 g5 a6 g7 c8 a9 a10 zi4 rfl (fun c0_=>some c0_)) (by kernel_rfl)
theorem zym:SumOne J 51 zhz:=mkT zwk zve fun pts v news hp=>by
 unfold zhz at hp
 split at hp
 ·exact fin3 (y2z ..) hp
 ·cases hp
def znj  : Option (Nat×Nat×Nat×Nat)→Option (AV×List Blk)
 | some r=>some ((.tup [(.one (.flt .f32 r.1)),(.one (.flt .f32 r.2.1)),(.one (.flt .f32 r.2.2.1)),(.one (.flt .f32 r.2.2.2))]),[])
 | none=>none
def zne:List PT→Option (Bool×AV×List Blk)
 | [.ptr [.row 1 q00 (.fl .f32 q03),.row 1 q02 (.fl .f32 q05),.row 1 q01 (.fl .f32 q04),.row 3 q06 (.fl .f32 q07),.s (.int .i64 q0g),.s (.flt .f32 q0k),.s (.flt .f32 q0j)],.one (.s (.int .i64 i)),.one (.s (.flt .f32 q1p)),.one (.s (.flt .f32 q0l))]=>sF znj (z3p q00 q03 q02 q05 q01 q04 q06 q07 q0g q0k q0j i q1p q0l)
 | _=>none
theorem y82:ev8 Γ13 130 [.ptr [.row 1 a0 (.fl .f32 g1),.row 1 a2 (.fl .f32 g3),.row 1 a4 (.fl .f32 g5),.row 3 a6 (.fl .f32 g7),.s (.int .i64 c8),.s (.flt .f32 a9),.s (.flt .f32 a10)],.one (.s (.int .i64 c11)),.one (.s (.flt .f32 a12)),.one (.s (.flt .f32 a13))]=znj (z3p a0 g1 a2 g3 a4 g5 a6 g7 c8 a9 a10 c11 a12 a13):=tr2 (y1p a0 g1 a2 g3 a4 g5 a6 g7 c8 a9 a10 c11 a12 a13 znj rfl (fun c0_ c1_ c2_ c3_=>some (c0_,c1_,c2_,c3_))) (by kernel_rfl)
theorem y3j:SumOne J 130 zne:=mkT zwk zve fun pts v news hp=>by
 unfold zne at hp
 split at hp
 ·exact fin3 (y82 ..) hp
 ·cases hp
def zeo  : Option (Nat)→Option (AV×List Blk)
 | some r=>some ((.v (.one (.flt .f32 r))),[])
 | none=>none
def zdm:List PT→Option (Bool×AV×List Blk)
 | [.agg [.row 1 q00 (.fl .f32 q03),.row 1 q02 (.fl .f32 q05),.row 1 q01 (.fl .f32 q04),.row 3 q06 (.fl .f32 q07),.s (.int .i64 q0g),.s (.flt .f32 q0k),.s (.flt .f32 q0j)],.one (.s (.int .i64 i)),.one (.s (.flt .f32 q1p)),.one (.s (.flt .f32 q14)),.one (.s (.flt .f32 q0v)),.one (.s (.flt .f32 q0l))]=>sF zeo (z2g q00 q03 q02 q05 q01 q04 q06 q07 q0g q0k q0j i q1p q14 q0v q0l)
 | _=>none
theorem zya:ev8 Γ13 157 [.agg [.row 1 a0 (.fl .f32 g1),.row 1 a2 (.fl .f32 g3),.row 1 a4 (.fl .f32 g5),.row 3 a6 (.fl .f32 g7),.s (.int .i64 c8),.s (.flt .f32 a9),.s (.flt .f32 a10)],.one (.s (.int .i64 c11)),.one (.s (.flt .f32 a12)),.one (.s (.flt .f32 a13)),.one (.s (.flt .f32 a14)),.one (.s (.flt .f32 a15))]=zeo (z2g a0 g1 a2 g3 a4 g5 a6 g7 c8 a9 a10 c11 a12 a13 a14 a15):=tr2 (zsf a0 g1 a2 g3 a4 g5 a6 g7 c8 a9 a10 c11 a12 a13 a14 a15 zeo rfl (fun c0_=>some c0_)) (by kernel_rfl)
theorem zti:SumOne J 157 zdm:=mkT zwk zve fun pts v news hp=>by
 unfold zdm at hp
 split at hp
 ·exact fin3 (zya ..) hp
 ·cases hp
def tb14:List (Nat×(List PT→Option (Bool×AV×List Blk))):=(51,zhz)::(130,zne)::(157,zdm)::tb13
def lt14:List ((Nat×Nat)×(Nat→St→Option (Bool×LO))):=lt13
def Γ14:Ctx:=⟨tyTab,fnTab,tblSum tb14,tblLp lt14⟩
theorem y2q:SumL J tb14:=SumL.cons zym (SumL.cons y3j (SumL.cons zti (zwk)))
theorem y2k:LpL J fnTab lt14:=zve
def zn4  : Option (Bool)→Option (AV×List Blk)
 | some r=>some ((.v (.one (.bool r))),[])
 | none=>none
def znk:List PT→Option (Bool×AV×List Blk)
 | [.agg [.row 1 q00 (.fl .f32 q03),.row 1 q02 (.fl .f32 q05),.row 1 q01 (.fl .f32 q04),.row 3 q06 (.fl .f32 q07),.s (.int .i64 q0g),.s (.flt .f32 q0k),.s (.flt .f32 q0j)],.one (.s (.int .i64 i)),.one (.s (.flt .f32 q14)),.one (.s (.flt .f32 q0v)),.one (.s (.flt .f32 q0l))]=>sF zn4 (z74 q00 q03 q02 q05 q01 q04 q06 q07 q0g q0k q0j i q14 q0v q0l)
 | _=>none
theorem y7z:ev8 Γ14 139 [.agg [.row 1 a0 (.fl .f32 g1),.row 1 a2 (.fl .f32 g3),.row 1 a4 (.fl .f32 g5),.row 3 a6 (.fl .f32 g7),.s (.int .i64 c8),.s (.flt .f32 a9),.s (.flt .f32 a10)],.one (.s (.int .i64 c11)),.one (.s (.flt .f32 a12)),.one (.s (.flt .f32 a13)),.one (.s (.flt .f32 a14))]=zn4 (z74 a0 g1 a2 g3 a4 g5 a6 g7 c8 a9 a10 c11 a12 a13 a14):=tr2 (y2c a0 g1 a2 g3 a4 g5 a6 g7 c8 a9 a10 c11 a12 a13 a14 zn4 rfl (fun c0_=>some c0_)) (by kernel_rfl)
theorem y42:SumOne J 139 znk:=mkT y2q y2k fun pts v news hp=>by
 unfold znk at hp
 split at hp
 ·exact fin3 (y7z ..) hp
 ·cases hp
def zhf  : Option (Nat)→Option (AV×List Blk)
 | some r=>some ((.v (.one (.flt .f32 r))),[])
 | none=>none
def zhj:List PT→Option (Bool×AV×List Blk)
 | [.ptr [.row 1 q00 (.fl .f32 q03),.row 1 q02 (.fl .f32 q05),.row 1 q01 (.fl .f32 q04),.row 3 q06 (.fl .f32 q07),.s (.int .i64 q0g),.s (.flt .f32 q0k),.s (.flt .f32 q0j)],.one (.s (.int .i64 i)),.one (.s (.flt .f32 q1p)),.one (.s (.flt .f32 q14)),.one (.s (.flt .f32 q0v)),.one (.s (.flt .f32 q0l))]=>sF zhf (z2w q00 q03 q02 q05 q01 q04 q06 q07 q0g q0k q0j i q1p q14 q0v q0l)
 | _=>none
theorem y4g:ev8 Γ14 149 [.ptr [.row 1 a0 (.fl .f32 g1),.row 1 a2 (.fl .f32 g3),.row 1 a4 (.fl .f32 g5),.row 3 a6 (.fl .f32 g7),.s (.int .i64 c8),.s (.flt .f32 a9),.s (.flt .f32 a10)],.one (.s (.int .i64 c11)),.one (.s (.flt .f32 a12)),.one (.s (.flt .f32 a13)),.one (.s (.flt .f32 a14)),.one (.s (.flt .f32 a15))]=zhf (z2w a0 g1 a2 g3 a4 g5 a6 g7 c8 a9 a10 c11 a12 a13 a14 a15):=tr2 (zx1 a0 g1 a2 g3 a4 g5 a6 g7 c8 a9 a10 c11 a12 a13 a14 a15 zhf rfl (fun c0_=>some c0_)) (by kernel_rfl)
theorem zxy:SumOne J 149 zhj:=mkT y2q y2k fun pts v news hp=>by
 unfold zhj at hp
 split at hp
 ·exact fin3 (y4g ..) hp
 ·cases hp
def tb15:List (Nat×(List PT→Option (Bool×AV×List Blk))):=(139,znk)::(149,zhj)::tb14
def lt15:List ((Nat×Nat)×(Nat→St→Option (Bool×LO))):=lt14
def Γ15:Ctx:=⟨tyTab,fnTab,tblSum tb15,tblLp lt15⟩
theorem y7s:SumL J tb15:=SumL.cons y42 (SumL.cons zxy (y2q))
theorem y8l:LpL J fnTab lt15:=y2k
def zja  : Option (Nat×Bool)→Option (AV×List Blk)
 | some r=>some ((.tup [(.one (.flt .f32 r.1)),(.one (.bool r.2))]),[])
 | none=>none
def zj9:List PT→Option (Bool×AV×List Blk)
 | [.agg [.row 1 q00 (.fl .f32 q03),.row 1 q02 (.fl .f32 q05),.row 1 q01 (.fl .f32 q04),.row 3 q06 (.fl .f32 q07),.s (.int .i64 q0g),.s (.flt .f32 q0k),.s (.flt .f32 q0j)],.one (.s (.int .i64 i)),.one (.s (.flt .f32 q1p)),.one (.s (.flt .f32 q14)),.one (.s (.flt .f32 q0v)),.one (.s (.flt .f32 q0l))]=>sF zja (z4c q00 q03 q02 q05 q01 q04 q06 q07 q0g q0k q0j i q1p q14 q0v q0l)
 | _=>none
theorem y58:ev8 Γ15 140 [.agg [.row 1 a0 (.fl .f32 g1),.row 1 a2 (.fl .f32 g3),.row 1 a4 (.fl .f32 g5),.row 3 a6 (.fl .f32 g7),.s (.int .i64 c8),.s (.flt .f32 a9),.s (.flt .f32 a10)],.one (.s (.int .i64 c11)),.one (.s (.flt .f32 a12)),.one (.s (.flt .f32 a13)),.one (.s (.flt .f32 a14)),.one (.s (.flt .f32 a15))]=zja (z4c a0 g1 a2 g3 a4 g5 a6 g7 c8 a9 a10 c11 a12 a13 a14 a15):=tr2 (zxx a0 g1 a2 g3 a4 g5 a6 g7 c8 a9 a10 c11 a12 a13 a14 a15 zja rfl (fun c0_ c1_=>some (c0_,c1_))) (by kernel_rfl)
theorem y0s:SumOne J 140 zj9:=mkT y7s y8l fun pts v news hp=>by
 unfold zj9 at hp
 split at hp
 ·exact fin3 (y58 ..) hp
 ·cases hp
def tb16:List (Nat×(List PT→Option (Bool×AV×List Blk))):=(140,zj9)::tb15
def lt16:List ((Nat×Nat)×(Nat→St→Option (Bool×LO))):=lt15
def Γ16:Ctx:=⟨tyTab,fnTab,tblSum tb16,tblLp lt16⟩
theorem y8i:SumL J tb16:=SumL.cons y0s (y7s)
theorem y8o:LpL J fnTab lt16:=y8l
def z9h:St:=(.mk [(0,(.v (.one (.ptr 4 0 7)))),(1,(.v (.one (.int .i64 c0)))),(2,(.v (.one (.flt .f32 a1)))),(3,(.v (.one (.flt .f32 a2)))),(4,(.v (.one (.flt .f32 a3)))),(12,(.v (.one (.flt .f32 a4)))),(13,(.v (.one (.flt .f32 a5)))),(14,(.v (.one (.int .i64 c6))))] [(.mk false (.fl .f32 g7)),(.mk false (.fl .f32 g8)),(.mk false (.fl .f32 g9)),(.mk false (.fl .f32 g10)),(.mk false (.cells [(.vw 0 0 a11 1),(.vw 1 0 a12 1),(.vw 2 0 a13 1),(.vw 3 0 a14 3),(.int .i64 c15),(.flt .f32 a16),(.flt .f32 a17)]))])
def ze5(i:Int)(q14 q0v q0l:Nat)(b0 b1 b2 b3:List Nat)(q18 q17 q19 q0w:Nat)(q1m:Int)(q1l q1a:Nat):St:=(.mk [(10,(.v (.one (.flt .f32 0)))),(11,(.v (.one (.bool false))))] [(.mk false (.fl .f32 b0)),(.mk false (.fl .f32 b1)),(.mk false (.fl .f32 b2)),(.mk false (.fl .f32 b3)),(.mk false (.cells [(.vw 0 0 q18 1),(.vw 1 0 q17 1),(.vw 2 0 q19 1),(.vw 3 0 q0w 3),(.int .i64 q1m),(.flt .f32 q1l),(.flt .f32 q1a)]))])
def zeg:St:=(.mk [(0,(.v (.one (.ptr 4 0 7)))),(1,(.v (.one (.int .i64 c0)))),(2,(.v (.one (.flt .f32 a1)))),(3,(.v (.one (.flt .f32 a2)))),(4,(.v (.one (.flt .f32 a3)))),(12,(.v (.one (.flt .f32 a15)))),(13,(.v (.one (.flt .f32 a16)))),(14,(.v (.one (.int .i64 c17)))),(18,(.v (.one (.bool e18))))] [(.mk false (.fl .f32 g4)),(.mk false (.fl .f32 g5)),(.mk false (.fl .f32 g6)),(.mk false (.fl .f32 g7)),(.mk false (.cells [(.vw 0 0 a8 1),(.vw 1 0 a9 1),(.vw 2 0 a10 1),(.vw 3 0 a11 3),(.int .i64 c12),(.flt .f32 a13),(.flt .f32 a14)]))])
def zfa:Option ((Unit)⊕(Nat×Nat×Int×Bool))→Option (Ex×St)
 | none=>none
 | some (Sum.inl r)=>some (.ret,(ze5 c0 a1 a2 a3 g4 g5 g6 g7 a8 a9 a10 a11 c12 a13 a14))
 | some (Sum.inr r)=>some ((.exit 0),(zeg c0 a1 a2 a3 g4 g5 g6 g7 a8 a9 a10 a11 c12 a13 a14 r.1 r.2.1 r.2.2.1 r.2.2.2))
def zlj (x:Option ((Unit)⊕(Nat×Nat×Int×Bool))):LO:=(.two (oL x) (.one .ret (ze5 c0 a1 a2 a3 g4 g5 g6 g7 a8 a9 a10 a11 c12 a13 a14)) (.one (.exit 0) (zeg c0 a1 a2 a3 g4 g5 g6 g7 a8 a9 a10 a11 c12 a13 a14 ((tR x).getD default).1 ((tR x).getD default).2.1 ((tR x).getD default).2.2.1 ((tR x).getD default).2.2.2)))
def zvs:Bool×LO:=sL (zlj c0 a1 a2 a3 g7 g8 g9 g10 a11 a12 a13 a14 c15 a16 a17) (z0h c0 a1 a2 a3 g7 g8 g9 g10 a11 a12 a13 a14 c15 a16 a17 big a4 a5 c6)
def zmx:Nat→St→Option (Bool×LO):=lpT 5 (pSt [(pTm 0 (pV (pOne (pPtr 4 (liN 0) 7)))),(pTm 1 (pV (pOne (pInt .i64)))),(pTm 2 (pV (pOne (pFlt .f32)))),(pTm 3 (pV (pOne (pFlt .f32)))),(pTm 4 (pV (pOne (pFlt .f32)))),(pTm 12 (pV (pOne (pFlt .f32)))),(pTm 13 (pV (pOne (pFlt .f32)))),(pTm 14 (pV (pOne (pInt .i64))))] [(pBlk false (pFl .f32)),(pBlk false (pFl .f32)),(pBlk false (pFl .f32)),(pBlk false (pFl .f32)),(pBlk false (pCells [(pVw 0 (liN 0) 1),(pVw 1 (liN 0) 1),(pVw 2 (liN 0) 1),(pVw 3 (liN 0) 3),(pInt .i64),(pFlt .f32),(pFlt .f32)]))]) (fun hs=>zvs (hI hs 0) (hN hs 1) (hN hs 2) (hN hs 3) (hN hs 4) (hN hs 5) (hI hs 6) (hLn hs 7) (hLn hs 8) (hLn hs 9) (hLn hs 10) (hN hs 11) (hN hs 12) (hN hs 13) (hN hs 14) (hI hs 15) (hN hs 16) (hN hs 17))
theorem y0e:∀ x:Option ((Unit)⊕(Nat×Nat×Int×Bool)),x.isSome=true→(zfa c0 a1 a2 a3 g4 g5 g6 g7 a8 a9 a10 a11 c12 a13 a14) x=some (pick (zlj c0 a1 a2 a3 g4 g5 g6 g7 a8 a9 a10 a11 c12 a13 a14 x))
 | none,h=>by cases h
 | some (Sum.inl r),_=>rfl
 | some (Sum.inr r),_=>rfl
theorem y0n (K:Ex→St→Option (Ex×St)):ev9 Γ16 129 4 5 fi129 (z9h c0 a1 a2 a3 a4 a5 c6 g7 g8 g9 g10 a11 a12 a13 a14 c15 a16 a17) K=z26 c0 a1 a2 a3 g7 g8 g9 g10 a11 a12 a13 a14 c15 a16 a17 a4 a5 c6 (fun low' q22' k'=>K .normal (z9h c0 a1 a2 a3 low' q22' k' g7 g8 g9 g10 a11 a12 a13 a14 c15 a16 a17)) (fun _=>K .ret (ze5 c0 a1 a2 a3 g7 g8 g9 g10 a11 a12 a13 a14 c15 a16 a17)) (fun c0_ c1_ c2_ c3_=>K (.exit 0) (zeg c0 a1 a2 a3 g7 g8 g9 g10 a11 a12 a13 a14 c15 a16 a17 c0_ c1_ c2_ c3_)):=by kernel_rfl
theorem y0q:∀ (n low q22:Nat) (k:Int),iter 129 4 5 (ev9 Γ16 129 4 5 fi129) n (z9h c0 a1 a2 a3 low q22 k g4 g5 g6 g7 a8 a9 a10 a11 c12 a13 a14) (fun e st=>some (e,st))=(zfa c0 a1 a2 a3 g4 g5 g6 g7 a8 a9 a10 a11 c12 a13 a14) (z0h c0 a1 a2 a3 g4 g5 g6 g7 a8 a9 a10 a11 c12 a13 a14 n low q22 k):=by
 intro n
 induction n with
 | zero=>intros;rfl
 | succ n ih=>
  intro low q22 k
  refine Eq.trans (iter_succ ..) (Eq.trans (y0n ..) (Eq.trans ?_ (zt3 c0 a1 a2 a3 g4 g5 g6 g7 a8 a9 a10 a11 c12 a13 a14 low q22 k (zfa c0 a1 a2 a3 g4 g5 g6 g7 a8 a9 a10 a11 c12 a13 a14) rfl (fun low' q22' k'=>z0h c0 a1 a2 a3 g4 g5 g6 g7 a8 a9 a10 a11 c12 a13 a14 n low' q22' k') (fun _=>some (Sum.inl ())) (fun c0_ c1_ c2_ c3_=>some (Sum.inr (c0_,c1_,c2_,c3_))))))
  exact congrArg (fun kn_=>z26 c0 a1 a2 a3 g4 g5 g6 g7 a8 a9 a10 a11 c12 a13 a14 low q22 k kn_ _ _) (funext fun low'=>funext fun q22'=>funext fun k'=>ih ..)
theorem zuf:LoopOne J fnTab 129 4 zmx:=lpK y8i y8o (fi:=fi129) (by kernel_rfl) (by kernel_rfl) (q:=fun hs=>(z9h (hI hs 0) (hN hs 1) (hN hs 2) (hN hs 3) (hN hs 4) (hN hs 5) (hI hs 6) (hLn hs 7) (hLn hs 8) (hLn hs 9) (hLn hs 10) (hN hs 11) (hN hs 12) (hN hs 13) (hN hs 14) (hI hs 15) (hN hs 16) (hN hs 17))) (fun hs=>by kernel_rfl) fun hs h1=>Eq.trans (y0q (hI hs 0) (hN hs 1) (hN hs 2) (hN hs 3) (hLn hs 7) (hLn hs 8) (hLn hs 9) (hLn hs 10) (hN hs 11) (hN hs 12) (hN hs 13) (hN hs 14) (hI hs 15) (hN hs 16) (hN hs 17) big (hN hs 4) (hN hs 5) (hI hs 6)) (y0e (hI hs 0) (hN hs 1) (hN hs 2) (hN hs 3) (hLn hs 7) (hLn hs 8) (hLn hs 9) (hLn hs 10) (hN hs 11) (hN hs 12) (hN hs 13) (hN hs 14) (hI hs 15) (hN hs 16) (hN hs 17) _ h1)
def tb17:List (Nat×(List PT→Option (Bool×AV×List Blk))):=tb16
def lt17:List ((Nat×Nat)×(Nat→St→Option (Bool×LO))):=((129,4),zmx)::lt16
def Γ17:Ctx:=⟨tyTab,fnTab,tblSum tb17,tblLp lt17⟩
theorem y2o:SumL J tb17:=y8i
theorem y2l:LpL J fnTab lt17:=LpL.cons zuf (y8o)
def zj4  : Option (Nat×Bool)→Option (AV×List Blk)
 | some r=>some ((.tup [(.one (.flt .f32 r.1)),(.one (.bool r.2))]),[])
 | none=>none
def zj1:List PT→Option (Bool×AV×List Blk)
 | [.ptr [.row 1 q00 (.fl .f32 q03),.row 1 q02 (.fl .f32 q05),.row 1 q01 (.fl .f32 q04),.row 3 q06 (.fl .f32 q07),.s (.int .i64 q0g),.s (.flt .f32 q0k),.s (.flt .f32 q0j)],.one (.s (.int .i64 i)),.one (.s (.flt .f32 q14)),.one (.s (.flt .f32 q0v)),.one (.s (.flt .f32 q0l))]=>sF zj4 (z4e q00 q03 q02 q05 q01 q04 q06 q07 q0g q0k q0j i q14 q0v q0l)
 | _=>none
theorem y52:ev8 Γ17 129 [.ptr [.row 1 a0 (.fl .f32 g1),.row 1 a2 (.fl .f32 g3),.row 1 a4 (.fl .f32 g5),.row 3 a6 (.fl .f32 g7),.s (.int .i64 c8),.s (.flt .f32 a9),.s (.flt .f32 a10)],.one (.s (.int .i64 c11)),.one (.s (.flt .f32 a12)),.one (.s (.flt .f32 a13)),.one (.s (.flt .f32 a14))]=zj4 (z4e a0 g1 a2 g3 a4 g5 a6 g7 c8 a9 a10 c11 a12 a13 a14):=tr2 (zyd a0 g1 a2 g3 a4 g5 a6 g7 c8 a9 a10 c11 a12 a13 a14 zj4 rfl (fun c0_ c1_=>some (c0_,c1_))) (by kernel_rfl)
theorem y0v:SumOne J 129 zj1:=mkT y2o y2l fun pts v news hp=>by
 unfold zj1 at hp
 split at hp
 ·exact fin3 (y52 ..) hp
 ·cases hp
def zdl:St:=(.mk [(1,(.v (.one (.int .i64 c0)))),(2,(.v (.one (.flt .f32 a1)))),(3,(.v (.one (.flt .f32 a2)))),(4,(.v (.one (.flt .f32 a3)))),(5,(.v (.one (.ptr 4 0 7)))),(12,(.v (.one (.flt .f32 a4)))),(13,(.v (.one (.flt .f32 a5)))),(24,(.v (.one (.int .i64 c6))))] [(.mk false (.fl .f32 g7)),(.mk false (.fl .f32 g8)),(.mk false (.fl .f32 g9)),(.mk false (.fl .f32 g10)),(.mk true (.cells [(.vw 0 0 a11 1),(.vw 1 0 a12 1),(.vw 2 0 a13 1),(.vw 3 0 a14 3),(.int .i64 c15),(.flt .f32 a16),(.flt .f32 a17)]))])
def zht(i:Int)(q14 q0v q0l:Nat)(b0 b1 b2 b3:List Nat)(q18 q17 q19 q0w:Nat)(q1m:Int)(q1l q1a:Nat):St:=(.mk [(10,(.v (.one (.flt .f32 0)))),(11,(.v (.one (.bool false))))] [(.mk false (.fl .f32 b0)),(.mk false (.fl .f32 b1)),(.mk false (.fl .f32 b2)),(.mk false (.fl .f32 b3))])
def zhd:St:=(.mk [(1,(.v (.one (.int .i64 c0)))),(2,(.v (.one (.flt .f32 a1)))),(3,(.v (.one (.flt .f32 a2)))),(4,(.v (.one (.flt .f32 a3)))),(5,(.v (.one (.ptr 4 0 7)))),(12,(.v (.one (.flt .f32 a15)))),(13,(.v (.one (.flt .f32 a16)))),(24,(.v (.one (.int .i64 c17)))),(25,(.v (.one (.bool e18))))] [(.mk false (.fl .f32 g4)),(.mk false (.fl .f32 g5)),(.mk false (.fl .f32 g6)),(.mk false (.fl .f32 g7)),(.mk true (.cells [(.vw 0 0 a8 1),(.vw 1 0 a9 1),(.vw 2 0 a10 1),(.vw 3 0 a11 3),(.int .i64 c12),(.flt .f32 a13),(.flt .f32 a14)]))])
def zjz:Option ((Unit)⊕(Nat×Nat×Int×Bool))→Option (Ex×St)
 | none=>none
 | some (Sum.inl r)=>some (.ret,(zht c0 a1 a2 a3 g4 g5 g6 g7 a8 a9 a10 a11 c12 a13 a14))
 | some (Sum.inr r)=>some ((.exit 0),(zhd c0 a1 a2 a3 g4 g5 g6 g7 a8 a9 a10 a11 c12 a13 a14 r.1 r.2.1 r.2.2.1 r.2.2.2))
def zpv (x:Option ((Unit)⊕(Nat×Nat×Int×Bool))):LO:=(.two (oL x) (.one .ret (zht c0 a1 a2 a3 g4 g5 g6 g7 a8 a9 a10 a11 c12 a13 a14)) (.one (.exit 0) (zhd c0 a1 a2 a3 g4 g5 g6 g7 a8 a9 a10 a11 c12 a13 a14 ((tR x).getD default).1 ((tR x).getD default).2.1 ((tR x).getD default).2.2.1 ((tR x).getD default).2.2.2)))
def y1r:Bool×LO:=sL (zpv c0 a1 a2 a3 g7 g8 g9 g10 a11 a12 a13 a14 c15 a16 a17) (z0r c0 a1 a2 a3 g7 g8 g9 g10 a11 a12 a13 a14 c15 a16 a17 big a4 a5 c6)
def zsa:Nat→St→Option (Bool×LO):=lpT 4 (pSt [(pTm 1 (pV (pOne (pInt .i64)))),(pTm 2 (pV (pOne (pFlt .f32)))),(pTm 3 (pV (pOne (pFlt .f32)))),(pTm 4 (pV (pOne (pFlt .f32)))),(pTm 5 (pV (pOne (pPtr 4 (liN 0) 7)))),(pTm 12 (pV (pOne (pFlt .f32)))),(pTm 13 (pV (pOne (pFlt .f32)))),(pTm 24 (pV (pOne (pInt .i64))))] [(pBlk false (pFl .f32)),(pBlk false (pFl .f32)),(pBlk false (pFl .f32)),(pBlk false (pFl .f32)),(pBlk true (pCells [(pVw 0 (liN 0) 1),(pVw 1 (liN 0) 1),(pVw 2 (liN 0) 1),(pVw 3 (liN 0) 3),(pInt .i64),(pFlt .f32),(pFlt .f32)]))]) (fun hs=>y1r (hI hs 0) (hN hs 1) (hN hs 2) (hN hs 3) (hN hs 4) (hN hs 5) (hI hs 6) (hLn hs 7) (hLn hs 8) (hLn hs 9) (hLn hs 10) (hN hs 11) (hN hs 12) (hN hs 13) (hN hs 14) (hI hs 15) (hN hs 16) (hN hs 17))
theorem y5k:∀ x:Option ((Unit)⊕(Nat×Nat×Int×Bool)),x.isSome=true→(zjz c0 a1 a2 a3 g4 g5 g6 g7 a8 a9 a10 a11 c12 a13 a14) x=some (pick (zpv c0 a1 a2 a3 g4 g5 g6 g7 a8 a9 a10 a11 c12 a13 a14 x))
 | none,h=>by cases h
 | some (Sum.inl r),_=>rfl
 | some (Sum.inr r),_=>rfl
theorem y5a (K:Ex→St→Option (Ex×St)):ev9 Γ17 104 5 4 fi104 (zdl c0 a1 a2 a3 a4 a5 c6 g7 g8 g9 g10 a11 a12 a13 a14 c15 a16 a17) K=z3f c0 a1 a2 a3 g7 g8 g9 g10 a11 a12 a13 a14 c15 a16 a17 a4 a5 c6 (fun low' q22' t24'=>K .normal (zdl c0 a1 a2 a3 low' q22' t24' g7 g8 g9 g10 a11 a12 a13 a14 c15 a16 a17)) (fun _=>K .ret (zht c0 a1 a2 a3 g7 g8 g9 g10 a11 a12 a13 a14 c15 a16 a17)) (fun c0_ c1_ c2_ c3_=>K (.exit 0) (zhd c0 a1 a2 a3 g7 g8 g9 g10 a11 a12 a13 a14 c15 a16 a17 c0_ c1_ c2_ c3_)):=by kernel_rfl
theorem y5c:∀ (n low q22:Nat) (t24:Int),iter 104 5 4 (ev9 Γ17 104 5 4 fi104) n (zdl c0 a1 a2 a3 low q22 t24 g4 g5 g6 g7 a8 a9 a10 a11 c12 a13 a14) (fun e st=>some (e,st))=(zjz c0 a1 a2 a3 g4 g5 g6 g7 a8 a9 a10 a11 c12 a13 a14) (z0r c0 a1 a2 a3 g4 g5 g6 g7 a8 a9 a10 a11 c12 a13 a14 n low q22 t24):=by
 intro n
 induction n with
 | zero=>intros;rfl
 | succ n ih=>
  intro low q22 t24
  refine Eq.trans (iter_succ ..) (Eq.trans (y5a ..) (Eq.trans ?_ (zxt c0 a1 a2 a3 g4 g5 g6 g7 a8 a9 a10 a11 c12 a13 a14 low q22 t24 (zjz c0 a1 a2 a3 g4 g5 g6 g7 a8 a9 a10 a11 c12 a13 a14) rfl (fun low' q22' t24'=>z0r c0 a1 a2 a3 g4 g5 g6 g7 a8 a9 a10 a11 c12 a13 a14 n low' q22' t24') (fun _=>some (Sum.inl ())) (fun c0_ c1_ c2_ c3_=>some (Sum.inr (c0_,c1_,c2_,c3_))))))
  exact congrArg (fun kn_=>z3f c0 a1 a2 a3 g4 g5 g6 g7 a8 a9 a10 a11 c12 a13 a14 low q22 t24 kn_ _ _) (funext fun low'=>funext fun q22'=>funext fun t24'=>ih ..)
theorem y0f:LoopOne J fnTab 104 5 zsa:=lpK y2o y2l (fi:=fi104) (by kernel_rfl) (by kernel_rfl) (q:=fun hs=>(zdl (hI hs 0) (hN hs 1) (hN hs 2) (hN hs 3) (hN hs 4) (hN hs 5) (hI hs 6) (hLn hs 7) (hLn hs 8) (hLn hs 9) (hLn hs 10) (hN hs 11) (hN hs 12) (hN hs 13) (hN hs 14) (hI hs 15) (hN hs 16) (hN hs 17))) (fun hs=>by kernel_rfl) fun hs h1=>Eq.trans (y5c (hI hs 0) (hN hs 1) (hN hs 2) (hN hs 3) (hLn hs 7) (hLn hs 8) (hLn hs 9) (hLn hs 10) (hN hs 11) (hN hs 12) (hN hs 13) (hN hs 14) (hI hs 15) (hN hs 16) (hN hs 17) big (hN hs 4) (hN hs 5) (hI hs 6)) (y5k (hI hs 0) (hN hs 1) (hN hs 2) (hN hs 3) (hLn hs 7) (hLn hs 8) (hLn hs 9) (hLn hs 10) (hN hs 11) (hN hs 12) (hN hs 13) (hN hs 14) (hI hs 15) (hN hs 16) (hN hs 17) _ h1)
def tb18:List (Nat×(List PT→Option (Bool×AV×List Blk))):=(129,zj1)::tb17
def lt18:List ((Nat×Nat)×(Nat→St→Option (Bool×LO))):=((104,5),zsa)::lt17
def Γ18:Ctx:=⟨tyTab,fnTab,tblSum tb18,tblLp lt18⟩
theorem y2n:SumL J tb18:=SumL.cons y0v (y2o)
theorem y2p:LpL J fnTab lt18:=LpL.cons y0f (y2l)
def ziu  : Option (Nat×Nat×Bool)→Option (AV×List Blk)
 | some r=>some ((.tup [(.one (.flt .f32 r.1)),(.one (.flt .f32 r.2.1)),(.one (.bool r.2.2))]),[])
 | none=>none
def zjs:List PT→Option (Bool×AV×List Blk)
 | [.ptr [.row 1 q08 (.fl .f32 q0c),.row 1 q0a (.fl .f32 q0e),.row 1 q09 (.fl .f32 q0d),.row 3 q0f (.fl .f32 q0i),.s (.int .i64 q0n),.s (.flt .f32 q0s),.s (.flt .f32 q0r)],.one (.s (.int .i64 x1)),.one (.s (.flt .f32 x2)),.one (.s (.flt .f32 x3)),.one (.s (.flt .f32 x4)),.one (.s (.flt .f32 x5))]=>sF ziu (z1p q08 q0c q0a q0e q09 q0d q0f q0i q0n q0s q0r x1 x2 x3 x4 x5)
 | _=>none
theorem y4u:ev8 Γ18 88 [.ptr [.row 1 a0 (.fl .f32 g1),.row 1 a2 (.fl .f32 g3),.row 1 a4 (.fl .f32 g5),.row 3 a6 (.fl .f32 g7),.s (.int .i64 c8),.s (.flt .f32 a9),.s (.flt .f32 a10)],.one (.s (.int .i64 c11)),.one (.s (.flt .f32 a12)),.one (.s (.flt .f32 a13)),.one (.s (.flt .f32 a14)),.one (.s (.flt .f32 a15))]=ziu (z1p a0 g1 a2 g3 a4 g5 a6 g7 c8 a9 a10 c11 a12 a13 a14 a15):=tr2 (zy6 a0 g1 a2 g3 a4 g5 a6 g7 c8 a9 a10 c11 a12 a13 a14 a15 ziu rfl (fun c0_ c1_ c2_=>some (c0_,c1_,c2_))) (by kernel_rfl)
theorem zzx:SumOne J 88 zjs:=mkT y2n y2p fun pts v news hp=>by
 unfold zjs at hp
 split at hp
 ·exact fin3 (y4u ..) hp
 ·cases hp
def zp5  : Option (Nat×Bool)→Option (AV×List Blk)
 | some r=>some ((.tup [(.one (.flt .f32 r.1)),(.one (.bool r.2))]),[])
 | none=>none
def zpn:List PT→Option (Bool×AV×List Blk)
 | [.agg [.row 1 q00 (.fl .f32 q03),.row 1 q02 (.fl .f32 q05),.row 1 q01 (.fl .f32 q04),.row 3 q06 (.fl .f32 q07),.s (.int .i64 q0g),.s (.flt .f32 q0k),.s (.flt .f32 q0j)],.one (.s (.int .i64 i)),.one (.s (.flt .f32 q14)),.one (.s (.flt .f32 q0v)),.one (.s (.flt .f32 q0l))]=>sF zp5 (z6p q00 q03 q02 q05 q01 q04 q06 q07 q0g q0k q0j i q14 q0v q0l)
 | _=>none
theorem y9e:ev8 Γ18 104 [.agg [.row 1 a0 (.fl .f32 g1),.row 1 a2 (.fl .f32 g3),.row 1 a4 (.fl .f32 g5),.row 3 a6 (.fl .f32 g7),.s (.int .i64 c8),.s (.flt .f32 a9),.s (.flt .f32 a10)],.one (.s (.int .i64 c11)),.one (.s (.flt .f32 a12)),.one (.s (.flt .f32 a13)),.one (.s (.flt .f32 a14))]=zp5 (z6p a0 g1 a2 g3 a4 g5 a6 g7 c8 a9 a10 c11 a12 a13 a14):=tr2 (y4h a0 g1 a2 g3 a4 g5 a6 g7 c8 a9 a10 c11 a12 a13 a14 zp5 rfl (fun c0_ c1_=>some (c0_,c1_))) (by kernel_rfl)
theorem y55:SumOne J 104 zpn:=mkT y2n y2p fun pts v news hp=>by
 unfold zpn at hp
 split at hp
 ·exact fin3 (y9e ..) hp
 ·cases hp
def tb19:List (Nat×(List PT→Option (Bool×AV×List Blk))):=(88,zjs)::(104,zpn)::tb18
def lt19:List ((Nat×Nat)×(Nat→St→Option (Bool×LO))):=lt18
def Γ19:Ctx:=⟨tyTab,fnTab,tblSum tb19,tblLp lt19⟩
theorem y8k:SumL J tb19:=SumL.cons zzx (SumL.cons y55 (y2n))
theorem y7r:LpL J fnTab lt19:=y2p
def ze6  : Option (Nat×Nat×Bool)→Option (AV×List Blk)
 | some r=>some ((.tup [(.one (.flt .f32 r.1)),(.one (.flt .f32 r.2.1)),(.one (.bool r.2.2))]),[])
 | none=>none
def z8e:List PT→Option (Bool×AV×List Blk)
 | [.agg [.row 1 q08 (.fl .f32 q0c),.row 1 q0a (.fl .f32 q0e),.row 1 q09 (.fl .f32 q0d),.row 3 q0f (.fl .f32 q0i),.s (.int .i64 q0n),.s (.flt .f32 q0s),.s (.flt .f32 q0r)],.one (.s (.int .i64 x1)),.one (.s (.flt .f32 x2)),.one (.s (.flt .f32 x3)),.one (.s (.flt .f32 x4)),.one (.s (.flt .f32 x5))]=>sF ze6 (z1h q08 q0c q0a q0e q09 q0d q0f q0i q0n q0s q0r x1 x2 x3 x4 x5)
 | _=>none
theorem zxp:ev8 Γ19 56 [.agg [.row 1 a0 (.fl .f32 g1),.row 1 a2 (.fl .f32 g3),.row 1 a4 (.fl .f32 g5),.row 3 a6 (.fl .f32 g7),.s (.int .i64 c8),.s (.flt .f32 a9),.s (.flt .f32 a10)],.one (.s (.int .i64 c11)),.one (.s (.flt .f32 a12)),.one (.s (.flt .f32 a13)),.one (.s (.flt .f32 a14)),.one (.s (.flt .f32 a15))]=ze6 (z1h a0 g1 a2 g3 a4 g5 a6 g7 c8 a9 a10 c11 a12 a13 a14 a15):=tr2 (zre a0 g1 a2 g3 a4 g5 a6 g7 c8 a9 a10 c11 a12 a13 a14 a15 ze6 rfl (fun c0_ c1_ c2_=>some (c0_,c1_,c2_))) (by kernel_rfl)
theorem zh2:SumOne J 56 z8e:=mkT y8k y7r fun pts v news hp=>by
 unfold z8e at hp
 split at hp
 ·exact fin3 (zxp ..) hp
 ·cases hp
def tb20:List (Nat×(List PT→Option (Bool×AV×List Blk))):=(56,z8e)::tb19
def lt20:List ((Nat×Nat)×(Nat→St→Option (Bool×LO))):=lt19
def Γ20:Ctx:=⟨tyTab,fnTab,tblSum tb20,tblLp lt20⟩
theorem zr1:SumL J tb20:=SumL.cons zh2 (y8k)
theorem y2m:LpL J fnTab lt20:=y7r
def zed:St:=(.mk [(0,(.v (.one (.ptr 4 0 7)))),(1,(.v (.one (.flt .f32 a0)))),(2,(.v (.one (.flt .f32 a1)))),(3,(.v (.one (.flt .f32 a2)))),(4,(.v (.one (.flt .f32 a3)))),(13,(.v (.one (.sl 5 0 a4 1)))),(14,(.v (.one (.sl 6 0 a5 1)))),(15,(.v (.one (.int .i64 c6))))] [(.mk false (.fl .f32 g7)),(.mk false (.fl .f32 g8)),(.mk false (.fl .f32 g9)),(.mk false (.fl .f32 g10)),(.mk false (.cells [(.vw 0 0 a11 1),(.vw 1 0 a12 1),(.vw 2 0 a13 1),(.vw 3 0 a14 3),(.int .i64 c15),(.flt .f32 a16),(.flt .f32 a17)])),(.mk true (.fl .f32 g18)),(.mk true (.fl .f32 g19))])
def zhn(t1 t2 t3 t4:Nat)(b0 b1 b2 b3:List Nat)(q18 q17 q19 q0w:Nat)(q1m:Int)(q1l q1a:Nat):St:=(.mk [(10,(.v (.one .nilsl))),(11,(.v (.one .nilsl))),(12,(.v (.one (.bool false))))] [(.mk false (.fl .f32 b0)),(.mk false (.fl .f32 b1)),(.mk false (.fl .f32 b2)),(.mk false (.fl .f32 b3)),(.mk false (.cells [(.vw 0 0 q18 1),(.vw 1 0 q17 1),(.vw 2 0 q19 1),(.vw 3 0 q0w 3),(.int .i64 q1m),(.flt .f32 q1l),(.flt .f32 q1a)]))])
def zhg:St:=(.mk [(0,(.v (.one (.ptr 4 0 7)))),(1,(.v (.one (.flt .f32 a0)))),(2,(.v (.one (.flt .f32 a1)))),(3,(.v (.one (.flt .f32 a2)))),(4,(.v (.one (.flt .f32 a3)))),(13,(.v (.one (.sl 5 0 a15 1)))),(14,(.v (.one (.sl 6 0 a16 1)))),(15,(.v (.one (.int .i64 c17)))),(35,(.v (.one (.bool e18))))] [(.mk false (.fl .f32 g4)),(.mk false (.fl .f32 g5)),(.mk false (.fl .f32 g6)),(.mk false (.fl .f32 g7)),(.mk false (.cells [(.vw 0 0 a8 1),(.vw 1 0 a9 1),(.vw 2 0 a10 1),(.vw 3 0 a11 3),(.int .i64 c12),(.flt .f32 a13),(.flt .f32 a14)])),(.mk true (.fl .f32 g19)),(.mk true (.fl .f32 g20))])
def zjn:Option ((Unit)⊕(Nat×Nat×Int×Bool×(List Nat)×(List Nat)))→Option (Ex×St)
 | none=>none
 | some (Sum.inl r)=>some (.ret,(zhn a0 a1 a2 a3 g4 g5 g6 g7 a8 a9 a10 a11 c12 a13 a14))
 | some (Sum.inr r)=>some ((.exit 0),(zhg a0 a1 a2 a3 g4 g5 g6 g7 a8 a9 a10 a11 c12 a13 a14 r.1 r.2.1 r.2.2.1 r.2.2.2.1 r.2.2.2.2.1 r.2.2.2.2.2))
def zpp (x:Option ((Unit)⊕(Nat×Nat×Int×Bool×(List Nat)×(List Nat)))):LO:=(.two (oL x) (.one .ret (zhn a0 a1 a2 a3 g4 g5 g6 g7 a8 a9 a10 a11 c12 a13 a14)) (.one (.exit 0) (zhg a0 a1 a2 a3 g4 g5 g6 g7 a8 a9 a10 a11 c12 a13 a14 ((tR x).getD default).1 ((tR x).getD default).2.1 ((tR x).getD default).2.2.1 ((tR x).getD default).2.2.2.1 ((tR x).getD default).2.2.2.2.1 ((tR x).getD default).2.2.2.2.2)))
def y25:Bool×LO:=sL (zpp a0 a1 a2 a3 g7 g8 g9 g10 a11 a12 a13 a14 c15 a16 a17) (z0e a0 a1 a2 a3 g7 g8 g9 g10 a11 a12 a13 a14 c15 a16 a17 big a4 a5 c6 g18 g19)
def zru:Nat→St→Option (Bool×LO):=lpT 5 (pSt [(pTm 0 (pV (pOne (pPtr 4 (liN 0) 7)))),(pTm 1 (pV (pOne (pFlt .f32)))),(pTm 2 (pV (pOne (pFlt .f32)))),(pTm 3 (pV (pOne (pFlt .f32)))),(pTm 4 (pV (pOne (pFlt .f32)))),(pTm 13 (pV (pOne (pSl 5 (liN 0) 1)))),(pTm 14 (pV (pOne (pSl 6 (liN 0) 1)))),(pTm 15 (pV (pOne (pInt .i64))))] [(pBlk false (pFl .f32)),(pBlk false (pFl .f32)),(pBlk false (pFl .f32)),(pBlk false (pFl .f32)),(pBlk false (pCells [(pVw 0 (liN 0) 1),(pVw 1 (liN 0) 1),(pVw 2 (liN 0) 1),(pVw 3 (liN 0) 3),(pInt .i64),(pFlt .f32),(pFlt .f32)])),(pBlk true (pFl .f32)),(pBlk true (pFl .f32))]) (fun hs=>y25 (hN hs 0) (hN hs 1) (hN hs 2) (hN hs 3) (hN hs 4) (hN hs 5) (hI hs 6) (hLn hs 7) (hLn hs 8) (hLn hs 9) (hLn hs 10) (hN hs 11) (hN hs 12) (hN hs 13) (hN hs 14) (hI hs 15) (hN hs 16) (hN hs 17) (hLn hs 18) (hLn hs 19))
theorem y5t:∀ x:Option ((Unit)⊕(Nat×Nat×Int×Bool×(List Nat)×(List Nat))),x.isSome=true→(zjn a0 a1 a2 a3 g4 g5 g6 g7 a8 a9 a10 a11 c12 a13 a14) x=some (pick (zpp a0 a1 a2 a3 g4 g5 g6 g7 a8 a9 a10 a11 c12 a13 a14 x))
 | none,h=>by cases h
 | some (Sum.inl r),_=>rfl
 | some (Sum.inr r),_=>rfl
theorem y5d (K:Ex→St→Option (Ex×St)):ev9 Γ20 50 6 5 fi50 (zed a0 a1 a2 a3 a4 a5 c6 g7 g8 g9 g10 a11 a12 a13 a14 c15 a16 a17 g18 g19) K=z3g a0 a1 a2 a3 g7 g8 g9 g10 a11 a12 a13 a14 c15 a16 a17 a4 a5 c6 g18 g19 (fun q2s' q2t' t15' b5' b6'=>K .normal (zed a0 a1 a2 a3 q2s' q2t' t15' g7 g8 g9 g10 a11 a12 a13 a14 c15 a16 a17 b5' b6')) (fun _=>K .ret (zhn a0 a1 a2 a3 g7 g8 g9 g10 a11 a12 a13 a14 c15 a16 a17)) (fun c0_ c1_ c2_ c3_ c4_ c5_=>K (.exit 0) (zhg a0 a1 a2 a3 g7 g8 g9 g10 a11 a12 a13 a14 c15 a16 a17 c0_ c1_ c2_ c3_ c4_ c5_)):=by kernel_rfl
theorem y5e:∀ (n q2s q2t:Nat) (t15:Int) (b5 b6:List Nat),iter 50 6 5 (ev9 Γ20 50 6 5 fi50) n (zed a0 a1 a2 a3 q2s q2t t15 g4 g5 g6 g7 a8 a9 a10 a11 c12 a13 a14 b5 b6) (fun e st=>some (e,st))=(zjn a0 a1 a2 a3 g4 g5 g6 g7 a8 a9 a10 a11 c12 a13 a14) (z0e a0 a1 a2 a3 g4 g5 g6 g7 a8 a9 a10 a11 c12 a13 a14 n q2s q2t t15 b5 b6):=by
 intro n
 induction n with
 | zero=>intros;rfl
 | succ n ih=>
  intro q2s q2t t15 b5 b6
  refine Eq.trans (iter_succ ..) (Eq.trans (y5d ..) (Eq.trans ?_ (zxi a0 a1 a2 a3 g4 g5 g6 g7 a8 a9 a10 a11 c12 a13 a14 q2s q2t t15 b5 b6 (zjn a0 a1 a2 a3 g4 g5 g6 g7 a8 a9 a10 a11 c12 a13 a14) rfl (fun q2s' q2t' t15' b5' b6'=>z0e a0 a1 a2 a3 g4 g5 g6 g7 a8 a9 a10 a11 c12 a13 a14 n q2s' q2t' t15' b5' b6') (fun _=>some (Sum.inl ())) (fun c0_ c1_ c2_ c3_ c4_ c5_=>some (Sum.inr (c0_,c1_,c2_,c3_,c4_,c5_))))))
  exact congrArg (fun kn_=>z3g a0 a1 a2 a3 g4 g5 g6 g7 a8 a9 a10 a11 c12 a13 a14 q2s q2t t15 b5 b6 kn_ _ _) (funext fun q2s'=>funext fun q2t'=>funext fun t15'=>funext fun b5'=>funext fun b6'=>ih ..)
theorem y09:LoopOne J fnTab 50 6 zru:=lpK zr1 y2m (fi:=fi50) (by kernel_rfl) (by kernel_rfl) (q:=fun hs=>(zed (hN hs 0) (hN hs 1) (hN hs 2) (hN hs 3) (hN hs 4) (hN hs 5) (hI hs 6) (hLn hs 7) (hLn hs 8) (hLn hs 9) (hLn hs 10) (hN hs 11) (hN hs 12) (hN hs 13) (hN hs 14) (hI hs 15) (hN hs 16) (hN hs 17) (hLn hs 18) (hLn hs 19))) (fun hs=>by kernel_rfl) fun hs h1=>Eq.trans (y5e (hN hs 0) (hN hs 1) (hN hs 2) (hN hs 3) (hLn hs 7) (hLn hs 8) (hLn hs 9) (hLn hs 10) (hN hs 11) (hN hs 12) (hN hs 13) (hN hs 14) (hI hs 15) (hN hs 16) (hN hs 17) big (hN hs 4) (hN hs 5) (hI hs 6) (hLn hs 18) (hLn hs 19)) (y5t (hN hs 0) (hN hs 1) (hN hs 2) (hN hs 3) (hLn hs 7) (hLn hs 8) (hLn hs 9) (hLn hs 10) (hN hs 11) (hN hs 12) (hN hs 13) (hN hs 14) (hI hs 15) (hN hs 16) (hN hs 17) _ h1)
def tb21:List (Nat×(List PT→Option (Bool×AV×List Blk))):=tb20
def lt21:List ((Nat×Nat)×(Nat→St→Option (Bool×LO))):=((50,6),zru)::lt20
def Γ21:Ctx:=⟨tyTab,fnTab,tblSum tb21,tblLp lt21⟩
theorem y7v:SumL J tb21:=zr1
theorem y8q:LpL J fnTab lt21:=LpL.cons y09 (y2m)
def zpg  : Option (Nat×Nat×Bool×(List Nat)×(List Nat))→Option (AV×List Blk)
 | some r=>some ((.tup [(.one (.sl 0 0 r.1 1)),(.one (.sl 1 0 r.2.1 1)),(.one (.bool r.2.2.1))]),[(.mk true (.fl .f32 r.2.2.2.1)),(.mk true (.fl .f32 r.2.2.2.2))])
 | none=>none
def zpa:List PT→Option (Bool×AV×List Blk)
 | [.ptr [.row 1 q08 (.fl .f32 q0c),.row 1 q0a (.fl .f32 q0e),.row 1 q09 (.fl .f32 q0d),.row 3 q0f (.fl .f32 q0i),.s (.int .i64 q0n),.s (.flt .f32 q0s),.s (.flt .f32 q0r)],.one (.s (.flt .f32 x1)),.one (.s (.flt .f32 x2)),.one (.s (.flt .f32 x3)),.one (.s (.flt .f32 x4))]=>sF zpg (z3m q08 q0c q0a q0e q09 q0d q0f q0i q0n q0s q0r x1 x2 x3 x4)
 | _=>none
theorem y91:ev8 Γ21 50 [.ptr [.row 1 a0 (.fl .f32 g1),.row 1 a2 (.fl .f32 g3),.row 1 a4 (.fl .f32 g5),.row 3 a6 (.fl .f32 g7),.s (.int .i64 c8),.s (.flt .f32 a9),.s (.flt .f32 a10)],.one (.s (.flt .f32 a11)),.one (.s (.flt .f32 a12)),.one (.s (.flt .f32 a13)),.one (.s (.flt .f32 a14))]=zpg (z3m a0 g1 a2 g3 a4 g5 a6 g7 c8 a9 a10 a11 a12 a13 a14):=tr2 (y36 a0 g1 a2 g3 a4 g5 a6 g7 c8 a9 a10 a11 a12 a13 a14 zpg rfl (fun c0_ c1_ c2_ c3_ c4_=>some (c0_,c1_,c2_,c3_,c4_))) (by kernel_rfl)
theorem y4v:SumOne J 50 zpa:=mkT y7v y8q fun pts v news hp=>by
 unfold zpa at hp
 split at hp
 ·exact fin3 (y91 ..) hp
 ·cases hp
def tb22:List (Nat×(List PT→Option (Bool×AV×List Blk))):=(50,zpa)::tb21
def lt22:List ((Nat×Nat)×(Nat→St→Option (Bool×LO))):=lt21
def Γ22:Ctx:=⟨tyTab,fnTab,tblSum tb22,tblLp lt22⟩
theorem y7u:SumL J tb22:=SumL.cons y4v (y7v)
theorem y7c:LpL J fnTab lt22:=y8q
def zld  : Option (Nat×Bool)→Option (AV×List Blk)
 | some r=>some ((.tup [(.one (.flt .f32 r.1)),(.one (.bool r.2))]),[])
 | none=>none
def zky:List PT→Option (Bool×AV×List Blk)
 | [.agg [.row 1 q00 (.fl .f32 q03),.row 1 q02 (.fl .f32 q05),.row 1 q01 (.fl .f32 q04),.row 3 q06 (.fl .f32 q07),.s (.int .i64 q0g),.s (.flt .f32 q0k),.s (.flt .f32 q0j)],.one (.s (.flt .f32 q14)),.one (.s (.flt .f32 q0v)),.one (.s (.flt .f32 q0l)),.one (.s (.flt .f32 q21))]=>sF zld (z5a q00 q03 q02 q05 q01 q04 q06 q07 q0g q0k q0j q14 q0v q0l q21)
 | _=>none
theorem y6b:ev8 Γ22 33 [.agg [.row 1 a0 (.fl .f32 g1),.row 1 a2 (.fl .f32 g3),.row 1 a4 (.fl .f32 g5),.row 3 a6 (.fl .f32 g7),.s (.int .i64 c8),.s (.flt .f32 a9),.s (.flt .f32 a10)],.one (.s (.flt .f32 a11)),.one (.s (.flt .f32 a12)),.one (.s (.flt .f32 a13)),.one (.s (.flt .f32 a14))]=zld (z5a a0 g1 a2 g3 a4 g5 a6 g7 c8 a9 a10 a11 a12 a13 a14):=tr2 (zzl a0 g1 a2 g3 a4 g5 a6 g7 c8 a9 a10 a11 a12 a13 a14 zld rfl (fun c0_ c1_=>some (c0_,c1_))) (by kernel_rfl)
theorem y1u:SumOne J 33 zky:=mkT y7u y7c fun pts v news hp=>by
 unfold zky at hp
 split at hp
 ·exact fin3 (y6b ..) hp
 ·cases hp
end
end Go.Proofs.YtijjhfailnmeoaaGreat
