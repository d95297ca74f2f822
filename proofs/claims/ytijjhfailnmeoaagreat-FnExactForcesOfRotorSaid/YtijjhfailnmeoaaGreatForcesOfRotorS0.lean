import Derived.Test.YtijjhfailnmeoaaGreatForcesOfRotorC
set_option linter.unusedVariables false
set_option linter.unusedSimpArgs false
set_option linter.unusedSectionVars false
set_option maxRecDepth 100000
set_option maxHeartbeats 4000000
namespace Go.Proofs.YtijjhfailnmeoaaGreat
open Go Go.Rf
variable {J:Jd Tryz.prog}
abbrev x0F(d x:Nat):Nat×AV:=(d,.v (.one (.flt .f32 x)))
abbrev x0I(d:Nat)(x:Int):Nat×AV:=(d,.v (.one (.int .i64 x)))
abbrev x0B(d:Nat)(x:Bool):Nat×AV:=(d,.v (.one (.bool x)))
abbrev x0P(d b n:Nat):Nat×AV:=(d,.v (.one (.ptr b 0 n)))
abbrev x0S(d b n s:Nat):Nat×AV:=(d,.v (.one (.sl b 0 n s)))
abbrev x0V(d b n s:Nat):Nat×AV:=(d,.v (.one (.vw b 0 n s)))
abbrev x0L(x:List Nat):Blk:=.mk false (.fl .f32 x)
abbrev x0T(x:List Nat):Blk:=.mk true (.fl .f32 x)
abbrev x0R(o:Bool)(b c d e k l m n:Nat)(i:Int)(x y:Nat):Blk:=.mk o (.cells [.vw b 0 k 1,.vw c 0 l 1,.vw d 0 m 1,.vw e 0 n 3,.int .i64 i,.flt .f32 x,.flt .f32 y])
abbrev x1R(o:Bool)(b c d e:Nat):=pBlk o (pCells [pVw b (liN 0) 1,pVw c (liN 0) 1,pVw d (liN 0) 1,pVw e (liN 0) 3,pInt .i64,pFlt .f32,pFlt .f32])
abbrev x1F(d:Nat):=pTm d (pV (pOne (pFlt .f32)))
abbrev x1I(d:Nat):=pTm d (pV (pOne (pInt .i64)))
abbrev x1B(d:Nat):=pTm d (pV (pOne pBool))
abbrev x1P(d b n:Nat):=pTm d (pV (pOne (pPtr b (liN 0) n)))
abbrev x1S(d b s:Nat):=pTm d (pV (pOne (pSl b (liN 0) s)))
abbrev x1V(d b s:Nat):=pTm d (pV (pOne (pVw b (liN 0) s)))
abbrev x1L:=pBlk false (pFl .f32)
abbrev x1T:=pBlk true (pFl .f32)
noncomputable section
variable (a0:Nat) (c0:Int) (e0:Bool) (a1:Nat) (c1:Int) (e1:Bool) (g1:List Nat) (m1:List Bool) (a2:Nat) (c2:Int) (e2:Bool) (g2:List Nat) (a3:Nat) (c3:Int) (g3:List Nat) (m3:List Bool) (a4:Nat) (c4:Int) (e4:Bool) (g4:List Nat) (m4:List Bool) (a5:Nat) (e5:Bool) (g5:List Nat) (a6:Nat) (c6:Int) (g6:List Nat) (a7:Nat) (c7:Int) (g7:List Nat) (a8:Nat) (c8:Int) (e8:Bool) (g8:List Nat) (a9:Nat) (c9:Int) (e9:Bool) (g9:List Nat) (a10:Nat) (c10:Int) (e10:Bool) (g10:List Nat) (a11:Nat) (c11:Int) (g11:List Nat) (a12:Nat) (c12:Int) (g12:List Nat) (a13:Nat) (c13:Int) (g13:List Nat) (a14:Nat) (c14:Int) (e14:Bool) (g14:List Nat) (a15:Nat) (c15:Int) (e15:Bool) (g15:List Nat) (a16:Nat) (g16:List Nat) (a17:Nat) (c17:Int) (a18:Nat) (c18:Int) (e18:Bool) (g18:List Nat) (a19:Nat) (c19:Int) (g19:List Nat) (a20:Nat) (c20:Int) (g20:List Nat) (a21:Nat) (g21:List Nat) (a22:Nat) (g22:List Nat) (g23:List Nat) (g24:List Nat) (g25:List Nat) (a26:Nat) (g26:List Nat) (a27:Nat) (g27:List Nat) (a28:Nat) (g28:List Nat) (a29:Nat) (a30:Nat) (c30:Int) (a31:Nat) (a32:Nat) (a33:Nat) (c33:Int) (a34:Nat) (a35:Nat) (a36:Nat) (c36:Int) (a37:Nat) (c37:Int) (a38:Nat) (e38:Bool) (g39:List Nat)
def zig:List PT→Option (Bool×AV×List Blk)
 | [.one (.s (.flt .f32 x))]=>some (bnot (nanQ .f32 x),A1 (.int .u32 x),[])
 | _=>none
theorem zy0:SumOne J 147 zig:=by
 intro pts v news hp w vals hv
 unfold zig at hp
 split at hp
 ·rename_i x
  injection hp with hp
  injection hp with h1 hp
  injection hp with h2 h3
  subst h2
  subst h3
  obtain⟨l,hl⟩:∃ l,l=vals.toList:=⟨_,rfl⟩
  rw[← hl] at hv
  cases hv with
  | cons a1 a2=>
   cases a2
   obtain⟨b,hb1,hb2,hb3⟩:=a1
   subst hb1
   rename_i hx
   have hvals:vals=#[.float .f32 b]:=by rw[← Array.toList_inj,← hl]
   subst hvals
   have hn:nanB .f32 b=false:=by rw[← u4k,hb3];simpa [bnot,nanQ] using h1
   rw[u03 hn] at hb3
   subst hb3
   refine⟨nat_tame Tryz.func147 (Eq.mpr (by kernel_rfl:_=(Mute (.extern 147)∧True)) ⟨.inr ⟨_,rfl⟩,trivial⟩),.inl ⟨_,w,by (simp only[callFunc,Sem.run_bind,run_program,Result.andThen_ok,Tryz.func147];rfl),NoB,⟨⟨(fun t b' h=>by cases t<;>cases h),(fun t t' b1 b2 x x' _ h=>by cases t<;>cases h)⟩,(fun t x h=>by cases h),Fr.refl _ w⟩,rfl⟩⟩
 ·cases hp
def zcz:List PT→Option (Bool×AV×List Blk)
 | [.one (.s (.int .u64 x))]=>some (okU .f64 x,A1 (.flt .f64 (cnI .f64 x)),[])
 | _=>none
theorem zss:SumOne J 167 zcz:=by
 intro pts v news hp w vals hv
 unfold zcz at hp
 split at hp
 ·rename_i x
  injection hp with hp
  injection hp with h1 hp
  injection hp with h2 h3
  subst h2
  subst h3
  obtain⟨l,hl⟩:∃ l,l=vals.toList:=⟨_,rfl⟩
  rw[← hl] at hv
  cases hv with
  | cons a1 a2=>
   cases a2
   have hb1:_=Value.int .u64 x:=a1
   subst hb1
   rename_i hx
   have hvals:vals=#[.int .u64 x]:=by rw[← Array.toList_inj,← hl]
   subst hvals
   have hw:=okU_lt h1
   refine⟨nat_tame Tryz.func167 (Eq.mpr (by kernel_rfl:_=(Mute (.extern 167)∧True)) ⟨.inr ⟨_,rfl⟩,trivial⟩),.inl ⟨_,w,by (simp only[callFunc,Sem.run_bind,run_program,Result.andThen_ok,Tryz.func167];rfl),NoB,⟨⟨(fun t b' h=>by cases t<;>cases h),(fun t t' b1 b2 x x' _ h=>by cases t<;>cases h)⟩,(fun t x h=>by cases h),Fr.refl _ w⟩,⟨_,rfl,hw,rfl⟩⟩⟩
 ·cases hp
def zie:List PT→Option (Bool×AV×List Blk)
 | [.one (.s (.flt .f64 x))]=>some (bnot (nanQ .f64 x),A1 (.int .u64 x),[])
 | _=>none
theorem zyj:SumOne J 173 zie:=by
 intro pts v news hp w vals hv
 unfold zie at hp
 split at hp
 ·rename_i x
  injection hp with hp
  injection hp with h1 hp
  injection hp with h2 h3
  subst h2
  subst h3
  obtain⟨l,hl⟩:∃ l,l=vals.toList:=⟨_,rfl⟩
  rw[← hl] at hv
  cases hv with
  | cons a1 a2=>
   cases a2
   obtain⟨b,hb1,hb2,hb3⟩:=a1
   subst hb1
   rename_i hx
   have hvals:vals=#[.float .f64 b]:=by rw[← Array.toList_inj,← hl]
   subst hvals
   have hn:nanB .f64 b=false:=by rw[← u4k,hb3];simpa [bnot,nanQ] using h1
   rw[u03 hn] at hb3
   subst hb3
   refine⟨nat_tame Tryz.func173 (Eq.mpr (by kernel_rfl:_=(Mute (.extern 173)∧True)) ⟨.inr ⟨_,rfl⟩,trivial⟩),.inl ⟨_,w,by (simp only[callFunc,Sem.run_bind,run_program,Result.andThen_ok,Tryz.func173];rfl),NoB,⟨⟨(fun t b' h=>by cases t<;>cases h),(fun t t' b1 b2 x x' _ h=>by cases t<;>cases h)⟩,(fun t x h=>by cases h),Fr.refl _ w⟩,rfl⟩⟩
 ·cases hp
def zl2:List PT→Option (Bool×AV×List Blk)
 | [.one (.s (.flt .f64 x))]=>some (bnot (nanQ .f64 x),A1 (.flt .f64 (fint .zero x)),[])
 | _=>none
theorem y22:SumOne J 177 zl2:=by
 intro pts v news hp w vals hv
 unfold zl2 at hp
 split at hp
 ·rename_i x
  injection hp with hp
  injection hp with h1 hp
  injection hp with h2 h3
  subst h2
  subst h3
  obtain⟨l,hl⟩:∃ l,l=vals.toList:=⟨_,rfl⟩
  rw[← hl] at hv
  cases hv with
  | cons a1 a2=>
   cases a2
   obtain⟨b,hb1,hb2,hb3⟩:=a1
   subst hb1
   rename_i hx
   have hvals:vals=#[.float .f64 b]:=by rw[← Array.toList_inj,← hl]
   subst hvals
   have hn:nanB .f64 b=false:=by rw[← u4k,hb3];simpa [bnot,nanQ] using h1
   rw[u03 hn] at hb3
   subst hb3
   refine⟨nat_tame Tryz.func177 (Eq.mpr (by kernel_rfl:_=(Mute (.extern 177)∧Tame Tryz.prog (do let v ← Extern.MathFloor.toIntegral "math.archTrunc" .zero #[.float .f64 b];pure (.value v):Sem Next))) ⟨.inr ⟨_,rfl⟩,tv (t_integral _ _ _)⟩),.inl ⟨_,w,by (simp only[callFunc,Sem.run_bind,run_program,Result.andThen_ok,Tryz.func177];change (do let v ← Extern.MathFloor.toIntegral "math.archTrunc" .zero #[.float .f64 b];pure (.value v):Sem Next).run Tryz.prog w=_;rw[Sem.run_bind,run_fint hn];rfl),NoB,⟨⟨(fun t b' h=>by cases t<;>cases h),(fun t t' b1 b2 x x' _ h=>by cases t<;>cases h)⟩,(fun t x h=>by cases h),Fr.refl _ w⟩,fint_rel hn⟩⟩
 ·cases hp
def zky:List PT→Option (Bool×AV×List Blk)
 | [.one (.s (.flt .f64 x))]=>some (bnot (nanQ .f64 x),A1 (.flt .f64 (fint .down x)),[])
 | _=>none
theorem y28:SumOne J 179 zky:=by
 intro pts v news hp w vals hv
 unfold zky at hp
 split at hp
 ·rename_i x
  injection hp with hp
  injection hp with h1 hp
  injection hp with h2 h3
  subst h2
  subst h3
  obtain⟨l,hl⟩:∃ l,l=vals.toList:=⟨_,rfl⟩
  rw[← hl] at hv
  cases hv with
  | cons a1 a2=>
   cases a2
   obtain⟨b,hb1,hb2,hb3⟩:=a1
   subst hb1
   rename_i hx
   have hvals:vals=#[.float .f64 b]:=by rw[← Array.toList_inj,← hl]
   subst hvals
   have hn:nanB .f64 b=false:=by rw[← u4k,hb3];simpa [bnot,nanQ] using h1
   rw[u03 hn] at hb3
   subst hb3
   refine⟨nat_tame Tryz.func179 (Eq.mpr (by kernel_rfl:_=(Mute (.extern 179)∧Tame Tryz.prog (do let v ← Extern.MathFloor.toIntegral "math.archFloor" .down #[.float .f64 b];pure (.value v):Sem Next))) ⟨.inr ⟨_,rfl⟩,tv (t_integral _ _ _)⟩),.inl ⟨_,w,by (simp only[callFunc,Sem.run_bind,run_program,Result.andThen_ok,Tryz.func179];change (do let v ← Extern.MathFloor.toIntegral "math.archFloor" .down #[.float .f64 b];pure (.value v):Sem Next).run Tryz.prog w=_;rw[Sem.run_bind,run_fint hn];rfl),NoB,⟨⟨(fun t b' h=>by cases t<;>cases h),(fun t t' b1 b2 x x' _ h=>by cases t<;>cases h)⟩,(fun t x h=>by cases h),Fr.refl _ w⟩,fint_rel hn⟩⟩
 ·cases hp
def sF{α:Type}[Inhabited α] (o:Option α→Option (AV×List Blk)) (x:Option α):Option (Bool×AV×List Blk):=sP x.isSome o (x.getD default)
theorem fin3{α:Type}[Inhabited α] {a:Option (AV×List Blk)} {o:Option α→Option (AV×List Blk)} {x:Option α} {v:AV} {news:List Blk} (h:a=o x) (hp:sF o x=some (true,v,news)):a=some (v,news):=fin2 h hp
def sL{α:Type}(lo:Option α→LO)(x:Option α):Bool×LO:=(x.isSome,lo x)
theorem mkT {tb:List (Nat×(List PT→Option (Bool×AV×List Blk)))} {lt:List ((Nat×Nat)×(Nat→St→Option (Bool×LO)))} {J:Jd Tryz.prog} (h1:SumL J tb) (h2:LpL J fnTab lt) {g:FuncId} {F:List PT→Option (Bool×AV×List Blk)} (h:∀ pts v news,F pts=some (true,v,news)→ev8 ⟨tyTab,fnTab,tblSum tb,tblLp lt⟩ g pts=some (v,news)):SumOne J g F:=
 sum_of (Γ:=⟨tyTab,fnTab,tblSum tb,tblLp lt⟩) (fuel:=8) (d:=8) tyTab_ok (FnL.ok fnTab_ok _ _) (LpL.ok h2) (SumL.ok h1 _) mixed fun pts v news hp _=>h pts v news hp
theorem lpK {tb:List (Nat×(List PT→Option (Bool×AV×List Blk)))} {lt:List ((Nat×Nat)×(Nat→St→Option (Bool×LO)))} {J:Jd Tryz.prog} (h1:SumL J tb) (h2:LpL J fnTab lt) {f id lo0:Nat} {fi:FnI} (hfi:Rf.look fnTab f=some fi) (hu:noTwo (lids (loopsIn fi.code))=true) {p:Pz St} {F:List Hv→Bool×LO} {q:List Hv→St}
  (hq:∀ hs,p.fil hs 0=q hs) (h:∀ hs,(F hs).1=true→iter f id lo0 (ev9 ⟨tyTab,fnTab,tblSum tb,tblLp lt⟩ f id lo0 fi) big (q hs) (fun e st=>some (e,st))=some (pick (F hs).2)) (hb:Nat.beq id bodyId=false:=by rfl):LoopOne J fnTab f id (lpT lo0 p F):=
 lp9 (Γ:=⟨tyTab,fnTab,tblSum tb,tblLp lt⟩) tyTab_ok (FnL.ok fnTab_ok _ _) (LpL.ok h2) (SumL.ok h1 _) mixed hfi hu hq h hb
def tb0:List (Nat×(List PT→Option (Bool×AV×List Blk))):=[(147,zig),(167,zcz),(173,zie),(177,zl2),(179,zky)]
def lt0:List ((Nat×Nat)×(Nat→St→Option (Bool×LO))):=[]
def Γ0:Ctx:=⟨tyTab,fnTab,tblSum tb0,tblLp lt0⟩
theorem z82:SumL J tb0:=SumL.cons zy0 (SumL.cons zss (SumL.cons zyj (SumL.cons y22 (SumL.cons y28 (SumL.nil)))))
theorem z83:LpL J fnTab lt0:=LpL.nil
def zlf  : Option (Bool)→Option (AV×List Blk)
 | some r=>some ((.v (.one (.bool r))),[])
 | none=>none
def zlx:List PT→Option (Bool×AV×List Blk)
 | [.one (.s (.flt .f64 a)),.one (.s (.flt .f64 b))]=>sF zlf (z6p a b)
 | _=>none
theorem y6x:ev8 Γ0 35 [.one (.s (.flt .f64 a0)),.one (.s (.flt .f64 a1))]=zlf (z6p a0 a1):=tr2 (zzz a0 a1 zlf rfl (fun c0_=>some c0_)) (by kernel_rfl)
theorem y1q:SumOne J 35 zlx:=mkT z82 z83 fun pts v news hp=>by
 unfold zlx at hp
 split at hp
 ·exact fin3 (y6x ..) hp
 ·cases hp
def zrl  : Option (Bool)→Option (AV×List Blk)
 | some r=>some ((.v (.one (.bool r))),[])
 | none=>none
def zqy:List PT→Option (Bool×AV×List Blk)
 | [.one (.s (.int .i64 n_)),.one (.s (.int .i64 low)),.one (.s (.int .i64 q1p))]=>sF zrl (z9b n_ low q1p)
 | _=>none
theorem yaq:ev8 Γ0 52 [.one (.s (.int .i64 c0)),.one (.s (.int .i64 c1)),.one (.s (.int .i64 c2))]=zrl (z9b c0 c1 c2):=tr2 (y53 c0 c1 c2 zrl rfl (fun c0_=>some c0_)) (by kernel_rfl)
theorem y6a:SumOne J 52 zqy:=mkT z82 z83 fun pts v news hp=>by
 unfold zqy at hp
 split at hp
 ·exact fin3 (yaq ..) hp
 ·cases hp
def zod  : Option (Bool)→Option (AV×List Blk)
 | some r=>some ((.v (.one (.bool r))),[])
 | none=>none
def zo8:List PT→Option (Bool×AV×List Blk)
 | [.one (.s (.flt .f32 x))]=>sF zod (z8z x)
 | _=>none
theorem y7j:ev8 Γ0 65 [.one (.s (.flt .f32 a0))]=zod (z8z a0):=tr2 (y2a a0 zod rfl (fun c0_=>some c0_)) (by kernel_rfl)
theorem y39:SumOne J 65 zo8:=mkT z82 z83 fun pts v news hp=>by
 unfold zo8 at hp
 split at hp
 ·exact fin3 (y7j ..) hp
 ·cases hp
def zu7  : Option (Bool)→Option (AV×List Blk)
 | some r=>some ((.v (.one (.bool r))),[])
 | none=>none
def ztf:List PT→Option (Bool×AV×List Blk)
 | [.one (.s (.int .i64 n_)),.one (.s (.int .i64 low)),.one (.s (.int .i64 q1p))]=>sF zu7 (zae n_ low q1p)
 | _=>none
theorem yat:ev8 Γ0 68 [.one (.s (.int .i64 c0)),.one (.s (.int .i64 c1)),.one (.s (.int .i64 c2))]=zu7 (zae c0 c1 c2):=tr2 (y6y c0 c1 c2 zu7 rfl (fun c0_=>some c0_)) (by kernel_rfl)
theorem y7g:SumOne J 68 ztf:=mkT z82 z83 fun pts v news hp=>by
 unfold ztf at hp
 split at hp
 ·exact fin3 (yat ..) hp
 ·cases hp
def zjf  : Option (Int)→Option (AV×List Blk)
 | some r=>some ((.v (.one (.int .i64 r))),[])
 | none=>none
def zjl:List PT→Option (Bool×AV×List Blk)
 | [.one (.row 3 a_n (.fl .f32 a)),.one (.s (.int .i64 q2k))]=>sF zjf (z5t a_n a q2k)
 | _=>none
theorem y4f:ev8 Γ0 71 [.one (.row 3 a0 (.fl .f32 g1)),.one (.s (.int .i64 c2))]=zjf (z5t a0 g1 c2):=tr2 (zx7 a0 g1 c2 zjf rfl (fun c0_=>some c0_)) (by kernel_rfl)
theorem zzp:SumOne J 71 zjl:=mkT z82 z83 fun pts v news hp=>by
 unfold zjl at hp
 split at hp
 ·exact fin3 (y4f ..) hp
 ·cases hp
def zl6  : Option (Bool)→Option (AV×List Blk)
 | some r=>some ((.v (.one (.bool r))),[])
 | none=>none
def zlg:List PT→Option (Bool×AV×List Blk)
 | [.one (.s (.flt .f32 x))]=>sF zl6 (z8h x)
 | _=>none
theorem y6v:ev8 Γ0 84 [.one (.s (.flt .f32 a0))]=zl6 (z8h a0):=tr2 (y0n a0 zl6 rfl (fun c0_=>some c0_)) (by kernel_rfl)
theorem y24:SumOne J 84 zlg:=mkT z82 z83 fun pts v news hp=>by
 unfold zlg at hp
 split at hp
 ·exact fin3 (y6v ..) hp
 ·cases hp
def zjb  : Option (Int)→Option (AV×List Blk)
 | some r=>some ((.v (.one (.int .i64 r))),[])
 | none=>none
def zjz:List PT→Option (Bool×AV×List Blk)
 | [.one (.row 1 a_n (.fl .f32 a)),.one (.s (.int .i64 q2k))]=>sF zjb (z5m a_n a q2k)
 | _=>none
theorem y5g:ev8 Γ0 117 [.one (.row 1 a0 (.fl .f32 g1)),.one (.s (.int .i64 c2))]=zjb (z5m a0 g1 c2):=tr2 (zxf a0 g1 c2 zjb rfl (fun c0_=>some c0_)) (by kernel_rfl)
theorem y0k:SumOne J 117 zjz:=mkT z82 z83 fun pts v news hp=>by
 unfold zjz at hp
 split at hp
 ·exact fin3 (y5g ..) hp
 ·cases hp
def zl5:Option (Unit)→Option (AV×List Blk)
 | some r=>some ((.v (.agg [(.flt .f32 a0),(.flt .f32 a1),(.flt .f32 a2)])),[])
 | none=>none
def zlj:List PT→Option (Bool×AV×List Blk)
 | [.agg [.s (.flt .f32 q2s),.s (.flt .f32 q2v),.s (.flt .f32 q2u)]]=>sF (zl5 q2s q2v q2u) (zlc q2s q2v q2u)
 | _=>none
theorem y6o:ev8 Γ0 118 [.agg [.s (.flt .f32 a0),.s (.flt .f32 a1),.s (.flt .f32 a2)]]=(zl5 a0 a1 a2) (zlc a0 a1 a2):=tr2 (zza a0 a1 a2 (zl5 a0 a1 a2) rfl (fun _=>some ())) (by kernel_rfl)
theorem y1c:SumOne J 118 zlj:=mkT z82 z83 fun pts v news hp=>by
 unfold zlj at hp
 split at hp
 ·exact fin3 (y6o ..) hp
 ·cases hp
def zoq  : Option (Bool)→Option (AV×List Blk)
 | some r=>some ((.v (.one (.bool r))),[])
 | none=>none
def zo7:List PT→Option (Bool×AV×List Blk)
 | [.one (.s (.flt .f32 x)),.one (.s (.flt .f32 low)),.one (.s (.flt .f32 q1p))]=>sF zoq (z7f x low q1p)
 | _=>none
theorem y86:ev8 Γ0 134 [.one (.s (.flt .f32 a0)),.one (.s (.flt .f32 a1)),.one (.s (.flt .f32 a2))]=zoq (z7f a0 a1 a2):=tr2 (y26 a0 a1 a2 zoq rfl (fun c0_=>some c0_)) (by kernel_rfl)
theorem y43:SumOne J 134 zo7:=mkT z82 z83 fun pts v news hp=>by
 unfold zo7 at hp
 split at hp
 ·exact fin3 (y86 ..) hp
 ·cases hp
def zel  : Option (Nat)→Option (AV×List Blk)
 | some r=>some ((.v (.one (.flt .f32 r))),[])
 | none=>none
def zeu:List PT→Option (Bool×AV×List Blk)
 | [.agg [.row 1 q06 (.fl .f32 q0b),.row 1 q08 (.fl .f32 q0c),.row 1 q09 (.fl .f32 q0d),.row 3 q0f (.fl .f32 q0i),.s (.int .i64 q0k),.s (.flt .f32 q0o),.s (.flt .f32 q0n)],.one (.s (.int .i64 i))]=>sF zel (z3t q06 q0b q08 q0c q09 q0d q0f q0i q0k q0o q0n i)
 | _=>none
theorem zxs:ev8 Γ0 142 [.agg [.row 1 a0 (.fl .f32 g1),.row 1 a2 (.fl .f32 g3),.row 1 a4 (.fl .f32 g5),.row 3 a6 (.fl .f32 g7),.s (.int .i64 c8),.s (.flt .f32 a9),.s (.flt .f32 a10)],.one (.s (.int .i64 c11))]=zel (z3t a0 g1 a2 g3 a4 g5 a6 g7 c8 a9 a10 c11):=tr2 (zsx a0 g1 a2 g3 a4 g5 a6 g7 c8 a9 a10 c11 zel rfl (fun c0_=>some c0_)) (by kernel_rfl)
theorem zur:SumOne J 142 zeu:=mkT z82 z83 fun pts v news hp=>by
 unfold zeu at hp
 split at hp
 ·exact fin3 (zxs ..) hp
 ·cases hp
def zrc  : Option (Nat)→Option (AV×List Blk)
 | some r=>some ((.v (.one (.flt .f32 r))),[])
 | none=>none
def zr5:List PT→Option (Bool×AV×List Blk)
 | [.ptr [.row 1 q06 (.fl .f32 q0b),.row 1 q08 (.fl .f32 q0c),.row 1 q09 (.fl .f32 q0d),.row 3 q0f (.fl .f32 q0i),.s (.int .i64 q0k),.s (.flt .f32 q0o),.s (.flt .f32 q0n)],.one (.s (.int .i64 i)),.one (.s (.flt .f32 q3f))]=>sF zrc (z99 q06 q0b q08 q0c q09 q0d q0f q0i q0k q0o q0n i q3f)
 | _=>none
theorem yal:ev8 Γ0 151 [.ptr [.row 1 a0 (.fl .f32 g1),.row 1 a2 (.fl .f32 g3),.row 1 a4 (.fl .f32 g5),.row 3 a6 (.fl .f32 g7),.s (.int .i64 c8),.s (.flt .f32 a9),.s (.flt .f32 a10)],.one (.s (.int .i64 c11)),.one (.s (.flt .f32 a12))]=zrc (z99 a0 g1 a2 g3 a4 g5 a6 g7 c8 a9 a10 c11 a12):=tr2 (y55 a0 g1 a2 g3 a4 g5 a6 g7 c8 a9 a10 c11 a12 zrc rfl (fun c0_=>some c0_)) (by kernel_rfl)
theorem y72:SumOne J 151 zr5:=mkT z82 z83 fun pts v news hp=>by
 unfold zr5 at hp
 split at hp
 ·exact fin3 (yal ..) hp
 ·cases hp
def zic  : Option (Nat)→Option (AV×List Blk)
 | some r=>some ((.v (.one (.flt .f32 r))),[])
 | none=>none
def zhz:List PT→Option (Bool×AV×List Blk)
 | [.ptr [.row 1 q06 (.fl .f32 q0b),.row 1 q08 (.fl .f32 q0c),.row 1 q09 (.fl .f32 q0d),.row 3 q0f (.fl .f32 q0i),.s (.int .i64 q0k),.s (.flt .f32 q0o),.s (.flt .f32 q0n)],.one (.s (.int .i64 i))]=>sF zic (z4z q06 q0b q08 q0c q09 q0d q0f q0i q0k q0o q0n i)
 | _=>none
theorem y3i:ev8 Γ0 152 [.ptr [.row 1 a0 (.fl .f32 g1),.row 1 a2 (.fl .f32 g3),.row 1 a4 (.fl .f32 g5),.row 3 a6 (.fl .f32 g7),.s (.int .i64 c8),.s (.flt .f32 a9),.s (.flt .f32 a10)],.one (.s (.int .i64 c11))]=zic (z4z a0 g1 a2 g3 a4 g5 a6 g7 c8 a9 a10 c11):=tr2 (zw9 a0 g1 a2 g3 a4 g5 a6 g7 c8 a9 a10 c11 zic rfl (fun c0_=>some c0_)) (by kernel_rfl)
theorem zyl:SumOne J 152 zhz:=mkT z82 z83 fun pts v news hp=>by
 unfold zhz at hp
 split at hp
 ·exact fin3 (y3i ..) hp
 ·cases hp
def y0m  : Option (Nat)→Option (AV×List Blk)
 | some r=>some ((.v (.one (.flt .f64 r))),[])
 | none=>none
def zzb:List PT→Option (Bool×AV×List Blk)
 | []=>sF y0m zga
 | _=>none
theorem ybx  : ev8 Γ0 158 []=y0m (zga):=tr2 (y8y  y0m rfl (fun c0_=>some c0_)) (by kernel_rfl)
theorem yao:SumOne J 158 zzb:=mkT z82 z83 fun pts v news hp=>by
 unfold zzb at hp
 split at hp
 ·exact fin3 ybx hp
 ·cases hp
def zu0  : Option (Nat)→Option (AV×List Blk)
 | some r=>some ((.v (.one (.flt .f32 r))),[])
 | none=>none
def zu1:List PT→Option (Bool×AV×List Blk)
 | [.one (.s (.flt .f32 a)),.one (.s (.flt .f32 b)),.one (.s (.flt .f32 q3d))]=>sF zu0 (zf3 a b q3d)
 | _=>none
theorem yax:ev8 Γ0 162 [.one (.s (.flt .f32 a0)),.one (.s (.flt .f32 a1)),.one (.s (.flt .f32 a2))]=zu0 (zf3 a0 a1 a2):=tr2 (y6r a0 a1 a2 zu0 rfl (fun c0_=>some c0_)) (by kernel_rfl)
theorem y84:SumOne J 162 zu1:=mkT z82 z83 fun pts v news hp=>by
 unfold zu1 at hp
 split at hp
 ·exact fin3 (yax ..) hp
 ·cases hp
def zl7  : Option (Nat)→Option (AV×List Blk)
 | some r=>some ((.v (.one (.flt .f32 r))),[])
 | none=>none
def zlh:List PT→Option (Bool×AV×List Blk)
 | [.one (.s (.flt .f64 x))]=>sF zl7 (z6l x)
 | _=>none
theorem y74:ev8 Γ0 163 [.one (.s (.flt .f64 a0))]=zl7 (z6l a0):=tr2 (zzy a0 zl7 rfl (fun c0_=>some c0_)) (by kernel_rfl)
theorem y1m:SumOne J 163 zlh:=mkT z82 z83 fun pts v news hp=>by
 unfold zlh at hp
 split at hp
 ·exact fin3 (y74 ..) hp
 ·cases hp
def zzi  : Option (Nat)→Option (AV×List Blk)
 | some r=>some ((.v (.one (.flt .f64 r))),[])
 | none=>none
def y08:List PT→Option (Bool×AV×List Blk)
 | [.one (.s (.flt .f64 x))]=>sF zzi (zgb x)
 | _=>none
theorem yc6:ev8 Γ0 168 [.one (.s (.flt .f64 a0))]=zzi (zgb a0):=tr2 (y8r a0 zzi rfl (fun c0_=>some c0_)) (by kernel_rfl)
theorem yar:SumOne J 168 y08:=mkT z82 z83 fun pts v news hp=>by
 unfold y08 at hp
 split at hp
 ·exact fin3 (yc6 ..) hp
 ·cases hp
def tb1:List (Nat×(List PT→Option (Bool×AV×List Blk))):=(35,zlx)::(52,zqy)::(65,zo8)::(68,ztf)::(71,zjl)::(84,zlg)::(117,zjz)::(118,zlj)::(134,zo7)::(142,zeu)::(151,zr5)::(152,zhz)::(158,zzb)::(162,zu1)::(163,zlh)::(168,y08)::tb0
def lt1:List ((Nat×Nat)×(Nat→St→Option (Bool×LO))):=lt0
def Γ1:Ctx:=⟨tyTab,fnTab,tblSum tb1,tblLp lt1⟩
theorem z7y:SumL J tb1:=SumL.cons y1q (SumL.cons y6a (SumL.cons y39 (SumL.cons y7g (SumL.cons zzp (SumL.cons y24 (SumL.cons y0k (SumL.cons y1c (SumL.cons y43 (SumL.cons zur (SumL.cons y72 (SumL.cons zyl (SumL.cons yao (SumL.cons y84 (SumL.cons y1m (SumL.cons yar (z82))))))))))))))))
theorem z7z:LpL J fnTab lt1:=z83
def zp8  : Option (Nat×Bool)→Option (AV×List Blk)
 | some r=>some ((.tup [(.one (.flt .f32 r.1)),(.one (.bool r.2))]),[])
 | none=>none
def zqa:List PT→Option (Bool×AV×List Blk)
 | [.one (.s (.flt .f32 x))]=>sF zp8 (z74 x)
 | _=>none
theorem y8j:ev8 Γ1 59 [.one (.s (.flt .f32 a0))]=zp8 (z74 a0):=tr2 (y2n a0 zp8 rfl (fun c0_ c1_=>some (c0_,c1_))) (by kernel_rfl)
theorem y4q:SumOne J 59 zqa:=mkT z7y z7z fun pts v news hp=>by
 unfold zqa at hp
 split at hp
 ·exact fin3 (y8j ..) hp
 ·cases hp
def zm6  : Option (Int)→Option (AV×List Blk)
 | some r=>some ((.v (.one (.int .i64 r))),[])
 | none=>none
def zm5:List PT→Option (Bool×AV×List Blk)
 | [.agg [.row 1 q1i (.fl .f32 q1t),.row 1 q1l (.fl .f32 q1v),.row 1 q1m (.fl .f32 q1w)],.one (.s (.int .i64 q2k))]=>sF zm6 (z6m q1i q1t q1l q1v q1m q1w q2k)
 | _=>none
theorem y65:ev8 Γ1 70 [.agg [.row 1 a0 (.fl .f32 g1),.row 1 a2 (.fl .f32 g3),.row 1 a4 (.fl .f32 g5)],.one (.s (.int .i64 c6))]=zm6 (z6m a0 g1 a2 g3 a4 g5 c6):=tr2 (zz1 a0 g1 a2 g3 a4 g5 c6 zm6 rfl (fun c0_=>some c0_)) (by kernel_rfl)
theorem y29:SumOne J 70 zm5:=mkT z7y z7z fun pts v news hp=>by
 unfold zm5 at hp
 split at hp
 ·exact fin3 (y65 ..) hp
 ·cases hp
def znh  : Option (Bool)→Option (AV×List Blk)
 | some r=>some ((.v (.one (.bool r))),[])
 | none=>none
def zna:List PT→Option (Bool×AV×List Blk)
 | [.one (.s (.flt .f32 x))]=>sF znh (z7c x)
 | _=>none
theorem y7z:ev8 Γ1 83 [.one (.s (.flt .f32 a0))]=znh (z7c a0):=tr2 (y1o a0 znh rfl (fun c0_=>some c0_)) (by kernel_rfl)
theorem y3l:SumOne J 83 zna:=mkT z7y z7z fun pts v news hp=>by
 unfold zna at hp
 split at hp
 ·exact fin3 (y7z ..) hp
 ·cases hp
def zq0  : Option (Bool)→Option (AV×List Blk)
 | some r=>some ((.v (.one (.bool r))),[])
 | none=>none
def zpp:List PT→Option (Bool×AV×List Blk)
 | [.one (.s (.flt .f32 x))]=>sF zq0 (z85 x)
 | _=>none
theorem y9x:ev8 Γ1 90 [.one (.s (.flt .f32 a0))]=zq0 (z85 a0):=tr2 (y3t a0 zq0 rfl (fun c0_=>some c0_)) (by kernel_rfl)
theorem y5i:SumOne J 90 zpp:=mkT z7y z7z fun pts v news hp=>by
 unfold zpp at hp
 split at hp
 ·exact fin3 (y9x ..) hp
 ·cases hp
def zfs  : Option (Bool)→Option (AV×List Blk)
 | some r=>some ((.v (.one (.bool r))),[])
 | none=>none
def zgg:List PT→Option (Bool×AV×List Blk)
 | [.one (.s (.flt .f32 x))]=>sF zfs (z4c x)
 | _=>none
theorem y0f:ev8 Γ1 115 [.one (.s (.flt .f32 a0))]=zfs (z4c a0):=tr2 (ztd a0 zfs rfl (fun c0_=>some c0_)) (by kernel_rfl)
theorem zv6:SumOne J 115 zgg:=mkT z7y z7z fun pts v news hp=>by
 unfold zgg at hp
 split at hp
 ·exact fin3 (y0f ..) hp
 ·cases hp
def zl1  : Option (Bool)→Option (AV×List Blk)
 | some r=>some ((.v (.one (.bool r))),[])
 | none=>none
def zlt:List PT→Option (Bool×AV×List Blk)
 | [.agg [.s (.flt .f32 q2s),.s (.flt .f32 q2v),.s (.flt .f32 q2u)],.agg [.s (.flt .f32 q35),.s (.flt .f32 q38),.s (.flt .f32 q36)]]=>sF zl1 (z6q q2s q2v q2u q35 q38 q36)
 | _=>none
theorem y76:ev8 Γ1 119 [.agg [.s (.flt .f32 a0),.s (.flt .f32 a1),.s (.flt .f32 a2)],.agg [.s (.flt .f32 a3),.s (.flt .f32 a4),.s (.flt .f32 a5)]]=zl1 (z6q a0 a1 a2 a3 a4 a5):=tr2 (zz8 a0 a1 a2 a3 a4 a5 zl1 rfl (fun c0_=>some c0_)) (by kernel_rfl)
theorem y2c:SumOne J 119 zlt:=mkT z7y z7z fun pts v news hp=>by
 unfold zlt at hp
 split at hp
 ·exact fin3 (y76 ..) hp
 ·cases hp
def zoc  : Option (Bool)→Option (AV×List Blk)
 | some r=>some ((.v (.one (.bool r))),[])
 | none=>none
def znj:List PT→Option (Bool×AV×List Blk)
 | [.one (.s (.flt .f32 x))]=>sF zoc (z7h x)
 | _=>none
theorem y7y:ev8 Γ1 121 [.one (.s (.flt .f32 a0))]=zoc (z7h a0):=tr2 (y2e a0 zoc rfl (fun c0_=>some c0_)) (by kernel_rfl)
theorem y31:SumOne J 121 znj:=mkT z7y z7z fun pts v news hp=>by
 unfold znj at hp
 split at hp
 ·exact fin3 (y7y ..) hp
 ·cases hp
def zn9  : Option (Bool)→Option (AV×List Blk)
 | some r=>some ((.v (.one (.bool r))),[])
 | none=>none
def znt:List PT→Option (Bool×AV×List Blk)
 | [.ptr [.row 1 q06 (.fl .f32 q0b),.row 1 q08 (.fl .f32 q0c),.row 1 q09 (.fl .f32 q0d),.row 3 q0f (.fl .f32 q0i),.s (.int .i64 q0k),.s (.flt .f32 q0o),.s (.flt .f32 q0n)],.one (.s (.int .i64 i)),.one (.s (.flt .f32 q0m))]=>sF zn9 (z7e q06 q0b q08 q0c q09 q0d q0f q0i q0k q0o q0n i q0m)
 | _=>none
theorem y8e:ev8 Γ1 128 [.ptr [.row 1 a0 (.fl .f32 g1),.row 1 a2 (.fl .f32 g3),.row 1 a4 (.fl .f32 g5),.row 3 a6 (.fl .f32 g7),.s (.int .i64 c8),.s (.flt .f32 a9),.s (.flt .f32 a10)],.one (.s (.int .i64 c11)),.one (.s (.flt .f32 a12))]=zn9 (z7e a0 g1 a2 g3 a4 g5 a6 g7 c8 a9 a10 c11 a12):=tr2 (y1e a0 g1 a2 g3 a4 g5 a6 g7 c8 a9 a10 c11 a12 zn9 rfl (fun c0_=>some c0_)) (by kernel_rfl)
theorem y33:SumOne J 128 znt:=mkT z7y z7z fun pts v news hp=>by
 unfold znt at hp
 split at hp
 ·exact fin3 (y8e ..) hp
 ·cases hp
def zrh  : Option (Nat×Nat×Bool)→Option (AV×List Blk)
 | some r=>some ((.tup [(.one (.flt .f32 r.1)),(.one (.flt .f32 r.2.1)),(.one (.bool r.2.2))]),[])
 | none=>none
def zr2:List PT→Option (Bool×AV×List Blk)
 | [.one (.s (.flt .f32 x)),.one (.s (.flt .f32 y))]=>sF zrh (z6d x y)
 | _=>none
theorem yai:ev8 Γ1 131 [.one (.s (.flt .f32 a0)),.one (.s (.flt .f32 a1))]=zrh (z6d a0 a1):=tr2 (y4v a0 a1 zrh rfl (fun c0_ c1_ c2_=>some (c0_,c1_,c2_))) (by kernel_rfl)
theorem y6u:SumOne J 131 zr2:=mkT z7y z7z fun pts v news hp=>by
 unfold zr2 at hp
 split at hp
 ·exact fin3 (yai ..) hp
 ·cases hp
def zih  : Option (Bool)→Option (AV×List Blk)
 | some r=>some ((.v (.one (.bool r))),[])
 | none=>none
def zia:List PT→Option (Bool×AV×List Blk)
 | [.one (.s (.flt .f32 x))]=>sF zih (z51 x)
 | _=>none
theorem y3w:ev8 Γ1 153 [.one (.s (.flt .f32 a0))]=zih (z51 a0):=tr2 (zx1 a0 zih rfl (fun c0_=>some c0_)) (by kernel_rfl)
theorem zxy:SumOne J 153 zia:=mkT z7y z7z fun pts v news hp=>by
 unfold zia at hp
 split at hp
 ·exact fin3 (y3w ..) hp
 ·cases hp
def zd3  : Option (Bool)→Option (AV×List Blk)
 | some r=>some ((.v (.one (.bool r))),[])
 | none=>none
def zd8:List PT→Option (Bool×AV×List Blk)
 | [.agg [.row 1 q06 (.fl .f32 q0b),.row 1 q08 (.fl .f32 q0c),.row 1 q09 (.fl .f32 q0d),.row 3 q0f (.fl .f32 q0i),.s (.int .i64 q0k),.s (.flt .f32 q0o),.s (.flt .f32 q0n)],.one (.s (.int .i64 i))]=>sF zd3 (z3g q06 q0b q08 q0c q09 q0d q0f q0i q0k q0o q0n i)
 | _=>none
theorem zw3:ev8 Γ1 155 [.agg [.row 1 a0 (.fl .f32 g1),.row 1 a2 (.fl .f32 g3),.row 1 a4 (.fl .f32 g5),.row 3 a6 (.fl .f32 g7),.s (.int .i64 c8),.s (.flt .f32 a9),.s (.flt .f32 a10)],.one (.s (.int .i64 c11))]=zd3 (z3g a0 g1 a2 g3 a4 g5 a6 g7 c8 a9 a10 c11):=tr2 (zri a0 g1 a2 g3 a4 g5 a6 g7 c8 a9 a10 c11 zd3 rfl (fun c0_=>some c0_)) (by kernel_rfl)
theorem zso:SumOne J 155 zd8:=mkT z7y z7z fun pts v news hp=>by
 unfold zd8 at hp
 split at hp
 ·exact fin3 (zw3 ..) hp
 ·cases hp
def zre  : Option (Bool)→Option (AV×List Blk)
 | some r=>some ((.v (.one (.bool r))),[])
 | none=>none
def zr7:List PT→Option (Bool×AV×List Blk)
 | [.one (.s (.flt .f32 q1g))]=>sF zre (z9a q1g)
 | _=>none
theorem yap:ev8 Γ1 156 [.one (.s (.flt .f32 a0))]=zre (z9a a0):=tr2 (y5u a0 zre rfl (fun c0_=>some c0_)) (by kernel_rfl)
theorem y6g:SumOne J 156 zr7:=mkT z7y z7z fun pts v news hp=>by
 unfold zr7 at hp
 split at hp
 ·exact fin3 (yap ..) hp
 ·cases hp
def zr6  : Option (Bool)→Option (AV×List Blk)
 | some r=>some ((.v (.one (.bool r))),[])
 | none=>none
def zr3:List PT→Option (Bool×AV×List Blk)
 | [.one (.s (.flt .f64 x))]=>sF zr6 (z9e x)
 | _=>none
theorem yan:ev8 Γ1 159 [.one (.s (.flt .f64 a0))]=zr6 (z9e a0):=tr2 (y5n a0 zr6 rfl (fun c0_=>some c0_)) (by kernel_rfl)
theorem y70:SumOne J 159 zr3:=mkT z7y z7z fun pts v news hp=>by
 unfold zr3 at hp
 split at hp
 ·exact fin3 (yan ..) hp
 ·cases hp
def z8l:St:=(.mk [(x0V 0 0 a0 1),(x0I 1 c1),(x0I 5 c2)] [(x0L g3)])
def zbm(an:Nat)(b0:List Nat):St:=(.mk [(4,(.v (.one (.int .i64 (Int.negSucc 0)))))] [(x0L b0)])
def zbo:St:=(.mk [(x0V 0 0 a0 1),(x0I 1 c2),(x0I 5 c3),(x0B 9 e4)] [(x0L g1)])
def zcv:Option ((Unit)⊕(Int×Int×Bool))→Option (Ex×St)
 | none=>none
 | some (Sum.inl r)=>some (.ret,(zbm a0 g1))
 | some (Sum.inr r)=>some ((.exit 0),(zbo a0 g1 r.1 r.2.1 r.2.2))
def zj9 (x:Option ((Unit)⊕(Int×Int×Bool))):LO:=(.two (oL x) (.one .ret (zbm a0 g1)) (.one (.exit 0) (zbo a0 g1 ((tR x).getD default).1 ((tR x).getD default).2.1 ((tR x).getD default).2.2)))
def zte:Bool×LO:=sL (zj9 a0 g3) (z0k a0 g3 big c1 c2)
def zkk:Nat→St→Option (Bool×LO):=lpT 1 (pSt [(x1V 0 0 1),(x1I 1),(x1I 5)] [x1L]) (fun hs=>zte (hN hs 0) (hI hs 1) (hI hs 2) (hLn hs 3))
theorem zww:∀ x:Option ((Unit)⊕(Int×Int×Bool)),x.isSome=true→(zcv a0 g1) x=some (pick (zj9 a0 g1 x))
 | none,h=>by cases h
 | some (Sum.inl r),_=>rfl
 | some (Sum.inr r),_=>rfl
theorem zvz (K:Ex→St→Option (Ex×St)):ev9 Γ1 40 2 1 fi40 (z8l a0 c1 c2 g3) K=z1v a0 g3 c1 c2 (fun k' i'=>K .normal (z8l a0 k' i' g3)) (fun _=>K .ret (zbm a0 g3)) (fun c0_ c1_ c2_=>K (.exit 0) (zbo a0 g3 c0_ c1_ c2_)):=by kernel_rfl
theorem zwn:∀ (n:Nat) (k i:Int),iter 40 2 1 (ev9 Γ1 40 2 1 fi40) n (z8l a0 k i g1) (fun e st=>some (e,st))=(zcv a0 g1) (z0k a0 g1 n k i):=by
 intro n
 induction n with
 | zero=>intros;rfl
 | succ n ih=>
  intro k i
  refine Eq.trans (iter_succ ..) (Eq.trans (zvz ..) (Eq.trans ?_ (zrb a0 g1 k i (zcv a0 g1) rfl (fun k' i'=>z0k a0 g1 n k' i') (fun _=>some (Sum.inl ())) (fun c0_ c1_ c2_=>some (Sum.inr (c0_,c1_,c2_))))))
  exact congrArg (fun kn_=>z1v a0 g1 k i kn_ _ _) (funext fun k'=>funext fun i'=>ih ..)
theorem zsk:LoopOne J fnTab 40 2 zkk:=lpK z7y z7z (fi:=fi40) (by kernel_rfl) (by kernel_rfl) (q:=fun hs=>(z8l (hN hs 0) (hI hs 1) (hI hs 2) (hLn hs 3))) (fun hs=>by kernel_rfl) fun hs h1=>Eq.trans (zwn (hN hs 0) (hLn hs 3) big (hI hs 1) (hI hs 2)) (zww (hN hs 0) (hLn hs 3) _ h1)
def z9y:St:=(.mk [(x0V 0 0 a0 1),(x0S 3 1 a1 1),(x0I 4 c2)] [(x0L g3),(x0T g4)])
def zet:St:=(.mk [(x0V 0 0 a0 1),(x0S 3 1 a1 1),(x0I 4 c3),(x0B 11 e4)] [(x0L g2),(x0T g5)])
def zfm:Option ((Int×Bool×(List Nat)))→Option (Ex×St)
 | none=>none
 | some r=>some ((.exit 0),(zet a0 a1 g2 r.1 r.2.1 r.2.2))
def zms (x:Option ((Int×Bool×(List Nat)))):LO:=(.one (.exit 0) (zet a0 a1 g2 (x.getD default).1 (x.getD default).2.1 (x.getD default).2.2))
def zw5:Bool×LO:=sL (zms a0 a1 g3) (z19 a0 a1 g3 big c2 g4)
def zon:Nat→St→Option (Bool×LO):=lpT 1 (pSt [(x1V 0 0 1),(x1S 3 1 1),(x1I 4)] [x1L,x1T]) (fun hs=>zw5 (hN hs 0) (hN hs 1) (hI hs 2) (hLn hs 3) (hLn hs 4))
theorem zz4:∀ x:Option ((Int×Bool×(List Nat))),x.isSome=true→(zfm a0 a1 g2) x=some (pick (zms a0 a1 g2 x))
 | none,h=>by cases h
 | some r,_=>rfl
theorem zz3 (K:Ex→St→Option (Ex×St)):ev9 Γ1 45 3 1 fi45 (z9y a0 a1 c2 g3 g4) K=z2g a0 a1 g3 c2 g4 (fun i' b1'=>K .normal (z9y a0 a1 i' g3 b1')) (fun c0_ c1_ c2_=>K (.exit 0) (zet a0 a1 g3 c0_ c1_ c2_)):=by kernel_rfl
theorem zz6:∀ (n:Nat) (i:Int) (b1:List Nat),iter 45 3 1 (ev9 Γ1 45 3 1 fi45) n (z9y a0 a1 i g2 b1) (fun e st=>some (e,st))=(zfm a0 a1 g2) (z19 a0 a1 g2 n i b1):=by
 intro n
 induction n with
 | zero=>intros;rfl
 | succ n ih=>
  intro i b1
  refine Eq.trans (iter_succ ..) (Eq.trans (zz3 ..) (Eq.trans ?_ (zth a0 a1 g2 i b1 (zfm a0 a1 g2) rfl (fun i' b1'=>z19 a0 a1 g2 n i' b1') (fun c0_ c1_ c2_=>some (c0_,c1_,c2_)))))
  exact congrArg (fun kn_=>z2g a0 a1 g2 i b1 kn_ _) (funext fun i'=>funext fun b1'=>ih ..)
theorem zve:LoopOne J fnTab 45 3 zon:=lpK z7y z7z (fi:=fi45) (by kernel_rfl) (by kernel_rfl) (q:=fun hs=>(z9y (hN hs 0) (hN hs 1) (hI hs 2) (hLn hs 3) (hLn hs 4))) (fun hs=>by kernel_rfl) fun hs h1=>Eq.trans (zz6 (hN hs 0) (hN hs 1) (hLn hs 3) big (hI hs 2) (hLn hs 4)) (zz4 (hN hs 0) (hN hs 1) (hLn hs 3) _ h1)
def z5e:St:=(.mk [(x0V 0 0 a0 1),(x0B 1 e1),(x0I 7 c2),(x0I 8 c3)] [(.mk false (.bl m4))])
def z7s(sn:Nat)(v:Bool)(t7:Int)(b0:List Bool)(c0_:Int):St:=(.mk [(x0I 4 c0_)] [(.mk false (.bl b0))])
def z7u:St:=(.mk [(x0V 0 0 a0 1),(x0B 1 e1),(x0I 7 c2),(x0I 8 c4),(x0B 9 e5)] [(.mk false (.bl m3))])
def z87:Option ((Int)⊕(Int×Bool))→Option (Ex×St)
 | none=>none
 | some (Sum.inl r)=>some (.ret,(z7s a0 e1 c2 m3 r))
 | some (Sum.inr r)=>some ((.exit 0),(z7u a0 e1 c2 m3 r.1 r.2))
def zdj (x:Option ((Int)⊕(Int×Bool))):LO:=(.two (oL x) (.one .ret (z7s a0 e1 c2 m3 ((tL x).getD default))) (.one (.exit 0) (z7u a0 e1 c2 m3 ((tR x).getD default).1 ((tR x).getD default).2)))
def znw:Bool×LO:=sL (zdj a0 e1 c2 m4) (z0a a0 e1 c2 m4 big c3)
def zeo:Nat→St→Option (Bool×LO):=lpT 1 (pSt [(x1V 0 0 1),(x1B 1),(x1I 7),(x1I 8)] [(pBlk false pBl)]) (fun hs=>znw (hN hs 0) (hB hs 1) (hI hs 2) (hI hs 3) (hLb hs 4))
theorem zq3:∀ x:Option ((Int)⊕(Int×Bool)),x.isSome=true→(z87 a0 e1 c2 m3) x=some (pick (zdj a0 e1 c2 m3 x))
 | none,h=>by cases h
 | some (Sum.inl r),_=>rfl
 | some (Sum.inr r),_=>rfl
theorem zqc (K:Ex→St→Option (Ex×St)):ev9 Γ1 113 2 1 fi113 (z5e a0 e1 c2 c3 m4) K=z14 a0 e1 c2 m4 c3 (fun t8'=>K .normal (z5e a0 e1 c2 t8' m4)) (fun c0_=>K .ret (z7s a0 e1 c2 m4 c0_)) (fun c0_ c1_=>K (.exit 0) (z7u a0 e1 c2 m4 c0_ c1_)):=by kernel_rfl
theorem zq5:∀ (n:Nat) (t8:Int),iter 113 2 1 (ev9 Γ1 113 2 1 fi113) n (z5e a0 e1 c2 t8 m3) (fun e st=>some (e,st))=(z87 a0 e1 c2 m3) (z0a a0 e1 c2 m3 n t8):=by
 intro n
 induction n with
 | zero=>intros;rfl
 | succ n ih=>
  intro t8
  refine Eq.trans (iter_succ ..) (Eq.trans (zqc ..) (Eq.trans ?_ (zl8 a0 e1 c2 m3 t8 (z87 a0 e1 c2 m3) rfl (fun t8'=>z0a a0 e1 c2 m3 n t8') (fun c0_=>some (Sum.inl c0_)) (fun c0_ c1_=>some (Sum.inr (c0_,c1_))))))
  exact congrArg (fun kn_=>z14 a0 e1 c2 m3 t8 kn_ _ _) (funext fun t8'=>ih ..)
theorem zmv:LoopOne J fnTab 113 2 zeo:=lpK z7y z7z (fi:=fi113) (by kernel_rfl) (by kernel_rfl) (q:=fun hs=>(z5e (hN hs 0) (hB hs 1) (hI hs 2) (hI hs 3) (hLb hs 4))) (fun hs=>by kernel_rfl) fun hs h1=>Eq.trans (zq5 (hN hs 0) (hB hs 1) (hI hs 2) (hLb hs 4) big (hI hs 3)) (zq3 (hN hs 0) (hB hs 1) (hI hs 2) (hLb hs 4) _ h1)
def tb2:List (Nat×(List PT→Option (Bool×AV×List Blk))):=(59,zqa)::(70,zm5)::(83,zna)::(90,zpp)::(115,zgg)::(119,zlt)::(121,znj)::(128,znt)::(131,zr2)::(153,zia)::(155,zd8)::(156,zr7)::(159,zr3)::tb1
def lt2:List ((Nat×Nat)×(Nat→St→Option (Bool×LO))):=((40,2),zkk)::((45,3),zon)::((113,2),zeo)::lt1
def Γ2:Ctx:=⟨tyTab,fnTab,tblSum tb2,tblLp lt2⟩
theorem zi7:SumL J tb2:=SumL.cons y4q (SumL.cons y29 (SumL.cons y3l (SumL.cons y5i (SumL.cons zv6 (SumL.cons y2c (SumL.cons y31 (SumL.cons y33 (SumL.cons y6u (SumL.cons zxy (SumL.cons zso (SumL.cons y6g (SumL.cons y70 (z7y)))))))))))))
theorem zim:LpL J fnTab lt2:=LpL.cons zsk (LpL.cons zve (LpL.cons zmv (z7z)))
def zpq  : Option (Int)→Option (AV×List Blk)
 | some r=>some ((.v (.one (.int .i64 r))),[])
 | none=>none
def zpd:List PT→Option (Bool×AV×List Blk)
 | [.agg [.row 1 q0t (.fl .f32 q16),.row 1 q0w (.fl .f32 q19),.row 1 q0x (.fl .f32 q18),.row 3 q1f (.fl .f32 q1k),.s (.int .i64 q1u),.s (.flt .f32 q24),.s (.flt .f32 q25)],.one (.s (.int .i64 q2k))]=>sF zpq (z8g q0t q16 q0w q19 q0x q18 q1f q1k q1u q24 q25 q2k)
 | _=>none
theorem y9y:ev8 Γ2 32 [.agg [.row 1 a0 (.fl .f32 g1),.row 1 a2 (.fl .f32 g3),.row 1 a4 (.fl .f32 g5),.row 3 a6 (.fl .f32 g7),.s (.int .i64 c8),.s (.flt .f32 a9),.s (.flt .f32 a10)],.one (.s (.int .i64 c11))]=zpq (z8g a0 g1 a2 g3 a4 g5 a6 g7 c8 a9 a10 c11):=tr2 (y2l a0 g1 a2 g3 a4 g5 a6 g7 c8 a9 a10 c11 zpq rfl (fun c0_=>some c0_)) (by kernel_rfl)
theorem y57:SumOne J 32 zpd:=mkT zi7 zim fun pts v news hp=>by
 unfold zpd at hp
 split at hp
 ·exact fin3 (y9y ..) hp
 ·cases hp
def zhe  : Option (Int)→Option (AV×List Blk)
 | some r=>some ((.v (.one (.int .i64 r))),[])
 | none=>none
def zhb:List PT→Option (Bool×AV×List Blk)
 | [.one (.row 1 a_n (.fl .f32 a)),.one (.s (.int .i64 k))]=>sF zhe (z4l a_n a k)
 | _=>none
theorem y1f:ev8 Γ2 40 [.one (.row 1 a0 (.fl .f32 g1)),.one (.s (.int .i64 c2))]=zhe (z4l a0 g1 c2):=tr2 (zvc a0 g1 c2 zhe rfl (fun c0_=>some c0_)) (by kernel_rfl)
theorem zwa:SumOne J 40 zhb:=mkT zi7 zim fun pts v news hp=>by
 unfold zhb at hp
 split at hp
 ·exact fin3 (y1f ..) hp
 ·cases hp
def zk1  : Option (Nat×(List Nat))→Option (AV×List Blk)
 | some r=>some ((.v (.one (.sl 0 0 r.1 1))),[(.mk true (.fl .f32 r.2))])
 | none=>none
def zk7:List PT→Option (Bool×AV×List Blk)
 | [.one (.row 1 a_n (.fl .f32 a))]=>sF zk1 (z4j a_n a)
 | _=>none
theorem y5k:ev8 Γ2 45 [.one (.row 1 a0 (.fl .f32 g1))]=zk1 (z4j a0 g1):=tr2 (zx8 a0 g1 zk1 rfl (fun c0_ c1_=>some (c0_,c1_))) (by kernel_rfl)
theorem y0g:SumOne J 45 zk7:=mkT zi7 zim fun pts v news hp=>by
 unfold zk7 at hp
 split at hp
 ·exact fin3 (y5k ..) hp
 ·cases hp
def za1  : Option (Int)→Option (AV×List Blk)
 | some r=>some ((.v (.one (.int .i64 r))),[])
 | none=>none
def z9l:List PT→Option (Bool×AV×List Blk)
 | [.one (.row 1 s_n (.bl s)),.one (.s (.bool v))]=>sF za1 (z2h s_n s v)
 | _=>none
theorem zsm:ev8 Γ2 113 [.one (.row 1 a0 (.bl m1)),.one (.s (.bool e2))]=za1 (z2h a0 m1 e2):=tr2 (zow a0 m1 e2 za1 rfl (fun c0_=>some c0_)) (by kernel_rfl)
theorem zq1:SumOne J 113 z9l:=mkT zi7 zim fun pts v news hp=>by
 unfold z9l at hp
 split at hp
 ·exact fin3 (zsm ..) hp
 ·cases hp
def zk3  : Option (Bool)→Option (AV×List Blk)
 | some r=>some ((.v (.one (.bool r))),[])
 | none=>none
def zjk:List PT→Option (Bool×AV×List Blk)
 | [.one (.s (.flt .f32 x))]=>sF zk3 (z5v x)
 | _=>none
theorem y4n:ev8 Γ2 154 [.one (.s (.flt .f32 a0))]=zk3 (z5v a0):=tr2 (zyq a0 zk3 rfl (fun c0_=>some c0_)) (by kernel_rfl)
theorem zzu:SumOne J 154 zjk:=mkT zi7 zim fun pts v news hp=>by
 unfold zjk at hp
 split at hp
 ·exact fin3 (y4n ..) hp
 ·cases hp
def ztw  : Option (Nat)→Option (AV×List Blk)
 | some r=>some ((.v (.one (.flt .f64 r))),[])
 | none=>none
def zta:List PT→Option (Bool×AV×List Blk)
 | [.one (.s (.flt .f64 x))]=>sF ztw (zao x)
 | _=>none
theorem ybb:ev8 Γ2 174 [.one (.s (.flt .f64 a0))]=ztw (zao a0):=tr2 (y71 a0 ztw rfl (fun c0_=>some c0_)) (by kernel_rfl)
theorem y7i:SumOne J 174 zta:=mkT zi7 zim fun pts v news hp=>by
 unfold zta at hp
 split at hp
 ·exact fin3 (ybb ..) hp
 ·cases hp
def z9u:St:=(.mk [(x0V 0 0 a0 1),(x0V 1 1 a1 1),(x0I 5 c2)] [(x0L g3),(x0L g4)])
def zf2(an bn:Nat)(b0 b1:List Nat):St:=(.mk [(x0B 4 false)] [(x0L b0),(x0L b1)])
def zex:St:=(.mk [(x0V 0 0 a0 1),(x0V 1 1 a1 1),(x0I 5 c4),(x0B 14 e5)] [(x0L g2),(x0L g3)])
def zgf:Option ((Unit)⊕(Int×Bool))→Option (Ex×St)
 | none=>none
 | some (Sum.inl r)=>some (.ret,(zf2 a0 a1 g2 g3))
 | some (Sum.inr r)=>some ((.exit 0),(zex a0 a1 g2 g3 r.1 r.2))
def zml (x:Option ((Unit)⊕(Int×Bool))):LO:=(.two (oL x) (.one .ret (zf2 a0 a1 g2 g3)) (.one (.exit 0) (zex a0 a1 g2 g3 ((tR x).getD default).1 ((tR x).getD default).2)))
def zw4:Bool×LO:=sL (zml a0 a1 g3 g4) (z1a a0 a1 g3 g4 big c2)
def zn4:Nat→St→Option (Bool×LO):=lpT 2 (pSt [(x1V 0 0 1),(x1V 1 1 1),(x1I 5)] [x1L,x1L]) (fun hs=>zw4 (hN hs 0) (hN hs 1) (hI hs 2) (hLn hs 3) (hLn hs 4))
theorem y0a:∀ x:Option ((Unit)⊕(Int×Bool)),x.isSome=true→(zgf a0 a1 g2 g3) x=some (pick (zml a0 a1 g2 g3 x))
 | none,h=>by cases h
 | some (Sum.inl r),_=>rfl
 | some (Sum.inr r),_=>rfl
theorem zzm (K:Ex→St→Option (Ex×St)):ev9 Γ2 37 4 2 fi37 (z9u a0 a1 c2 g3 g4) K=z2e a0 a1 g3 g4 c2 (fun i'=>K .normal (z9u a0 a1 i' g3 g4)) (fun _=>K .ret (zf2 a0 a1 g3 g4)) (fun c0_ c1_=>K (.exit 0) (zex a0 a1 g3 g4 c0_ c1_)):=by kernel_rfl
theorem zz2:∀ (n:Nat) (i:Int),iter 37 4 2 (ev9 Γ2 37 4 2 fi37) n (z9u a0 a1 i g2 g3) (fun e st=>some (e,st))=(zgf a0 a1 g2 g3) (z1a a0 a1 g2 g3 n i):=by
 intro n
 induction n with
 | zero=>intros;rfl
 | succ n ih=>
  intro i
  refine Eq.trans (iter_succ ..) (Eq.trans (zzm ..) (Eq.trans ?_ (zt3 a0 a1 g2 g3 i (zgf a0 a1 g2 g3) rfl (fun i'=>z1a a0 a1 g2 g3 n i') (fun _=>some (Sum.inl ())) (fun c0_ c1_=>some (Sum.inr (c0_,c1_))))))
  exact congrArg (fun kn_=>z2e a0 a1 g2 g3 i kn_ _ _) (funext fun i'=>ih ..)
theorem zv0:LoopOne J fnTab 37 4 zn4:=lpK zi7 zim (fi:=fi37) (by kernel_rfl) (by kernel_rfl) (q:=fun hs=>(z9u (hN hs 0) (hN hs 1) (hI hs 2) (hLn hs 3) (hLn hs 4))) (fun hs=>by kernel_rfl) fun hs h1=>Eq.trans (zz2 (hN hs 0) (hN hs 1) (hLn hs 3) (hLn hs 4) big (hI hs 2)) (y0a (hN hs 0) (hN hs 1) (hLn hs 3) (hLn hs 4) _ h1)
def z9z:St:=(.mk [(x0V 0 0 a0 3),(x0S 3 1 a1 3),(x0I 4 c2)] [(x0L g3),(x0T g4)])
def zen:St:=(.mk [(x0V 0 0 a0 3),(x0S 3 1 a1 3),(x0I 4 c3),(x0B 11 e4)] [(x0L g2),(x0T g5)])
def zg9:Option ((Int×Bool×(List Nat)))→Option (Ex×St)
 | none=>none
 | some r=>some ((.exit 0),(zen a0 a1 g2 r.1 r.2.1 r.2.2))
def zmq (x:Option ((Int×Bool×(List Nat)))):LO:=(.one (.exit 0) (zen a0 a1 g2 (x.getD default).1 (x.getD default).2.1 (x.getD default).2.2))
def zwv:Bool×LO:=sL (zmq a0 a1 g3) (z0y a0 a1 g3 big c2 g4)
def zn5:Nat→St→Option (Bool×LO):=lpT 1 (pSt [(x1V 0 0 3),(x1S 3 1 3),(x1I 4)] [x1L,x1T]) (fun hs=>zwv (hN hs 0) (hN hs 1) (hI hs 2) (hLn hs 3) (hLn hs 4))
theorem y07:∀ x:Option ((Int×Bool×(List Nat))),x.isSome=true→(zg9 a0 a1 g2) x=some (pick (zmq a0 a1 g2 x))
 | none,h=>by cases h
 | some r,_=>rfl
theorem zzd (K:Ex→St→Option (Ex×St)):ev9 Γ2 75 3 1 fi75 (z9z a0 a1 c2 g3 g4) K=z2c a0 a1 g3 c2 g4 (fun i' b1'=>K .normal (z9z a0 a1 i' g3 b1')) (fun c0_ c1_ c2_=>K (.exit 0) (zen a0 a1 g3 c0_ c1_ c2_)):=by kernel_rfl
theorem zzg:∀ (n:Nat) (i:Int) (b1:List Nat),iter 75 3 1 (ev9 Γ2 75 3 1 fi75) n (z9z a0 a1 i g2 b1) (fun e st=>some (e,st))=(zg9 a0 a1 g2) (z0y a0 a1 g2 n i b1):=by
 intro n
 induction n with
 | zero=>intros;rfl
 | succ n ih=>
  intro i b1
  refine Eq.trans (iter_succ ..) (Eq.trans (zzd ..) (Eq.trans ?_ (zul a0 a1 g2 i b1 (zg9 a0 a1 g2) rfl (fun i' b1'=>z0y a0 a1 g2 n i' b1') (fun c0_ c1_ c2_=>some (c0_,c1_,c2_)))))
  exact congrArg (fun kn_=>z2c a0 a1 g2 i b1 kn_ _) (funext fun i'=>funext fun b1'=>ih ..)
theorem zv4:LoopOne J fnTab 75 3 zn5:=lpK zi7 zim (fi:=fi75) (by kernel_rfl) (by kernel_rfl) (q:=fun hs=>(z9z (hN hs 0) (hN hs 1) (hI hs 2) (hLn hs 3) (hLn hs 4))) (fun hs=>by kernel_rfl) fun hs h1=>Eq.trans (zzg (hN hs 0) (hN hs 1) (hLn hs 3) big (hI hs 2) (hLn hs 4)) (y07 (hN hs 0) (hN hs 1) (hLn hs 3) _ h1)
def z8m:St:=(.mk [(x0B 4 e0),(5,(.v (.one (.flt .f64 a1)))),(6,(.v (.one (.flt .f64 a2)))),(7,(.v (.one (.flt .f64 a3)))),(x0I 8 c4)] [])
def zbg:St:=(.mk [(x0B 4 e0),(5,(.v (.one (.flt .f64 a1)))),(6,(.v (.one (.flt .f64 a2)))),(7,(.v (.one (.flt .f64 a3)))),(x0I 8 c4),(x0B 44 e5)] [])
def zcy:Option ((Nat×Int×Bool))→Option (Ex×St)
 | none=>none
 | some r=>some ((.exit 0),(zbg e0 a1 a2 r.1 r.2.1 r.2.2))
def zj5 (x:Option ((Nat×Int×Bool))):LO:=(.one (.exit 0) (zbg e0 a1 a2 (x.getD default).1 (x.getD default).2.1 (x.getD default).2.2))
def zt7:Bool×LO:=sL (zj5 e0 a1 a2) (z0v a2 big a3 c4)
def zki:Nat→St→Option (Bool×LO):=lpT 0 (pSt [(x1B 4),(pTm 5 (pV (pOne (pFlt .f64)))),(pTm 6 (pV (pOne (pFlt .f64)))),(pTm 7 (pV (pOne (pFlt .f64)))),(x1I 8)] []) (fun hs=>zt7 (hB hs 0) (hN hs 1) (hN hs 2) (hN hs 3) (hI hs 4))
theorem zwe:∀ x:Option ((Nat×Int×Bool)),x.isSome=true→(zcy e0 a1 a2) x=some (pick (zj5 e0 a1 a2 x))
 | none,h=>by cases h
 | some r,_=>rfl
theorem zws (K:Ex→St→Option (Ex×St)):ev9 Γ2 164 17 0 fi164 (z8m e0 a1 a2 a3 c4) K=z1u a2 a3 c4 (fun t7' t8'=>K .normal (z8m e0 a1 a2 t7' t8')) (fun c0_ c1_ c2_=>K (.exit 0) (zbg e0 a1 a2 c0_ c1_ c2_)):=by kernel_rfl
theorem zwc:∀ (n t7:Nat) (t8:Int),iter 164 17 0 (ev9 Γ2 164 17 0 fi164) n (z8m e0 a1 a2 t7 t8) (fun e st=>some (e,st))=(zcy e0 a1 a2) (z0v a2 n t7 t8):=by
 intro n
 induction n with
 | zero=>intros;rfl
 | succ n ih=>
  intro t7 t8
  refine Eq.trans (iter_succ ..) (Eq.trans (zws ..) (Eq.trans ?_ (zra a2 t7 t8 (zcy e0 a1 a2) rfl (fun t7' t8'=>z0v a2 n t7' t8') (fun c0_ c1_ c2_=>some (c0_,c1_,c2_)))))
  exact congrArg (fun kn_=>z1u a2 t7 t8 kn_ _) (funext fun t7'=>funext fun t8'=>ih ..)
theorem zsj:LoopOne J fnTab 164 17 zki:=lpK zi7 zim (fi:=fi164) (by kernel_rfl) (by kernel_rfl) (q:=fun hs=>(z8m (hB hs 0) (hN hs 1) (hN hs 2) (hN hs 3) (hI hs 4))) (fun hs=>by kernel_rfl) fun hs h1=>Eq.trans (zwc (hB hs 0) (hN hs 1) (hN hs 2) big (hN hs 3) (hI hs 4)) (zwe (hB hs 0) (hN hs 1) (hN hs 2) _ h1)
def tb3:List (Nat×(List PT→Option (Bool×AV×List Blk))):=(32,zpd)::(40,zhb)::(45,zk7)::(113,z9l)::(154,zjk)::(174,zta)::tb2
def lt3:List ((Nat×Nat)×(Nat→St→Option (Bool×LO))):=((37,4),zn4)::((75,3),zn5)::((164,17),zki)::lt2
def Γ3:Ctx:=⟨tyTab,fnTab,tblSum tb3,tblLp lt3⟩
theorem zgu:SumL J tb3:=SumL.cons y57 (SumL.cons zwa (SumL.cons y0g (SumL.cons zq1 (SumL.cons zzu (SumL.cons y7i (zi7))))))
theorem zgw:LpL J fnTab lt3:=LpL.cons zv0 (LpL.cons zv4 (LpL.cons zsj (zim)))
def zk8  : Option (Bool)→Option (AV×List Blk)
 | some r=>some ((.v (.one (.bool r))),[])
 | none=>none
def zjt:List PT→Option (Bool×AV×List Blk)
 | [.one (.row 1 a_n (.fl .f32 a)),.one (.row 1 b_n (.fl .f32 b))]=>sF zk8 (z5s a_n a b_n b)
 | _=>none
theorem y4s:ev8 Γ3 37 [.one (.row 1 a0 (.fl .f32 g1)),.one (.row 1 a2 (.fl .f32 g3))]=zk8 (z5s a0 g1 a2 g3):=tr2 (zyd a0 g1 a2 g3 zk8 rfl (fun c0_=>some c0_)) (by kernel_rfl)
theorem y0s:SumOne J 37 zjt:=mkT zgu zgw fun pts v news hp=>by
 unfold zjt at hp
 split at hp
 ·exact fin3 (y4s ..) hp
 ·cases hp
def z8c  : Option (Bool)→Option (AV×List Blk)
 | some r=>some ((.v (.one (.bool r))),[])
 | none=>none
def z84:List PT→Option (Bool×AV×List Blk)
 | [.one (.row 1 s_n (.bl s)),.one (.s (.bool v))]=>sF z8c (z1n s_n s v)
 | _=>none
theorem zpk:ev8 Γ3 58 [.one (.row 1 a0 (.bl m1)),.one (.s (.bool e2))]=z8c (z1n a0 m1 e2):=tr2 (zl9 a0 m1 e2 z8c rfl (fun c0_=>some c0_)) (by kernel_rfl)
theorem zn0:SumOne J 58 z84:=mkT zgu zgw fun pts v news hp=>by
 unfold z84 at hp
 split at hp
 ·exact fin3 (zpk ..) hp
 ·cases hp
def zld  : Option (Nat×Nat×Nat×(List Nat)×(List Nat)×(List Nat))→Option (AV×List Blk)
 | some r=>some ((.v (.agg [(.sl 0 0 r.1 1),(.sl 1 0 r.2.1 1),(.sl 2 0 r.2.2.1 1)])),[(.mk true (.fl .f32 r.2.2.2.1)),(.mk true (.fl .f32 r.2.2.2.2.1)),(.mk true (.fl .f32 r.2.2.2.2.2))])
 | none=>none
def zlq:List PT→Option (Bool×AV×List Blk)
 | [.agg [.row 1 q1i (.fl .f32 q1t),.row 1 q1l (.fl .f32 q1v),.row 1 q1m (.fl .f32 q1w)]]=>sF zld (z25 q1i q1t q1l q1v q1m q1w)
 | _=>none
theorem y79:ev8 Γ3 74 [.agg [.row 1 a0 (.fl .f32 g1),.row 1 a2 (.fl .f32 g3),.row 1 a4 (.fl .f32 g5)]]=zld (z25 a0 g1 a2 g3 a4 g5):=tr2 (y01 a0 g1 a2 g3 a4 g5 zld rfl (fun c0_ c1_ c2_ c3_ c4_ c5_=>some (c0_,c1_,c2_,c3_,c4_,c5_))) (by kernel_rfl)
theorem y1b:SumOne J 74 zlq:=mkT zgu zgw fun pts v news hp=>by
 unfold zlq at hp
 split at hp
 ·exact fin3 (y79 ..) hp
 ·cases hp
def zja  : Option (Nat×(List Nat))→Option (AV×List Blk)
 | some r=>some ((.v (.one (.sl 0 0 r.1 3))),[(.mk true (.fl .f32 r.2))])
 | none=>none
def zkb:List PT→Option (Bool×AV×List Blk)
 | [.one (.row 3 a_n (.fl .f32 a))]=>sF zja (z4i a_n a)
 | _=>none
theorem y4w:ev8 Γ3 75 [.one (.row 3 a0 (.fl .f32 g1))]=zja (z4i a0 g1):=tr2 (zy8 a0 g1 zja rfl (fun c0_ c1_=>some (c0_,c1_))) (by kernel_rfl)
theorem y06:SumOne J 75 zkb:=mkT zgu zgw fun pts v news hp=>by
 unfold zkb at hp
 split at hp
 ·exact fin3 (y4w ..) hp
 ·cases hp
def zi6  : Option (Nat)→Option (AV×List Blk)
 | some r=>some ((.v (.one (.flt .f64 r))),[])
 | none=>none
def zi0:List PT→Option (Bool×AV×List Blk)
 | [.one (.s (.flt .f64 q1e))]=>sF zi6 (z2i q1e)
 | _=>none
theorem y2k:ev8 Γ3 164 [.one (.s (.flt .f64 a0))]=zi6 (z2i a0):=tr2 (zw8 a0 zi6 rfl (fun c0_=>some c0_)) (by kernel_rfl)
theorem zy6:SumOne J 164 zi0:=mkT zgu zgw fun pts v news hp=>by
 unfold zi0 at hp
 split at hp
 ·exact fin3 (y2k ..) hp
 ·cases hp
def zkc  : Option (Nat)→Option (AV×List Blk)
 | some r=>some ((.v (.one (.flt .f64 r))),[])
 | none=>none
def zjw:List PT→Option (Bool×AV×List Blk)
 | [.one (.s (.flt .f64 q2l))]=>sF zkc (z5n q2l)
 | _=>none
theorem y4e:ev8 Γ3 169 [.one (.s (.flt .f64 a0))]=zkc (z5n a0):=tr2 (zy9 a0 zkc rfl (fun c0_=>some c0_)) (by kernel_rfl)
theorem zz0:SumOne J 169 zjw:=mkT zgu zgw fun pts v news hp=>by
 unfold zjw at hp
 split at hp
 ·exact fin3 (y4e ..) hp
 ·cases hp
def z9m:St:=(.mk [(x0V 0 0 a0 3),(x0V 1 1 a1 3),(x0I 5 c2)] [(x0L g3),(x0L g4)])
def zem(an bn:Nat)(b0 b1:List Nat):St:=(.mk [(x0B 4 false)] [(x0L b0),(x0L b1)])
def zf8:St:=(.mk [(x0V 0 0 a0 3),(x0V 1 1 a1 3),(x0I 5 c4),(x0B 14 e5)] [(x0L g2),(x0L g3)])
def zfv:Option ((Unit)⊕(Int×Bool))→Option (Ex×St)
 | none=>none
 | some (Sum.inl r)=>some (.ret,(zem a0 a1 g2 g3))
 | some (Sum.inr r)=>some ((.exit 0),(zf8 a0 a1 g2 g3 r.1 r.2))
def zmp (x:Option ((Unit)⊕(Int×Bool))):LO:=(.two (oL x) (.one .ret (zem a0 a1 g2 g3)) (.one (.exit 0) (zf8 a0 a1 g2 g3 ((tR x).getD default).1 ((tR x).getD default).2)))
def zwp:Bool×LO:=sL (zmp a0 a1 g3 g4) (z1b a0 a1 g3 g4 big c2)
def zoh:Nat→St→Option (Bool×LO):=lpT 2 (pSt [(x1V 0 0 3),(x1V 1 1 3),(x1I 5)] [x1L,x1L]) (fun hs=>zwp (hN hs 0) (hN hs 1) (hI hs 2) (hLn hs 3) (hLn hs 4))
theorem y02:∀ x:Option ((Unit)⊕(Int×Bool)),x.isSome=true→(zfv a0 a1 g2 g3) x=some (pick (zmp a0 a1 g2 g3 x))
 | none,h=>by cases h
 | some (Sum.inl r),_=>rfl
 | some (Sum.inr r),_=>rfl
theorem zyz (K:Ex→St→Option (Ex×St)):ev9 Γ3 77 4 2 fi77 (z9m a0 a1 c2 g3 g4) K=z2f a0 a1 g3 g4 c2 (fun i'=>K .normal (z9m a0 a1 i' g3 g4)) (fun _=>K .ret (zem a0 a1 g3 g4)) (fun c0_ c1_=>K (.exit 0) (zf8 a0 a1 g3 g4 c0_ c1_)):=by kernel_rfl
theorem zzq:∀ (n:Nat) (i:Int),iter 77 4 2 (ev9 Γ3 77 4 2 fi77) n (z9m a0 a1 i g2 g3) (fun e st=>some (e,st))=(zfv a0 a1 g2 g3) (z1b a0 a1 g2 g3 n i):=by
 intro n
 induction n with
 | zero=>intros;rfl
 | succ n ih=>
  intro i
  refine Eq.trans (iter_succ ..) (Eq.trans (zyz ..) (Eq.trans ?_ (zti a0 a1 g2 g3 i (zfv a0 a1 g2 g3) rfl (fun i'=>z1b a0 a1 g2 g3 n i') (fun _=>some (Sum.inl ())) (fun c0_ c1_=>some (Sum.inr (c0_,c1_))))))
  exact congrArg (fun kn_=>z2f a0 a1 g2 g3 i kn_ _ _) (funext fun i'=>ih ..)
theorem zuv:LoopOne J fnTab 77 4 zoh:=lpK zgu zgw (fi:=fi77) (by kernel_rfl) (by kernel_rfl) (q:=fun hs=>(z9m (hN hs 0) (hN hs 1) (hI hs 2) (hLn hs 3) (hLn hs 4))) (fun hs=>by kernel_rfl) fun hs h1=>Eq.trans (zzq (hN hs 0) (hN hs 1) (hLn hs 3) (hLn hs 4) big (hI hs 2)) (y02 (hN hs 0) (hN hs 1) (hLn hs 3) (hLn hs 4) _ h1)
def zhl:St:=(.mk [(x0P 0 3 3),(x0I 3 c0),(x0I 4 c1)] [(x0L g2),(x0L g3),(x0L g4),(.mk false (.cells [(.vw 0 0 a5 1),(.vw 1 0 a6 1),(.vw 2 0 a7 1)]))])
def zm1(t3:Int)(b0 b1 b2:List Nat)(q1h q1q q1r:Nat):St:=(.mk [(x0B 2 false)] [(x0L b0),(x0L b1),(x0L b2),(.mk false (.cells [(.vw 0 0 q1h 1),(.vw 1 0 q1q 1),(.vw 2 0 q1r 1)]))])
def zlp:St:=(.mk [(x0P 0 3 3),(x0I 3 c0),(x0I 4 c7),(x0B 36 e8)] [(x0L g1),(x0L g2),(x0L g3),(.mk false (.cells [(.vw 0 0 a4 1),(.vw 1 0 a5 1),(.vw 2 0 a6 1)]))])
def zo4:Option ((Unit)⊕(Int×Bool))→Option (Ex×St)
 | none=>none
 | some (Sum.inl r)=>some (.ret,(zm1 c0 g1 g2 g3 a4 a5 a6))
 | some (Sum.inr r)=>some ((.exit 0),(zlp c0 g1 g2 g3 a4 a5 a6 r.1 r.2))
def ztr (x:Option ((Unit)⊕(Int×Bool))):LO:=(.two (oL x) (.one .ret (zm1 c0 g1 g2 g3 a4 a5 a6)) (.one (.exit 0) (zlp c0 g1 g2 g3 a4 a5 a6 ((tR x).getD default).1 ((tR x).getD default).2)))
def y5a:Bool×LO:=sL (ztr c0 g2 g3 g4 a5 a6 a7) (z21 c0 g2 g3 g4 a5 a6 a7 big c1)
def zvs:Nat→St→Option (Bool×LO):=lpT 4 (pSt [(x1P 0 3 3),(x1I 3),(x1I 4)] [x1L,x1L,x1L,(pBlk false (pCells [(pVw 0 (liN 0) 1),(pVw 1 (liN 0) 1),(pVw 2 (liN 0) 1)]))]) (fun hs=>y5a (hI hs 0) (hI hs 1) (hLn hs 2) (hLn hs 3) (hLn hs 4) (hN hs 5) (hN hs 6) (hN hs 7))
theorem y8g:∀ x:Option ((Unit)⊕(Int×Bool)),x.isSome=true→(zo4 c0 g1 g2 g3 a4 a5 a6) x=some (pick (ztr c0 g1 g2 g3 a4 a5 a6 x))
 | none,h=>by cases h
 | some (Sum.inl r),_=>rfl
 | some (Sum.inr r),_=>rfl
theorem y88 (K:Ex→St→Option (Ex×St)):ev9 Γ3 120 5 4 fi120 (zhl c0 c1 g2 g3 g4 a5 a6 a7) K=z4s c0 g2 g3 g4 a5 a6 a7 c1 (fun t4'=>K .normal (zhl c0 t4' g2 g3 g4 a5 a6 a7)) (fun _=>K .ret (zm1 c0 g2 g3 g4 a5 a6 a7)) (fun c0_ c1_=>K (.exit 0) (zlp c0 g2 g3 g4 a5 a6 a7 c0_ c1_)):=by kernel_rfl
theorem y89:∀ (n:Nat) (t4:Int),iter 120 5 4 (ev9 Γ3 120 5 4 fi120) n (zhl c0 t4 g1 g2 g3 a4 a5 a6) (fun e st=>some (e,st))=(zo4 c0 g1 g2 g3 a4 a5 a6) (z21 c0 g1 g2 g3 a4 a5 a6 n t4):=by
 intro n
 induction n with
 | zero=>intros;rfl
 | succ n ih=>
  intro t4
  refine Eq.trans (iter_succ ..) (Eq.trans (y88 ..) (Eq.trans ?_ (y21 c0 g1 g2 g3 a4 a5 a6 t4 (zo4 c0 g1 g2 g3 a4 a5 a6) rfl (fun t4'=>z21 c0 g1 g2 g3 a4 a5 a6 n t4') (fun _=>some (Sum.inl ())) (fun c0_ c1_=>some (Sum.inr (c0_,c1_))))))
  exact congrArg (fun kn_=>z4s c0 g1 g2 g3 a4 a5 a6 t4 kn_ _ _) (funext fun t4'=>ih ..)
theorem y2r:LoopOne J fnTab 120 5 zvs:=lpK zgu zgw (fi:=fi120) (by kernel_rfl) (by kernel_rfl) (q:=fun hs=>(zhl (hI hs 0) (hI hs 1) (hLn hs 2) (hLn hs 3) (hLn hs 4) (hN hs 5) (hN hs 6) (hN hs 7))) (fun hs=>by kernel_rfl) fun hs h1=>Eq.trans (y89 (hI hs 0) (hLn hs 2) (hLn hs 3) (hLn hs 4) (hN hs 5) (hN hs 6) (hN hs 7) big (hI hs 1)) (y8g (hI hs 0) (hLn hs 2) (hLn hs 3) (hLn hs 4) (hN hs 5) (hN hs 6) (hN hs 7) _ h1)
def z1r:St:=(.mk [(x0V 0 0 a0 1),(1,(.v (.one (.fn 115 [])))),(x0I 7 c1),(x0I 8 c2)] [(x0L g3)])
def z30(sn:Nat)(t7:Int)(b0:List Nat)(c0_:Int):St:=(.mk [(x0I 4 c0_)] [(x0L b0)])
def z36:St:=(.mk [(x0V 0 0 a0 1),(1,(.v (.one (.fn 115 [])))),(x0I 7 c1),(x0I 8 c3),(x0B 9 e4)] [(x0L g2)])
def z3d:Option ((Int)⊕(Int×Bool))→Option (Ex×St)
 | none=>none
 | some (Sum.inl r)=>some (.ret,(z30 a0 c1 g2 r))
 | some (Sum.inr r)=>some ((.exit 0),(z36 a0 c1 g2 r.1 r.2))
def z64 (x:Option ((Int)⊕(Int×Bool))):LO:=(.two (oL x) (.one .ret (z30 a0 c1 g2 ((tL x).getD default))) (.one (.exit 0) (z36 a0 c1 g2 ((tR x).getD default).1 ((tR x).getD default).2)))
def zbe:Bool×LO:=sL (z64 a0 c1 g3) (z01 a0 c1 g3 big c2)
def z68:Nat→St→Option (Bool×LO):=lpT 1 (pSt [(x1V 0 0 1),(pTm 1 (pV (pOne (pFn 115 [])))),(x1I 7),(x1I 8)] [x1L]) (fun hs=>zbe (hN hs 0) (hI hs 1) (hI hs 2) (hLn hs 3))
theorem zdg:∀ x:Option ((Int)⊕(Int×Bool)),x.isSome=true→(z3d a0 c1 g2) x=some (pick (z64 a0 c1 g2 x))
 | none,h=>by cases h
 | some (Sum.inl r),_=>rfl
 | some (Sum.inr r),_=>rfl
theorem zdf (K:Ex→St→Option (Ex×St)):ev9 Γ3 146 2 1 fi146 (z1r a0 c1 c2 g3) K=z0g a0 c1 g3 c2 (fun t8'=>K .normal (z1r a0 c1 t8' g3)) (fun c0_=>K .ret (z30 a0 c1 g3 c0_)) (fun c0_ c1_=>K (.exit 0) (z36 a0 c1 g3 c0_ c1_)):=by kernel_rfl
theorem zcw:∀ (n:Nat) (t8:Int),iter 146 2 1 (ev9 Γ3 146 2 1 fi146) n (z1r a0 c1 t8 g2) (fun e st=>some (e,st))=(z3d a0 c1 g2) (z01 a0 c1 g2 n t8):=by
 intro n
 induction n with
 | zero=>intros;rfl
 | succ n ih=>
  intro t8
  refine Eq.trans (iter_succ ..) (Eq.trans (zdf ..) (Eq.trans ?_ (zan a0 c1 g2 t8 (z3d a0 c1 g2) rfl (fun t8'=>z01 a0 c1 g2 n t8') (fun c0_=>some (Sum.inl c0_)) (fun c0_ c1_=>some (Sum.inr (c0_,c1_))))))
  exact congrArg (fun kn_=>z0g a0 c1 g2 t8 kn_ _ _) (funext fun t8'=>ih ..)
theorem zb1:LoopOne J fnTab 146 2 z68:=lpK zgu zgw (fi:=fi146) (by kernel_rfl) (by kernel_rfl) (q:=fun hs=>(z1r (hN hs 0) (hI hs 1) (hI hs 2) (hLn hs 3))) (fun hs=>by kernel_rfl) fun hs h1=>Eq.trans (zcw (hN hs 0) (hI hs 1) (hLn hs 3) big (hI hs 2)) (zdg (hN hs 0) (hI hs 1) (hLn hs 3) _ h1)
def z24:St:=(.mk [(x0V 0 0 a0 1),(1,(.v (.one (.fn 153 [])))),(x0I 7 c1),(x0I 8 c2)] [(x0L g3)])
def z3i(sn:Nat)(t7:Int)(b0:List Nat)(c0_:Int):St:=(.mk [(x0I 4 c0_)] [(x0L b0)])
def z3l:St:=(.mk [(x0V 0 0 a0 1),(1,(.v (.one (.fn 153 [])))),(x0I 7 c1),(x0I 8 c3),(x0B 9 e4)] [(x0L g2)])
def z3w:Option ((Int)⊕(Int×Bool))→Option (Ex×St)
 | none=>none
 | some (Sum.inl r)=>some (.ret,(z3i a0 c1 g2 r))
 | some (Sum.inr r)=>some ((.exit 0),(z3l a0 c1 g2 r.1 r.2))
def z6f (x:Option ((Int)⊕(Int×Bool))):LO:=(.two (oL x) (.one .ret (z3i a0 c1 g2 ((tL x).getD default))) (.one (.exit 0) (z3l a0 c1 g2 ((tR x).getD default).1 ((tR x).getD default).2)))
def zd1:Bool×LO:=sL (z6f a0 c1 g3) (z04 a0 c1 g3 big c2)
def z73:Nat→St→Option (Bool×LO):=lpT 1 (pSt [(x1V 0 0 1),(pTm 1 (pV (pOne (pFn 153 [])))),(x1I 7),(x1I 8)] [x1L]) (fun hs=>zd1 (hN hs 0) (hI hs 1) (hI hs 2) (hLn hs 3))
theorem zf1:∀ x:Option ((Int)⊕(Int×Bool)),x.isSome=true→(z3w a0 c1 g2) x=some (pick (z6f a0 c1 g2 x))
 | none,h=>by cases h
 | some (Sum.inl r),_=>rfl
 | some (Sum.inr r),_=>rfl
theorem zey (K:Ex→St→Option (Ex×St)):ev9 Γ3 146 2 1 fi146 (z24 a0 c1 c2 g3) K=z0i a0 c1 g3 c2 (fun t8'=>K .normal (z24 a0 c1 t8' g3)) (fun c0_=>K .ret (z3i a0 c1 g3 c0_)) (fun c0_ c1_=>K (.exit 0) (z3l a0 c1 g3 c0_ c1_)):=by kernel_rfl
theorem zf6:∀ (n:Nat) (t8:Int),iter 146 2 1 (ev9 Γ3 146 2 1 fi146) n (z24 a0 c1 t8 g2) (fun e st=>some (e,st))=(z3w a0 c1 g2) (z04 a0 c1 g2 n t8):=by
 intro n
 induction n with
 | zero=>intros;rfl
 | succ n ih=>
  intro t8
  refine Eq.trans (iter_succ ..) (Eq.trans (zey ..) (Eq.trans ?_ (zbs a0 c1 g2 t8 (z3w a0 c1 g2) rfl (fun t8'=>z04 a0 c1 g2 n t8') (fun c0_=>some (Sum.inl c0_)) (fun c0_ c1_=>some (Sum.inr (c0_,c1_))))))
  exact congrArg (fun kn_=>z0i a0 c1 g2 t8 kn_ _ _) (funext fun t8'=>ih ..)
theorem zcm:LoopOne J fnTab 146 2 z73:=lpK zgu zgw (fi:=fi146) (by kernel_rfl) (by kernel_rfl) (q:=fun hs=>(z24 (hN hs 0) (hI hs 1) (hI hs 2) (hLn hs 3))) (fun hs=>by kernel_rfl) fun hs h1=>Eq.trans (zf6 (hN hs 0) (hI hs 1) (hLn hs 3) big (hI hs 2)) (zf1 (hN hs 0) (hI hs 1) (hLn hs 3) _ h1)
def tb4:List (Nat×(List PT→Option (Bool×AV×List Blk))):=(37,zjt)::(58,z84)::(74,zlq)::(75,zkb)::(164,zi0)::(169,zjw)::tb3
def lt4:List ((Nat×Nat)×(Nat→St→Option (Bool×LO))):=((77,4),zoh)::((120,5),zvs)::((146,2),z68)::((146,2),z73)::lt3
def Γ4:Ctx:=⟨tyTab,fnTab,tblSum tb4,tblLp lt4⟩
theorem zke:SumL J tb4:=SumL.cons y0s (SumL.cons zn0 (SumL.cons y1b (SumL.cons y06 (SumL.cons zy6 (SumL.cons zz0 (zgu))))))
theorem zkm:LpL J fnTab lt4:=LpL.cons zuv (LpL.cons y2r (LpL.cons zb1 (LpL.cons zcm (zgw))))
def zpc:Option (Nat×Nat×Nat×Nat×(List Nat)×(List Nat)×(List Nat)×(List Nat))→Option (AV×List Blk)
 | some r=>some ((.v (.agg [(.sl 0 0 r.1 1),(.sl 1 0 r.2.1 1),(.sl 2 0 r.2.2.1 1),(.sl 3 0 r.2.2.2.1 3),(.int .i64 c0),(.flt .f32 a1),(.flt .f32 a2)])),[(.mk true (.fl .f32 r.2.2.2.2.1)),(.mk true (.fl .f32 r.2.2.2.2.2.1)),(.mk true (.fl .f32 r.2.2.2.2.2.2.1)),(.mk true (.fl .f32 r.2.2.2.2.2.2.2))])
 | none=>none
def zpz:List PT→Option (Bool×AV×List Blk)
 | [.agg [.row 1 q0t (.fl .f32 q16),.row 1 q0w (.fl .f32 q19),.row 1 q0x (.fl .f32 q18),.row 3 q1f (.fl .f32 q1k),.s (.int .i64 q1u),.s (.flt .f32 q24),.s (.flt .f32 q25)]]=>sF (zpc q1u q24 q25) (z23 q0t q16 q0w q19 q0x q18 q1f q1k q1u q24 q25)
 | _=>none
theorem y9p:ev8 Γ4 34 [.agg [.row 1 a0 (.fl .f32 g1),.row 1 a2 (.fl .f32 g3),.row 1 a4 (.fl .f32 g5),.row 3 a6 (.fl .f32 g7),.s (.int .i64 c8),.s (.flt .f32 a9),.s (.flt .f32 a10)]]=(zpc c8 a9 a10) (z23 a0 g1 a2 g3 a4 g5 a6 g7 c8 a9 a10):=tr2 (y3y a0 g1 a2 g3 a4 g5 a6 g7 c8 a9 a10 (zpc c8 a9 a10) rfl (fun c0_ c1_ c2_ c3_ c4_ c5_ c6_ c7_=>some (c0_,c1_,c2_,c3_,c4_,c5_,c6_,c7_))) (by kernel_rfl)
theorem y56:SumOne J 34 zpz:=mkT zke zkm fun pts v news hp=>by
 unfold zpz at hp
 split at hp
 ·exact fin3 (y9p ..) hp
 ·cases hp
def zlv  : Option (Bool)→Option (AV×List Blk)
 | some r=>some ((.v (.one (.bool r))),[])
 | none=>none
def zli:List PT→Option (Bool×AV×List Blk)
 | [.agg [.row 1 q1i (.fl .f32 q1t),.row 1 q1l (.fl .f32 q1v),.row 1 q1m (.fl .f32 q1w)],.agg [.row 1 q30 (.fl .f32 q34),.row 1 q32 (.fl .f32 q39),.row 1 q33 (.fl .f32 q37)]]=>sF zlv (z6s q1i q1t q1l q1v q1m q1w q30 q34 q32 q39 q33 q37)
 | _=>none
theorem y7e:ev8 Γ4 76 [.agg [.row 1 a0 (.fl .f32 g1),.row 1 a2 (.fl .f32 g3),.row 1 a4 (.fl .f32 g5)],.agg [.row 1 a6 (.fl .f32 g7),.row 1 a8 (.fl .f32 g9),.row 1 a10 (.fl .f32 g11)]]=zlv (z6s a0 g1 a2 g3 a4 g5 a6 g7 a8 g9 a10 g11):=tr2 (y0j a0 g1 a2 g3 a4 g5 a6 g7 a8 g9 a10 g11 zlv rfl (fun c0_=>some c0_)) (by kernel_rfl)
theorem y1v:SumOne J 76 zli:=mkT zke zkm fun pts v news hp=>by
 unfold zli at hp
 split at hp
 ·exact fin3 (y7e ..) hp
 ·cases hp
def zjn  : Option (Bool)→Option (AV×List Blk)
 | some r=>some ((.v (.one (.bool r))),[])
 | none=>none
def zjh:List PT→Option (Bool×AV×List Blk)
 | [.one (.row 3 a_n (.fl .f32 a)),.one (.row 3 b_n (.fl .f32 b))]=>sF zjn (z5q a_n a b_n b)
 | _=>none
theorem y4z:ev8 Γ4 77 [.one (.row 3 a0 (.fl .f32 g1)),.one (.row 3 a2 (.fl .f32 g3))]=zjn (z5q a0 g1 a2 g3):=tr2 (zxw a0 g1 a2 g3 zjn rfl (fun c0_=>some c0_)) (by kernel_rfl)
theorem y0i:SumOne J 77 zjh:=mkT zke zkm fun pts v news hp=>by
 unfold zjh at hp
 split at hp
 ·exact fin3 (y4z ..) hp
 ·cases hp
def zu3  : Option (Bool)→Option (AV×List Blk)
 | some r=>some ((.v (.one (.bool r))),[])
 | none=>none
def zt0:List PT→Option (Bool×AV×List Blk)
 | [.ptr [.row 1 q0j (.fl .f32 q0l),.row 1 q13 (.fl .f32 q1d),.row 1 q14 (.fl .f32 q1c)]]=>sF zu3 (zab q0j q0l q13 q1d q14 q1c)
 | _=>none
theorem yb9:ev8 Γ4 120 [.ptr [.row 1 a0 (.fl .f32 g1),.row 1 a2 (.fl .f32 g3),.row 1 a4 (.fl .f32 g5)]]=zu3 (zab a0 g1 a2 g3 a4 g5):=tr2 (y6h a0 g1 a2 g3 a4 g5 zu3 rfl (fun c0_=>some c0_)) (by kernel_rfl)
theorem y7t:SumOne J 120 zt0:=mkT zke zkm fun pts v news hp=>by
 unfold zt0 at hp
 split at hp
 ·exact fin3 (yb9 ..) hp
 ·cases hp
def z42  : Option (Int)→Option (AV×List Blk)
 | some r=>some ((.v (.one (.int .i64 r))),[])
 | none=>none
def z44:List PT→Option (Bool×AV×List Blk)
 | [.one (.row 1 s_n (.fl .f32 s)),.fn 115 []]=>sF z42 (z0x s_n s)
 | _=>none
theorem zfa:ev8 Γ4 146 [.one (.row 1 a0 (.fl .f32 g1)),.fn 115 []]=z42 (z0x a0 g1):=tr2 (zc6 a0 g1 z42 rfl (fun c0_=>some c0_)) (by kernel_rfl)
theorem zd5:SumOne J 146 z44:=mkT zke zkm fun pts v news hp=>by
 unfold z44 at hp
 split at hp
 ·exact fin3 (zfa ..) hp
 ·cases hp
def z4d  : Option (Int)→Option (AV×List Blk)
 | some r=>some ((.v (.one (.int .i64 r))),[])
 | none=>none
def z4f:List PT→Option (Bool×AV×List Blk)
 | [.one (.row 1 s_n (.fl .f32 s)),.fn 153 []]=>sF z4d (z0z s_n s)
 | _=>none
theorem zgv:ev8 Γ4 146 [.one (.row 1 a0 (.fl .f32 g1)),.fn 153 []]=z4d (z0z a0 g1):=tr2 (zdq a0 g1 z4d rfl (fun c0_=>some c0_)) (by kernel_rfl)
theorem zep:SumOne J 146 z4f:=mkT zke zkm fun pts v news hp=>by
 unfold z4f at hp
 split at hp
 ·exact fin3 (zgv ..) hp
 ·cases hp
def zpw  : Option (Nat)→Option (AV×List Blk)
 | some r=>some ((.v (.one (.flt .f32 r))),[])
 | none=>none
def zpn:List PT→Option (Bool×AV×List Blk)
 | [.one (.s (.flt .f32 x))]=>sF zpw (z6z x)
 | _=>none
theorem y9q:ev8 Γ4 148 [.one (.s (.flt .f32 a0))]=zpw (z6z a0):=tr2 (y40 a0 zpw rfl (fun c0_=>some c0_)) (by kernel_rfl)
theorem y4k:SumOne J 148 zpn:=mkT zke zkm fun pts v news hp=>by
 unfold zpn at hp
 split at hp
 ·exact fin3 (y9q ..) hp
 ·cases hp
def z28:St:=(.mk [(x0V 0 0 a0 1),(1,(.v (.one (.fn 154 [])))),(x0I 7 c1),(x0I 8 c2)] [(x0L g3)])
def z3q(sn:Nat)(t7:Int)(b0:List Nat)(c0_:Int):St:=(.mk [(x0I 4 c0_)] [(x0L b0)])
def z3u:St:=(.mk [(x0V 0 0 a0 1),(1,(.v (.one (.fn 154 [])))),(x0I 7 c1),(x0I 8 c3),(x0B 9 e4)] [(x0L g2)])
def z45:Option ((Int)⊕(Int×Bool))→Option (Ex×St)
 | none=>none
 | some (Sum.inl r)=>some (.ret,(z3q a0 c1 g2 r))
 | some (Sum.inr r)=>some ((.exit 0),(z3u a0 c1 g2 r.1 r.2))
def z70 (x:Option ((Int)⊕(Int×Bool))):LO:=(.two (oL x) (.one .ret (z3q a0 c1 g2 ((tL x).getD default))) (.one (.exit 0) (z3u a0 c1 g2 ((tR x).getD default).1 ((tR x).getD default).2)))
def zdp:Bool×LO:=sL (z70 a0 c1 g3) (z07 a0 c1 g3 big c2)
def z77:Nat→St→Option (Bool×LO):=lpT 1 (pSt [(x1V 0 0 1),(pTm 1 (pV (pOne (pFn 154 [])))),(x1I 7),(x1I 8)] [x1L]) (fun hs=>zdp (hN hs 0) (hI hs 1) (hI hs 2) (hLn hs 3))
theorem zf9:∀ x:Option ((Int)⊕(Int×Bool)),x.isSome=true→(z45 a0 c1 g2) x=some (pick (z70 a0 c1 g2 x))
 | none,h=>by cases h
 | some (Sum.inl r),_=>rfl
 | some (Sum.inr r),_=>rfl
theorem zfc (K:Ex→St→Option (Ex×St)):ev9 Γ4 146 2 1 fi146 (z28 a0 c1 c2 g3) K=z0j a0 c1 g3 c2 (fun t8'=>K .normal (z28 a0 c1 t8' g3)) (fun c0_=>K .ret (z3q a0 c1 g3 c0_)) (fun c0_ c1_=>K (.exit 0) (z3u a0 c1 g3 c0_ c1_)):=by kernel_rfl
theorem zfb:∀ (n:Nat) (t8:Int),iter 146 2 1 (ev9 Γ4 146 2 1 fi146) n (z28 a0 c1 t8 g2) (fun e st=>some (e,st))=(z45 a0 c1 g2) (z07 a0 c1 g2 n t8):=by
 intro n
 induction n with
 | zero=>intros;rfl
 | succ n ih=>
  intro t8
  refine Eq.trans (iter_succ ..) (Eq.trans (zfc ..) (Eq.trans ?_ (zca a0 c1 g2 t8 (z45 a0 c1 g2) rfl (fun t8'=>z07 a0 c1 g2 n t8') (fun c0_=>some (Sum.inl c0_)) (fun c0_ c1_=>some (Sum.inr (c0_,c1_))))))
  exact congrArg (fun kn_=>z0j a0 c1 g2 t8 kn_ _ _) (funext fun t8'=>ih ..)
theorem zd9:LoopOne J fnTab 146 2 z77:=lpK zke zkm (fi:=fi146) (by kernel_rfl) (by kernel_rfl) (q:=fun hs=>(z28 (hN hs 0) (hI hs 1) (hI hs 2) (hLn hs 3))) (fun hs=>by kernel_rfl) fun hs h1=>Eq.trans (zfb (hN hs 0) (hI hs 1) (hLn hs 3) big (hI hs 2)) (zf9 (hN hs 0) (hI hs 1) (hLn hs 3) _ h1)
def tb5:List (Nat×(List PT→Option (Bool×AV×List Blk))):=(34,zpz)::(76,zli)::(77,zjh)::(120,zt0)::(146,z44)::(146,z4f)::(148,zpn)::tb4
def lt5:List ((Nat×Nat)×(Nat→St→Option (Bool×LO))):=((146,2),z77)::lt4
def Γ5:Ctx:=⟨tyTab,fnTab,tblSum tb5,tblLp lt5⟩
theorem zy2:SumL J tb5:=SumL.cons y56 (SumL.cons y1v (SumL.cons y0i (SumL.cons y7t (SumL.cons zd5 (SumL.cons zep (SumL.cons y4k (zke)))))))
theorem zyo:LpL J fnTab lt5:=LpL.cons zd9 (zkm)
def zq7  : Option (Bool)→Option (AV×List Blk)
 | some r=>some ((.v (.one (.bool r))),[])
 | none=>none
def zpg:List PT→Option (Bool×AV×List Blk)
 | [.agg [.row 1 q0t (.fl .f32 q16),.row 1 q0w (.fl .f32 q19),.row 1 q0x (.fl .f32 q18),.row 3 q1f (.fl .f32 q1k),.s (.int .i64 q1u),.s (.flt .f32 q24),.s (.flt .f32 q25)],.agg [.row 1 q2e (.fl .f32 q2n),.row 1 q2g (.fl .f32 q2r),.row 1 q2f (.fl .f32 q2q),.row 3 q2t (.fl .f32 q31),.s (.int .i64 q3a),.s (.flt .f32 q3c),.s (.flt .f32 q3b)]]=>sF zq7 (z89 q0t q16 q0w q19 q0x q18 q1f q1k q1u q24 q25 q2e q2n q2g q2r q2f q2q q2t q31 q3a q3c q3b)
 | _=>none
theorem y9b:ev8 Γ5 36 [.agg [.row 1 a0 (.fl .f32 g1),.row 1 a2 (.fl .f32 g3),.row 1 a4 (.fl .f32 g5),.row 3 a6 (.fl .f32 g7),.s (.int .i64 c8),.s (.flt .f32 a9),.s (.flt .f32 a10)],.agg [.row 1 a11 (.fl .f32 g12),.row 1 a13 (.fl .f32 g14),.row 1 a15 (.fl .f32 g16),.row 3 a17 (.fl .f32 g18),.s (.int .i64 c19),.s (.flt .f32 a20),.s (.flt .f32 a21)]]=zq7 (z89 a0 g1 a2 g3 a4 g5 a6 g7 c8 a9 a10 a11 g12 a13 g14 a15 g16 a17 g18 c19 a20 a21):=tr2 (y3q a0 g1 a2 g3 a4 g5 a6 g7 c8 a9 a10 a11 g12 a13 g14 a15 g16 a17 g18 c19 a20 a21 zq7 rfl (fun c0_=>some c0_)) (by kernel_rfl)
theorem y5r:SumOne J 36 zpg:=mkT zy2 zyo fun pts v news hp=>by
 unfold zpg at hp
 split at hp
 ·exact fin3 (y9b ..) hp
 ·cases hp
def z4o  : Option (Int)→Option (AV×List Blk)
 | some r=>some ((.v (.one (.int .i64 r))),[])
 | none=>none
def z4n:List PT→Option (Bool×AV×List Blk)
 | [.one (.row 1 s_n (.fl .f32 s)),.fn 154 []]=>sF z4o (z11 s_n s)
 | _=>none
theorem zha:ev8 Γ5 146 [.one (.row 1 a0 (.fl .f32 g1)),.fn 154 []]=z4o (z11 a0 g1):=tr2 (zew a0 g1 z4o rfl (fun c0_=>some c0_)) (by kernel_rfl)
theorem zfd:SumOne J 146 z4n:=mkT zy2 zyo fun pts v news hp=>by
 unfold z4n at hp
 split at hp
 ·exact fin3 (zha ..) hp
 ·cases hp
def zun  : Option (Nat)→Option (AV×List Blk)
 | some r=>some ((.v (.one (.flt .f64 r))),[])
 | none=>none
def ztk:List PT→Option (Bool×AV×List Blk)
 | [.one (.s (.flt .f64 x))]=>sF zun (zat x)
 | _=>none
theorem yb5:ev8 Γ5 175 [.one (.s (.flt .f64 a0))]=zun (zat a0):=tr2 (y73 a0 zun rfl (fun c0_=>some c0_)) (by kernel_rfl)
theorem y7s:SumOne J 175 ztk:=mkT zy2 zyo fun pts v news hp=>by
 unfold ztk at hp
 split at hp
 ·exact fin3 (yb5 ..) hp
 ·cases hp
def zis:St:=(.mk [(x0B 4 e0),(5,(.v (.one (.flt .f64 a1)))),(6,(.v (.one (.flt .f64 a2)))),(7,(.v (.one (.flt .f64 a3)))),(8,(.v (.one (.flt .f64 a4))))] [])
def zop:St:=(.mk [(x0B 4 e0),(5,(.v (.one (.flt .f64 a1)))),(6,(.v (.one (.flt .f64 a2)))),(7,(.v (.one (.flt .f64 a3)))),(8,(.v (.one (.flt .f64 a4)))),(x0B 25 e5)] [])
def zqf:Option ((Nat×Nat×Bool))→Option (Ex×St)
 | none=>none
 | some r=>some ((.exit 0),(zop e0 a1 a2 r.1 r.2.1 r.2.2))
def zvr (x:Option ((Nat×Nat×Bool))):LO:=(.one (.exit 0) (zop e0 a1 a2 (x.getD default).1 (x.getD default).2.1 (x.getD default).2.2))
def y6c:Bool×LO:=sL (zvr e0 a1 a2) (z22 a2 big a3 a4)
def zxx:Nat→St→Option (Bool×LO):=lpT 0 (pSt [(x1B 4),(pTm 5 (pV (pOne (pFlt .f64)))),(pTm 6 (pV (pOne (pFlt .f64)))),(pTm 7 (pV (pOne (pFlt .f64)))),(pTm 8 (pV (pOne (pFlt .f64))))] []) (fun hs=>y6c (hB hs 0) (hN hs 1) (hN hs 2) (hN hs 3) (hN hs 4))
theorem y90:∀ x:Option ((Nat×Nat×Bool)),x.isSome=true→(zqf e0 a1 a2) x=some (pick (zvr e0 a1 a2 x))
 | none,h=>by cases h
 | some r,_=>rfl
theorem y9r (K:Ex→St→Option (Ex×St)):ev9 Γ5 160 9 0 fi160 (zis e0 a1 a2 a3 a4) K=z5d a2 a3 a4 (fun p' k'=>K .normal (zis e0 a1 a2 p' k')) (fun c0_ c1_ c2_=>K (.exit 0) (zop e0 a1 a2 c0_ c1_ c2_)):=by kernel_rfl
theorem y93:∀ (n p k:Nat),iter 160 9 0 (ev9 Γ5 160 9 0 fi160) n (zis e0 a1 a2 p k) (fun e st=>some (e,st))=(zqf e0 a1 a2) (z22 a2 n p k):=by
 intro n
 induction n with
 | zero=>intros;rfl
 | succ n ih=>
  intro p k
  refine Eq.trans (iter_succ ..) (Eq.trans (y9r ..) (Eq.trans ?_ (y2t a2 p k (zqf e0 a1 a2) rfl (fun p' k'=>z22 a2 n p' k') (fun c0_ c1_ c2_=>some (c0_,c1_,c2_)))))
  exact congrArg (fun kn_=>z5d a2 p k kn_ _) (funext fun p'=>funext fun k'=>ih ..)
theorem y5e:LoopOne J fnTab 160 9 zxx:=lpK zy2 zyo (fi:=fi160) (by kernel_rfl) (by kernel_rfl) (q:=fun hs=>(zis (hB hs 0) (hN hs 1) (hN hs 2) (hN hs 3) (hN hs 4))) (fun hs=>by kernel_rfl) fun hs h1=>Eq.trans (y93 (hB hs 0) (hN hs 1) (hN hs 2) big (hN hs 3) (hN hs 4)) (y90 (hB hs 0) (hN hs 1) (hN hs 2) _ h1)
def tb6:List (Nat×(List PT→Option (Bool×AV×List Blk))):=(36,zpg)::(146,z4n)::(175,ztk)::tb5
def lt6:List ((Nat×Nat)×(Nat→St→Option (Bool×LO))):=((160,9),zxx)::lt5
def Γ6:Ctx:=⟨tyTab,fnTab,tblSum tb6,tblLp lt6⟩
theorem zog:SumL J tb6:=SumL.cons y5r (SumL.cons zfd (SumL.cons y7s (zy2)))
theorem zo3:LpL J fnTab lt6:=LpL.cons y5e (zyo)
def z3e  : Option (Bool)→Option (AV×List Blk)
 | some r=>some ((.v (.one (.bool r))),[])
 | none=>none
def z3f:List PT→Option (Bool×AV×List Blk)
 | [.one (.row 1 s_n (.fl .f32 s)),.fn 115 []]=>sF z3e (z0r s_n s)
 | _=>none
theorem zd7:ev8 Γ6 114 [.one (.row 1 a0 (.fl .f32 g1)),.fn 115 []]=z3e (z0r a0 g1):=tr2 (zak a0 g1 z3e rfl (fun c0_=>some c0_)) (by kernel_rfl)
theorem zb8:SumOne J 114 z3f:=mkT zog zo3 fun pts v news hp=>by
 unfold z3f at hp
 split at hp
 ·exact fin3 (zd7 ..) hp
 ·cases hp
def z3r  : Option (Bool)→Option (AV×List Blk)
 | some r=>some ((.v (.one (.bool r))),[])
 | none=>none
def z40:List PT→Option (Bool×AV×List Blk)
 | [.one (.row 1 s_n (.fl .f32 s)),.fn 153 []]=>sF z3r (z0u s_n s)
 | _=>none
theorem zei:ev8 Γ6 114 [.one (.row 1 a0 (.fl .f32 g1)),.fn 153 []]=z3r (z0u a0 g1):=tr2 (zbi a0 g1 z3r rfl (fun c0_=>some c0_)) (by kernel_rfl)
theorem zch:SumOne J 114 z40:=mkT zog zo3 fun pts v news hp=>by
 unfold z40 at hp
 split at hp
 ·exact fin3 (zei ..) hp
 ·cases hp
def z41  : Option (Bool)→Option (AV×List Blk)
 | some r=>some ((.v (.one (.bool r))),[])
 | none=>none
def z43:List PT→Option (Bool×AV×List Blk)
 | [.one (.row 1 s_n (.fl .f32 s)),.fn 154 []]=>sF z41 (z0w s_n s)
 | _=>none
theorem zfe:ev8 Γ6 114 [.one (.row 1 a0 (.fl .f32 g1)),.fn 154 []]=z41 (z0w a0 g1):=tr2 (zc0 a0 g1 z41 rfl (fun c0_=>some c0_)) (by kernel_rfl)
theorem zd2:SumOne J 114 z43:=mkT zog zo3 fun pts v news hp=>by
 unfold z43 at hp
 split at hp
 ·exact fin3 (zfe ..) hp
 ·cases hp
def zw0  : Option (Nat)→Option (AV×List Blk)
 | some r=>some ((.v (.one (.flt .f64 r))),[])
 | none=>none
def zwd:List PT→Option (Bool×AV×List Blk)
 | [.one (.s (.flt .f64 q2l))]=>sF zw0 (zdc q2l)
 | _=>none
theorem ybe:ev8 Γ6 160 [.one (.s (.flt .f64 a0))]=zw0 (zdc a0):=tr2 (y7h a0 zw0 rfl (fun c0_=>some c0_)) (by kernel_rfl)
theorem y91:SumOne J 160 zwd:=mkT zog zo3 fun pts v news hp=>by
 unfold zwd at hp
 split at hp
 ·exact fin3 (ybe ..) hp
 ·cases hp
def zly  : Option (Nat)→Option (AV×List Blk)
 | some r=>some ((.v (.one (.flt .f32 r))),[])
 | none=>none
def zm7:List PT→Option (Bool×AV×List Blk)
 | [.one (.s (.flt .f32 x))]=>sF zly (z6k x)
 | _=>none
theorem y77:ev8 Γ6 170 [.one (.s (.flt .f32 a0))]=zly (z6k a0):=tr2 (y0d a0 zly rfl (fun c0_=>some c0_)) (by kernel_rfl)
theorem y17:SumOne J 170 zm7:=mkT zog zo3 fun pts v news hp=>by
 unfold zm7 at hp
 split at hp
 ·exact fin3 (y77 ..) hp
 ·cases hp
def zpt  : Option (Nat)→Option (AV×List Blk)
 | some r=>some ((.v (.one (.flt .f32 r))),[])
 | none=>none
def zqb:List PT→Option (Bool×AV×List Blk)
 | [.one (.s (.flt .f32 x))]=>sF zpt (z8e x)
 | _=>none
theorem ya3:ev8 Γ6 181 [.one (.s (.flt .f32 a0))]=zpt (z8e a0):=tr2 (y3p a0 zpt rfl (fun c0_=>some c0_)) (by kernel_rfl)
theorem y4m:SumOne J 181 zqb:=mkT zog zo3 fun pts v news hp=>by
 unfold zqb at hp
 split at hp
 ·exact fin3 (ya3 ..) hp
 ·cases hp
def zhs:St:=(.mk [(x0P 0 4 7),(x0F 4 a0),(x0I 57 c1),(x0I 58 c2)] [(x0L g3),(x0L g4),(x0L g5),(x0L g6),(x0R false 0 1 2 3 a7 a8 a9 a10 c11 a12 a13)])
def zlu(t57:Int)(b0 b1 b2 b3:List Nat)(q0r q0s q0q q0p:Nat)(q0y:Int)(q0z q0u:Nat):St:=(.mk [(x0B 2 false)] [(x0L b0),(x0L b1),(x0L b2),(x0L b3),(x0R false 0 1 2 3 q0r q0s q0q q0p q0y q0z q0u)])
def zkx:St:=(.mk [(x0P 0 4 7),(x0F 4 a12),(x0I 57 c0),(x0I 58 c13),(x0B 59 e14)] [(x0L g1),(x0L g2),(x0L g3),(x0L g4),(x0R false 0 1 2 3 a5 a6 a7 a8 c9 a10 a11)])
def zny:Option ((Unit)⊕(Nat×Int×Bool))→Option (Ex×St)
 | none=>none
 | some (Sum.inl r)=>some (.ret,(zlu c0 g1 g2 g3 g4 a5 a6 a7 a8 c9 a10 a11))
 | some (Sum.inr r)=>some ((.exit 0),(zkx c0 g1 g2 g3 g4 a5 a6 a7 a8 c9 a10 a11 r.1 r.2.1 r.2.2))
def ztg (x:Option ((Unit)⊕(Nat×Int×Bool))):LO:=(.two (oL x) (.one .ret (zlu c0 g1 g2 g3 g4 a5 a6 a7 a8 c9 a10 a11)) (.one (.exit 0) (zkx c0 g1 g2 g3 g4 a5 a6 a7 a8 c9 a10 a11 ((tR x).getD default).1 ((tR x).getD default).2.1 ((tR x).getD default).2.2)))
def y5c:Bool×LO:=sL (ztg c1 g3 g4 g5 g6 a7 a8 a9 a10 c11 a12 a13) (z17 c1 g6 a10 a13 big a0 c2)
def zvp:Nat→St→Option (Bool×LO):=lpT 5 (pSt [(x1P 0 4 7),(x1F 4),(x1I 57),(x1I 58)] [x1L,x1L,x1L,x1L,(x1R false 0 1 2 3)]) (fun hs=>y5c (hN hs 0) (hI hs 1) (hI hs 2) (hLn hs 3) (hLn hs 4) (hLn hs 5) (hLn hs 6) (hN hs 7) (hN hs 8) (hN hs 9) (hN hs 10) (hI hs 11) (hN hs 12) (hN hs 13))
theorem y7k:∀ x:Option ((Unit)⊕(Nat×Int×Bool)),x.isSome=true→(zny c0 g1 g2 g3 g4 a5 a6 a7 a8 c9 a10 a11) x=some (pick (ztg c0 g1 g2 g3 g4 a5 a6 a7 a8 c9 a10 a11 x))
 | none,h=>by cases h
 | some (Sum.inl r),_=>rfl
 | some (Sum.inr r),_=>rfl
theorem y85 (K:Ex→St→Option (Ex×St)):ev9 Γ6 82 6 5 fi82 (zhs a0 c1 c2 g3 g4 g5 g6 a7 a8 a9 a10 c11 a12 a13) K=z4r c1 g6 a10 a13 a0 c2 (fun t4' t58'=>K .normal (zhs t4' c1 t58' g3 g4 g5 g6 a7 a8 a9 a10 c11 a12 a13)) (fun _=>K .ret (zlu c1 g3 g4 g5 g6 a7 a8 a9 a10 c11 a12 a13)) (fun c0_ c1_ c2_=>K (.exit 0) (zkx c1 g3 g4 g5 g6 a7 a8 a9 a10 c11 a12 a13 c0_ c1_ c2_)):=by kernel_rfl
theorem y8d:∀ (n t4:Nat) (t58:Int),iter 82 6 5 (ev9 Γ6 82 6 5 fi82) n (zhs t4 c0 t58 g1 g2 g3 g4 a5 a6 a7 a8 c9 a10 a11) (fun e st=>some (e,st))=(zny c0 g1 g2 g3 g4 a5 a6 a7 a8 c9 a10 a11) (z17 c0 g4 a8 a11 n t4 t58):=by
 intro n
 induction n with
 | zero=>intros;rfl
 | succ n ih=>
  intro t4 t58
  refine Eq.trans (iter_succ ..) (Eq.trans (y85 ..) (Eq.trans ?_ (y1d c0 g4 a8 a11 t4 t58 (zny c0 g1 g2 g3 g4 a5 a6 a7 a8 c9 a10 a11) rfl (fun t4' t58'=>z17 c0 g4 a8 a11 n t4' t58') (fun _=>some (Sum.inl ())) (fun c0_ c1_ c2_=>some (Sum.inr (c0_,c1_,c2_))))))
  exact congrArg (fun kn_=>z4r c0 g4 a8 a11 t4 t58 kn_ _ _) (funext fun t4'=>funext fun t58'=>ih ..)
theorem y2z:LoopOne J fnTab 82 6 zvp:=lpK zog zo3 (fi:=fi82) (by kernel_rfl) (by kernel_rfl) (q:=fun hs=>(zhs (hN hs 0) (hI hs 1) (hI hs 2) (hLn hs 3) (hLn hs 4) (hLn hs 5) (hLn hs 6) (hN hs 7) (hN hs 8) (hN hs 9) (hN hs 10) (hI hs 11) (hN hs 12) (hN hs 13))) (fun hs=>by kernel_rfl) fun hs h1=>Eq.trans (y8d (hI hs 1) (hLn hs 3) (hLn hs 4) (hLn hs 5) (hLn hs 6) (hN hs 7) (hN hs 8) (hN hs 9) (hN hs 10) (hI hs 11) (hN hs 12) (hN hs 13) big (hN hs 0) (hI hs 2)) (y7k (hI hs 1) (hLn hs 3) (hLn hs 4) (hLn hs 5) (hLn hs 6) (hN hs 7) (hN hs 8) (hN hs 9) (hN hs 10) (hI hs 11) (hN hs 12) (hN hs 13) _ h1)
def tb7:List (Nat×(List PT→Option (Bool×AV×List Blk))):=(114,z3f)::(114,z40)::(114,z43)::(160,zwd)::(170,zm7)::(181,zqb)::tb6
def lt7:List ((Nat×Nat)×(Nat→St→Option (Bool×LO))):=((82,6),zvp)::lt6
def Γ7:Ctx:=⟨tyTab,fnTab,tblSum tb7,tblLp lt7⟩
theorem zty:SumL J tb7:=SumL.cons zb8 (SumL.cons zch (SumL.cons zd2 (SumL.cons y91 (SumL.cons y17 (SumL.cons y4m (zog))))))
theorem zt2:LpL J fnTab lt7:=LpL.cons y2z (zo3)
def zib  : Option (Bool)→Option (AV×List Blk)
 | some r=>some ((.v (.one (.bool r))),[])
 | none=>none
def zi2:List PT→Option (Bool×AV×List Blk)
 | [.one (.row 1 q1s (.fl .f32 q23))]=>sF zib (z1x q1s q23)
 | _=>none
theorem y2u:ev8 Γ7 64 [.one (.row 1 a0 (.fl .f32 g1))]=zib (z1x a0 g1):=tr2 (zwb a0 g1 zib rfl (fun c0_=>some c0_)) (by kernel_rfl)
theorem zyr:SumOne J 64 zi2:=mkT zty zt2 fun pts v news hp=>by
 unfold zi2 at hp
 split at hp
 ·exact fin3 (y2u ..) hp
 ·cases hp
def ztl  : Option (Bool)→Option (AV×List Blk)
 | some r=>some ((.v (.one (.bool r))),[])
 | none=>none
def ztx:List PT→Option (Bool×AV×List Blk)
 | [.ptr [.row 1 q00 (.fl .f32 q03),.row 1 q01 (.fl .f32 q04),.row 1 q02 (.fl .f32 q05),.row 3 q07 (.fl .f32 q0a),.s (.int .i64 q0e),.s (.flt .f32 q0h),.s (.flt .f32 q0g)]]=>sF ztl (zap q00 q03 q01 q04 q02 q05 q07 q0a q0e q0h q0g)
 | _=>none
theorem yb1:ev8 Γ7 82 [.ptr [.row 1 a0 (.fl .f32 g1),.row 1 a2 (.fl .f32 g3),.row 1 a4 (.fl .f32 g5),.row 3 a6 (.fl .f32 g7),.s (.int .i64 c8),.s (.flt .f32 a9),.s (.flt .f32 a10)]]=ztl (zap a0 g1 a2 g3 a4 g5 a6 g7 c8 a9 a10):=tr2 (y6d a0 g1 a2 g3 a4 g5 a6 g7 c8 a9 a10 ztl rfl (fun c0_=>some c0_)) (by kernel_rfl)
theorem y8b:SumOne J 82 ztx:=mkT zty zt2 fun pts v news hp=>by
 unfold ztx at hp
 split at hp
 ·exact fin3 (yb1 ..) hp
 ·cases hp
def zlm  : Option (Bool)→Option (AV×List Blk)
 | some r=>some ((.v (.one (.bool r))),[])
 | none=>none
def zkz:List PT→Option (Bool×AV×List Blk)
 | [.one (.row 1 q1s (.fl .f32 q23))]=>sF zlm (z4y q1s q23)
 | _=>none
theorem y6k:ev8 Γ7 132 [.one (.row 1 a0 (.fl .f32 g1))]=zlm (z4y a0 g1):=tr2 (y0c a0 g1 zlm rfl (fun c0_=>some c0_)) (by kernel_rfl)
theorem y1h:SumOne J 132 zkz:=mkT zty zt2 fun pts v news hp=>by
 unfold zkz at hp
 split at hp
 ·exact fin3 (y6k ..) hp
 ·cases hp
def zo0  : Option (Bool)→Option (AV×List Blk)
 | some r=>some ((.v (.one (.bool r))),[])
 | none=>none
def zn1:List PT→Option (Bool×AV×List Blk)
 | [.one (.row 1 q1s (.fl .f32 q23))]=>sF zo0 (z7b q1s q23)
 | _=>none
theorem y7x:ev8 Γ7 133 [.one (.row 1 a0 (.fl .f32 g1))]=zo0 (z7b a0 g1):=tr2 (y1w a0 g1 zo0 rfl (fun c0_=>some c0_)) (by kernel_rfl)
theorem y3v:SumOne J 133 zn1:=mkT zty zt2 fun pts v news hp=>by
 unfold zn1 at hp
 split at hp
 ·exact fin3 (y7x ..) hp
 ·cases hp
def zm0  : Option (Nat)→Option (AV×List Blk)
 | some r=>some ((.v (.one (.flt .f32 r))),[])
 | none=>none
def zlb:List PT→Option (Bool×AV×List Blk)
 | [.one (.s (.flt .f32 x))]=>sF zm0 (z6o x)
 | _=>none
theorem y6t:ev8 Γ7 141 [.one (.s (.flt .f32 a0))]=zm0 (z6o a0):=tr2 (y09 a0 zm0 rfl (fun c0_=>some c0_)) (by kernel_rfl)
theorem y1r:SumOne J 141 zlb:=mkT zty zt2 fun pts v news hp=>by
 unfold zlb at hp
 split at hp
 ·exact fin3 (y6t ..) hp
 ·cases hp
def tb8:List (Nat×(List PT→Option (Bool×AV×List Blk))):=(64,zi2)::(82,ztx)::(132,zkz)::(133,zn1)::(141,zlb)::tb7
def lt8:List ((Nat×Nat)×(Nat→St→Option (Bool×LO))):=lt7
def Γ8:Ctx:=⟨tyTab,fnTab,tblSum tb8,tblLp lt8⟩
theorem zt9:SumL J tb8:=SumL.cons zyr (SumL.cons y8b (SumL.cons y1h (SumL.cons y3v (SumL.cons y1r (zty)))))
theorem ztu:LpL J fnTab lt8:=zt2
def zk0  : Option (Nat×Nat×Bool)→Option (AV×List Blk)
 | some r=>some ((.tup [(.one (.flt .f32 r.1)),(.one (.flt .f32 r.2.1)),(.one (.bool r.2.2))]),[])
 | none=>none
def zji:List PT→Option (Bool×AV×List Blk)
 | [.one (.s (.flt .f32 x)),.one (.s (.flt .f32 y))]=>sF zk0 (z3p x y)
 | _=>none
theorem y5t:ev8 Γ8 107 [.one (.s (.flt .f32 a0)),.one (.s (.flt .f32 a1))]=zk0 (z3p a0 a1):=tr2 (zxl a0 a1 zk0 rfl (fun c0_ c1_ c2_=>some (c0_,c1_,c2_))) (by kernel_rfl)
theorem y0q:SumOne J 107 zji:=mkT zt9 ztu fun pts v news hp=>by
 unfold zji at hp
 split at hp
 ·exact fin3 (y5t ..) hp
 ·cases hp
def zjm  : Option (Bool)→Option (AV×List Blk)
 | some r=>some ((.v (.one (.bool r))),[])
 | none=>none
def zjd:List PT→Option (Bool×AV×List Blk)
 | [.ptr [.row 1 q06 (.fl .f32 q0b),.row 1 q08 (.fl .f32 q0c),.row 1 q09 (.fl .f32 q0d),.row 3 q0f (.fl .f32 q0i),.s (.int .i64 q0k),.s (.flt .f32 q0o),.s (.flt .f32 q0n)],.one (.s (.int .i64 i))]=>sF zjm (z5u q06 q0b q08 q0c q09 q0d q0f q0i q0k q0o q0n i)
 | _=>none
theorem y5q:ev8 Γ8 127 [.ptr [.row 1 a0 (.fl .f32 g1),.row 1 a2 (.fl .f32 g3),.row 1 a4 (.fl .f32 g5),.row 3 a6 (.fl .f32 g7),.s (.int .i64 c8),.s (.flt .f32 a9),.s (.flt .f32 a10)],.one (.s (.int .i64 c11))]=zjm (z5u a0 g1 a2 g3 a4 g5 a6 g7 c8 a9 a10 c11):=tr2 (zyt a0 g1 a2 g3 a4 g5 a6 g7 c8 a9 a10 c11 zjm rfl (fun c0_=>some c0_)) (by kernel_rfl)
theorem zz5:SumOne J 127 zjd:=mkT zt9 ztu fun pts v news hp=>by
 unfold zjd at hp
 split at hp
 ·exact fin3 (y5q ..) hp
 ·cases hp
def zeq  : Option (Nat)→Option (AV×List Blk)
 | some r=>some ((.v (.one (.flt .f32 r))),[])
 | none=>none
def zf0:List PT→Option (Bool×AV×List Blk)
 | [.agg [.row 1 q06 (.fl .f32 q0b),.row 1 q08 (.fl .f32 q0c),.row 1 q09 (.fl .f32 q0d),.row 3 q0f (.fl .f32 q0i),.s (.int .i64 q0k),.s (.flt .f32 q0o),.s (.flt .f32 q0n)],.one (.s (.int .i64 i)),.one (.s (.flt .f32 q1g))]=>sF zeq (z3s q06 q0b q08 q0c q09 q0d q0f q0i q0k q0o q0n i q1g)
 | _=>none
theorem zyy:ev8 Γ8 143 [.agg [.row 1 a0 (.fl .f32 g1),.row 1 a2 (.fl .f32 g3),.row 1 a4 (.fl .f32 g5),.row 3 a6 (.fl .f32 g7),.s (.int .i64 c8),.s (.flt .f32 a9),.s (.flt .f32 a10)],.one (.s (.int .i64 c11)),.one (.s (.flt .f32 a12))]=zeq (z3s a0 g1 a2 g3 a4 g5 a6 g7 c8 a9 a10 c11 a12):=tr2 (zsw a0 g1 a2 g3 a4 g5 a6 g7 c8 a9 a10 c11 a12 zeq rfl (fun c0_=>some c0_)) (by kernel_rfl)
theorem ztv:SumOne J 143 zf0:=mkT zt9 ztu fun pts v news hp=>by
 unfold zf0 at hp
 split at hp
 ·exact fin3 (zyy ..) hp
 ·cases hp
def z1l:St:=(.mk [(x0V 0 0 a0 1),(1,(.v (.one (.fn 171 [(.ptr 4 0 1)])))),(x0I 7 c1),(x0I 8 c2)] [(x0L g3),(x0L g4),(x0L g5),(.mk true (.cells [(.vw 0 0 a6 1),(.vw 1 0 a7 1),(.vw 2 0 a8 1)])),(.mk true (.cells [(.flt .f32 a9)]))])
def z2v(sn:Nat)(t7:Int)(b0 b1 b2:List Nat)(q1h q1q q1r b4:Nat)(c0_:Int):St:=(.mk [(x0I 4 c0_)] [(x0L b0),(x0L b1),(x0L b2),(.mk true (.cells [(.vw 0 0 q1h 1),(.vw 1 0 q1q 1),(.vw 2 0 q1r 1)])),(.mk true (.cells [(.flt .f32 b4)]))])
def z2q:St:=(.mk [(x0V 0 0 a0 1),(1,(.v (.one (.fn 171 [(.ptr 4 0 1)])))),(x0I 7 c1),(x0I 8 c9),(x0B 9 e10)] [(x0L g2),(x0L g3),(x0L g4),(.mk true (.cells [(.vw 0 0 a5 1),(.vw 1 0 a6 1),(.vw 2 0 a7 1)])),(.mk true (.cells [(.flt .f32 a8)]))])
def z37:Option ((Int)⊕(Int×Bool))→Option (Ex×St)
 | none=>none
 | some (Sum.inl r)=>some (.ret,(z2v a0 c1 g2 g3 g4 a5 a6 a7 a8 r))
 | some (Sum.inr r)=>some ((.exit 0),(z2q a0 c1 g2 g3 g4 a5 a6 a7 a8 r.1 r.2))
def z5f (x:Option ((Int)⊕(Int×Bool))):LO:=(.two (oL x) (.one .ret (z2v a0 c1 g2 g3 g4 a5 a6 a7 a8 ((tL x).getD default))) (.one (.exit 0) (z2q a0 c1 g2 g3 g4 a5 a6 a7 a8 ((tR x).getD default).1 ((tR x).getD default).2)))
def zb4:Bool×LO:=sL (z5f a0 c1 g3 g4 g5 a6 a7 a8 a9) (z00 a0 c1 g3 a9 big c2)
def z60:Nat→St→Option (Bool×LO):=lpT 5 (pSt [(x1V 0 0 1),(pTm 1 (pV (pOne (pFn 171 [(pPtr 4 (liN 0) 1)])))),(x1I 7),(x1I 8)] [x1L,x1L,x1L,(pBlk true (pCells [(pVw 0 (liN 0) 1),(pVw 1 (liN 0) 1),(pVw 2 (liN 0) 1)])),(pBlk true (pCells [(pFlt .f32)]))]) (fun hs=>zb4 (hN hs 0) (hI hs 1) (hI hs 2) (hLn hs 3) (hLn hs 4) (hLn hs 5) (hN hs 6) (hN hs 7) (hN hs 8) (hN hs 9))
theorem zc4:∀ x:Option ((Int)⊕(Int×Bool)),x.isSome=true→(z37 a0 c1 g2 g3 g4 a5 a6 a7 a8) x=some (pick (z5f a0 c1 g2 g3 g4 a5 a6 a7 a8 x))
 | none,h=>by cases h
 | some (Sum.inl r),_=>rfl
 | some (Sum.inr r),_=>rfl
theorem zck (K:Ex→St→Option (Ex×St)):ev9 Γ8 146 2 5 fi146 (z1l a0 c1 c2 g3 g4 g5 a6 a7 a8 a9) K=z0f a0 c1 g3 a9 c2 (fun t8'=>K .normal (z1l a0 c1 t8' g3 g4 g5 a6 a7 a8 a9)) (fun c0_=>K .ret (z2v a0 c1 g3 g4 g5 a6 a7 a8 a9 c0_)) (fun c0_ c1_=>K (.exit 0) (z2q a0 c1 g3 g4 g5 a6 a7 a8 a9 c0_ c1_)):=by kernel_rfl
theorem zbt:∀ (n:Nat) (t8:Int),iter 146 2 5 (ev9 Γ8 146 2 5 fi146) n (z1l a0 c1 t8 g2 g3 g4 a5 a6 a7 a8) (fun e st=>some (e,st))=(z37 a0 c1 g2 g3 g4 a5 a6 a7 a8) (z00 a0 c1 g2 a8 n t8):=by
 intro n
 induction n with
 | zero=>intros;rfl
 | succ n ih=>
  intro t8
  refine Eq.trans (iter_succ ..) (Eq.trans (zck ..) (Eq.trans ?_ (za5 a0 c1 g2 a8 t8 (z37 a0 c1 g2 g3 g4 a5 a6 a7 a8) rfl (fun t8'=>z00 a0 c1 g2 a8 n t8') (fun c0_=>some (Sum.inl c0_)) (fun c0_ c1_=>some (Sum.inr (c0_,c1_))))))
  exact congrArg (fun kn_=>z0f a0 c1 g2 a8 t8 kn_ _ _) (funext fun t8'=>ih ..)
theorem zaj:LoopOne J fnTab 146 2 z60:=lpK zt9 ztu (fi:=fi146) (by kernel_rfl) (by kernel_rfl) (q:=fun hs=>(z1l (hN hs 0) (hI hs 1) (hI hs 2) (hLn hs 3) (hLn hs 4) (hLn hs 5) (hN hs 6) (hN hs 7) (hN hs 8) (hN hs 9))) (fun hs=>by kernel_rfl) fun hs h1=>Eq.trans (zbt (hN hs 0) (hI hs 1) (hLn hs 3) (hLn hs 4) (hLn hs 5) (hN hs 6) (hN hs 7) (hN hs 8) (hN hs 9) big (hI hs 2)) (zc4 (hN hs 0) (hI hs 1) (hLn hs 3) (hLn hs 4) (hLn hs 5) (hN hs 6) (hN hs 7) (hN hs 8) (hN hs 9) _ h1)
def ze1:St:=(.mk [(x0P 0 3 3),(x0F 8 a0),(x0I 9 c1),(x0I 10 c2)] [(x0L g3),(x0L g4),(x0L g5),(.mk false (.cells [(.vw 0 0 a6 1),(.vw 1 0 a7 1),(.vw 2 0 a8 1)]))])
def zi5:St:=(.mk [(x0P 0 3 3),(x0F 8 a0),(x0I 9 c1),(x0I 10 c8),(x0B 36 e9)] [(x0L g2),(x0L g3),(x0L g4),(.mk false (.cells [(.vw 0 0 a5 1),(.vw 1 0 a6 1),(.vw 2 0 a7 1)]))])
def zk2:Option ((Int×Bool))→Option (Ex×St)
 | none=>none
 | some r=>some ((.exit 0),(zi5 a0 c1 g2 g3 g4 a5 a6 a7 r.1 r.2))
def zqk (x:Option ((Int×Bool))):LO:=(.one (.exit 0) (zi5 a0 c1 g2 g3 g4 a5 a6 a7 (x.getD default).1 (x.getD default).2))
def y25:Bool×LO:=sL (zqk a0 c1 g3 g4 g5 a6 a7 a8) (z1p a0 g3 a6 big c2)
def zrw:Nat→St→Option (Bool×LO):=lpT 4 (pSt [(x1P 0 3 3),(x1F 8),(x1I 9),(x1I 10)] [x1L,x1L,x1L,(pBlk false (pCells [(pVw 0 (liN 0) 1),(pVw 1 (liN 0) 1),(pVw 2 (liN 0) 1)]))]) (fun hs=>y25 (hN hs 0) (hI hs 1) (hI hs 2) (hLn hs 3) (hLn hs 4) (hLn hs 5) (hN hs 6) (hN hs 7) (hN hs 8))
theorem y5m:∀ x:Option ((Int×Bool)),x.isSome=true→(zk2 a0 c1 g2 g3 g4 a5 a6 a7) x=some (pick (zqk a0 c1 g2 g3 g4 a5 a6 a7 x))
 | none,h=>by cases h
 | some r,_=>rfl
theorem y5f (K:Ex→St→Option (Ex×St)):ev9 Γ8 176 4 4 fi176 (ze1 a0 c1 c2 g3 g4 g5 a6 a7 a8) K=z3o a0 g3 a6 c2 (fun t10'=>K .normal (ze1 a0 c1 t10' g3 g4 g5 a6 a7 a8)) (fun c0_ c1_=>K (.exit 0) (zi5 a0 c1 g3 g4 g5 a6 a7 a8 c0_ c1_)):=by kernel_rfl
theorem y4o:∀ (n:Nat) (t10:Int),iter 176 4 4 (ev9 Γ8 176 4 4 fi176) n (ze1 a0 c1 t10 g2 g3 g4 a5 a6 a7) (fun e st=>some (e,st))=(zk2 a0 c1 g2 g3 g4 a5 a6 a7) (z1p a0 g2 a5 n t10):=by
 intro n
 induction n with
 | zero=>intros;rfl
 | succ n ih=>
  intro t10
  refine Eq.trans (iter_succ ..) (Eq.trans (y5f ..) (Eq.trans ?_ (zyp a0 g2 a5 t10 (zk2 a0 c1 g2 g3 g4 a5 a6 a7) rfl (fun t10'=>z1p a0 g2 a5 n t10') (fun c0_ c1_=>some (c0_,c1_)))))
  exact congrArg (fun kn_=>z3o a0 g2 a5 t10 kn_ _) (funext fun t10'=>ih ..)
theorem zze:LoopOne J fnTab 176 4 zrw:=lpK zt9 ztu (fi:=fi176) (by kernel_rfl) (by kernel_rfl) (q:=fun hs=>(ze1 (hN hs 0) (hI hs 1) (hI hs 2) (hLn hs 3) (hLn hs 4) (hLn hs 5) (hN hs 6) (hN hs 7) (hN hs 8))) (fun hs=>by kernel_rfl) fun hs h1=>Eq.trans (y4o (hN hs 0) (hI hs 1) (hLn hs 3) (hLn hs 4) (hLn hs 5) (hN hs 6) (hN hs 7) (hN hs 8) big (hI hs 2)) (y5m (hN hs 0) (hI hs 1) (hLn hs 3) (hLn hs 4) (hLn hs 5) (hN hs 6) (hN hs 7) (hN hs 8) _ h1)
def tb9:List (Nat×(List PT→Option (Bool×AV×List Blk))):=(107,zji)::(127,zjd)::(143,zf0)::tb8
def lt9:List ((Nat×Nat)×(Nat→St→Option (Bool×LO))):=((146,2),z60)::((176,4),zrw)::lt8
def Γ9:Ctx:=⟨tyTab,fnTab,tblSum tb9,tblLp lt9⟩
theorem zy3:SumL J tb9:=SumL.cons y0q (SumL.cons zz5 (SumL.cons ztv (zt9)))
theorem zyu:LpL J fnTab lt9:=LpL.cons zaj (LpL.cons zze (ztu))
def zrm  : Option (Bool)→Option (AV×List Blk)
 | some r=>some ((.v (.one (.bool r))),[])
 | none=>none
def zrj:List PT→Option (Bool×AV×List Blk)
 | [.ptr [.row 1 q06 (.fl .f32 q0b),.row 1 q08 (.fl .f32 q0c),.row 1 q09 (.fl .f32 q0d),.row 3 q0f (.fl .f32 q0i),.s (.int .i64 q0k),.s (.flt .f32 q0o),.s (.flt .f32 q0n)],.one (.s (.int .i64 i)),.one (.s (.flt .f32 q15)),.one (.s (.flt .f32 q0v)),.one (.s (.flt .f32 q0m))]=>sF zrm (z98 q06 q0b q08 q0c q09 q0d q0f q0i q0k q0o q0n i q15 q0v q0m)
 | _=>none
theorem yah:ev8 Γ9 87 [.ptr [.row 1 a0 (.fl .f32 g1),.row 1 a2 (.fl .f32 g3),.row 1 a4 (.fl .f32 g5),.row 3 a6 (.fl .f32 g7),.s (.int .i64 c8),.s (.flt .f32 a9),.s (.flt .f32 a10)],.one (.s (.int .i64 c11)),.one (.s (.flt .f32 a12)),.one (.s (.flt .f32 a13)),.one (.s (.flt .f32 a14))]=zrm (z98 a0 g1 a2 g3 a4 g5 a6 g7 c8 a9 a10 c11 a12 a13 a14):=tr2 (y4i a0 g1 a2 g3 a4 g5 a6 g7 c8 a9 a10 c11 a12 a13 a14 zrm rfl (fun c0_=>some c0_)) (by kernel_rfl)
theorem y6e:SumOne J 87 zrj:=mkT zy3 zyu fun pts v news hp=>by
 unfold zrj at hp
 split at hp
 ·exact fin3 (yah ..) hp
 ·cases hp
def zd4  : Option (Int×Int×Nat×Nat×Nat)→Option (AV×List Blk)
 | some r=>some ((.tup [(.one (.int .i64 r.1)),(.one (.int .i64 r.2.1)),(.one (.flt .f32 r.2.2.1)),(.one (.flt .f32 r.2.2.2.1)),(.one (.flt .f32 r.2.2.2.2))]),[])
 | none=>none
def zcx:List PT→Option (Bool×AV×List Blk)
 | [.agg [.row 1 q0j (.fl .f32 q0l),.row 1 q13 (.fl .f32 q1d),.row 1 q14 (.fl .f32 q1c)],.one (.s (.flt .f32 x1))]=>sF zd4 (z13 q0j q0l q13 q1d q14 q1c x1)
 | _=>none
theorem zw6:ev8 Γ9 161 [.agg [.row 1 a0 (.fl .f32 g1),.row 1 a2 (.fl .f32 g3),.row 1 a4 (.fl .f32 g5)],.one (.s (.flt .f32 a6))]=zd4 (z13 a0 g1 a2 g3 a4 g5 a6):=tr2 (zrk a0 g1 a2 g3 a4 g5 a6 zd4 rfl (fun c0_ c1_ c2_ c3_ c4_=>some (c0_,c1_,c2_,c3_,c4_))) (by kernel_rfl)
theorem zsn:SumOne J 161 zcx:=mkT zy3 zyu fun pts v news hp=>by
 unfold zcx at hp
 split at hp
 ·exact fin3 (zw6 ..) hp
 ·cases hp
def zq8  : Option (Int×Int×Nat×Nat)→Option (AV×List Blk)
 | some r=>some ((.tup [(.one (.int .i64 r.1)),(.one (.int .i64 r.2.1)),(.one (.flt .f32 r.2.2.1)),(.one (.flt .f32 r.2.2.2))]),[])
 | none=>none
def zqe:List PT→Option (Bool×AV×List Blk)
 | [.ptr [.row 1 q0j (.fl .f32 q0l),.row 1 q13 (.fl .f32 q1d),.row 1 q14 (.fl .f32 q1c)],.one (.s (.flt .f32 x1))]=>sF zq8 (z3z q0j q0l q13 q1d q14 q1c x1)
 | _=>none
theorem y9h:ev8 Γ9 176 [.ptr [.row 1 a0 (.fl .f32 g1),.row 1 a2 (.fl .f32 g3),.row 1 a4 (.fl .f32 g5)],.one (.s (.flt .f32 a6))]=zq8 (z3z a0 g1 a2 g3 a4 g5 a6):=tr2 (y3h a0 g1 a2 g3 a4 g5 a6 zq8 rfl (fun c0_ c1_ c2_ c3_=>some (c0_,c1_,c2_,c3_))) (by kernel_rfl)
theorem y5d:SumOne J 176 zqe:=mkT zy3 zyu fun pts v news hp=>by
 unfold zqe at hp
 split at hp
 ·exact fin3 (y9h ..) hp
 ·cases hp
def z8k:St:=(.mk [(x0P 1 3 3),(x0V 42 0 a0 1),(x0I 43 c1),(x0I 44 c2)] [(x0L g3),(x0L g4),(x0L g5),(.mk true (.cells [(.vw 0 0 a6 1),(.vw 1 0 a7 1),(.vw 2 0 a8 1)]))])
def zbh(q2z:Nat)(t43:Int)(b0 b1 b2:List Nat)(q1h q1q q1r:Nat):St:=(.mk [(x0B 2 false)] [(x0L b0),(x0L b1),(x0L b2)])
def zbj:St:=(.mk [(x0P 1 3 3),(x0V 42 0 a0 1),(x0I 43 c1),(x0I 44 c8),(x0B 45 e9)] [(x0L g2),(x0L g3),(x0L g4),(.mk true (.cells [(.vw 0 0 a5 1),(.vw 1 0 a6 1),(.vw 2 0 a7 1)]))])
def zdd:Option ((Unit)⊕(Int×Bool))→Option (Ex×St)
 | none=>none
 | some (Sum.inl r)=>some (.ret,(zbh a0 c1 g2 g3 g4 a5 a6 a7))
 | some (Sum.inr r)=>some ((.exit 0),(zbj a0 c1 g2 g3 g4 a5 a6 a7 r.1 r.2))
def zj4 (x:Option ((Unit)⊕(Int×Bool))):LO:=(.two (oL x) (.one .ret (zbh a0 c1 g2 g3 g4 a5 a6 a7)) (.one (.exit 0) (zbj a0 c1 g2 g3 g4 a5 a6 a7 ((tR x).getD default).1 ((tR x).getD default).2)))
def zug:Bool×LO:=sL (zj4 a0 c1 g3 g4 g5 a6 a7 a8) (z10 a0 c1 g3 a6 big c2)
def zkg:Nat→St→Option (Bool×LO):=lpT 3 (pSt [(x1P 1 3 3),(x1V 42 0 1),(x1I 43),(x1I 44)] [x1L,x1L,x1L,(pBlk true (pCells [(pVw 0 (liN 0) 1),(pVw 1 (liN 0) 1),(pVw 2 (liN 0) 1)]))]) (fun hs=>zug (hN hs 0) (hI hs 1) (hI hs 2) (hLn hs 3) (hLn hs 4) (hLn hs 5) (hN hs 6) (hN hs 7) (hN hs 8))
theorem zwo:∀ x:Option ((Unit)⊕(Int×Bool)),x.isSome=true→(zdd a0 c1 g2 g3 g4 a5 a6 a7) x=some (pick (zj4 a0 c1 g2 g3 g4 a5 a6 a7 x))
 | none,h=>by cases h
 | some (Sum.inl r),_=>rfl
 | some (Sum.inr r),_=>rfl
theorem zx5 (K:Ex→St→Option (Ex×St)):ev9 Γ9 89 5 3 fi89 (z8k a0 c1 c2 g3 g4 g5 a6 a7 a8) K=z1t a0 c1 g3 a6 c2 (fun t44'=>K .normal (z8k a0 c1 t44' g3 g4 g5 a6 a7 a8)) (fun _=>K .ret (zbh a0 c1 g3 g4 g5 a6 a7 a8)) (fun c0_ c1_=>K (.exit 0) (zbj a0 c1 g3 g4 g5 a6 a7 a8 c0_ c1_)):=by kernel_rfl
theorem zwf:∀ (n:Nat) (t44:Int),iter 89 5 3 (ev9 Γ9 89 5 3 fi89) n (z8k a0 c1 t44 g2 g3 g4 a5 a6 a7) (fun e st=>some (e,st))=(zdd a0 c1 g2 g3 g4 a5 a6 a7) (z10 a0 c1 g2 a5 n t44):=by
 intro n
 induction n with
 | zero=>intros;rfl
 | succ n ih=>
  intro t44
  refine Eq.trans (iter_succ ..) (Eq.trans (zx5 ..) (Eq.trans ?_ (zr9 a0 c1 g2 a5 t44 (zdd a0 c1 g2 g3 g4 a5 a6 a7) rfl (fun t44'=>z10 a0 c1 g2 a5 n t44') (fun _=>some (Sum.inl ())) (fun c0_ c1_=>some (Sum.inr (c0_,c1_))))))
  exact congrArg (fun kn_=>z1t a0 c1 g2 a5 t44 kn_ _ _) (funext fun t44'=>ih ..)
theorem zsv:LoopOne J fnTab 89 5 zkg:=lpK zy3 zyu (fi:=fi89) (by kernel_rfl) (by kernel_rfl) (q:=fun hs=>(z8k (hN hs 0) (hI hs 1) (hI hs 2) (hLn hs 3) (hLn hs 4) (hLn hs 5) (hN hs 6) (hN hs 7) (hN hs 8))) (fun hs=>by kernel_rfl) fun hs h1=>Eq.trans (zwf (hN hs 0) (hI hs 1) (hLn hs 3) (hLn hs 4) (hLn hs 5) (hN hs 6) (hN hs 7) (hN hs 8) big (hI hs 2)) (zwo (hN hs 0) (hI hs 1) (hLn hs 3) (hLn hs 4) (hLn hs 5) (hN hs 6) (hN hs 7) (hN hs 8) _ h1)
def tb10:List (Nat×(List PT→Option (Bool×AV×List Blk))):=(87,zrj)::(161,zcx)::(176,zqe)::tb9
def lt10:List ((Nat×Nat)×(Nat→St→Option (Bool×LO))):=((89,5),zkg)::lt9
def Γ10:Ctx:=⟨tyTab,fnTab,tblSum tb10,tblLp lt10⟩
theorem zyn:SumL J tb10:=SumL.cons y6e (SumL.cons zsn (SumL.cons y5d (zy3)))
theorem zxm:LpL J fnTab lt10:=LpL.cons zsv (zyu)
def zh9  : Option (Bool)→Option (AV×List Blk)
 | some r=>some ((.v (.one (.bool r))),[])
 | none=>none
def zhf:List PT→Option (Bool×AV×List Blk)
 | [.agg [.row 1 q0j (.fl .f32 q0l),.row 1 q13 (.fl .f32 q1d),.row 1 q14 (.fl .f32 q1c)]]=>sF zh9 (z4m q0j q0l q13 q1d q14 q1c)
 | _=>none
theorem y2i:ev8 Γ10 89 [.agg [.row 1 a0 (.fl .f32 g1),.row 1 a2 (.fl .f32 g3),.row 1 a4 (.fl .f32 g5)]]=zh9 (z4m a0 g1 a2 g3 a4 g5):=tr2 (zv2 a0 g1 a2 g3 a4 g5 zh9 rfl (fun c0_=>some c0_)) (by kernel_rfl)
theorem zwg:SumOne J 89 zhf:=mkT zyn zxm fun pts v news hp=>by
 unfold zhf at hp
 split at hp
 ·exact fin3 (y2i ..) hp
 ·cases hp
def zjj  : Option (Nat)→Option (AV×List Blk)
 | some r=>some ((.v (.one (.flt .f32 r))),[])
 | none=>none
def zjo:List PT→Option (Bool×AV×List Blk)
 | [.agg [.row 1 q17 (.fl .f32 q1j),.row 1 q1b (.fl .f32 q1o),.row 1 q1a (.fl .f32 q1n)],.one (.row 1 q1s (.fl .f32 q23)),.one (.s (.flt .f32 q1x))]=>sF zjj (z5l q17 q1j q1b q1o q1a q1n q1s q23 q1x)
 | _=>none
theorem y5j:ev8 Γ10 144 [.agg [.row 1 a0 (.fl .f32 g1),.row 1 a2 (.fl .f32 g3),.row 1 a4 (.fl .f32 g5)],.one (.row 1 a6 (.fl .f32 g7)),.one (.s (.flt .f32 a8))]=zjj (z5l a0 g1 a2 g3 a4 g5 a6 g7 a8):=tr2 (zxp a0 g1 a2 g3 a4 g5 a6 g7 a8 zjj rfl (fun c0_=>some c0_)) (by kernel_rfl)
theorem y0o:SumOne J 144 zjo:=mkT zyn zxm fun pts v news hp=>by
 unfold zjo at hp
 split at hp
 ·exact fin3 (y5j ..) hp
 ·cases hp
def ztb  : Option (Nat)→Option (AV×List Blk)
 | some r=>some ((.v (.one (.flt .f32 r))),[])
 | none=>none
def zu8:List PT→Option (Bool×AV×List Blk)
 | [.ptr [.row 1 q17 (.fl .f32 q1j),.row 1 q1b (.fl .f32 q1o),.row 1 q1a (.fl .f32 q1n)],.one (.row 1 q1s (.fl .f32 q23)),.one (.s (.flt .f32 q1x))]=>sF ztb (zaq q17 q1j q1b q1o q1a q1n q1s q23 q1x)
 | _=>none
theorem yb4:ev8 Γ10 172 [.ptr [.row 1 a0 (.fl .f32 g1),.row 1 a2 (.fl .f32 g3),.row 1 a4 (.fl .f32 g5)],.one (.row 1 a6 (.fl .f32 g7)),.one (.s (.flt .f32 a8))]=ztb (zaq a0 g1 a2 g3 a4 g5 a6 g7 a8):=tr2 (y67 a0 g1 a2 g3 a4 g5 a6 g7 a8 ztb rfl (fun c0_=>some c0_)) (by kernel_rfl)
theorem y8h:SumOne J 172 zu8:=mkT zyn zxm fun pts v news hp=>by
 unfold zu8 at hp
 split at hp
 ·exact fin3 (yb4 ..) hp
 ·cases hp
def tb11:List (Nat×(List PT→Option (Bool×AV×List Blk))):=(89,zhf)::(144,zjo)::(172,zu8)::tb10
def lt11:List ((Nat×Nat)×(Nat→St→Option (Bool×LO))):=lt10
def Γ11:Ctx:=⟨tyTab,fnTab,tblSum tb11,tblLp lt11⟩
theorem zyw:SumL J tb11:=SumL.cons zwg (SumL.cons y0o (SumL.cons y8h (zyn)))
theorem zyh:LpL J fnTab lt11:=zxm
def zh6  : Option (Nat×Nat)→Option (AV×List Blk)
 | some r=>some ((.tup [(.one (.flt .f32 r.1)),(.one (.flt .f32 r.2))]),[])
 | none=>none
def zhd:List PT→Option (Bool×AV×List Blk)
 | [.agg [.row 1 q06 (.fl .f32 q0b),.row 1 q08 (.fl .f32 q0c),.row 1 q09 (.fl .f32 q0d),.row 3 q0f (.fl .f32 q0i),.s (.int .i64 q0k),.s (.flt .f32 q0o),.s (.flt .f32 q0n)],.one (.s (.int .i64 i)),.one (.s (.flt .f32 q1g)),.one (.s (.flt .f32 q0m))]=>sF zh6 (z2o q06 q0b q08 q0c q09 q0d q0f q0i q0k q0o q0n i q1g q0m)
 | _=>none
theorem y1t:ev8 Γ11 106 [.agg [.row 1 a0 (.fl .f32 g1),.row 1 a2 (.fl .f32 g3),.row 1 a4 (.fl .f32 g5),.row 3 a6 (.fl .f32 g7),.s (.int .i64 c8),.s (.flt .f32 a9),.s (.flt .f32 a10)],.one (.s (.int .i64 c11)),.one (.s (.flt .f32 a12)),.one (.s (.flt .f32 a13))]=zh6 (z2o a0 g1 a2 g3 a4 g5 a6 g7 c8 a9 a10 c11 a12 a13):=tr2 (zvf a0 g1 a2 g3 a4 g5 a6 g7 c8 a9 a10 c11 a12 a13 zh6 rfl (fun c0_ c1_=>some (c0_,c1_))) (by kernel_rfl)
theorem zw2:SumOne J 106 zhd:=mkT zyw zyh fun pts v news hp=>by
 unfold zhd at hp
 split at hp
 ·exact fin3 (y1t ..) hp
 ·cases hp
def zpv  : Option (Nat)→Option (AV×List Blk)
 | some r=>some ((.v (.one (.flt .f32 r))),[])
 | none=>none
def zpj:List PT→Option (Bool×AV×List Blk)
 | [.ptr [.row 1 q17 (.fl .f32 q1j),.row 1 q1b (.fl .f32 q1o),.row 1 q1a (.fl .f32 q1n)],.one (.s (.flt .f32 q1x))]=>sF zpv (z8a q17 q1j q1b q1o q1a q1n q1x)
 | _=>none
theorem y9i:ev8 Γ11 165 [.ptr [.row 1 a0 (.fl .f32 g1),.row 1 a2 (.fl .f32 g3),.row 1 a4 (.fl .f32 g5)],.one (.s (.flt .f32 a6))]=zpv (z8a a0 g1 a2 g3 a4 g5 a6):=tr2 (y32 a0 g1 a2 g3 a4 g5 a6 zpv rfl (fun c0_=>some c0_)) (by kernel_rfl)
theorem y4j:SumOne J 165 zpj:=mkT zyw zyh fun pts v news hp=>by
 unfold zpj at hp
 split at hp
 ·exact fin3 (y9i ..) hp
 ·cases hp
def zpi  : Option (Nat)→Option (AV×List Blk)
 | some r=>some ((.v (.one (.flt .f32 r))),[])
 | none=>none
def zq2:List PT→Option (Bool×AV×List Blk)
 | [.ptr [.row 1 q17 (.fl .f32 q1j),.row 1 q1b (.fl .f32 q1o),.row 1 q1a (.fl .f32 q1n)],.one (.s (.flt .f32 q1x))]=>sF zpi (z8b q17 q1j q1b q1o q1a q1n q1x)
 | _=>none
theorem y9w:ev8 Γ11 166 [.ptr [.row 1 a0 (.fl .f32 g1),.row 1 a2 (.fl .f32 g3),.row 1 a4 (.fl .f32 g5)],.one (.s (.flt .f32 a6))]=zpi (z8b a0 g1 a2 g3 a4 g5 a6):=tr2 (y3m a0 g1 a2 g3 a4 g5 a6 zpi rfl (fun c0_=>some c0_)) (by kernel_rfl)
theorem y50:SumOne J 166 zq2:=mkT zyw zyh fun pts v news hp=>by
 unfold zq2 at hp
 split at hp
 ·exact fin3 (y9w ..) hp
 ·cases hp
def tb12:List (Nat×(List PT→Option (Bool×AV×List Blk))):=(106,zhd)::(165,zpj)::(166,zq2)::tb11
def lt12:List ((Nat×Nat)×(Nat→St→Option (Bool×LO))):=lt11
def Γ12:Ctx:=⟨tyTab,fnTab,tblSum tb12,tblLp lt12⟩
theorem zx6:SumL J tb12:=SumL.cons zw2 (SumL.cons y4j (SumL.cons y50 (zyw)))
theorem zym:LpL J fnTab lt12:=zyh
def zh7  : Option (Nat×Nat)→Option (AV×List Blk)
 | some r=>some ((.tup [(.one (.flt .f32 r.1)),(.one (.flt .f32 r.2))]),[])
 | none=>none
def zh8:List PT→Option (Bool×AV×List Blk)
 | [.agg [.row 1 q06 (.fl .f32 q0b),.row 1 q08 (.fl .f32 q0c),.row 1 q09 (.fl .f32 q0d),.row 3 q0f (.fl .f32 q0i),.s (.int .i64 q0k),.s (.flt .f32 q0o),.s (.flt .f32 q0n)],.one (.s (.int .i64 i)),.one (.s (.flt .f32 q1g)),.one (.s (.flt .f32 q0m))]=>sF zh7 (z3m q06 q0b q08 q0c q09 q0d q0f q0i q0k q0o q0n i q1g q0m)
 | _=>none
theorem y1i:ev8 Γ12 105 [.agg [.row 1 a0 (.fl .f32 g1),.row 1 a2 (.fl .f32 g3),.row 1 a4 (.fl .f32 g5),.row 3 a6 (.fl .f32 g7),.s (.int .i64 c8),.s (.flt .f32 a9),.s (.flt .f32 a10)],.one (.s (.int .i64 c11)),.one (.s (.flt .f32 a12)),.one (.s (.flt .f32 a13))]=zh7 (z3m a0 g1 a2 g3 a4 g5 a6 g7 c8 a9 a10 c11 a12 a13):=tr2 (zuz a0 g1 a2 g3 a4 g5 a6 g7 c8 a9 a10 c11 a12 a13 zh7 rfl (fun c0_ c1_=>some (c0_,c1_))) (by kernel_rfl)
theorem zx0:SumOne J 105 zh8:=mkT zx6 zym fun pts v news hp=>by
 unfold zh8 at hp
 split at hp
 ·exact fin3 (y1i ..) hp
 ·cases hp
def zlr  : Option (Nat×Nat)→Option (AV×List Blk)
 | some r=>some ((.tup [(.one (.flt .f32 r.1)),(.one (.flt .f32 r.2))]),[])
 | none=>none
def zm2:List PT→Option (Bool×AV×List Blk)
 | [.ptr [.row 1 q06 (.fl .f32 q0b),.row 1 q08 (.fl .f32 q0c),.row 1 q09 (.fl .f32 q0d),.row 3 q0f (.fl .f32 q0i),.s (.int .i64 q0k),.s (.flt .f32 q0o),.s (.flt .f32 q0n)],.one (.s (.int .i64 i)),.one (.s (.flt .f32 q1g)),.one (.s (.flt .f32 q0m))]=>sF zlr (z4x q06 q0b q08 q0c q09 q0d q0f q0i q0k q0o q0n i q1g q0m)
 | _=>none
theorem y6z:ev8 Γ12 150 [.ptr [.row 1 a0 (.fl .f32 g1),.row 1 a2 (.fl .f32 g3),.row 1 a4 (.fl .f32 g5),.row 3 a6 (.fl .f32 g7),.s (.int .i64 c8),.s (.flt .f32 a9),.s (.flt .f32 a10)],.one (.s (.int .i64 c11)),.one (.s (.flt .f32 a12)),.one (.s (.flt .f32 a13))]=zlr (z4x a0 g1 a2 g3 a4 g5 a6 g7 c8 a9 a10 c11 a12 a13):=tr2 (zzf a0 g1 a2 g3 a4 g5 a6 g7 c8 a9 a10 c11 a12 a13 zlr rfl (fun c0_ c1_=>some (c0_,c1_))) (by kernel_rfl)
theorem y2j:SumOne J 150 zm2:=mkT zx6 zym fun pts v news hp=>by
 unfold zm2 at hp
 split at hp
 ·exact fin3 (y6z ..) hp
 ·cases hp
def z9h:St:=(.mk [(x0P 1 4 7),(x0F 4 a0),(x0V 43 3 a1 3),(x0I 44 c2),(x0I 45 c3)] [(x0L g4),(x0L g5),(x0L g6),(x0L g7),(x0R true 0 1 2 3 a8 a9 a10 a11 c12 a13 a14)])
def zf4(q2y:Nat)(t44:Int)(b0 b1 b2 b3:List Nat)(q0r q0s q0q q0p:Nat)(q0y:Int)(q0z q0u:Nat):St:=(.mk [(x0B 2 false)] [(x0L b0),(x0L b1),(x0L b2),(x0L b3)])
def zes:St:=(.mk [(x0P 1 4 7),(x0F 4 a13),(x0V 43 3 a0 3),(x0I 44 c1),(x0I 45 c14),(x0B 46 e15)] [(x0L g2),(x0L g3),(x0L g4),(x0L g5),(x0R true 0 1 2 3 a6 a7 a8 a9 c10 a11 a12)])
def zgl:Option ((Unit)⊕(Nat×Int×Bool))→Option (Ex×St)
 | none=>none
 | some (Sum.inl r)=>some (.ret,(zf4 a0 c1 g2 g3 g4 g5 a6 a7 a8 a9 c10 a11 a12))
 | some (Sum.inr r)=>some ((.exit 0),(zes a0 c1 g2 g3 g4 g5 a6 a7 a8 a9 c10 a11 a12 r.1 r.2.1 r.2.2))
def zmo (x:Option ((Unit)⊕(Nat×Int×Bool))):LO:=(.two (oL x) (.one .ret (zf4 a0 c1 g2 g3 g4 g5 a6 a7 a8 a9 c10 a11 a12)) (.one (.exit 0) (zes a0 c1 g2 g3 g4 g5 a6 a7 a8 a9 c10 a11 a12 ((tR x).getD default).1 ((tR x).getD default).2.1 ((tR x).getD default).2.2)))
def zwl:Bool×LO:=sL (zmo a1 c2 g4 g5 g6 g7 a8 a9 a10 a11 c12 a13 a14) (z0p a1 c2 g7 a14 big a0 c3)
def znk:Nat→St→Option (Bool×LO):=lpT 4 (pSt [(x1P 1 4 7),(x1F 4),(x1V 43 3 3),(x1I 44),(x1I 45)] [x1L,x1L,x1L,x1L,(x1R true 0 1 2 3)]) (fun hs=>zwl (hN hs 0) (hN hs 1) (hI hs 2) (hI hs 3) (hLn hs 4) (hLn hs 5) (hLn hs 6) (hLn hs 7) (hN hs 8) (hN hs 9) (hN hs 10) (hN hs 11) (hI hs 12) (hN hs 13) (hN hs 14))
theorem zzk:∀ x:Option ((Unit)⊕(Nat×Int×Bool)),x.isSome=true→(zgl a0 c1 g2 g3 g4 g5 a6 a7 a8 a9 c10 a11 a12) x=some (pick (zmo a0 c1 g2 g3 g4 g5 a6 a7 a8 a9 c10 a11 a12 x))
 | none,h=>by cases h
 | some (Sum.inl r),_=>rfl
 | some (Sum.inr r),_=>rfl
theorem zz9 (K:Ex→St→Option (Ex×St)):ev9 Γ12 51 6 4 fi51 (z9h a0 a1 c2 c3 g4 g5 g6 g7 a8 a9 a10 a11 c12 a13 a14) K=z2d a1 c2 g7 a14 a0 c3 (fun t4' t45'=>K .normal (z9h t4' a1 c2 t45' g4 g5 g6 g7 a8 a9 a10 a11 c12 a13 a14)) (fun _=>K .ret (zf4 a1 c2 g4 g5 g6 g7 a8 a9 a10 a11 c12 a13 a14)) (fun c0_ c1_ c2_=>K (.exit 0) (zes a1 c2 g4 g5 g6 g7 a8 a9 a10 a11 c12 a13 a14 c0_ c1_ c2_)):=by kernel_rfl
theorem y0p:∀ (n t4:Nat) (t45:Int),iter 51 6 4 (ev9 Γ12 51 6 4 fi51) n (z9h t4 a0 c1 t45 g2 g3 g4 g5 a6 a7 a8 a9 c10 a11 a12) (fun e st=>some (e,st))=(zgl a0 c1 g2 g3 g4 g5 a6 a7 a8 a9 c10 a11 a12) (z0p a0 c1 g5 a12 n t4 t45):=by
 intro n
 induction n with
 | zero=>intros;rfl
 | succ n ih=>
  intro t4 t45
  refine Eq.trans (iter_succ ..) (Eq.trans (zz9 ..) (Eq.trans ?_ (zt6 a0 c1 g5 a12 t4 t45 (zgl a0 c1 g2 g3 g4 g5 a6 a7 a8 a9 c10 a11 a12) rfl (fun t4' t45'=>z0p a0 c1 g5 a12 n t4' t45') (fun _=>some (Sum.inl ())) (fun c0_ c1_ c2_=>some (Sum.inr (c0_,c1_,c2_))))))
  exact congrArg (fun kn_=>z2d a0 c1 g5 a12 t4 t45 kn_ _ _) (funext fun t4'=>funext fun t45'=>ih ..)
theorem zvi:LoopOne J fnTab 51 6 znk:=lpK zx6 zym (fi:=fi51) (by kernel_rfl) (by kernel_rfl) (q:=fun hs=>(z9h (hN hs 0) (hN hs 1) (hI hs 2) (hI hs 3) (hLn hs 4) (hLn hs 5) (hLn hs 6) (hLn hs 7) (hN hs 8) (hN hs 9) (hN hs 10) (hN hs 11) (hI hs 12) (hN hs 13) (hN hs 14))) (fun hs=>by kernel_rfl) fun hs h1=>Eq.trans (y0p (hN hs 1) (hI hs 2) (hLn hs 4) (hLn hs 5) (hLn hs 6) (hLn hs 7) (hN hs 8) (hN hs 9) (hN hs 10) (hN hs 11) (hI hs 12) (hN hs 13) (hN hs 14) big (hN hs 0) (hI hs 3)) (zzk (hN hs 1) (hI hs 2) (hLn hs 4) (hLn hs 5) (hLn hs 6) (hLn hs 7) (hN hs 8) (hN hs 9) (hN hs 10) (hN hs 11) (hI hs 12) (hN hs 13) (hN hs 14) _ h1)
def tb13:List (Nat×(List PT→Option (Bool×AV×List Blk))):=(105,zh8)::(150,zm2)::tb12
def lt13:List ((Nat×Nat)×(Nat→St→Option (Bool×LO))):=((51,6),znk)::lt12
def Γ13:Ctx:=⟨tyTab,fnTab,tblSum tb13,tblLp lt13⟩
theorem zxg:SumL J tb13:=SumL.cons zx0 (SumL.cons y2j (zx6))
theorem zxd:LpL J fnTab lt13:=LpL.cons zvi (zym)
def zk9  : Option (Bool)→Option (AV×List Blk)
 | some r=>some ((.v (.one (.bool r))),[])
 | none=>none
def zjx:List PT→Option (Bool×AV×List Blk)
 | [.agg [.row 1 q00 (.fl .f32 q03),.row 1 q01 (.fl .f32 q04),.row 1 q02 (.fl .f32 q05),.row 3 q07 (.fl .f32 q0a),.s (.int .i64 q0e),.s (.flt .f32 q0h),.s (.flt .f32 q0g)]]=>sF zk9 (z5p q00 q03 q01 q04 q02 q05 q07 q0a q0e q0h q0g)
 | _=>none
theorem y52:ev8 Γ13 51 [.agg [.row 1 a0 (.fl .f32 g1),.row 1 a2 (.fl .f32 g3),.row 1 a4 (.fl .f32 g5),.row 3 a6 (.fl .f32 g7),.s (.int .i64 c8),.s (.flt .f32 a9),.s (.flt .f32 a10)]]=zk9 (z5p a0 g1 a2 g3 a4 g5 a6 g7 c8 a9 a10):=tr2 (zxu a0 g1 a2 g3 a4 g5 a6 g7 c8 a9 a10 zk9 rfl (fun c0_=>some c0_)) (by kernel_rfl)
theorem zzv:SumOne J 51 zjx:=mkT zxg zxd fun pts v news hp=>by
 unfold zjx at hp
 split at hp
 ·exact fin3 (y52 ..) hp
 ·cases hp
def zp9  : Option (Nat×Nat×Nat×Nat)→Option (AV×List Blk)
 | some r=>some ((.tup [(.one (.flt .f32 r.1)),(.one (.flt .f32 r.2.1)),(.one (.flt .f32 r.2.2.1)),(.one (.flt .f32 r.2.2.2))]),[])
 | none=>none
def zpb:List PT→Option (Bool×AV×List Blk)
 | [.ptr [.row 1 q06 (.fl .f32 q0b),.row 1 q08 (.fl .f32 q0c),.row 1 q09 (.fl .f32 q0d),.row 3 q0f (.fl .f32 q0i),.s (.int .i64 q0k),.s (.flt .f32 q0o),.s (.flt .f32 q0n)],.one (.s (.int .i64 i)),.one (.s (.flt .f32 q1g)),.one (.s (.flt .f32 q0m))]=>sF zp9 (z4g q06 q0b q08 q0c q09 q0d q0f q0i q0k q0o q0n i q1g q0m)
 | _=>none
theorem y98:ev8 Γ13 130 [.ptr [.row 1 a0 (.fl .f32 g1),.row 1 a2 (.fl .f32 g3),.row 1 a4 (.fl .f32 g5),.row 3 a6 (.fl .f32 g7),.s (.int .i64 c8),.s (.flt .f32 a9),.s (.flt .f32 a10)],.one (.s (.int .i64 c11)),.one (.s (.flt .f32 a12)),.one (.s (.flt .f32 a13))]=zp9 (z4g a0 g1 a2 g3 a4 g5 a6 g7 c8 a9 a10 c11 a12 a13):=tr2 (y35 a0 g1 a2 g3 a4 g5 a6 g7 c8 a9 a10 c11 a12 a13 zp9 rfl (fun c0_ c1_ c2_ c3_=>some (c0_,c1_,c2_,c3_))) (by kernel_rfl)
theorem y4g:SumOne J 130 zpb:=mkT zxg zxd fun pts v news hp=>by
 unfold zpb at hp
 split at hp
 ·exact fin3 (y98 ..) hp
 ·cases hp
def zfx  : Option (Nat)→Option (AV×List Blk)
 | some r=>some ((.v (.one (.flt .f32 r))),[])
 | none=>none
def zgd:List PT→Option (Bool×AV×List Blk)
 | [.agg [.row 1 q06 (.fl .f32 q0b),.row 1 q08 (.fl .f32 q0c),.row 1 q09 (.fl .f32 q0d),.row 3 q0f (.fl .f32 q0i),.s (.int .i64 q0k),.s (.flt .f32 q0o),.s (.flt .f32 q0n)],.one (.s (.int .i64 i)),.one (.s (.flt .f32 q1g)),.one (.s (.flt .f32 q15)),.one (.s (.flt .f32 q0v)),.one (.s (.flt .f32 q0m))]=>sF zfx (z39 q06 q0b q08 q0c q09 q0d q0f q0i q0k q0o q0n i q1g q15 q0v q0m)
 | _=>none
theorem zz7:ev8 Γ13 157 [.agg [.row 1 a0 (.fl .f32 g1),.row 1 a2 (.fl .f32 g3),.row 1 a4 (.fl .f32 g5),.row 3 a6 (.fl .f32 g7),.s (.int .i64 c8),.s (.flt .f32 a9),.s (.flt .f32 a10)],.one (.s (.int .i64 c11)),.one (.s (.flt .f32 a12)),.one (.s (.flt .f32 a13)),.one (.s (.flt .f32 a14)),.one (.s (.flt .f32 a15))]=zfx (z39 a0 g1 a2 g3 a4 g5 a6 g7 c8 a9 a10 c11 a12 a13 a14 a15):=tr2 (zt5 a0 g1 a2 g3 a4 g5 a6 g7 c8 a9 a10 c11 a12 a13 a14 a15 zfx rfl (fun c0_=>some c0_)) (by kernel_rfl)
theorem zvj:SumOne J 157 zgd:=mkT zxg zxd fun pts v news hp=>by
 unfold zgd at hp
 split at hp
 ·exact fin3 (zz7 ..) hp
 ·cases hp
def tb14:List (Nat×(List PT→Option (Bool×AV×List Blk))):=(51,zjx)::(130,zpb)::(157,zgd)::tb13
def lt14:List ((Nat×Nat)×(Nat→St→Option (Bool×LO))):=lt13
def Γ14:Ctx:=⟨tyTab,fnTab,tblSum tb14,tblLp lt14⟩
theorem y48:SumL J tb14:=SumL.cons zzv (SumL.cons y4g (SumL.cons zvj (zxg)))
theorem y49:LpL J fnTab lt14:=zxd
def zpu  : Option (Bool)→Option (AV×List Blk)
 | some r=>some ((.v (.one (.bool r))),[])
 | none=>none
def zph:List PT→Option (Bool×AV×List Blk)
 | [.agg [.row 1 q06 (.fl .f32 q0b),.row 1 q08 (.fl .f32 q0c),.row 1 q09 (.fl .f32 q0d),.row 3 q0f (.fl .f32 q0i),.s (.int .i64 q0k),.s (.flt .f32 q0o),.s (.flt .f32 q0n)],.one (.s (.int .i64 i)),.one (.s (.flt .f32 q15)),.one (.s (.flt .f32 q0v)),.one (.s (.flt .f32 q0m))]=>sF zpu (z8f q06 q0b q08 q0c q09 q0d q0f q0i q0k q0o q0n i q15 q0v q0m)
 | _=>none
theorem y8i:ev8 Γ14 139 [.agg [.row 1 a0 (.fl .f32 g1),.row 1 a2 (.fl .f32 g3),.row 1 a4 (.fl .f32 g5),.row 3 a6 (.fl .f32 g7),.s (.int .i64 c8),.s (.flt .f32 a9),.s (.flt .f32 a10)],.one (.s (.int .i64 c11)),.one (.s (.flt .f32 a12)),.one (.s (.flt .f32 a13)),.one (.s (.flt .f32 a14))]=zpu (z8f a0 g1 a2 g3 a4 g5 a6 g7 c8 a9 a10 c11 a12 a13 a14):=tr2 (y3j a0 g1 a2 g3 a4 g5 a6 g7 c8 a9 a10 c11 a12 a13 a14 zpu rfl (fun c0_=>some c0_)) (by kernel_rfl)
theorem y4x:SumOne J 139 zph:=mkT y48 y49 fun pts v news hp=>by
 unfold zph at hp
 split at hp
 ·exact fin3 (y8i ..) hp
 ·cases hp
def zjs  : Option (Nat)→Option (AV×List Blk)
 | some r=>some ((.v (.one (.flt .f32 r))),[])
 | none=>none
def zka:List PT→Option (Bool×AV×List Blk)
 | [.ptr [.row 1 q06 (.fl .f32 q0b),.row 1 q08 (.fl .f32 q0c),.row 1 q09 (.fl .f32 q0d),.row 3 q0f (.fl .f32 q0i),.s (.int .i64 q0k),.s (.flt .f32 q0o),.s (.flt .f32 q0n)],.one (.s (.int .i64 i)),.one (.s (.flt .f32 q1g)),.one (.s (.flt .f32 q15)),.one (.s (.flt .f32 q0v)),.one (.s (.flt .f32 q0m))]=>sF zjs (z3n q06 q0b q08 q0c q09 q0d q0f q0i q0k q0o q0n i q1g q15 q0v q0m)
 | _=>none
theorem y5l:ev8 Γ14 149 [.ptr [.row 1 a0 (.fl .f32 g1),.row 1 a2 (.fl .f32 g3),.row 1 a4 (.fl .f32 g5),.row 3 a6 (.fl .f32 g7),.s (.int .i64 c8),.s (.flt .f32 a9),.s (.flt .f32 a10)],.one (.s (.int .i64 c11)),.one (.s (.flt .f32 a12)),.one (.s (.flt .f32 a13)),.one (.s (.flt .f32 a14)),.one (.s (.flt .f32 a15))]=zjs (z3n a0 g1 a2 g3 a4 g5 a6 g7 c8 a9 a10 c11 a12 a13 a14 a15):=tr2 (zxa a0 g1 a2 g3 a4 g5 a6 g7 c8 a9 a10 c11 a12 a13 a14 a15 zjs rfl (fun c0_=>some c0_)) (by kernel_rfl)
theorem y05:SumOne J 149 zka:=mkT y48 y49 fun pts v news hp=>by
 unfold zka at hp
 split at hp
 ·exact fin3 (y5l ..) hp
 ·cases hp
def tb15:List (Nat×(List PT→Option (Bool×AV×List Blk))):=(139,zph)::(149,zka)::tb14
def lt15:List ((Nat×Nat)×(Nat→St→Option (Bool×LO))):=lt14
def Γ15:Ctx:=⟨tyTab,fnTab,tblSum tb15,tblLp lt15⟩
theorem ya5:SumL J tb15:=SumL.cons y4x (SumL.cons y05 (y48))
theorem y9l:LpL J fnTab lt15:=y49
def zkw  : Option (Nat×Bool)→Option (AV×List Blk)
 | some r=>some ((.tup [(.one (.flt .f32 r.1)),(.one (.bool r.2))]),[])
 | none=>none
def zll:List PT→Option (Bool×AV×List Blk)
 | [.agg [.row 1 q06 (.fl .f32 q0b),.row 1 q08 (.fl .f32 q0c),.row 1 q09 (.fl .f32 q0d),.row 3 q0f (.fl .f32 q0i),.s (.int .i64 q0k),.s (.flt .f32 q0o),.s (.flt .f32 q0n)],.one (.s (.int .i64 i)),.one (.s (.flt .f32 q1g)),.one (.s (.flt .f32 q15)),.one (.s (.flt .f32 q0v)),.one (.s (.flt .f32 q0m))]=>sF zkw (z4v q06 q0b q08 q0c q09 q0d q0f q0i q0k q0o q0n i q1g q15 q0v q0m)
 | _=>none
theorem y6w:ev8 Γ15 140 [.agg [.row 1 a0 (.fl .f32 g1),.row 1 a2 (.fl .f32 g3),.row 1 a4 (.fl .f32 g5),.row 3 a6 (.fl .f32 g7),.s (.int .i64 c8),.s (.flt .f32 a9),.s (.flt .f32 a10)],.one (.s (.int .i64 c11)),.one (.s (.flt .f32 a12)),.one (.s (.flt .f32 a13)),.one (.s (.flt .f32 a14)),.one (.s (.flt .f32 a15))]=zkw (z4v a0 g1 a2 g3 a4 g5 a6 g7 c8 a9 a10 c11 a12 a13 a14 a15):=tr2 (y03 a0 g1 a2 g3 a4 g5 a6 g7 c8 a9 a10 c11 a12 a13 a14 a15 zkw rfl (fun c0_ c1_=>some (c0_,c1_))) (by kernel_rfl)
theorem y27:SumOne J 140 zll:=mkT ya5 y9l fun pts v news hp=>by
 unfold zll at hp
 split at hp
 ·exact fin3 (y6w ..) hp
 ·cases hp
def tb16:List (Nat×(List PT→Option (Bool×AV×List Blk))):=(140,zll)::tb15
def lt16:List ((Nat×Nat)×(Nat→St→Option (Bool×LO))):=lt15
def Γ16:Ctx:=⟨tyTab,fnTab,tblSum tb16,tblLp lt16⟩
theorem y9e:SumL J tb16:=SumL.cons y27 (ya5)
theorem y9o:LpL J fnTab lt16:=y9l
def zax:St:=(.mk [(x0P 0 4 7),(x0I 1 c0),(x0F 2 a1),(x0F 3 a2),(x0F 4 a3),(x0F 12 a4),(x0F 13 a5),(x0I 14 c6)] [(x0L g7),(x0L g8),(x0L g9),(x0L g10),(x0R false 0 1 2 3 a11 a12 a13 a14 c15 a16 a17)])
def zft(i:Int)(q15 q0v q0m:Nat)(b0 b1 b2 b3:List Nat)(q0r q0s q0q q0p:Nat)(q0y:Int)(q0z q0u:Nat):St:=(.mk [(x0F 10 0),(x0B 11 false)] [(x0L b0),(x0L b1),(x0L b2),(x0L b3),(x0R false 0 1 2 3 q0r q0s q0q q0p q0y q0z q0u)])
def zfj:St:=(.mk [(x0P 0 4 7),(x0I 1 c0),(x0F 2 a1),(x0F 3 a2),(x0F 4 a3),(x0F 12 a15),(x0F 13 a16),(x0I 14 c17),(x0B 18 e18)] [(x0L g4),(x0L g5),(x0L g6),(x0L g7),(x0R false 0 1 2 3 a8 a9 a10 a11 c12 a13 a14)])
def zhg:Option ((Unit)⊕(Nat×Nat×Int×Bool))→Option (Ex×St)
 | none=>none
 | some (Sum.inl r)=>some (.ret,(zft c0 a1 a2 a3 g4 g5 g6 g7 a8 a9 a10 a11 c12 a13 a14))
 | some (Sum.inr r)=>some ((.exit 0),(zfj c0 a1 a2 a3 g4 g5 g6 g7 a8 a9 a10 a11 c12 a13 a14 r.1 r.2.1 r.2.2.1 r.2.2.2))
def zn3 (x:Option ((Unit)⊕(Nat×Nat×Int×Bool))):LO:=(.two (oL x) (.one .ret (zft c0 a1 a2 a3 g4 g5 g6 g7 a8 a9 a10 a11 c12 a13 a14)) (.one (.exit 0) (zfj c0 a1 a2 a3 g4 g5 g6 g7 a8 a9 a10 a11 c12 a13 a14 ((tR x).getD default).1 ((tR x).getD default).2.1 ((tR x).getD default).2.2.1 ((tR x).getD default).2.2.2)))
def zxk:Bool×LO:=sL (zn3 c0 a1 a2 a3 g7 g8 g9 g10 a11 a12 a13 a14 c15 a16 a17) (z0t c0 a1 a2 a3 g7 g8 g9 g10 a11 a12 a13 a14 c15 a16 a17 big a4 a5 c6)
def zp5:Nat→St→Option (Bool×LO):=lpT 5 (pSt [(x1P 0 4 7),(x1I 1),(x1F 2),(x1F 3),(x1F 4),(x1F 12),(x1F 13),(x1I 14)] [x1L,x1L,x1L,x1L,(x1R false 0 1 2 3)]) (fun hs=>zxk (hI hs 0) (hN hs 1) (hN hs 2) (hN hs 3) (hN hs 4) (hN hs 5) (hI hs 6) (hLn hs 7) (hLn hs 8) (hLn hs 9) (hLn hs 10) (hN hs 11) (hN hs 12) (hN hs 13) (hN hs 14) (hI hs 15) (hN hs 16) (hN hs 17))
theorem y1u:∀ x:Option ((Unit)⊕(Nat×Nat×Int×Bool)),x.isSome=true→(zhg c0 a1 a2 a3 g4 g5 g6 g7 a8 a9 a10 a11 c12 a13 a14) x=some (pick (zn3 c0 a1 a2 a3 g4 g5 g6 g7 a8 a9 a10 a11 c12 a13 a14 x))
 | none,h=>by cases h
 | some (Sum.inl r),_=>rfl
 | some (Sum.inr r),_=>rfl
theorem y19 (K:Ex→St→Option (Ex×St)):ev9 Γ16 129 4 5 fi129 (zax c0 a1 a2 a3 a4 a5 c6 g7 g8 g9 g10 a11 a12 a13 a14 c15 a16 a17) K=z2p c0 a1 a2 a3 g7 g8 g9 g10 a11 a12 a13 a14 c15 a16 a17 a4 a5 c6 (fun low' q1p' k'=>K .normal (zax c0 a1 a2 a3 low' q1p' k' g7 g8 g9 g10 a11 a12 a13 a14 c15 a16 a17)) (fun _=>K .ret (zft c0 a1 a2 a3 g7 g8 g9 g10 a11 a12 a13 a14 c15 a16 a17)) (fun c0_ c1_ c2_ c3_=>K (.exit 0) (zfj c0 a1 a2 a3 g7 g8 g9 g10 a11 a12 a13 a14 c15 a16 a17 c0_ c1_ c2_ c3_)):=by kernel_rfl
theorem y1k:∀ (n low q1p:Nat) (k:Int),iter 129 4 5 (ev9 Γ16 129 4 5 fi129) n (zax c0 a1 a2 a3 low q1p k g4 g5 g6 g7 a8 a9 a10 a11 c12 a13 a14) (fun e st=>some (e,st))=(zhg c0 a1 a2 a3 g4 g5 g6 g7 a8 a9 a10 a11 c12 a13 a14) (z0t c0 a1 a2 a3 g4 g5 g6 g7 a8 a9 a10 a11 c12 a13 a14 n low q1p k):=by
 intro n
 induction n with
 | zero=>intros;rfl
 | succ n ih=>
  intro low q1p k
  refine Eq.trans (iter_succ ..) (Eq.trans (y19 ..) (Eq.trans ?_ (zvg c0 a1 a2 a3 g4 g5 g6 g7 a8 a9 a10 a11 c12 a13 a14 low q1p k (zhg c0 a1 a2 a3 g4 g5 g6 g7 a8 a9 a10 a11 c12 a13 a14) rfl (fun low' q1p' k'=>z0t c0 a1 a2 a3 g4 g5 g6 g7 a8 a9 a10 a11 c12 a13 a14 n low' q1p' k') (fun _=>some (Sum.inl ())) (fun c0_ c1_ c2_ c3_=>some (Sum.inr (c0_,c1_,c2_,c3_))))))
  exact congrArg (fun kn_=>z2p c0 a1 a2 a3 g4 g5 g6 g7 a8 a9 a10 a11 c12 a13 a14 low q1p k kn_ _ _) (funext fun low'=>funext fun q1p'=>funext fun k'=>ih ..)
theorem zw7:LoopOne J fnTab 129 4 zp5:=lpK y9e y9o (fi:=fi129) (by kernel_rfl) (by kernel_rfl) (q:=fun hs=>(zax (hI hs 0) (hN hs 1) (hN hs 2) (hN hs 3) (hN hs 4) (hN hs 5) (hI hs 6) (hLn hs 7) (hLn hs 8) (hLn hs 9) (hLn hs 10) (hN hs 11) (hN hs 12) (hN hs 13) (hN hs 14) (hI hs 15) (hN hs 16) (hN hs 17))) (fun hs=>by kernel_rfl) fun hs h1=>Eq.trans (y1k (hI hs 0) (hN hs 1) (hN hs 2) (hN hs 3) (hLn hs 7) (hLn hs 8) (hLn hs 9) (hLn hs 10) (hN hs 11) (hN hs 12) (hN hs 13) (hN hs 14) (hI hs 15) (hN hs 16) (hN hs 17) big (hN hs 4) (hN hs 5) (hI hs 6)) (y1u (hI hs 0) (hN hs 1) (hN hs 2) (hN hs 3) (hLn hs 7) (hLn hs 8) (hLn hs 9) (hLn hs 10) (hN hs 11) (hN hs 12) (hN hs 13) (hN hs 14) (hI hs 15) (hN hs 16) (hN hs 17) _ h1)
def tb17:List (Nat×(List PT→Option (Bool×AV×List Blk))):=tb16
def lt17:List ((Nat×Nat)×(Nat→St→Option (Bool×LO))):=((129,4),zp5)::lt16
def Γ17:Ctx:=⟨tyTab,fnTab,tblSum tb17,tblLp lt17⟩
theorem y44:SumL J tb17:=y9e
theorem y45:LpL J fnTab lt17:=LpL.cons zw7 (y9o)
def zl4  : Option (Nat×Bool)→Option (AV×List Blk)
 | some r=>some ((.tup [(.one (.flt .f32 r.1)),(.one (.bool r.2))]),[])
 | none=>none
def zm4:List PT→Option (Bool×AV×List Blk)
 | [.ptr [.row 1 q06 (.fl .f32 q0b),.row 1 q08 (.fl .f32 q0c),.row 1 q09 (.fl .f32 q0d),.row 3 q0f (.fl .f32 q0i),.s (.int .i64 q0k),.s (.flt .f32 q0o),.s (.flt .f32 q0n)],.one (.s (.int .i64 i)),.one (.s (.flt .f32 q15)),.one (.s (.flt .f32 q0v)),.one (.s (.flt .f32 q0m))]=>sF zl4 (z4w q06 q0b q08 q0c q09 q0d q0f q0i q0k q0o q0n i q15 q0v q0m)
 | _=>none
theorem y6b:ev8 Γ17 129 [.ptr [.row 1 a0 (.fl .f32 g1),.row 1 a2 (.fl .f32 g3),.row 1 a4 (.fl .f32 g5),.row 3 a6 (.fl .f32 g7),.s (.int .i64 c8),.s (.flt .f32 a9),.s (.flt .f32 a10)],.one (.s (.int .i64 c11)),.one (.s (.flt .f32 a12)),.one (.s (.flt .f32 a13)),.one (.s (.flt .f32 a14))]=zl4 (z4w a0 g1 a2 g3 a4 g5 a6 g7 c8 a9 a10 c11 a12 a13 a14):=tr2 (y0e a0 g1 a2 g3 a4 g5 a6 g7 c8 a9 a10 c11 a12 a13 a14 zl4 rfl (fun c0_ c1_=>some (c0_,c1_))) (by kernel_rfl)
theorem y1y:SumOne J 129 zm4:=mkT y44 y45 fun pts v news hp=>by
 unfold zm4 at hp
 split at hp
 ·exact fin3 (y6b ..) hp
 ·cases hp
def zgk:St:=(.mk [(x0I 1 c0),(x0F 2 a1),(x0F 3 a2),(x0F 4 a3),(x0P 5 4 7),(x0F 12 a4),(x0F 13 a5),(x0I 24 c6)] [(x0L g7),(x0L g8),(x0L g9),(x0L g10),(x0R true 0 1 2 3 a11 a12 a13 a14 c15 a16 a17)])
def zjr(i:Int)(q15 q0v q0m:Nat)(b0 b1 b2 b3:List Nat)(q0r q0s q0q q0p:Nat)(q0y:Int)(q0z q0u:Nat):St:=(.mk [(x0F 10 0),(x0B 11 false)] [(x0L b0),(x0L b1),(x0L b2),(x0L b3)])
def zjy:St:=(.mk [(x0I 1 c0),(x0F 2 a1),(x0F 3 a2),(x0F 4 a3),(x0P 5 4 7),(x0F 12 a15),(x0F 13 a16),(x0I 24 c17),(x0B 25 e18)] [(x0L g4),(x0L g5),(x0L g6),(x0L g7),(x0R true 0 1 2 3 a8 a9 a10 a11 c12 a13 a14)])
def zle:Option ((Unit)⊕(Nat×Nat×Int×Bool))→Option (Ex×St)
 | none=>none
 | some (Sum.inl r)=>some (.ret,(zjr c0 a1 a2 a3 g4 g5 g6 g7 a8 a9 a10 a11 c12 a13 a14))
 | some (Sum.inr r)=>some ((.exit 0),(zjy c0 a1 a2 a3 g4 g5 g6 g7 a8 a9 a10 a11 c12 a13 a14 r.1 r.2.1 r.2.2.1 r.2.2.2))
def zsd (x:Option ((Unit)⊕(Nat×Nat×Int×Bool))):LO:=(.two (oL x) (.one .ret (zjr c0 a1 a2 a3 g4 g5 g6 g7 a8 a9 a10 a11 c12 a13 a14)) (.one (.exit 0) (zjy c0 a1 a2 a3 g4 g5 g6 g7 a8 a9 a10 a11 c12 a13 a14 ((tR x).getD default).1 ((tR x).getD default).2.1 ((tR x).getD default).2.2.1 ((tR x).getD default).2.2.2)))
def y41:Bool×LO:=sL (zsd c0 a1 a2 a3 g7 g8 g9 g10 a11 a12 a13 a14 c15 a16 a17) (z12 c0 a1 a2 a3 g7 g8 g9 g10 a11 a12 a13 a14 c15 a16 a17 big a4 a5 c6)
def zu5:Nat→St→Option (Bool×LO):=lpT 4 (pSt [(x1I 1),(x1F 2),(x1F 3),(x1F 4),(x1P 5 4 7),(x1F 12),(x1F 13),(x1I 24)] [x1L,x1L,x1L,x1L,(x1R true 0 1 2 3)]) (fun hs=>y41 (hI hs 0) (hN hs 1) (hN hs 2) (hN hs 3) (hN hs 4) (hN hs 5) (hI hs 6) (hLn hs 7) (hLn hs 8) (hLn hs 9) (hLn hs 10) (hN hs 11) (hN hs 12) (hN hs 13) (hN hs 14) (hI hs 15) (hN hs 16) (hN hs 17))
theorem y6j:∀ x:Option ((Unit)⊕(Nat×Nat×Int×Bool)),x.isSome=true→(zle c0 a1 a2 a3 g4 g5 g6 g7 a8 a9 a10 a11 c12 a13 a14) x=some (pick (zsd c0 a1 a2 a3 g4 g5 g6 g7 a8 a9 a10 a11 c12 a13 a14 x))
 | none,h=>by cases h
 | some (Sum.inl r),_=>rfl
 | some (Sum.inr r),_=>rfl
theorem y6s (K:Ex→St→Option (Ex×St)):ev9 Γ17 104 5 4 fi104 (zgk c0 a1 a2 a3 a4 a5 c6 g7 g8 g9 g10 a11 a12 a13 a14 c15 a16 a17) K=z49 c0 a1 a2 a3 g7 g8 g9 g10 a11 a12 a13 a14 c15 a16 a17 a4 a5 c6 (fun low' q1p' t24'=>K .normal (zgk c0 a1 a2 a3 low' q1p' t24' g7 g8 g9 g10 a11 a12 a13 a14 c15 a16 a17)) (fun _=>K .ret (zjr c0 a1 a2 a3 g7 g8 g9 g10 a11 a12 a13 a14 c15 a16 a17)) (fun c0_ c1_ c2_ c3_=>K (.exit 0) (zjy c0 a1 a2 a3 g7 g8 g9 g10 a11 a12 a13 a14 c15 a16 a17 c0_ c1_ c2_ c3_)):=by kernel_rfl
theorem y6i:∀ (n low q1p:Nat) (t24:Int),iter 104 5 4 (ev9 Γ17 104 5 4 fi104) n (zgk c0 a1 a2 a3 low q1p t24 g4 g5 g6 g7 a8 a9 a10 a11 c12 a13 a14) (fun e st=>some (e,st))=(zle c0 a1 a2 a3 g4 g5 g6 g7 a8 a9 a10 a11 c12 a13 a14) (z12 c0 a1 a2 a3 g4 g5 g6 g7 a8 a9 a10 a11 c12 a13 a14 n low q1p t24):=by
 intro n
 induction n with
 | zero=>intros;rfl
 | succ n ih=>
  intro low q1p t24
  refine Eq.trans (iter_succ ..) (Eq.trans (y6s ..) (Eq.trans ?_ (zzs c0 a1 a2 a3 g4 g5 g6 g7 a8 a9 a10 a11 c12 a13 a14 low q1p t24 (zle c0 a1 a2 a3 g4 g5 g6 g7 a8 a9 a10 a11 c12 a13 a14) rfl (fun low' q1p' t24'=>z12 c0 a1 a2 a3 g4 g5 g6 g7 a8 a9 a10 a11 c12 a13 a14 n low' q1p' t24') (fun _=>some (Sum.inl ())) (fun c0_ c1_ c2_ c3_=>some (Sum.inr (c0_,c1_,c2_,c3_))))))
  exact congrArg (fun kn_=>z49 c0 a1 a2 a3 g4 g5 g6 g7 a8 a9 a10 a11 c12 a13 a14 low q1p t24 kn_ _ _) (funext fun low'=>funext fun q1p'=>funext fun t24'=>ih ..)
theorem y1z:LoopOne J fnTab 104 5 zu5:=lpK y44 y45 (fi:=fi104) (by kernel_rfl) (by kernel_rfl) (q:=fun hs=>(zgk (hI hs 0) (hN hs 1) (hN hs 2) (hN hs 3) (hN hs 4) (hN hs 5) (hI hs 6) (hLn hs 7) (hLn hs 8) (hLn hs 9) (hLn hs 10) (hN hs 11) (hN hs 12) (hN hs 13) (hN hs 14) (hI hs 15) (hN hs 16) (hN hs 17))) (fun hs=>by kernel_rfl) fun hs h1=>Eq.trans (y6i (hI hs 0) (hN hs 1) (hN hs 2) (hN hs 3) (hLn hs 7) (hLn hs 8) (hLn hs 9) (hLn hs 10) (hN hs 11) (hN hs 12) (hN hs 13) (hN hs 14) (hI hs 15) (hN hs 16) (hN hs 17) big (hN hs 4) (hN hs 5) (hI hs 6)) (y6j (hI hs 0) (hN hs 1) (hN hs 2) (hN hs 3) (hLn hs 7) (hLn hs 8) (hLn hs 9) (hLn hs 10) (hN hs 11) (hN hs 12) (hN hs 13) (hN hs 14) (hI hs 15) (hN hs 16) (hN hs 17) _ h1)
def tb18:List (Nat×(List PT→Option (Bool×AV×List Blk))):=(129,zm4)::tb17
def lt18:List ((Nat×Nat)×(Nat→St→Option (Bool×LO))):=((104,5),zu5)::lt17
def Γ18:Ctx:=⟨tyTab,fnTab,tblSum tb18,tblLp lt18⟩
theorem y46:SumL J tb18:=SumL.cons y1y (y44)
theorem y4a:LpL J fnTab lt18:=LpL.cons y1z (y45)
def zm8  : Option (Nat×Nat×Bool)→Option (AV×List Blk)
 | some r=>some ((.tup [(.one (.flt .f32 r.1)),(.one (.flt .f32 r.2.1)),(.one (.bool r.2.2))]),[])
 | none=>none
def zln:List PT→Option (Bool×AV×List Blk)
 | [.ptr [.row 1 q00 (.fl .f32 q03),.row 1 q01 (.fl .f32 q04),.row 1 q02 (.fl .f32 q05),.row 3 q07 (.fl .f32 q0a),.s (.int .i64 q0e),.s (.flt .f32 q0h),.s (.flt .f32 q0g)],.one (.s (.int .i64 x1)),.one (.s (.flt .f32 x2)),.one (.s (.flt .f32 x3)),.one (.s (.flt .f32 x4)),.one (.s (.flt .f32 x5))]=>sF zm8 (z26 q00 q03 q01 q04 q02 q05 q07 q0a q0e q0h q0g x1 x2 x3 x4 x5)
 | _=>none
theorem y6p:ev8 Γ18 88 [.ptr [.row 1 a0 (.fl .f32 g1),.row 1 a2 (.fl .f32 g3),.row 1 a4 (.fl .f32 g5),.row 3 a6 (.fl .f32 g7),.s (.int .i64 c8),.s (.flt .f32 a9),.s (.flt .f32 a10)],.one (.s (.int .i64 c11)),.one (.s (.flt .f32 a12)),.one (.s (.flt .f32 a13)),.one (.s (.flt .f32 a14)),.one (.s (.flt .f32 a15))]=zm8 (z26 a0 g1 a2 g3 a4 g5 a6 g7 c8 a9 a10 c11 a12 a13 a14 a15):=tr2 (zzo a0 g1 a2 g3 a4 g5 a6 g7 c8 a9 a10 c11 a12 a13 a14 a15 zm8 rfl (fun c0_ c1_ c2_=>some (c0_,c1_,c2_))) (by kernel_rfl)
theorem y18:SumOne J 88 zln:=mkT y46 y4a fun pts v news hp=>by
 unfold zln at hp
 split at hp
 ·exact fin3 (y6p ..) hp
 ·cases hp
def zro  : Option (Nat×Bool)→Option (AV×List Blk)
 | some r=>some ((.tup [(.one (.flt .f32 r.1)),(.one (.bool r.2))]),[])
 | none=>none
def zr0:List PT→Option (Bool×AV×List Blk)
 | [.agg [.row 1 q06 (.fl .f32 q0b),.row 1 q08 (.fl .f32 q0c),.row 1 q09 (.fl .f32 q0d),.row 3 q0f (.fl .f32 q0i),.s (.int .i64 q0k),.s (.flt .f32 q0o),.s (.flt .f32 q0n)],.one (.s (.int .i64 i)),.one (.s (.flt .f32 q15)),.one (.s (.flt .f32 q0v)),.one (.s (.flt .f32 q0m))]=>sF zro (z7r q06 q0b q08 q0c q09 q0d q0f q0i q0k q0o q0n i q15 q0v q0m)
 | _=>none
theorem yas:ev8 Γ18 104 [.agg [.row 1 a0 (.fl .f32 g1),.row 1 a2 (.fl .f32 g3),.row 1 a4 (.fl .f32 g5),.row 3 a6 (.fl .f32 g7),.s (.int .i64 c8),.s (.flt .f32 a9),.s (.flt .f32 a10)],.one (.s (.int .i64 c11)),.one (.s (.flt .f32 a12)),.one (.s (.flt .f32 a13)),.one (.s (.flt .f32 a14))]=zro (z7r a0 g1 a2 g3 a4 g5 a6 g7 c8 a9 a10 c11 a12 a13 a14):=tr2 (y5b a0 g1 a2 g3 a4 g5 a6 g7 c8 a9 a10 c11 a12 a13 a14 zro rfl (fun c0_ c1_=>some (c0_,c1_))) (by kernel_rfl)
theorem y66:SumOne J 104 zr0:=mkT y46 y4a fun pts v news hp=>by
 unfold zr0 at hp
 split at hp
 ·exact fin3 (yas ..) hp
 ·cases hp
def tb19:List (Nat×(List PT→Option (Bool×AV×List Blk))):=(88,zln)::(104,zr0)::tb18
def lt19:List ((Nat×Nat)×(Nat→St→Option (Bool×LO))):=lt18
def Γ19:Ctx:=⟨tyTab,fnTab,tblSum tb19,tblLp lt19⟩
theorem y9t:SumL J tb19:=SumL.cons y18 (SumL.cons y66 (y46))
theorem y9k:LpL J fnTab lt19:=y4a
def zgi  : Option (Nat×Nat×Bool)→Option (AV×List Blk)
 | some r=>some ((.tup [(.one (.flt .f32 r.1)),(.one (.flt .f32 r.2.1)),(.one (.bool r.2.2))]),[])
 | none=>none
def z9x:List PT→Option (Bool×AV×List Blk)
 | [.agg [.row 1 q00 (.fl .f32 q03),.row 1 q01 (.fl .f32 q04),.row 1 q02 (.fl .f32 q05),.row 3 q07 (.fl .f32 q0a),.s (.int .i64 q0e),.s (.flt .f32 q0h),.s (.flt .f32 q0g)],.one (.s (.int .i64 x1)),.one (.s (.flt .f32 x2)),.one (.s (.flt .f32 x3)),.one (.s (.flt .f32 x4)),.one (.s (.flt .f32 x5))]=>sF zgi (z1q q00 q03 q01 q04 q02 q05 q07 q0a q0e q0h q0g x1 x2 x3 x4 x5)
 | _=>none
theorem y0h:ev8 Γ19 56 [.agg [.row 1 a0 (.fl .f32 g1),.row 1 a2 (.fl .f32 g3),.row 1 a4 (.fl .f32 g5),.row 3 a6 (.fl .f32 g7),.s (.int .i64 c8),.s (.flt .f32 a9),.s (.flt .f32 a10)],.one (.s (.int .i64 c11)),.one (.s (.flt .f32 a12)),.one (.s (.flt .f32 a13)),.one (.s (.flt .f32 a14)),.one (.s (.flt .f32 a15))]=zgi (z1q a0 g1 a2 g3 a4 g5 a6 g7 c8 a9 a10 c11 a12 a13 a14 a15):=tr2 (zuh a0 g1 a2 g3 a4 g5 a6 g7 c8 a9 a10 c11 a12 a13 a14 a15 zgi rfl (fun c0_ c1_ c2_=>some (c0_,c1_,c2_))) (by kernel_rfl)
theorem zj8:SumOne J 56 z9x:=mkT y9t y9k fun pts v news hp=>by
 unfold z9x at hp
 split at hp
 ·exact fin3 (y0h ..) hp
 ·cases hp
def tb20:List (Nat×(List PT→Option (Bool×AV×List Blk))):=(56,z9x)::tb19
def lt20:List ((Nat×Nat)×(Nat→St→Option (Bool×LO))):=lt19
def Γ20:Ctx:=⟨tyTab,fnTab,tblSum tb20,tblLp lt20⟩
theorem zsz:SumL J tb20:=SumL.cons zj8 (y9t)
theorem y47:LpL J fnTab lt20:=y9k
def zg4:St:=(.mk [(x0P 0 4 7),(x0F 1 a0),(x0F 2 a1),(x0F 3 a2),(x0F 4 a3),(x0S 13 5 a4 1),(x0S 14 6 a5 1),(x0I 15 c6)] [(x0L g7),(x0L g8),(x0L g9),(x0L g10),(x0R false 0 1 2 3 a11 a12 a13 a14 c15 a16 a17),(x0T g18),(x0T g19)])
def zje(t1 t2 t3 t4:Nat)(b0 b1 b2 b3:List Nat)(q0r q0s q0q q0p:Nat)(q0y:Int)(q0z q0u:Nat):St:=(.mk [(10,(.v (.one .nilsl))),(11,(.v (.one .nilsl))),(x0B 12 false)] [(x0L b0),(x0L b1),(x0L b2),(x0L b3),(x0R false 0 1 2 3 q0r q0s q0q q0p q0y q0z q0u)])
def zju:St:=(.mk [(x0P 0 4 7),(x0F 1 a0),(x0F 2 a1),(x0F 3 a2),(x0F 4 a3),(x0S 13 5 a15 1),(x0S 14 6 a16 1),(x0I 15 c17),(x0B 35 e18)] [(x0L g4),(x0L g5),(x0L g6),(x0L g7),(x0R false 0 1 2 3 a8 a9 a10 a11 c12 a13 a14),(x0T g19),(x0T g20)])
def zlk:Option ((Unit)⊕(Nat×Nat×Int×Bool×(List Nat)×(List Nat)))→Option (Ex×St)
 | none=>none
 | some (Sum.inl r)=>some (.ret,(zje a0 a1 a2 a3 g4 g5 g6 g7 a8 a9 a10 a11 c12 a13 a14))
 | some (Sum.inr r)=>some ((.exit 0),(zju a0 a1 a2 a3 g4 g5 g6 g7 a8 a9 a10 a11 c12 a13 a14 r.1 r.2.1 r.2.2.1 r.2.2.2.1 r.2.2.2.2.1 r.2.2.2.2.2))
def zs0 (x:Option ((Unit)⊕(Nat×Nat×Int×Bool×(List Nat)×(List Nat)))):LO:=(.two (oL x) (.one .ret (zje a0 a1 a2 a3 g4 g5 g6 g7 a8 a9 a10 a11 c12 a13 a14)) (.one (.exit 0) (zju a0 a1 a2 a3 g4 g5 g6 g7 a8 a9 a10 a11 c12 a13 a14 ((tR x).getD default).1 ((tR x).getD default).2.1 ((tR x).getD default).2.2.1 ((tR x).getD default).2.2.2.1 ((tR x).getD default).2.2.2.2.1 ((tR x).getD default).2.2.2.2.2)))
def y3z:Bool×LO:=sL (zs0 a0 a1 a2 a3 g7 g8 g9 g10 a11 a12 a13 a14 c15 a16 a17) (z0l a0 a1 a2 a3 g7 g8 g9 g10 a11 a12 a13 a14 c15 a16 a17 big a4 a5 c6 g18 g19)
def zud:Nat→St→Option (Bool×LO):=lpT 5 (pSt [(x1P 0 4 7),(x1F 1),(x1F 2),(x1F 3),(x1F 4),(x1S 13 5 1),(x1S 14 6 1),(x1I 15)] [x1L,x1L,x1L,x1L,(x1R false 0 1 2 3),x1T,x1T]) (fun hs=>y3z (hN hs 0) (hN hs 1) (hN hs 2) (hN hs 3) (hN hs 4) (hN hs 5) (hI hs 6) (hLn hs 7) (hLn hs 8) (hLn hs 9) (hLn hs 10) (hN hs 11) (hN hs 12) (hN hs 13) (hN hs 14) (hI hs 15) (hN hs 16) (hN hs 17) (hLn hs 18) (hLn hs 19))
theorem y69:∀ x:Option ((Unit)⊕(Nat×Nat×Int×Bool×(List Nat)×(List Nat))),x.isSome=true→(zlk a0 a1 a2 a3 g4 g5 g6 g7 a8 a9 a10 a11 c12 a13 a14) x=some (pick (zs0 a0 a1 a2 a3 g4 g5 g6 g7 a8 a9 a10 a11 c12 a13 a14 x))
 | none,h=>by cases h
 | some (Sum.inl r),_=>rfl
 | some (Sum.inr r),_=>rfl
theorem y6l (K:Ex→St→Option (Ex×St)):ev9 Γ20 50 6 5 fi50 (zg4 a0 a1 a2 a3 a4 a5 c6 g7 g8 g9 g10 a11 a12 a13 a14 c15 a16 a17 g18 g19) K=z48 a0 a1 a2 a3 g7 g8 g9 g10 a11 a12 a13 a14 c15 a16 a17 a4 a5 c6 g18 g19 (fun q2w' q2x' t15' b5' b6'=>K .normal (zg4 a0 a1 a2 a3 q2w' q2x' t15' g7 g8 g9 g10 a11 a12 a13 a14 c15 a16 a17 b5' b6')) (fun _=>K .ret (zje a0 a1 a2 a3 g7 g8 g9 g10 a11 a12 a13 a14 c15 a16 a17)) (fun c0_ c1_ c2_ c3_ c4_ c5_=>K (.exit 0) (zju a0 a1 a2 a3 g7 g8 g9 g10 a11 a12 a13 a14 c15 a16 a17 c0_ c1_ c2_ c3_ c4_ c5_)):=by kernel_rfl
theorem y6f:∀ (n q2w q2x:Nat) (t15:Int) (b5 b6:List Nat),iter 50 6 5 (ev9 Γ20 50 6 5 fi50) n (zg4 a0 a1 a2 a3 q2w q2x t15 g4 g5 g6 g7 a8 a9 a10 a11 c12 a13 a14 b5 b6) (fun e st=>some (e,st))=(zlk a0 a1 a2 a3 g4 g5 g6 g7 a8 a9 a10 a11 c12 a13 a14) (z0l a0 a1 a2 a3 g4 g5 g6 g7 a8 a9 a10 a11 c12 a13 a14 n q2w q2x t15 b5 b6):=by
 intro n
 induction n with
 | zero=>intros;rfl
 | succ n ih=>
  intro q2w q2x t15 b5 b6
  refine Eq.trans (iter_succ ..) (Eq.trans (y6l ..) (Eq.trans ?_ (y0b a0 a1 a2 a3 g4 g5 g6 g7 a8 a9 a10 a11 c12 a13 a14 q2w q2x t15 b5 b6 (zlk a0 a1 a2 a3 g4 g5 g6 g7 a8 a9 a10 a11 c12 a13 a14) rfl (fun q2w' q2x' t15' b5' b6'=>z0l a0 a1 a2 a3 g4 g5 g6 g7 a8 a9 a10 a11 c12 a13 a14 n q2w' q2x' t15' b5' b6') (fun _=>some (Sum.inl ())) (fun c0_ c1_ c2_ c3_ c4_ c5_=>some (Sum.inr (c0_,c1_,c2_,c3_,c4_,c5_))))))
  exact congrArg (fun kn_=>z48 a0 a1 a2 a3 g4 g5 g6 g7 a8 a9 a10 a11 c12 a13 a14 q2w q2x t15 b5 b6 kn_ _ _) (funext fun q2w'=>funext fun q2x'=>funext fun t15'=>funext fun b5'=>funext fun b6'=>ih ..)
theorem y2d:LoopOne J fnTab 50 6 zud:=lpK zsz y47 (fi:=fi50) (by kernel_rfl) (by kernel_rfl) (q:=fun hs=>(zg4 (hN hs 0) (hN hs 1) (hN hs 2) (hN hs 3) (hN hs 4) (hN hs 5) (hI hs 6) (hLn hs 7) (hLn hs 8) (hLn hs 9) (hLn hs 10) (hN hs 11) (hN hs 12) (hN hs 13) (hN hs 14) (hI hs 15) (hN hs 16) (hN hs 17) (hLn hs 18) (hLn hs 19))) (fun hs=>by kernel_rfl) fun hs h1=>Eq.trans (y6f (hN hs 0) (hN hs 1) (hN hs 2) (hN hs 3) (hLn hs 7) (hLn hs 8) (hLn hs 9) (hLn hs 10) (hN hs 11) (hN hs 12) (hN hs 13) (hN hs 14) (hI hs 15) (hN hs 16) (hN hs 17) big (hN hs 4) (hN hs 5) (hI hs 6) (hLn hs 18) (hLn hs 19)) (y69 (hN hs 0) (hN hs 1) (hN hs 2) (hN hs 3) (hLn hs 7) (hLn hs 8) (hLn hs 9) (hLn hs 10) (hN hs 11) (hN hs 12) (hN hs 13) (hN hs 14) (hI hs 15) (hN hs 16) (hN hs 17) _ h1)
def tb21:List (Nat×(List PT→Option (Bool×AV×List Blk))):=tb20
def lt21:List ((Nat×Nat)×(Nat→St→Option (Bool×LO))):=((50,6),zud)::lt20
def Γ21:Ctx:=⟨tyTab,fnTab,tblSum tb21,tblLp lt21⟩
theorem y9m:SumL J tb21:=zsz
theorem y8n:LpL J fnTab lt21:=LpL.cons y2d (y47)
def zr1  : Option (Nat×Nat×Bool×(List Nat)×(List Nat))→Option (AV×List Blk)
 | some r=>some ((.tup [(.one (.sl 0 0 r.1 1)),(.one (.sl 1 0 r.2.1 1)),(.one (.bool r.2.2.1))]),[(.mk true (.fl .f32 r.2.2.2.1)),(.mk true (.fl .f32 r.2.2.2.2))])
 | none=>none
def zrn:List PT→Option (Bool×AV×List Blk)
 | [.ptr [.row 1 q00 (.fl .f32 q03),.row 1 q01 (.fl .f32 q04),.row 1 q02 (.fl .f32 q05),.row 3 q07 (.fl .f32 q0a),.s (.int .i64 q0e),.s (.flt .f32 q0h),.s (.flt .f32 q0g)],.one (.s (.flt .f32 x1)),.one (.s (.flt .f32 x2)),.one (.s (.flt .f32 x3)),.one (.s (.flt .f32 x4))]=>sF zr1 (z4e q00 q03 q01 q04 q02 q05 q07 q0a q0e q0h q0g x1 x2 x3 x4)
 | _=>none
theorem yae:ev8 Γ21 50 [.ptr [.row 1 a0 (.fl .f32 g1),.row 1 a2 (.fl .f32 g3),.row 1 a4 (.fl .f32 g5),.row 3 a6 (.fl .f32 g7),.s (.int .i64 c8),.s (.flt .f32 a9),.s (.flt .f32 a10)],.one (.s (.flt .f32 a11)),.one (.s (.flt .f32 a12)),.one (.s (.flt .f32 a13)),.one (.s (.flt .f32 a14))]=zr1 (z4e a0 g1 a2 g3 a4 g5 a6 g7 c8 a9 a10 a11 a12 a13 a14):=tr2 (y5v a0 g1 a2 g3 a4 g5 a6 g7 c8 a9 a10 a11 a12 a13 a14 zr1 rfl (fun c0_ c1_ c2_ c3_ c4_=>some (c0_,c1_,c2_,c3_,c4_))) (by kernel_rfl)
theorem y78:SumOne J 50 zrn:=mkT y9m y8n fun pts v news hp=>by
 unfold zrn at hp
 split at hp
 ·exact fin3 (yae ..) hp
 ·cases hp
def tb22:List (Nat×(List PT→Option (Bool×AV×List Blk))):=(50,zrn)::tb21
def lt22:List ((Nat×Nat)×(Nat→St→Option (Bool×LO))):=lt21
def Γ22:Ctx:=⟨tyTab,fnTab,tblSum tb22,tblLp lt22⟩
theorem y92:SumL J tb22:=SumL.cons y78 (y9m)
theorem y95:LpL J fnTab lt22:=y8n
def zg0  : Option (Nat×Nat×Bool×(List Nat)×(List Nat))→Option (AV×List Blk)
 | some r=>some ((.tup [(.one (.sl 0 0 r.1 1)),(.one (.sl 1 0 r.2.1 1)),(.one (.bool r.2.2.1))]),[(.mk true (.fl .f32 r.2.2.2.1)),(.mk true (.fl .f32 r.2.2.2.2))])
 | none=>none
def zge:List PT→Option (Bool×AV×List Blk)
 | [.agg [.row 1 q06 (.fl .f32 q0b),.row 1 q08 (.fl .f32 q0c),.row 1 q09 (.fl .f32 q0d),.row 3 q0f (.fl .f32 q0i),.s (.int .i64 q0k),.s (.flt .f32 q0o),.s (.flt .f32 q0n)],.one (.s (.flt .f32 q15)),.one (.s (.flt .f32 q0v)),.one (.s (.flt .f32 q0m)),.one (.s (.flt .f32 q1y))]=>sF zg0 (z1f q06 q0b q08 q0c q09 q0d q0f q0i q0k q0o q0n q15 q0v q0m q1y)
 | _=>none
theorem y0r:ev8 Γ22 17 [.agg [.row 1 a0 (.fl .f32 g1),.row 1 a2 (.fl .f32 g3),.row 1 a4 (.fl .f32 g5),.row 3 a6 (.fl .f32 g7),.s (.int .i64 c8),.s (.flt .f32 a9),.s (.flt .f32 a10)],.one (.s (.flt .f32 a11)),.one (.s (.flt .f32 a12)),.one (.s (.flt .f32 a13)),.one (.s (.flt .f32 a14))]=zg0 (z1f a0 g1 a2 g3 a4 g5 a6 g7 c8 a9 a10 a11 a12 a13 a14):=tr2 (zup a0 g1 a2 g3 a4 g5 a6 g7 c8 a9 a10 a11 a12 a13 a14 zg0 rfl (fun c0_ c1_ c2_ c3_ c4_=>some (c0_,c1_,c2_,c3_,c4_))) (by kernel_rfl)
theorem zv9:SumOne J 17 zge:=mkT y92 y95 fun pts v news hp=>by
 unfold zge at hp
 split at hp
 ·exact fin3 (y0r ..) hp
 ·cases hp
def tb24:List (Nat×(List PT→Option (Bool×AV×List Blk))):=(17,zge)::tb22
def lt24:List ((Nat×Nat)×(Nat→St→Option (Bool×LO))):=lt22
def Γ24:Ctx:=⟨tyTab,fnTab,tblSum tb24,tblLp lt24⟩
theorem ya2:SumL J tb24:=SumL.cons zv9 (y92)
theorem y9c:LpL J fnTab lt24:=y95
def z1z:St:=(.mk [(x0S 0 8 a0 1),(x0I 1 c1),(x0I 5 c2)] [(x0L g3),(x0L g4),(x0L g5),(x0L g6),(x0R true 0 1 2 3 a7 a8 a9 a10 c11 a12 a13),(x0T g14),(x0T g15),(.mk true (.cells [(.sl 8 0 a16 1),(.sl 9 0 a17 1),(.sl 10 0 a18 1),(.sl 11 0 a19 3),(.int .i64 c20),(.flt .f32 a21),(.flt .f32 a22)])),(x0T g23),(x0T g24),(x0T g25),(x0T g26),(x0T g27),(x0T g28),(.mk true (.cells [(.sl 8 0 a29 1),(.sl 9 0 a30 1),(.sl 10 0 a31 1),(.sl 11 0 a32 3),(.int .i64 c33),(.flt .f32 a34),(.flt .f32 a35)])),(.mk true (.cells [(.sl 8 0 a36 1),(.sl 9 0 a37 1),(.sl 10 0 a38 1)]))])
def z3c:St:=(.mk [(x0S 0 8 a0 1),(x0I 1 c36),(x0I 5 c37),(x0B 9 e38)] [(x0L g1),(x0L g2),(x0L g3),(x0L g4),(x0R true 0 1 2 3 a5 a6 a7 a8 c9 a10 a11),(x0T g12),(x0T g13),(.mk true (.cells [(.sl 8 0 a14 1),(.sl 9 0 a15 1),(.sl 10 0 a16 1),(.sl 11 0 a17 3),(.int .i64 c18),(.flt .f32 a19),(.flt .f32 a20)])),(x0T g39),(x0T g21),(x0T g22),(x0T g23),(x0T g24),(x0T g25),(.mk true (.cells [(.sl 8 0 a26 1),(.sl 9 0 a27 1),(.sl 10 0 a28 1),(.sl 11 0 a29 3),(.int .i64 c30),(.flt .f32 a31),(.flt .f32 a32)])),(.mk true (.cells [(.sl 8 0 a33 1),(.sl 9 0 a34 1),(.sl 10 0 a35 1)]))])
def z3k:Option ((Int×Int×Bool×(List Nat)))→Option (Ex×St)
 | none=>none
 | some r=>some ((.exit 0),(z3c a0 g1 g2 g3 g4 a5 a6 a7 a8 c9 a10 a11 g12 g13 a14 a15 a16 a17 c18 a19 a20 g21 g22 g23 g24 g25 a26 a27 a28 a29 c30 a31 a32 a33 a34 a35 r.1 r.2.1 r.2.2.1 r.2.2.2))
def z6b (x:Option ((Int×Int×Bool×(List Nat)))):LO:=(.one (.exit 0) (z3c a0 g1 g2 g3 g4 a5 a6 a7 a8 c9 a10 a11 g12 g13 a14 a15 a16 a17 c18 a19 a20 g21 g22 g23 g24 g25 a26 a27 a28 a29 c30 a31 a32 a33 a34 a35 (x.getD default).1 (x.getD default).2.1 (x.getD default).2.2.1 (x.getD default).2.2.2))
def zcp:Bool×LO:=sL (z6b a0 g3 g4 g5 g6 a7 a8 a9 a10 c11 a12 a13 g14 g15 a16 a17 a18 a19 c20 a21 a22 g24 g25 g26 g27 g28 a29 a30 a31 a32 c33 a34 a35 a36 a37 a38) (z08 a0 big c1 c2 g23)
def z6h:Nat→St→Option (Bool×LO):=lpT 16 (pSt [(x1S 0 8 1),(x1I 1),(x1I 5)] [x1L,x1L,x1L,x1L,(x1R true 0 1 2 3),x1T,x1T,(pBlk true (pCells [(pSl 8 (liN 0) 1),(pSl 9 (liN 0) 1),(pSl 10 (liN 0) 1),(pSl 11 (liN 0) 3),(pInt .i64),(pFlt .f32),(pFlt .f32)])),x1T,x1T,x1T,x1T,x1T,x1T,(pBlk true (pCells [(pSl 8 (liN 0) 1),(pSl 9 (liN 0) 1),(pSl 10 (liN 0) 1),(pSl 11 (liN 0) 3),(pInt .i64),(pFlt .f32),(pFlt .f32)])),(pBlk true (pCells [(pSl 8 (liN 0) 1),(pSl 9 (liN 0) 1),(pSl 10 (liN 0) 1)]))]) (fun hs=>zcp (hN hs 0) (hI hs 1) (hI hs 2) (hLn hs 3) (hLn hs 4) (hLn hs 5) (hLn hs 6) (hN hs 7) (hN hs 8) (hN hs 9) (hN hs 10) (hI hs 11) (hN hs 12) (hN hs 13) (hLn hs 14) (hLn hs 15) (hN hs 16) (hN hs 17) (hN hs 18) (hN hs 19) (hI hs 20) (hN hs 21) (hN hs 22) (hLn hs 23) (hLn hs 24) (hLn hs 25) (hLn hs 26) (hLn hs 27) (hLn hs 28) (hN hs 29) (hN hs 30) (hN hs 31) (hN hs 32) (hI hs 33) (hN hs 34) (hN hs 35) (hN hs 36) (hN hs 37) (hN hs 38))
theorem zdr:∀ x:Option ((Int×Int×Bool×(List Nat))),x.isSome=true→(z3k a0 g1 g2 g3 g4 a5 a6 a7 a8 c9 a10 a11 g12 g13 a14 a15 a16 a17 c18 a19 a20 g21 g22 g23 g24 g25 a26 a27 a28 a29 c30 a31 a32 a33 a34 a35) x=some (pick (z6b a0 g1 g2 g3 g4 a5 a6 a7 a8 c9 a10 a11 g12 g13 a14 a15 a16 a17 c18 a19 a20 g21 g22 g23 g24 g25 a26 a27 a28 a29 c30 a31 a32 a33 a34 a35 x))
 | none,h=>by cases h
 | some r,_=>rfl
theorem zdo (K:Ex→St→Option (Ex×St)):ev9 Γ24 39 2 16 fi39 (z1z a0 c1 c2 g3 g4 g5 g6 a7 a8 a9 a10 c11 a12 a13 g14 g15 a16 a17 a18 a19 c20 a21 a22 g23 g24 g25 g26 g27 g28 a29 a30 a31 a32 c33 a34 a35 a36 a37 a38) K=z0s a0 c1 c2 g23 (fun k' i' b8'=>K .normal (z1z a0 k' i' g3 g4 g5 g6 a7 a8 a9 a10 c11 a12 a13 g14 g15 a16 a17 a18 a19 c20 a21 a22 b8' g24 g25 g26 g27 g28 a29 a30 a31 a32 c33 a34 a35 a36 a37 a38)) (fun c0_ c1_ c2_ c3_=>K (.exit 0) (z3c a0 g3 g4 g5 g6 a7 a8 a9 a10 c11 a12 a13 g14 g15 a16 a17 a18 a19 c20 a21 a22 g24 g25 g26 g27 g28 a29 a30 a31 a32 c33 a34 a35 a36 a37 a38 c0_ c1_ c2_ c3_)):=by kernel_rfl
theorem zdk:∀ (n:Nat) (k i:Int) (b8:List Nat),iter 39 2 16 (ev9 Γ24 39 2 16 fi39) n (z1z a0 k i g1 g2 g3 g4 a5 a6 a7 a8 c9 a10 a11 g12 g13 a14 a15 a16 a17 c18 a19 a20 b8 g21 g22 g23 g24 g25 a26 a27 a28 a29 c30 a31 a32 a33 a34 a35) (fun e st=>some (e,st))=(z3k a0 g1 g2 g3 g4 a5 a6 a7 a8 c9 a10 a11 g12 g13 a14 a15 a16 a17 c18 a19 a20 g21 g22 g23 g24 g25 a26 a27 a28 a29 c30 a31 a32 a33 a34 a35) (z08 a0 n k i b8):=by
 intro n
 induction n with
 | zero=>intros;rfl
 | succ n ih=>
  intro k i b8
  refine Eq.trans (iter_succ ..) (Eq.trans (zdo ..) (Eq.trans ?_ (zb7 a0 k i b8 (z3k a0 g1 g2 g3 g4 a5 a6 a7 a8 c9 a10 a11 g12 g13 a14 a15 a16 a17 c18 a19 a20 g21 g22 g23 g24 g25 a26 a27 a28 a29 c30 a31 a32 a33 a34 a35) rfl (fun k' i' b8'=>z08 a0 n k' i' b8') (fun c0_ c1_ c2_ c3_=>some (c0_,c1_,c2_,c3_)))))
  exact congrArg (fun kn_=>z0s a0 k i b8 kn_ _) (funext fun k'=>funext fun i'=>funext fun b8'=>ih ..)
end
end Go.Proofs.YtijjhfailnmeoaaGreat
