import Derived.Test.YtijjhfailnmeoaaGreatPowerCurveC
set_option linter.unusedVariables false
set_option linter.unusedSimpArgs false
set_option linter.unusedSectionVars false
set_option maxRecDepth 100000
set_option maxHeartbeats 4000000
namespace Go.Proofs.YtijjhfailnmeoaaGreat
open Go Go.Rf
variable {J:Jd Tryz.prog}
abbrev x0F(d x:Nat):Nat×AV:=(d,.v (.one (.flt .f32 x)))
abbrev x0I(d:Nat)(x:Int):Nat×AV:=(d,.v (.one (.int .i64 x)))
abbrev x0B(d:Nat)(x:Bool):Nat×AV:=(d,.v (.one (.bool x)))
abbrev x0P(d b n:Nat):Nat×AV:=(d,.v (.one (.ptr b 0 n)))
abbrev x0S(d b n s:Nat):Nat×AV:=(d,.v (.one (.sl b 0 n s)))
abbrev x0V(d b n s:Nat):Nat×AV:=(d,.v (.one (.vw b 0 n s)))
abbrev x0L(x:List Nat):Blk:=.mk false (.fl .f32 x)
abbrev x0T(x:List Nat):Blk:=.mk true (.fl .f32 x)
abbrev x0R(o:Bool)(b c d e k l m n:Nat)(i:Int)(x y:Nat):Blk:=.mk o (.cells [.vw b 0 k 1,.vw c 0 l 1,.vw d 0 m 1,.vw e 0 n 3,.int .i64 i,.flt .f32 x,.flt .f32 y])
abbrev x1R(o:Bool)(b c d e:Nat):=pBlk o (pCells [pVw b (liN 0) 1,pVw c (liN 0) 1,pVw d (liN 0) 1,pVw e (liN 0) 3,pInt .i64,pFlt .f32,pFlt .f32])
abbrev x1F(d:Nat):=pTm d (pV (pOne (pFlt .f32)))
abbrev x1I(d:Nat):=pTm d (pV (pOne (pInt .i64)))
abbrev x1B(d:Nat):=pTm d (pV (pOne pBool))
abbrev x1P(d b n:Nat):=pTm d (pV (pOne (pPtr b (liN 0) n)))
abbrev x1S(d b s:Nat):=pTm d (pV (pOne (pSl b (liN 0) s)))
abbrev x1V(d b s:Nat):=pTm d (pV (pOne (pVw b (liN 0) s)))
abbrev x1L:=pBlk false (pFl .f32)
abbrev x1T:=pBlk true (pFl .f32)
noncomputable section
variable (a0:Nat) (c0:Int) (e0:Bool) (a1:Nat) (c1:Int) (e1:Bool) (g1:List Nat) (m1:List Bool) (a2:Nat) (c2:Int) (e2:Bool) (g2:List Nat) (a3:Nat) (c3:Int) (g3:List Nat) (m3:List Bool) (a4:Nat) (c4:Int) (e4:Bool) (g4:List Nat) (m4:List Bool) (a5:Nat) (e5:Bool) (g5:List Nat) (a6:Nat) (c6:Int) (g6:List Nat) (a7:Nat) (c7:Int) (g7:List Nat) (a8:Nat) (c8:Int) (e8:Bool) (g8:List Nat) (a9:Nat) (c9:Int) (e9:Bool) (g9:List Nat) (a10:Nat) (c10:Int) (e10:Bool) (g10:List Nat) (a11:Nat) (c11:Int) (g11:List Nat) (a12:Nat) (c12:Int) (g12:List Nat) (a13:Nat) (c13:Int) (a14:Nat) (c14:Int) (e14:Bool) (g14:List Nat) (a15:Nat) (c15:Int) (e15:Bool) (a16:Nat) (g16:List Nat) (a17:Nat) (c17:Int) (e18:Bool) (g18:List Nat) (c19:Int) (g19:List Nat) (a20:Nat) (g20:List Nat) (a21:Nat)
def zka:List PT→Option (Bool×AV×List Blk)
 | [.one (.s (.flt .f32 x))]=>some (bnot (nanQ .f32 x),A1 (.int .u32 x),[])
 | _=>none
theorem y3b:SumOne J 147 zka:=by
 intro pts v news hp w vals hv
 unfold zka at hp
 split at hp
 ·rename_i x
  injection hp with hp
  injection hp with h1 hp
  injection hp with h2 h3
  subst h2
  subst h3
  obtain⟨l,hl⟩:∃ l,l=vals.toList:=⟨_,rfl⟩
  rw[← hl] at hv
  cases hv with
  | cons a1 a2=>
   cases a2
   obtain⟨b,hb1,hb2,hb3⟩:=a1
   subst hb1
   rename_i hx
   have hvals:vals=#[.float .f32 b]:=by rw[← Array.toList_inj,← hl]
   subst hvals
   have hn:nanB .f32 b=false:=by rw[← u4k,hb3];simpa [bnot,nanQ] using h1
   rw[u03 hn] at hb3
   subst hb3
   refine⟨nat_tame Tryz.func147 (Eq.mpr (by kernel_rfl:_=(Mute (.extern 147)∧True)) ⟨.inr ⟨_,rfl⟩,trivial⟩),.inl ⟨_,w,by (simp only[callFunc,Sem.run_bind,run_program,Result.andThen_ok,Tryz.func147];rfl),NoB,⟨⟨(fun t b' h=>by cases t<;>cases h),(fun t t' b1 b2 x x' _ h=>by cases t<;>cases h)⟩,(fun t x h=>by cases h),Fr.refl _ w⟩,rfl⟩⟩
 ·cases hp
def zdw:List PT→Option (Bool×AV×List Blk)
 | [.one (.s (.int .u64 x))]=>some (okU .f64 x,A1 (.flt .f64 (cnI .f64 x)),[])
 | _=>none
theorem zw8:SumOne J 167 zdw:=by
 intro pts v news hp w vals hv
 unfold zdw at hp
 split at hp
 ·rename_i x
  injection hp with hp
  injection hp with h1 hp
  injection hp with h2 h3
  subst h2
  subst h3
  obtain⟨l,hl⟩:∃ l,l=vals.toList:=⟨_,rfl⟩
  rw[← hl] at hv
  cases hv with
  | cons a1 a2=>
   cases a2
   have hb1:_=Value.int .u64 x:=a1
   subst hb1
   rename_i hx
   have hvals:vals=#[.int .u64 x]:=by rw[← Array.toList_inj,← hl]
   subst hvals
   have hw:=okU_lt h1
   refine⟨nat_tame Tryz.func167 (Eq.mpr (by kernel_rfl:_=(Mute (.extern 167)∧True)) ⟨.inr ⟨_,rfl⟩,trivial⟩),.inl ⟨_,w,by (simp only[callFunc,Sem.run_bind,run_program,Result.andThen_ok,Tryz.func167];rfl),NoB,⟨⟨(fun t b' h=>by cases t<;>cases h),(fun t t' b1 b2 x x' _ h=>by cases t<;>cases h)⟩,(fun t x h=>by cases h),Fr.refl _ w⟩,⟨_,rfl,hw,rfl⟩⟩⟩
 ·cases hp
def zkk:List PT→Option (Bool×AV×List Blk)
 | [.one (.s (.flt .f64 x))]=>some (bnot (nanQ .f64 x),A1 (.int .u64 x),[])
 | _=>none
theorem y29:SumOne J 173 zkk:=by
 intro pts v news hp w vals hv
 unfold zkk at hp
 split at hp
 ·rename_i x
  injection hp with hp
  injection hp with h1 hp
  injection hp with h2 h3
  subst h2
  subst h3
  obtain⟨l,hl⟩:∃ l,l=vals.toList:=⟨_,rfl⟩
  rw[← hl] at hv
  cases hv with
  | cons a1 a2=>
   cases a2
   obtain⟨b,hb1,hb2,hb3⟩:=a1
   subst hb1
   rename_i hx
   have hvals:vals=#[.float .f64 b]:=by rw[← Array.toList_inj,← hl]
   subst hvals
   have hn:nanB .f64 b=false:=by rw[← u4k,hb3];simpa [bnot,nanQ] using h1
   rw[u03 hn] at hb3
   subst hb3
   refine⟨nat_tame Tryz.func173 (Eq.mpr (by kernel_rfl:_=(Mute (.extern 173)∧True)) ⟨.inr ⟨_,rfl⟩,trivial⟩),.inl ⟨_,w,by (simp only[callFunc,Sem.run_bind,run_program,Result.andThen_ok,Tryz.func173];rfl),NoB,⟨⟨(fun t b' h=>by cases t<;>cases h),(fun t t' b1 b2 x x' _ h=>by cases t<;>cases h)⟩,(fun t x h=>by cases h),Fr.refl _ w⟩,rfl⟩⟩
 ·cases hp
def zoc:List PT→Option (Bool×AV×List Blk)
 | [.one (.s (.flt .f64 x))]=>some (bnot (nanQ .f64 x),A1 (.flt .f64 (fint .zero x)),[])
 | _=>none
theorem y71:SumOne J 177 zoc:=by
 intro pts v news hp w vals hv
 unfold zoc at hp
 split at hp
 ·rename_i x
  injection hp with hp
  injection hp with h1 hp
  injection hp with h2 h3
  subst h2
  subst h3
  obtain⟨l,hl⟩:∃ l,l=vals.toList:=⟨_,rfl⟩
  rw[← hl] at hv
  cases hv with
  | cons a1 a2=>
   cases a2
   obtain⟨b,hb1,hb2,hb3⟩:=a1
   subst hb1
   rename_i hx
   have hvals:vals=#[.float .f64 b]:=by rw[← Array.toList_inj,← hl]
   subst hvals
   have hn:nanB .f64 b=false:=by rw[← u4k,hb3];simpa [bnot,nanQ] using h1
   rw[u03 hn] at hb3
   subst hb3
   refine⟨nat_tame Tryz.func177 (Eq.mpr (by kernel_rfl:_=(Mute (.extern 177)∧Tame Tryz.prog (do let v ← Extern.MathFloor.toIntegral "math.archTrunc" .zero #[.float .f64 b];pure (.value v):Sem Next))) ⟨.inr ⟨_,rfl⟩,tv (t_integral _ _ _)⟩),.inl ⟨_,w,by (simp only[callFunc,Sem.run_bind,run_program,Result.andThen_ok,Tryz.func177];change (do let v ← Extern.MathFloor.toIntegral "math.archTrunc" .zero #[.float .f64 b];pure (.value v):Sem Next).run Tryz.prog w=_;rw[Sem.run_bind,run_fint hn];rfl),NoB,⟨⟨(fun t b' h=>by cases t<;>cases h),(fun t t' b1 b2 x x' _ h=>by cases t<;>cases h)⟩,(fun t x h=>by cases h),Fr.refl _ w⟩,fint_rel hn⟩⟩
 ·cases hp
def zop:List PT→Option (Bool×AV×List Blk)
 | [.one (.s (.flt .f64 x))]=>some (bnot (nanQ .f64 x),A1 (.flt .f64 (fint .down x)),[])
 | _=>none
theorem y6s:SumOne J 179 zop:=by
 intro pts v news hp w vals hv
 unfold zop at hp
 split at hp
 ·rename_i x
  injection hp with hp
  injection hp with h1 hp
  injection hp with h2 h3
  subst h2
  subst h3
  obtain⟨l,hl⟩:∃ l,l=vals.toList:=⟨_,rfl⟩
  rw[← hl] at hv
  cases hv with
  | cons a1 a2=>
   cases a2
   obtain⟨b,hb1,hb2,hb3⟩:=a1
   subst hb1
   rename_i hx
   have hvals:vals=#[.float .f64 b]:=by rw[← Array.toList_inj,← hl]
   subst hvals
   have hn:nanB .f64 b=false:=by rw[← u4k,hb3];simpa [bnot,nanQ] using h1
   rw[u03 hn] at hb3
   subst hb3
   refine⟨nat_tame Tryz.func179 (Eq.mpr (by kernel_rfl:_=(Mute (.extern 179)∧Tame Tryz.prog (do let v ← Extern.MathFloor.toIntegral "math.archFloor" .down #[.float .f64 b];pure (.value v):Sem Next))) ⟨.inr ⟨_,rfl⟩,tv (t_integral _ _ _)⟩),.inl ⟨_,w,by (simp only[callFunc,Sem.run_bind,run_program,Result.andThen_ok,Tryz.func179];change (do let v ← Extern.MathFloor.toIntegral "math.archFloor" .down #[.float .f64 b];pure (.value v):Sem Next).run Tryz.prog w=_;rw[Sem.run_bind,run_fint hn];rfl),NoB,⟨⟨(fun t b' h=>by cases t<;>cases h),(fun t t' b1 b2 x x' _ h=>by cases t<;>cases h)⟩,(fun t x h=>by cases h),Fr.refl _ w⟩,fint_rel hn⟩⟩
 ·cases hp
def sF{α:Type}[Inhabited α] (o:Option α→Option (AV×List Blk)) (x:Option α):Option (Bool×AV×List Blk):=sP x.isSome o (x.getD default)
theorem fin3{α:Type}[Inhabited α] {a:Option (AV×List Blk)} {o:Option α→Option (AV×List Blk)} {x:Option α} {v:AV} {news:List Blk} (h:a=o x) (hp:sF o x=some (true,v,news)):a=some (v,news):=fin2 h hp
def sL{α:Type}(lo:Option α→LO)(x:Option α):Bool×LO:=(x.isSome,lo x)
theorem mkT {tb:List (Nat×(List PT→Option (Bool×AV×List Blk)))} {lt:List ((Nat×Nat)×(Nat→St→Option (Bool×LO)))} {J:Jd Tryz.prog} (h1:SumL J tb) (h2:LpL J fnTab lt) {g:FuncId} {F:List PT→Option (Bool×AV×List Blk)} (h:∀ pts v news,F pts=some (true,v,news)→ev8 ⟨tyTab,fnTab,tblSum tb,tblLp lt⟩ g pts=some (v,news)):SumOne J g F:=
 sum_of (Γ:=⟨tyTab,fnTab,tblSum tb,tblLp lt⟩) (fuel:=8) (d:=8) tyTab_ok (FnL.ok fnTab_ok _ _) (LpL.ok h2) (SumL.ok h1 _) mixed fun pts v news hp _=>h pts v news hp
theorem lpK {tb:List (Nat×(List PT→Option (Bool×AV×List Blk)))} {lt:List ((Nat×Nat)×(Nat→St→Option (Bool×LO)))} {J:Jd Tryz.prog} (h1:SumL J tb) (h2:LpL J fnTab lt) {f id lo0:Nat} {fi:FnI} (hfi:Rf.look fnTab f=some fi) (hu:noTwo (lids (loopsIn fi.code))=true) {p:Pz St} {F:List Hv→Bool×LO} {q:List Hv→St}
  (hq:∀ hs,p.fil hs 0=q hs) (h:∀ hs,(F hs).1=true→iter f id lo0 (ev9 ⟨tyTab,fnTab,tblSum tb,tblLp lt⟩ f id lo0 fi) big (q hs) (fun e st=>some (e,st))=some (pick (F hs).2)) (hb:Nat.beq id bodyId=false:=by rfl):LoopOne J fnTab f id (lpT lo0 p F):=
 lp9 (Γ:=⟨tyTab,fnTab,tblSum tb,tblLp lt⟩) tyTab_ok (FnL.ok fnTab_ok _ _) (LpL.ok h2) (SumL.ok h1 _) mixed hfi hu hq h hb
def tb0:List (Nat×(List PT→Option (Bool×AV×List Blk))):=[(147,zka),(167,zdw),(173,zkk),(177,zoc),(179,zop)]
def lt0:List ((Nat×Nat)×(Nat→St→Option (Bool×LO))):=[]
def Γ0:Ctx:=⟨tyTab,fnTab,tblSum tb0,tblLp lt0⟩
theorem z8y:SumL J tb0:=SumL.cons y3b (SumL.cons zw8 (SumL.cons y29 (SumL.cons y71 (SumL.cons y6s (SumL.nil)))))
theorem z8w:LpL J fnTab lt0:=LpL.nil
def zou  : Option (Bool)→Option (AV×List Blk)
 | some r=>some ((.v (.one (.bool r))),[])
 | none=>none
def znp:List PT→Option (Bool×AV×List Blk)
 | [.one (.s (.flt .f64 a)),.one (.s (.flt .f64 b))]=>sF zou (z79 a b)
 | _=>none
theorem yc0:ev8 Γ0 35 [.one (.s (.flt .f64 a0)),.one (.s (.flt .f64 a1))]=zou (z79 a0 a1):=tr2 (y4o a0 a1 zou rfl (fun c0_=>some c0_)) (by kernel_rfl)
theorem y6e:SumOne J 35 znp:=mkT z8y z8w fun pts v news hp=>by
 unfold znp at hp
 split at hp
 ·exact fin3 (yc0 ..) hp
 ·cases hp
def zup  : Option (Bool)→Option (AV×List Blk)
 | some r=>some ((.v (.one (.bool r))),[])
 | none=>none
def zut:List PT→Option (Bool×AV×List Blk)
 | [.one (.s (.int .i64 n_)),.one (.s (.int .i64 low)),.one (.s (.int .i64 q1z))]=>sF zup (zac n_ low q1z)
 | _=>none
theorem yh6:ev8 Γ0 52 [.one (.s (.int .i64 c0)),.one (.s (.int .i64 c1)),.one (.s (.int .i64 c2))]=zup (zac c0 c1 c2):=tr2 (yb6 c0 c1 c2 zup rfl (fun c0_=>some c0_)) (by kernel_rfl)
theorem yd8:SumOne J 52 zut:=mkT z8y z8w fun pts v news hp=>by
 unfold zut at hp
 split at hp
 ·exact fin3 (yh6 ..) hp
 ·cases hp
def zra  : Option (Bool)→Option (AV×List Blk)
 | some r=>some ((.v (.one (.bool r))),[])
 | none=>none
def zps:List PT→Option (Bool×AV×List Blk)
 | [.one (.s (.flt .f32 x))]=>sF zra (z9p x)
 | _=>none
theorem ydx:ev8 Γ0 65 [.one (.s (.flt .f32 a0))]=zra (z9p a0):=tr2 (y7b a0 zra rfl (fun c0_=>some c0_)) (by kernel_rfl)
theorem y9f:SumOne J 65 zps:=mkT z8y z8w fun pts v news hp=>by
 unfold zps at hp
 split at hp
 ·exact fin3 (ydx ..) hp
 ·cases hp
def zyj  : Option (Bool)→Option (AV×List Blk)
 | some r=>some ((.v (.one (.bool r))),[])
 | none=>none
def zx8:List PT→Option (Bool×AV×List Blk)
 | [.one (.s (.int .i64 n_)),.one (.s (.int .i64 low)),.one (.s (.int .i64 q1z))]=>sF zyj (zbe n_ low q1z)
 | _=>none
theorem yhv:ev8 Γ0 68 [.one (.s (.int .i64 c0)),.one (.s (.int .i64 c1)),.one (.s (.int .i64 c2))]=zyj (zbe c0 c1 c2):=tr2 (ycd c0 c1 c2 zyj rfl (fun c0_=>some c0_)) (by kernel_rfl)
theorem ydm:SumOne J 68 zx8:=mkT z8y z8w fun pts v news hp=>by
 unfold zx8 at hp
 split at hp
 ·exact fin3 (yhv ..) hp
 ·cases hp
def zlw  : Option (Int)→Option (AV×List Blk)
 | some r=>some ((.v (.one (.int .i64 r))),[])
 | none=>none
def zm8:List PT→Option (Bool×AV×List Blk)
 | [.one (.row 3 a_n (.fl .f32 a)),.one (.s (.int .i64 q2w))]=>sF zlw (z64 a_n a q2w)
 | _=>none
theorem y9x:ev8 Γ0 71 [.one (.row 3 a0 (.fl .f32 g1)),.one (.s (.int .i64 c2))]=zlw (z64 a0 g1 c2):=tr2 (y2q a0 g1 c2 zlw rfl (fun c0_=>some c0_)) (by kernel_rfl)
theorem y3z:SumOne J 71 zm8:=mkT z8y z8w fun pts v news hp=>by
 unfold zm8 at hp
 split at hp
 ·exact fin3 (y9x ..) hp
 ·cases hp
def zo2  : Option (Bool)→Option (AV×List Blk)
 | some r=>some ((.v (.one (.bool r))),[])
 | none=>none
def znv:List PT→Option (Bool×AV×List Blk)
 | [.one (.s (.flt .f32 x))]=>sF zo2 (z98 x)
 | _=>none
theorem yd1:ev8 Γ0 84 [.one (.s (.flt .f32 a0))]=zo2 (z98 a0):=tr2 (y5d a0 zo2 rfl (fun c0_=>some c0_)) (by kernel_rfl)
theorem y6w:SumOne J 84 znv:=mkT z8y z8w fun pts v news hp=>by
 unfold znv at hp
 split at hp
 ·exact fin3 (yd1 ..) hp
 ·cases hp
def zmd  : Option (Int)→Option (AV×List Blk)
 | some r=>some ((.v (.one (.int .i64 r))),[])
 | none=>none
def zmq:List PT→Option (Bool×AV×List Blk)
 | [.one (.row 1 a_n (.fl .f32 a)),.one (.s (.int .i64 q2w))]=>sF zmd (z69 a_n a q2w)
 | _=>none
theorem yb0:ev8 Γ0 117 [.one (.row 1 a0 (.fl .f32 g1)),.one (.s (.int .i64 c2))]=zmd (z69 a0 g1 c2):=tr2 (y1k a0 g1 c2 zmd rfl (fun c0_=>some c0_)) (by kernel_rfl)
theorem y3p:SumOne J 117 zmq:=mkT z8y z8w fun pts v news hp=>by
 unfold zmq at hp
 split at hp
 ·exact fin3 (yb0 ..) hp
 ·cases hp
def zo0:Option (Unit)→Option (AV×List Blk)
 | some r=>some ((.v (.agg [(.flt .f32 a0),(.flt .f32 a1),(.flt .f32 a2)])),[])
 | none=>none
def zoh:List PT→Option (Bool×AV×List Blk)
 | [.agg [.s (.flt .f32 q35),.s (.flt .f32 q38),.s (.flt .f32 q39)]]=>sF (zo0 q35 q38 q39) (zow q35 q38 q39)
 | _=>none
theorem ycf:ev8 Γ0 118 [.agg [.s (.flt .f32 a0),.s (.flt .f32 a1),.s (.flt .f32 a2)]]=(zo0 a0 a1 a2) (zow a0 a1 a2):=tr2 (y40 a0 a1 a2 (zo0 a0 a1 a2) rfl (fun _=>some ())) (by kernel_rfl)
theorem y69:SumOne J 118 zoh:=mkT z8y z8w fun pts v news hp=>by
 unfold zoh at hp
 split at hp
 ·exact fin3 (ycf ..) hp
 ·cases hp
def zpm  : Option (Bool)→Option (AV×List Blk)
 | some r=>some ((.v (.one (.bool r))),[])
 | none=>none
def zq4:List PT→Option (Bool×AV×List Blk)
 | [.one (.s (.flt .f32 x)),.one (.s (.flt .f32 low)),.one (.s (.flt .f32 q1z))]=>sF zpm (z8a x low q1z)
 | _=>none
theorem ye9:ev8 Γ0 134 [.one (.s (.flt .f32 a0)),.one (.s (.flt .f32 a1)),.one (.s (.flt .f32 a2))]=zpm (z8a a0 a1 a2):=tr2 (y66 a0 a1 a2 zpm rfl (fun c0_=>some c0_)) (by kernel_rfl)
theorem y8o:SumOne J 134 zq4:=mkT z8y z8w fun pts v news hp=>by
 unfold zq4 at hp
 split at hp
 ·exact fin3 (ye9 ..) hp
 ·cases hp
def zgb  : Option (Nat)→Option (AV×List Blk)
 | some r=>some ((.v (.one (.flt .f32 r))),[])
 | none=>none
def zfr:List PT→Option (Bool×AV×List Blk)
 | [.agg [.row 1 q00 (.fl .f32 q03),.row 1 q02 (.fl .f32 q06),.row 1 q01 (.fl .f32 q05),.row 3 q09 (.fl .f32 q0e),.s (.int .i64 q0h),.s (.flt .f32 q0n),.s (.flt .f32 q0m)],.one (.s (.int .i64 i))]=>sF zgb (z49 q00 q03 q02 q06 q01 q05 q09 q0e q0h q0n q0m i)
 | _=>none
theorem y2e:ev8 Γ0 142 [.agg [.row 1 a0 (.fl .f32 g1),.row 1 a2 (.fl .f32 g3),.row 1 a4 (.fl .f32 g5),.row 3 a6 (.fl .f32 g7),.s (.int .i64 c8),.s (.flt .f32 a9),.s (.flt .f32 a10)],.one (.s (.int .i64 c11))]=zgb (z49 a0 g1 a2 g3 a4 g5 a6 g7 c8 a9 a10 c11):=tr2 (zwi a0 g1 a2 g3 a4 g5 a6 g7 c8 a9 a10 c11 zgb rfl (fun c0_=>some c0_)) (by kernel_rfl)
theorem zxv:SumOne J 142 zfr:=mkT z8y z8w fun pts v news hp=>by
 unfold zfr at hp
 split at hp
 ·exact fin3 (y2e ..) hp
 ·cases hp
def zuh  : Option (Nat)→Option (AV×List Blk)
 | some r=>some ((.v (.one (.flt .f32 r))),[])
 | none=>none
def zuu:List PT→Option (Bool×AV×List Blk)
 | [.ptr [.row 1 q00 (.fl .f32 q03),.row 1 q02 (.fl .f32 q06),.row 1 q01 (.fl .f32 q05),.row 3 q09 (.fl .f32 q0e),.s (.int .i64 q0h),.s (.flt .f32 q0n),.s (.flt .f32 q0m)],.one (.s (.int .i64 i)),.one (.s (.flt .f32 q3v))]=>sF zuh (za4 q00 q03 q02 q06 q01 q05 q09 q0e q0h q0n q0m i q3v)
 | _=>none
theorem yhd:ev8 Γ0 151 [.ptr [.row 1 a0 (.fl .f32 g1),.row 1 a2 (.fl .f32 g3),.row 1 a4 (.fl .f32 g5),.row 3 a6 (.fl .f32 g7),.s (.int .i64 c8),.s (.flt .f32 a9),.s (.flt .f32 a10)],.one (.s (.int .i64 c11)),.one (.s (.flt .f32 a12))]=zuh (za4 a0 g1 a2 g3 a4 g5 a6 g7 c8 a9 a10 c11 a12):=tr2 (yaa a0 g1 a2 g3 a4 g5 a6 g7 c8 a9 a10 c11 a12 zuh rfl (fun c0_=>some c0_)) (by kernel_rfl)
theorem ybx:SumOne J 151 zuu:=mkT z8y z8w fun pts v news hp=>by
 unfold zuu at hp
 split at hp
 ·exact fin3 (yhd ..) hp
 ·cases hp
def zkg  : Option (Nat)→Option (AV×List Blk)
 | some r=>some ((.v (.one (.flt .f32 r))),[])
 | none=>none
def zk1:List PT→Option (Bool×AV×List Blk)
 | [.ptr [.row 1 q00 (.fl .f32 q03),.row 1 q02 (.fl .f32 q06),.row 1 q01 (.fl .f32 q05),.row 3 q09 (.fl .f32 q0e),.s (.int .i64 q0h),.s (.flt .f32 q0n),.s (.flt .f32 q0m)],.one (.s (.int .i64 i))]=>sF zkg (z5q q00 q03 q02 q06 q01 q05 q09 q0e q0h q0n q0m i)
 | _=>none
theorem y8c:ev8 Γ0 152 [.ptr [.row 1 a0 (.fl .f32 g1),.row 1 a2 (.fl .f32 g3),.row 1 a4 (.fl .f32 g5),.row 3 a6 (.fl .f32 g7),.s (.int .i64 c8),.s (.flt .f32 a9),.s (.flt .f32 a10)],.one (.s (.int .i64 c11))]=zkg (z5q a0 g1 a2 g3 a4 g5 a6 g7 c8 a9 a10 c11):=tr2 (y0e a0 g1 a2 g3 a4 g5 a6 g7 c8 a9 a10 c11 zkg rfl (fun c0_=>some c0_)) (by kernel_rfl)
theorem y2u:SumOne J 152 zk1:=mkT z8y z8w fun pts v news hp=>by
 unfold zk1 at hp
 split at hp
 ·exact fin3 (y8c ..) hp
 ·cases hp
def y4f  : Option (Nat)→Option (AV×List Blk)
 | some r=>some ((.v (.one (.flt .f64 r))),[])
 | none=>none
def y5h:List PT→Option (Bool×AV×List Blk)
 | []=>sF y4f zhh
 | _=>none
theorem yin  : ev8 Γ0 158 []=y4f (zhh):=tr2 (yfj  y4f rfl (fun c0_=>some c0_)) (by kernel_rfl)
theorem yh0:SumOne J 158 y5h:=mkT z8y z8w fun pts v news hp=>by
 unfold y5h at hp
 split at hp
 ·exact fin3 yin hp
 ·cases hp
def zxr  : Option (Nat)→Option (AV×List Blk)
 | some r=>some ((.v (.one (.flt .f32 r))),[])
 | none=>none
def zwx:List PT→Option (Bool×AV×List Blk)
 | [.one (.s (.flt .f32 a)),.one (.s (.flt .f32 b)),.one (.s (.flt .f32 q3t))]=>sF zxr (zg4 a b q3t)
 | _=>none
theorem yhm:ev8 Γ0 162 [.one (.s (.flt .f32 a0)),.one (.s (.flt .f32 a1)),.one (.s (.flt .f32 a2))]=zxr (zg4 a0 a1 a2):=tr2 (ycq a0 a1 a2 zxr rfl (fun c0_=>some c0_)) (by kernel_rfl)
theorem ydp:SumOne J 162 zwx:=mkT z8y z8w fun pts v news hp=>by
 unfold zwx at hp
 split at hp
 ·exact fin3 (yhm ..) hp
 ·cases hp
def zob  : Option (Nat)→Option (AV×List Blk)
 | some r=>some ((.v (.one (.flt .f32 r))),[])
 | none=>none
def zoj:List PT→Option (Bool×AV×List Blk)
 | [.one (.s (.flt .f64 x))]=>sF zob (z7f x)
 | _=>none
theorem yc4:ev8 Γ0 163 [.one (.s (.flt .f64 a0))]=zob (z7f a0):=tr2 (y3v a0 zob rfl (fun c0_=>some c0_)) (by kernel_rfl)
theorem y6r:SumOne J 163 zoj:=mkT z8y z8w fun pts v news hp=>by
 unfold zoj at hp
 split at hp
 ·exact fin3 (yc4 ..) hp
 ·cases hp
def y4y  : Option (Nat)→Option (AV×List Blk)
 | some r=>some ((.v (.one (.flt .f64 r))),[])
 | none=>none
def y3t:List PT→Option (Bool×AV×List Blk)
 | [.one (.s (.flt .f64 x))]=>sF y4y (zi1 x)
 | _=>none
theorem yis:ev8 Γ0 168 [.one (.s (.flt .f64 a0))]=y4y (zi1 a0):=tr2 (yf3 a0 y4y rfl (fun c0_=>some c0_)) (by kernel_rfl)
theorem yha:SumOne J 168 y3t:=mkT z8y z8w fun pts v news hp=>by
 unfold y3t at hp
 split at hp
 ·exact fin3 (yis ..) hp
 ·cases hp
def tb1:List (Nat×(List PT→Option (Bool×AV×List Blk))):=(35,znp)::(52,zut)::(65,zps)::(68,zx8)::(71,zm8)::(84,znv)::(117,zmq)::(118,zoh)::(134,zq4)::(142,zfr)::(151,zuu)::(152,zk1)::(158,y5h)::(162,zwx)::(163,zoj)::(168,y3t)::tb0
def lt1:List ((Nat×Nat)×(Nat→St→Option (Bool×LO))):=lt0
def Γ1:Ctx:=⟨tyTab,fnTab,tblSum tb1,tblLp lt1⟩
theorem z6t:SumL J tb1:=SumL.cons y6e (SumL.cons yd8 (SumL.cons y9f (SumL.cons ydm (SumL.cons y3z (SumL.cons y6w (SumL.cons y3p (SumL.cons y69 (SumL.cons y8o (SumL.cons zxv (SumL.cons ybx (SumL.cons y2u (SumL.cons yh0 (SumL.cons ydp (SumL.cons y6r (SumL.cons yha (z8y))))))))))))))))
theorem z6y:LpL J fnTab lt1:=z8w
def zs4  : Option (Nat×Bool)→Option (AV×List Blk)
 | some r=>some ((.tup [(.one (.flt .f32 r.1)),(.one (.bool r.2))]),[])
 | none=>none
def zs1:List PT→Option (Bool×AV×List Blk)
 | [.one (.s (.flt .f32 x))]=>sF zs4 (z7m x)
 | _=>none
theorem yes:ev8 Γ1 59 [.one (.s (.flt .f32 a0))]=zs4 (z7m a0):=tr2 (y8y a0 zs4 rfl (fun c0_ c1_=>some (c0_,c1_))) (by kernel_rfl)
theorem yar:SumOne J 59 zs1:=mkT z6t z6y fun pts v news hp=>by
 unfold zs1 at hp
 split at hp
 ·exact fin3 (yes ..) hp
 ·cases hp
def zor  : Option (Int)→Option (AV×List Blk)
 | some r=>some ((.v (.one (.int .i64 r))),[])
 | none=>none
def zng:List PT→Option (Bool×AV×List Blk)
 | [.agg [.row 1 q1q (.fl .f32 q22),.row 1 q1v (.fl .f32 q25),.row 1 q1w (.fl .f32 q27)],.one (.s (.int .i64 q2w))]=>sF zor (z7d q1q q22 q1v q25 q1w q27 q2w)
 | _=>none
theorem yc5:ev8 Γ1 70 [.agg [.row 1 a0 (.fl .f32 g1),.row 1 a2 (.fl .f32 g3),.row 1 a4 (.fl .f32 g5)],.one (.s (.int .i64 c6))]=zor (z7d a0 g1 a2 g3 a4 g5 c6):=tr2 (y5k a0 g1 a2 g3 a4 g5 c6 zor rfl (fun c0_=>some c0_)) (by kernel_rfl)
theorem y7i:SumOne J 70 zng:=mkT z6t z6y fun pts v news hp=>by
 unfold zng at hp
 split at hp
 ·exact fin3 (yc5 ..) hp
 ·cases hp
def zot  : Option (Nat×Bool)→Option (AV×List Blk)
 | some r=>some ((.tup [(.one (.flt .f32 r.1)),(.one (.bool r.2))]),[])
 | none=>none
def zon:List PT→Option (Bool×AV×List Blk)
 | [.one (.s (.flt .f32 x))]=>sF zot (z5f x)
 | _=>none
theorem yd4:ev8 Γ1 72 [.one (.s (.flt .f32 a0))]=zot (z5f a0):=tr2 (y56 a0 zot rfl (fun c0_ c1_=>some (c0_,c1_))) (by kernel_rfl)
theorem y7e:SumOne J 72 zon:=mkT z6t z6y fun pts v news hp=>by
 unfold zon at hp
 split at hp
 ·exact fin3 (yd4 ..) hp
 ·cases hp
def zpx  : Option (Bool)→Option (AV×List Blk)
 | some r=>some ((.v (.one (.bool r))),[])
 | none=>none
def zpo:List PT→Option (Bool×AV×List Blk)
 | [.one (.s (.flt .f32 x))]=>sF zpx (z89 x)
 | _=>none
theorem ydy:ev8 Γ1 83 [.one (.s (.flt .f32 a0))]=zpx (z89 a0):=tr2 (y78 a0 zpx rfl (fun c0_=>some c0_)) (by kernel_rfl)
theorem y9i:SumOne J 83 zpo:=mkT z6t z6y fun pts v news hp=>by
 unfold zpo at hp
 split at hp
 ·exact fin3 (ydy ..) hp
 ·cases hp
def zt6  : Option (Bool)→Option (AV×List Blk)
 | some r=>some ((.v (.one (.bool r))),[])
 | none=>none
def zt0:List PT→Option (Bool×AV×List Blk)
 | [.one (.s (.flt .f32 x))]=>sF zt6 (z96 x)
 | _=>none
theorem yep:ev8 Γ1 90 [.one (.s (.flt .f32 a0))]=zt6 (z96 a0):=tr2 (y89 a0 zt6 rfl (fun c0_=>some c0_)) (by kernel_rfl)
theorem ya0:SumOne J 90 zt0:=mkT z6t z6y fun pts v news hp=>by
 unfold zt0 at hp
 split at hp
 ·exact fin3 (yep ..) hp
 ·cases hp
def zi4  : Option (Bool)→Option (AV×List Blk)
 | some r=>some ((.v (.one (.bool r))),[])
 | none=>none
def zig:List PT→Option (Bool×AV×List Blk)
 | [.one (.s (.flt .f32 x))]=>sF zi4 (z4t x)
 | _=>none
theorem y3w:ev8 Γ1 115 [.one (.s (.flt .f32 a0))]=zi4 (z4t a0):=tr2 (zyi a0 zi4 rfl (fun c0_=>some c0_)) (by kernel_rfl)
theorem zyz:SumOne J 115 zig:=mkT z6t z6y fun pts v news hp=>by
 unfold zig at hp
 split at hp
 ·exact fin3 (y3w ..) hp
 ·cases hp
def znh  : Option (Bool)→Option (AV×List Blk)
 | some r=>some ((.v (.one (.bool r))),[])
 | none=>none
def znd:List PT→Option (Bool×AV×List Blk)
 | [.agg [.s (.flt .f32 q35),.s (.flt .f32 q38),.s (.flt .f32 q39)],.agg [.s (.flt .f32 q3l),.s (.flt .f32 q3m),.s (.flt .f32 q3o)]]=>sF znh (z7b q35 q38 q39 q3l q3m q3o)
 | _=>none
theorem ycr:ev8 Γ1 119 [.agg [.s (.flt .f32 a0),.s (.flt .f32 a1),.s (.flt .f32 a2)],.agg [.s (.flt .f32 a3),.s (.flt .f32 a4),.s (.flt .f32 a5)]]=znh (z7b a0 a1 a2 a3 a4 a5):=tr2 (y41 a0 a1 a2 a3 a4 a5 znh rfl (fun c0_=>some c0_)) (by kernel_rfl)
theorem y6b:SumOne J 119 znd:=mkT z6t z6y fun pts v news hp=>by
 unfold znd at hp
 split at hp
 ·exact fin3 (ycr ..) hp
 ·cases hp
def zqf  : Option (Bool)→Option (AV×List Blk)
 | some r=>some ((.v (.one (.bool r))),[])
 | none=>none
def zrb:List PT→Option (Bool×AV×List Blk)
 | [.one (.s (.flt .f32 x))]=>sF zqf (z88 x)
 | _=>none
theorem ye6:ev8 Γ1 121 [.one (.s (.flt .f32 a0))]=zqf (z88 a0):=tr2 (y7l a0 zqf rfl (fun c0_=>some c0_)) (by kernel_rfl)
theorem y7z:SumOne J 121 zrb:=mkT z6t z6y fun pts v news hp=>by
 unfold zrb at hp
 split at hp
 ·exact fin3 (ye6 ..) hp
 ·cases hp
def zpu  : Option (Bool)→Option (AV×List Blk)
 | some r=>some ((.v (.one (.bool r))),[])
 | none=>none
def zpz:List PT→Option (Bool×AV×List Blk)
 | [.ptr [.row 1 q00 (.fl .f32 q03),.row 1 q02 (.fl .f32 q06),.row 1 q01 (.fl .f32 q05),.row 3 q09 (.fl .f32 q0e),.s (.int .i64 q0h),.s (.flt .f32 q0n),.s (.flt .f32 q0m)],.one (.s (.int .i64 i)),.one (.s (.flt .f32 q0l))]=>sF zpu (z8f q00 q03 q02 q06 q01 q05 q09 q0e q0h q0n q0m i q0l)
 | _=>none
theorem yei:ev8 Γ1 128 [.ptr [.row 1 a0 (.fl .f32 g1),.row 1 a2 (.fl .f32 g3),.row 1 a4 (.fl .f32 g5),.row 3 a6 (.fl .f32 g7),.s (.int .i64 c8),.s (.flt .f32 a9),.s (.flt .f32 a10)],.one (.s (.int .i64 c11)),.one (.s (.flt .f32 a12))]=zpu (z8f a0 g1 a2 g3 a4 g5 a6 g7 c8 a9 a10 c11 a12):=tr2 (y6c a0 g1 a2 g3 a4 g5 a6 g7 c8 a9 a10 c11 a12 zpu rfl (fun c0_=>some c0_)) (by kernel_rfl)
theorem y90:SumOne J 128 zpz:=mkT z6t z6y fun pts v news hp=>by
 unfold zpz at hp
 split at hp
 ·exact fin3 (yei ..) hp
 ·cases hp
def zu0  : Option (Nat×Nat×Bool)→Option (AV×List Blk)
 | some r=>some ((.tup [(.one (.flt .f32 r.1)),(.one (.flt .f32 r.2.1)),(.one (.bool r.2.2))]),[])
 | none=>none
def zu1:List PT→Option (Bool×AV×List Blk)
 | [.one (.s (.flt .f32 x)),.one (.s (.flt .f32 y))]=>sF zu0 (z6z x y)
 | _=>none
theorem yhb:ev8 Γ1 131 [.one (.s (.flt .f32 a0)),.one (.s (.flt .f32 a1))]=zu0 (z6z a0 a1):=tr2 (y9v a0 a1 zu0 rfl (fun c0_ c1_ c2_=>some (c0_,c1_,c2_))) (by kernel_rfl)
theorem ycz:SumOne J 131 zu1:=mkT z6t z6y fun pts v news hp=>by
 unfold zu1 at hp
 split at hp
 ·exact fin3 (yhb ..) hp
 ·cases hp
def zk3  : Option (Bool)→Option (AV×List Blk)
 | some r=>some ((.v (.one (.bool r))),[])
 | none=>none
def zk4:List PT→Option (Bool×AV×List Blk)
 | [.one (.s (.flt .f32 x))]=>sF zk3 (z5m x)
 | _=>none
theorem y96:ev8 Γ1 153 [.one (.s (.flt .f32 a0))]=zk3 (z5m a0):=tr2 (y1d a0 zk3 rfl (fun c0_=>some c0_)) (by kernel_rfl)
theorem y35:SumOne J 153 zk4:=mkT z6t z6y fun pts v news hp=>by
 unfold zk4 at hp
 split at hp
 ·exact fin3 (y96 ..) hp
 ·cases hp
def zeb  : Option (Bool)→Option (AV×List Blk)
 | some r=>some ((.v (.one (.bool r))),[])
 | none=>none
def zdy:List PT→Option (Bool×AV×List Blk)
 | [.agg [.row 1 q00 (.fl .f32 q03),.row 1 q02 (.fl .f32 q06),.row 1 q01 (.fl .f32 q05),.row 3 q09 (.fl .f32 q0e),.s (.int .i64 q0h),.s (.flt .f32 q0n),.s (.flt .f32 q0m)],.one (.s (.int .i64 i))]=>sF zeb (z3f q00 q03 q02 q06 q01 q05 q09 q0e q0h q0n q0m i)
 | _=>none
theorem y0k:ev8 Γ1 155 [.agg [.row 1 a0 (.fl .f32 g1),.row 1 a2 (.fl .f32 g3),.row 1 a4 (.fl .f32 g5),.row 3 a6 (.fl .f32 g7),.s (.int .i64 c8),.s (.flt .f32 a9),.s (.flt .f32 a10)],.one (.s (.int .i64 c11))]=zeb (z3f a0 g1 a2 g3 a4 g5 a6 g7 c8 a9 a10 c11):=tr2 (zua a0 g1 a2 g3 a4 g5 a6 g7 c8 a9 a10 c11 zeb rfl (fun c0_=>some c0_)) (by kernel_rfl)
theorem zvx:SumOne J 155 zdy:=mkT z6t z6y fun pts v news hp=>by
 unfold zdy at hp
 split at hp
 ·exact fin3 (y0k ..) hp
 ·cases hp
def zuc  : Option (Bool)→Option (AV×List Blk)
 | some r=>some ((.v (.one (.bool r))),[])
 | none=>none
def zu3:List PT→Option (Bool×AV×List Blk)
 | [.one (.s (.flt .f32 q1o))]=>sF zuc (za8 q1o)
 | _=>none
theorem yh5:ev8 Γ1 156 [.one (.s (.flt .f32 a0))]=zuc (za8 a0):=tr2 (ybc a0 zuc rfl (fun c0_=>some c0_)) (by kernel_rfl)
theorem yd3:SumOne J 156 zu3:=mkT z6t z6y fun pts v news hp=>by
 unfold zu3 at hp
 split at hp
 ·exact fin3 (yh5 ..) hp
 ·cases hp
def zu8  : Option (Bool)→Option (AV×List Blk)
 | some r=>some ((.v (.one (.bool r))),[])
 | none=>none
def zub:List PT→Option (Bool×AV×List Blk)
 | [.one (.s (.flt .f64 x))]=>sF zu8 (za7 x)
 | _=>none
theorem yhc:ev8 Γ1 159 [.one (.s (.flt .f64 a0))]=zu8 (za7 a0):=tr2 (yal a0 zu8 rfl (fun c0_=>some c0_)) (by kernel_rfl)
theorem yc1:SumOne J 159 zub:=mkT z6t z6y fun pts v news hp=>by
 unfold zub at hp
 split at hp
 ·exact fin3 (yhc ..) hp
 ·cases hp
def z9g:St:=(.mk [(x0V 0 0 a0 1),(x0I 1 c1),(x0I 5 c2)] [(x0L g3)])
def zc8(an:Nat)(b0:List Nat):St:=(.mk [(4,(.v (.one (.int .i64 (Int.negSucc 0)))))] [(x0L b0)])
def zca:St:=(.mk [(x0V 0 0 a0 1),(x0I 1 c2),(x0I 5 c3),(x0B 9 e4)] [(x0L g1)])
def ze3:Option ((Unit)⊕(Int×Int×Bool))→Option (Ex×St)
 | none=>none
 | some (Sum.inl r)=>some (.ret,(zc8 a0 g1))
 | some (Sum.inr r)=>some ((.exit 0),(zca a0 g1 r.1 r.2.1 r.2.2))
def zld (x:Option ((Unit)⊕(Int×Int×Bool))):LO:=(.two (oL x) (.one .ret (zc8 a0 g1)) (.one (.exit 0) (zca a0 g1 ((tR x).getD default).1 ((tR x).getD default).2.1 ((tR x).getD default).2.2)))
def zxu:Bool×LO:=sL (zld a0 g3) (z0n a0 g3 big c1 c2)
def zmt:Nat→St→Option (Bool×LO):=lpT 1 (pSt [(x1V 0 0 1),(x1I 1),(x1I 5)] [x1L]) (fun hs=>zxu (hN hs 0) (hI hs 1) (hI hs 2) (hLn hs 3))
theorem y0b:∀ x:Option ((Unit)⊕(Int×Int×Bool)),x.isSome=true→(ze3 a0 g1) x=some (pick (zld a0 g1 x))
 | none,h=>by cases h
 | some (Sum.inl r),_=>rfl
 | some (Sum.inr r),_=>rfl
theorem y1c (K:Ex→St→Option (Ex×St)):ev9 Γ1 40 2 1 fi40 (z9g a0 c1 c2 g3) K=z22 a0 g3 c1 c2 (fun k' i'=>K .normal (z9g a0 k' i' g3)) (fun _=>K .ret (zc8 a0 g3)) (fun c0_ c1_ c2_=>K (.exit 0) (zca a0 g3 c0_ c1_ c2_)):=by kernel_rfl
theorem y17:∀ (n:Nat) (k i:Int),iter 40 2 1 (ev9 Γ1 40 2 1 fi40) n (z9g a0 k i g1) (fun e st=>some (e,st))=(ze3 a0 g1) (z0n a0 g1 n k i):=by
 intro n
 induction n with
 | zero=>intros;rfl
 | succ n ih=>
  intro k i
  refine Eq.trans (iter_succ ..) (Eq.trans (y1c ..) (Eq.trans ?_ (zu2 a0 g1 k i (ze3 a0 g1) rfl (fun k' i'=>z0n a0 g1 n k' i') (fun _=>some (Sum.inl ())) (fun c0_ c1_ c2_=>some (Sum.inr (c0_,c1_,c2_))))))
  exact congrArg (fun kn_=>z22 a0 g1 k i kn_ _ _) (funext fun k'=>funext fun i'=>ih ..)
theorem zvz:LoopOne J fnTab 40 2 zmt:=lpK z6t z6y (fi:=fi40) (by kernel_rfl) (by kernel_rfl) (q:=fun hs=>(z9g (hN hs 0) (hI hs 1) (hI hs 2) (hLn hs 3))) (fun hs=>by kernel_rfl) fun hs h1=>Eq.trans (y17 (hN hs 0) (hLn hs 3) big (hI hs 1) (hI hs 2)) (y0b (hN hs 0) (hLn hs 3) _ h1)
def zai:St:=(.mk [(x0V 0 0 a0 1),(x0S 3 1 a1 1),(x0I 4 c2)] [(x0L g3),(x0T g4)])
def zg0:St:=(.mk [(x0V 0 0 a0 1),(x0S 3 1 a1 1),(x0I 4 c3),(x0B 11 e4)] [(x0L g2),(x0T g5)])
def zi0:Option ((Int×Bool×(List Nat)))→Option (Ex×St)
 | none=>none
 | some r=>some ((.exit 0),(zg0 a0 a1 g2 r.1 r.2.1 r.2.2))
def zp3 (x:Option ((Int×Bool×(List Nat)))):LO:=(.one (.exit 0) (zg0 a0 a1 g2 (x.getD default).1 (x.getD default).2.1 (x.getD default).2.2))
def y0f:Bool×LO:=sL (zp3 a0 a1 g3) (z1k a0 a1 g3 big c2 g4)
def zqy:Nat→St→Option (Bool×LO):=lpT 1 (pSt [(x1V 0 0 1),(x1S 3 1 1),(x1I 4)] [x1L,x1T]) (fun hs=>y0f (hN hs 0) (hN hs 1) (hI hs 2) (hLn hs 3) (hLn hs 4))
theorem y4h:∀ x:Option ((Int×Bool×(List Nat))),x.isSome=true→(zi0 a0 a1 g2) x=some (pick (zp3 a0 a1 g2 x))
 | none,h=>by cases h
 | some r,_=>rfl
theorem y3n (K:Ex→St→Option (Ex×St)):ev9 Γ1 45 3 1 fi45 (zai a0 a1 c2 g3 g4) K=z2q a0 a1 g3 c2 g4 (fun i' b1'=>K .normal (zai a0 a1 i' g3 b1')) (fun c0_ c1_ c2_=>K (.exit 0) (zg0 a0 a1 g3 c0_ c1_ c2_)):=by kernel_rfl
theorem y4w:∀ (n:Nat) (i:Int) (b1:List Nat),iter 45 3 1 (ev9 Γ1 45 3 1 fi45) n (zai a0 a1 i g2 b1) (fun e st=>some (e,st))=(zi0 a0 a1 g2) (z1k a0 a1 g2 n i b1):=by
 intro n
 induction n with
 | zero=>intros;rfl
 | succ n ih=>
  intro i b1
  refine Eq.trans (iter_succ ..) (Eq.trans (y3n ..) (Eq.trans ?_ (zwp a0 a1 g2 i b1 (zi0 a0 a1 g2) rfl (fun i' b1'=>z1k a0 a1 g2 n i' b1') (fun c0_ c1_ c2_=>some (c0_,c1_,c2_)))))
  exact congrArg (fun kn_=>z2q a0 a1 g2 i b1 kn_ _) (funext fun i'=>funext fun b1'=>ih ..)
theorem zz4:LoopOne J fnTab 45 3 zqy:=lpK z6t z6y (fi:=fi45) (by kernel_rfl) (by kernel_rfl) (q:=fun hs=>(zai (hN hs 0) (hN hs 1) (hI hs 2) (hLn hs 3) (hLn hs 4))) (fun hs=>by kernel_rfl) fun hs h1=>Eq.trans (y4w (hN hs 0) (hN hs 1) (hLn hs 3) big (hI hs 2) (hLn hs 4)) (y4h (hN hs 0) (hN hs 1) (hLn hs 3) _ h1)
def z8t:St:=(.mk [(x0V 1 4 a0 1),(x0P 2 5 7),(x0F 5 a1),(x0I 6 c2)] [(x0L g3),(x0L g4),(x0L g5),(x0L g6),(x0L g7),(x0R true 0 1 2 3 a8 a9 a10 a11 c12 a13 a14)])
def zbc:St:=(.mk [(x0V 1 4 a0 1),(x0P 2 5 7),(x0F 5 a13),(x0I 6 c14),(x0B 11 e15)] [(x0L g1),(x0L g2),(x0L g3),(x0L g4),(x0L g5),(x0R true 0 1 2 3 a6 a7 a8 a9 c10 a11 a12)])
def zcj:Option ((Nat×Int×Bool))→Option (Ex×St)
 | none=>none
 | some r=>some ((.exit 0),(zbc a0 g1 g2 g3 g4 g5 a6 a7 a8 a9 c10 a11 a12 r.1 r.2.1 r.2.2))
def zkd (x:Option ((Nat×Int×Bool))):LO:=(.one (.exit 0) (zbc a0 g1 g2 g3 g4 g5 a6 a7 a8 a9 c10 a11 a12 (x.getD default).1 (x.getD default).2.1 (x.getD default).2.2))
def zwc:Bool×LO:=sL (zkd a0 g3 g4 g5 g6 g7 a8 a9 a10 a11 c12 a13 a14) (z0m a0 g6 g7 a11 big a1 c2)
def zlb:Nat→St→Option (Bool×LO):=lpT 5 (pSt [(x1V 1 4 1),(x1P 2 5 7),(x1F 5),(x1I 6)] [x1L,x1L,x1L,x1L,x1L,(x1R true 0 1 2 3)]) (fun hs=>zwc (hN hs 0) (hN hs 1) (hI hs 2) (hLn hs 3) (hLn hs 4) (hLn hs 5) (hLn hs 6) (hLn hs 7) (hN hs 8) (hN hs 9) (hN hs 10) (hN hs 11) (hI hs 12) (hN hs 13) (hN hs 14))
theorem zz0:∀ x:Option ((Nat×Int×Bool)),x.isSome=true→(zcj a0 g1 g2 g3 g4 g5 a6 a7 a8 a9 c10 a11 a12) x=some (pick (zkd a0 g1 g2 g3 g4 g5 a6 a7 a8 a9 c10 a11 a12 x))
 | none,h=>by cases h
 | some r,_=>rfl
theorem zyt (K:Ex→St→Option (Ex×St)):ev9 Γ1 60 3 5 fi60 (z8t a0 a1 c2 g3 g4 g5 g6 g7 a8 a9 a10 a11 c12 a13 a14) K=z1r a0 g6 g7 a11 a1 c2 (fun all' i'=>K .normal (z8t a0 all' i' g3 g4 g5 g6 g7 a8 a9 a10 a11 c12 a13 a14)) (fun c0_ c1_ c2_=>K (.exit 0) (zbc a0 g3 g4 g5 g6 g7 a8 a9 a10 a11 c12 a13 a14 c0_ c1_ c2_)):=by kernel_rfl
theorem zz2:∀ (n all:Nat) (i:Int),iter 60 3 5 (ev9 Γ1 60 3 5 fi60) n (z8t a0 all i g1 g2 g3 g4 g5 a6 a7 a8 a9 c10 a11 a12) (fun e st=>some (e,st))=(zcj a0 g1 g2 g3 g4 g5 a6 a7 a8 a9 c10 a11 a12) (z0m a0 g4 g5 a9 n all i):=by
 intro n
 induction n with
 | zero=>intros;rfl
 | succ n ih=>
  intro all i
  refine Eq.trans (iter_succ ..) (Eq.trans (zyt ..) (Eq.trans ?_ (ztl a0 g4 g5 a9 all i (zcj a0 g1 g2 g3 g4 g5 a6 a7 a8 a9 c10 a11 a12) rfl (fun all' i'=>z0m a0 g4 g5 a9 n all' i') (fun c0_ c1_ c2_=>some (c0_,c1_,c2_)))))
  exact congrArg (fun kn_=>z1r a0 g4 g5 a9 all i kn_ _) (funext fun all'=>funext fun i'=>ih ..)
theorem zu4:LoopOne J fnTab 60 3 zlb:=lpK z6t z6y (fi:=fi60) (by kernel_rfl) (by kernel_rfl) (q:=fun hs=>(z8t (hN hs 0) (hN hs 1) (hI hs 2) (hLn hs 3) (hLn hs 4) (hLn hs 5) (hLn hs 6) (hLn hs 7) (hN hs 8) (hN hs 9) (hN hs 10) (hN hs 11) (hI hs 12) (hN hs 13) (hN hs 14))) (fun hs=>by kernel_rfl) fun hs h1=>Eq.trans (zz2 (hN hs 0) (hLn hs 3) (hLn hs 4) (hLn hs 5) (hLn hs 6) (hLn hs 7) (hN hs 8) (hN hs 9) (hN hs 10) (hN hs 11) (hI hs 12) (hN hs 13) (hN hs 14) big (hN hs 1) (hI hs 2)) (zz0 (hN hs 0) (hLn hs 3) (hLn hs 4) (hLn hs 5) (hLn hs 6) (hLn hs 7) (hN hs 8) (hN hs 9) (hN hs 10) (hN hs 11) (hI hs 12) (hN hs 13) (hN hs 14) _ h1)
def zif:St:=(.mk [(x0P 0 4 7),(x0V 1 5 a0 1),(x0F 5 a1),(x0I 6 c2)] [(x0L g3),(x0L g4),(x0L g5),(x0L g6),(x0R false 0 1 2 3 a7 a8 a9 a10 c11 a12 a13),(x0L g14)])
def zma:St:=(.mk [(x0P 0 4 7),(x0V 1 5 a0 1),(x0F 5 a13),(x0I 6 c14),(x0B 12 e15)] [(x0L g1),(x0L g2),(x0L g3),(x0L g4),(x0R false 0 1 2 3 a5 a6 a7 a8 c9 a10 a11),(x0L g12)])
def zo3:Option ((Nat×Int×Bool))→Option (Ex×St)
 | none=>none
 | some r=>some ((.exit 0),(zma a0 g1 g2 g3 g4 a5 a6 a7 a8 c9 a10 a11 g12 r.1 r.2.1 r.2.2))
def zv0 (x:Option ((Nat×Int×Bool))):LO:=(.one (.exit 0) (zma a0 g1 g2 g3 g4 a5 a6 a7 a8 c9 a10 a11 g12 (x.getD default).1 (x.getD default).2.1 (x.getD default).2.2))
def y8s:Bool×LO:=sL (zv0 a0 g3 g4 g5 g6 a7 a8 a9 a10 c11 a12 a13 g14) (z1e a0 g6 a10 g14 big a1 c2)
def zy5:Nat→St→Option (Bool×LO):=lpT 6 (pSt [(x1P 0 4 7),(x1V 1 5 1),(x1F 5),(x1I 6)] [x1L,x1L,x1L,x1L,(x1R false 0 1 2 3),x1L]) (fun hs=>y8s (hN hs 0) (hN hs 1) (hI hs 2) (hLn hs 3) (hLn hs 4) (hLn hs 5) (hLn hs 6) (hN hs 7) (hN hs 8) (hN hs 9) (hN hs 10) (hI hs 11) (hN hs 12) (hN hs 13) (hLn hs 14))
theorem yc8:∀ x:Option ((Nat×Int×Bool)),x.isSome=true→(zo3 a0 g1 g2 g3 g4 a5 a6 a7 a8 c9 a10 a11 g12) x=some (pick (zv0 a0 g1 g2 g3 g4 a5 a6 a7 a8 c9 a10 a11 g12 x))
 | none,h=>by cases h
 | some r,_=>rfl
theorem yct (K:Ex→St→Option (Ex×St)):ev9 Γ1 73 3 6 fi73 (zif a0 a1 c2 g3 g4 g5 g6 a7 a8 a9 a10 c11 a12 a13 g14) K=z4q a0 g6 a10 g14 a1 c2 (fun sum' i'=>K .normal (zif a0 sum' i' g3 g4 g5 g6 a7 a8 a9 a10 c11 a12 a13 g14)) (fun c0_ c1_ c2_=>K (.exit 0) (zma a0 g3 g4 g5 g6 a7 a8 a9 a10 c11 a12 a13 g14 c0_ c1_ c2_)):=by kernel_rfl
theorem yby:∀ (n sum:Nat) (i:Int),iter 73 3 6 (ev9 Γ1 73 3 6 fi73) n (zif a0 sum i g1 g2 g3 g4 a5 a6 a7 a8 c9 a10 a11 g12) (fun e st=>some (e,st))=(zo3 a0 g1 g2 g3 g4 a5 a6 a7 a8 c9 a10 a11 g12) (z1e a0 g4 a8 g12 n sum i):=by
 intro n
 induction n with
 | zero=>intros;rfl
 | succ n ih=>
  intro sum i
  refine Eq.trans (iter_succ ..) (Eq.trans (yct ..) (Eq.trans ?_ (y4j a0 g4 a8 g12 sum i (zo3 a0 g1 g2 g3 g4 a5 a6 a7 a8 c9 a10 a11 g12) rfl (fun sum' i'=>z1e a0 g4 a8 g12 n sum' i') (fun c0_ c1_ c2_=>some (c0_,c1_,c2_)))))
  exact congrArg (fun kn_=>z4q a0 g4 a8 g12 sum i kn_ _) (funext fun sum'=>funext fun i'=>ih ..)
theorem y7m:LoopOne J fnTab 73 3 zy5:=lpK z6t z6y (fi:=fi73) (by kernel_rfl) (by kernel_rfl) (q:=fun hs=>(zif (hN hs 0) (hN hs 1) (hI hs 2) (hLn hs 3) (hLn hs 4) (hLn hs 5) (hLn hs 6) (hN hs 7) (hN hs 8) (hN hs 9) (hN hs 10) (hI hs 11) (hN hs 12) (hN hs 13) (hLn hs 14))) (fun hs=>by kernel_rfl) fun hs h1=>Eq.trans (yby (hN hs 0) (hLn hs 3) (hLn hs 4) (hLn hs 5) (hLn hs 6) (hN hs 7) (hN hs 8) (hN hs 9) (hN hs 10) (hI hs 11) (hN hs 12) (hN hs 13) (hLn hs 14) big (hN hs 1) (hI hs 2)) (yc8 (hN hs 0) (hLn hs 3) (hLn hs 4) (hLn hs 5) (hLn hs 6) (hN hs 7) (hN hs 8) (hN hs 9) (hN hs 10) (hI hs 11) (hN hs 12) (hN hs 13) (hLn hs 14) _ h1)
def z5u:St:=(.mk [(x0V 0 0 a0 1),(x0B 1 e1),(x0I 7 c2),(x0I 8 c3)] [(.mk false (.bl m4))])
def z8q(sn:Nat)(v:Bool)(t7:Int)(b0:List Bool)(c0_:Int):St:=(.mk [(x0I 4 c0_)] [(.mk false (.bl b0))])
def z8r:St:=(.mk [(x0V 0 0 a0 1),(x0B 1 e1),(x0I 7 c2),(x0I 8 c4),(x0B 9 e5)] [(.mk false (.bl m3))])
def z97:Option ((Int)⊕(Int×Bool))→Option (Ex×St)
 | none=>none
 | some (Sum.inl r)=>some (.ret,(z8q a0 e1 c2 m3 r))
 | some (Sum.inr r)=>some ((.exit 0),(z8r a0 e1 c2 m3 r.1 r.2))
def zeg (x:Option ((Int)⊕(Int×Bool))):LO:=(.two (oL x) (.one .ret (z8q a0 e1 c2 m3 ((tL x).getD default))) (.one (.exit 0) (z8r a0 e1 c2 m3 ((tR x).getD default).1 ((tR x).getD default).2)))
def zq8:Bool×LO:=sL (zeg a0 e1 c2 m4) (z0a a0 e1 c2 m4 big c3)
def zgh:Nat→St→Option (Bool×LO):=lpT 1 (pSt [(x1V 0 0 1),(x1B 1),(x1I 7),(x1I 8)] [(pBlk false pBl)]) (fun hs=>zq8 (hN hs 0) (hB hs 1) (hI hs 2) (hI hs 3) (hLb hs 4))
theorem zsv:∀ x:Option ((Int)⊕(Int×Bool)),x.isSome=true→(z97 a0 e1 c2 m3) x=some (pick (zeg a0 e1 c2 m3 x))
 | none,h=>by cases h
 | some (Sum.inl r),_=>rfl
 | some (Sum.inr r),_=>rfl
theorem zt9 (K:Ex→St→Option (Ex×St)):ev9 Γ1 113 2 1 fi113 (z5u a0 e1 c2 c3 m4) K=z1b a0 e1 c2 m4 c3 (fun t8'=>K .normal (z5u a0 e1 c2 t8' m4)) (fun c0_=>K .ret (z8q a0 e1 c2 m4 c0_)) (fun c0_ c1_=>K (.exit 0) (z8r a0 e1 c2 m4 c0_ c1_)):=by kernel_rfl
theorem zsc:∀ (n:Nat) (t8:Int),iter 113 2 1 (ev9 Γ1 113 2 1 fi113) n (z5u a0 e1 c2 t8 m3) (fun e st=>some (e,st))=(z97 a0 e1 c2 m3) (z0a a0 e1 c2 m3 n t8):=by
 intro n
 induction n with
 | zero=>intros;rfl
 | succ n ih=>
  intro t8
  refine Eq.trans (iter_succ ..) (Eq.trans (zt9 ..) (Eq.trans ?_ (zo1 a0 e1 c2 m3 t8 (z97 a0 e1 c2 m3) rfl (fun t8'=>z0a a0 e1 c2 m3 n t8') (fun c0_=>some (Sum.inl c0_)) (fun c0_ c1_=>some (Sum.inr (c0_,c1_))))))
  exact congrArg (fun kn_=>z1b a0 e1 c2 m3 t8 kn_ _ _) (funext fun t8'=>ih ..)
theorem zpg:LoopOne J fnTab 113 2 zgh:=lpK z6t z6y (fi:=fi113) (by kernel_rfl) (by kernel_rfl) (q:=fun hs=>(z5u (hN hs 0) (hB hs 1) (hI hs 2) (hI hs 3) (hLb hs 4))) (fun hs=>by kernel_rfl) fun hs h1=>Eq.trans (zsc (hN hs 0) (hB hs 1) (hI hs 2) (hLb hs 4) big (hI hs 3)) (zsv (hN hs 0) (hB hs 1) (hI hs 2) (hLb hs 4) _ h1)
def tb2:List (Nat×(List PT→Option (Bool×AV×List Blk))):=(59,zs1)::(70,zng)::(72,zon)::(83,zpo)::(90,zt0)::(115,zig)::(119,znd)::(121,zrb)::(128,zpz)::(131,zu1)::(153,zk4)::(155,zdy)::(156,zu3)::(159,zub)::tb1
def lt2:List ((Nat×Nat)×(Nat→St→Option (Bool×LO))):=((40,2),zmt)::((45,3),zqy)::((60,3),zlb)::((73,3),zy5)::((113,2),zgh)::lt1
def Γ2:Ctx:=⟨tyTab,fnTab,tblSum tb2,tblLp lt2⟩
theorem zg2:SumL J tb2:=SumL.cons yar (SumL.cons y7i (SumL.cons y7e (SumL.cons y9i (SumL.cons ya0 (SumL.cons zyz (SumL.cons y6b (SumL.cons y7z (SumL.cons y90 (SumL.cons ycz (SumL.cons y35 (SumL.cons zvx (SumL.cons yd3 (SumL.cons yc1 (z6t))))))))))))))
theorem zg3:LpL J fnTab lt2:=LpL.cons zvz (LpL.cons zz4 (LpL.cons zu4 (LpL.cons y7m (LpL.cons zpg (z6y)))))
def zt2  : Option (Int)→Option (AV×List Blk)
 | some r=>some ((.v (.one (.int .i64 r))),[])
 | none=>none
def zsn:List PT→Option (Bool×AV×List Blk)
 | [.agg [.row 1 q0t (.fl .f32 q19),.row 1 q0v (.fl .f32 q1b),.row 1 q0u (.fl .f32 q1c),.row 3 q1n (.fl .f32 q1u),.s (.int .i64 q24),.s (.flt .f32 q2f),.s (.flt .f32 q2g)],.one (.s (.int .i64 q2w))]=>sF zt2 (z9b q0t q19 q0v q1b q0u q1c q1n q1u q24 q2f q2g q2w)
 | _=>none
theorem yf0:ev8 Γ2 32 [.agg [.row 1 a0 (.fl .f32 g1),.row 1 a2 (.fl .f32 g3),.row 1 a4 (.fl .f32 g5),.row 3 a6 (.fl .f32 g7),.s (.int .i64 c8),.s (.flt .f32 a9),.s (.flt .f32 a10)],.one (.s (.int .i64 c11))]=zt2 (z9b a0 g1 a2 g3 a4 g5 a6 g7 c8 a9 a10 c11):=tr2 (y9a a0 g1 a2 g3 a4 g5 a6 g7 c8 a9 a10 c11 zt2 rfl (fun c0_=>some c0_)) (by kernel_rfl)
theorem y9y:SumOne J 32 zsn:=mkT zg2 zg3 fun pts v news hp=>by
 unfold zsn at hp
 split at hp
 ·exact fin3 (yf0 ..) hp
 ·cases hp
def zix  : Option (Int)→Option (AV×List Blk)
 | some r=>some ((.v (.one (.int .i64 r))),[])
 | none=>none
def zit:List PT→Option (Bool×AV×List Blk)
 | [.one (.row 1 a_n (.fl .f32 a)),.one (.s (.int .i64 k))]=>sF zix (z56 a_n a k)
 | _=>none
theorem y70:ev8 Γ2 40 [.one (.row 1 a0 (.fl .f32 g1)),.one (.s (.int .i64 c2))]=zix (z56 a0 g1 c2):=tr2 (zyq a0 g1 c2 zix rfl (fun c0_=>some c0_)) (by kernel_rfl)
theorem y0n:SumOne J 40 zit:=mkT zg2 zg3 fun pts v news hp=>by
 unfold zit at hp
 split at hp
 ·exact fin3 (y70 ..) hp
 ·cases hp
def zmm  : Option (Nat×(List Nat))→Option (AV×List Blk)
 | some r=>some ((.v (.one (.sl 0 0 r.1 1))),[(.mk true (.fl .f32 r.2))])
 | none=>none
def zme:List PT→Option (Bool×AV×List Blk)
 | [.one (.row 1 a_n (.fl .f32 a))]=>sF zmm (z4z a_n a)
 | _=>none
theorem ya5:ev8 Γ2 45 [.one (.row 1 a0 (.fl .f32 g1))]=zmm (z4z a0 g1):=tr2 (y2z a0 g1 zmm rfl (fun c0_ c1_=>some (c0_,c1_))) (by kernel_rfl)
theorem y4m:SumOne J 45 zme:=mkT zg2 zg3 fun pts v news hp=>by
 unfold zme at hp
 split at hp
 ·exact fin3 (ya5 ..) hp
 ·cases hp
def zi7  : Option (Nat)→Option (AV×List Blk)
 | some r=>some ((.v (.one (.flt .f32 r))),[])
 | none=>none
def zi5:List PT→Option (Bool×AV×List Blk)
 | [.agg [.row 1 q00 (.fl .f32 q03),.row 1 q02 (.fl .f32 q06),.row 1 q01 (.fl .f32 q05),.row 3 q09 (.fl .f32 q0e),.s (.int .i64 q0h),.s (.flt .f32 q0n),.s (.flt .f32 q0m)],.one (.row 1 q1r (.fl .f32 q23))]=>sF zi7 (z4r q00 q03 q02 q06 q01 q05 q09 q0e q0h q0n q0m q1r q23)
 | _=>none
theorem y5a:ev8 Γ2 60 [.agg [.row 1 a0 (.fl .f32 g1),.row 1 a2 (.fl .f32 g3),.row 1 a4 (.fl .f32 g5),.row 3 a6 (.fl .f32 g7),.s (.int .i64 c8),.s (.flt .f32 a9),.s (.flt .f32 a10)],.one (.row 1 a11 (.fl .f32 g12))]=zi7 (z4r a0 g1 a2 g3 a4 g5 a6 g7 c8 a9 a10 a11 g12):=tr2 (zxe a0 g1 a2 g3 a4 g5 a6 g7 c8 a9 a10 a11 g12 zi7 rfl (fun c0_=>some c0_)) (by kernel_rfl)
theorem zyu:SumOne J 60 zi5:=mkT zg2 zg3 fun pts v news hp=>by
 unfold zi5 at hp
 split at hp
 ·exact fin3 (y5a ..) hp
 ·cases hp
def zuq  : Option (Nat)→Option (AV×List Blk)
 | some r=>some ((.v (.one (.flt .f32 r))),[])
 | none=>none
def zum:List PT→Option (Bool×AV×List Blk)
 | [.ptr [.row 1 q00 (.fl .f32 q03),.row 1 q02 (.fl .f32 q06),.row 1 q01 (.fl .f32 q05),.row 3 q09 (.fl .f32 q0e),.s (.int .i64 q0h),.s (.flt .f32 q0n),.s (.flt .f32 q0m)],.one (.row 1 q1r (.fl .f32 q23))]=>sF zuq (za9 q00 q03 q02 q06 q01 q05 q09 q0e q0h q0n q0m q1r q23)
 | _=>none
theorem yhf:ev8 Γ2 73 [.ptr [.row 1 a0 (.fl .f32 g1),.row 1 a2 (.fl .f32 g3),.row 1 a4 (.fl .f32 g5),.row 3 a6 (.fl .f32 g7),.s (.int .i64 c8),.s (.flt .f32 a9),.s (.flt .f32 a10)],.one (.row 1 a11 (.fl .f32 g12))]=zuq (za9 a0 g1 a2 g3 a4 g5 a6 g7 c8 a9 a10 a11 g12):=tr2 (ya1 a0 g1 a2 g3 a4 g5 a6 g7 c8 a9 a10 a11 g12 zuq rfl (fun c0_=>some c0_)) (by kernel_rfl)
theorem yck:SumOne J 73 zum:=mkT zg2 zg3 fun pts v news hp=>by
 unfold zum at hp
 split at hp
 ·exact fin3 (yhf ..) hp
 ·cases hp
def zas  : Option (Int)→Option (AV×List Blk)
 | some r=>some ((.v (.one (.int .i64 r))),[])
 | none=>none
def zax:List PT→Option (Bool×AV×List Blk)
 | [.one (.row 1 s_n (.bl s)),.one (.s (.bool v))]=>sF zas (z2o s_n s v)
 | _=>none
theorem zw4:ev8 Γ2 113 [.one (.row 1 a0 (.bl m1)),.one (.s (.bool e2))]=zas (z2o a0 m1 e2):=tr2 (zrj a0 m1 e2 zas rfl (fun c0_=>some c0_)) (by kernel_rfl)
theorem zsj:SumOne J 113 zax:=mkT zg2 zg3 fun pts v news hp=>by
 unfold zax at hp
 split at hp
 ·exact fin3 (zw4 ..) hp
 ·cases hp
def zlp  : Option (Bool)→Option (AV×List Blk)
 | some r=>some ((.v (.one (.bool r))),[])
 | none=>none
def zmr:List PT→Option (Bool×AV×List Blk)
 | [.one (.s (.flt .f32 x))]=>sF zlp (z6d x)
 | _=>none
theorem ybm:ev8 Γ2 154 [.one (.s (.flt .f32 a0))]=zlp (z6d a0):=tr2 (y1u a0 zlp rfl (fun c0_=>some c0_)) (by kernel_rfl)
theorem y45:SumOne J 154 zmr:=mkT zg2 zg3 fun pts v news hp=>by
 unfold zmr at hp
 split at hp
 ·exact fin3 (ybm ..) hp
 ·cases hp
def zye  : Option (Nat)→Option (AV×List Blk)
 | some r=>some ((.v (.one (.flt .f64 r))),[])
 | none=>none
def zx7:List PT→Option (Bool×AV×List Blk)
 | [.one (.s (.flt .f64 x))]=>sF zye (zbg x)
 | _=>none
theorem yhj:ev8 Γ2 174 [.one (.s (.flt .f64 a0))]=zye (zbg a0):=tr2 (ycb a0 zye rfl (fun c0_=>some c0_)) (by kernel_rfl)
theorem yeh:SumOne J 174 zx7:=mkT zg2 zg3 fun pts v news hp=>by
 unfold zx7 at hp
 split at hp
 ·exact fin3 (yhj ..) hp
 ·cases hp
def zaj:St:=(.mk [(x0V 0 0 a0 1),(x0V 1 1 a1 1),(x0I 5 c2)] [(x0L g3),(x0L g4)])
def zgd(an bn:Nat)(b0 b1:List Nat):St:=(.mk [(x0B 4 false)] [(x0L b0),(x0L b1)])
def zfs:St:=(.mk [(x0V 0 0 a0 1),(x0V 1 1 a1 1),(x0I 5 c4),(x0B 14 e5)] [(x0L g2),(x0L g3)])
def zh6:Option ((Unit)⊕(Int×Bool))→Option (Ex×St)
 | none=>none
 | some (Sum.inl r)=>some (.ret,(zgd a0 a1 g2 g3))
 | some (Sum.inr r)=>some ((.exit 0),(zfs a0 a1 g2 g3 r.1 r.2))
def zp6 (x:Option ((Unit)⊕(Int×Bool))):LO:=(.two (oL x) (.one .ret (zgd a0 a1 g2 g3)) (.one (.exit 0) (zfs a0 a1 g2 g3 ((tR x).getD default).1 ((tR x).getD default).2)))
def y1j:Bool×LO:=sL (zp6 a0 a1 g3 g4) (z1i a0 a1 g3 g4 big c2)
def zpr:Nat→St→Option (Bool×LO):=lpT 2 (pSt [(x1V 0 0 1),(x1V 1 1 1),(x1I 5)] [x1L,x1L]) (fun hs=>y1j (hN hs 0) (hN hs 1) (hI hs 2) (hLn hs 3) (hLn hs 4))
theorem y4g:∀ x:Option ((Unit)⊕(Int×Bool)),x.isSome=true→(zh6 a0 a1 g2 g3) x=some (pick (zp6 a0 a1 g2 g3 x))
 | none,h=>by cases h
 | some (Sum.inl r),_=>rfl
 | some (Sum.inr r),_=>rfl
theorem y52 (K:Ex→St→Option (Ex×St)):ev9 Γ2 37 4 2 fi37 (zaj a0 a1 c2 g3 g4) K=z2m a0 a1 g3 g4 c2 (fun i'=>K .normal (zaj a0 a1 i' g3 g4)) (fun _=>K .ret (zgd a0 a1 g3 g4)) (fun c0_ c1_=>K (.exit 0) (zfs a0 a1 g3 g4 c0_ c1_)):=by kernel_rfl
theorem y4z:∀ (n:Nat) (i:Int),iter 37 4 2 (ev9 Γ2 37 4 2 fi37) n (zaj a0 a1 i g2 g3) (fun e st=>some (e,st))=(zh6 a0 a1 g2 g3) (z1i a0 a1 g2 g3 n i):=by
 intro n
 induction n with
 | zero=>intros;rfl
 | succ n ih=>
  intro i
  refine Eq.trans (iter_succ ..) (Eq.trans (y52 ..) (Eq.trans ?_ (zxw a0 a1 g2 g3 i (zh6 a0 a1 g2 g3) rfl (fun i'=>z1i a0 a1 g2 g3 n i') (fun _=>some (Sum.inl ())) (fun c0_ c1_=>some (Sum.inr (c0_,c1_))))))
  exact congrArg (fun kn_=>z2m a0 a1 g2 g3 i kn_ _ _) (funext fun i'=>ih ..)
theorem zz8:LoopOne J fnTab 37 4 zpr:=lpK zg2 zg3 (fi:=fi37) (by kernel_rfl) (by kernel_rfl) (q:=fun hs=>(zaj (hN hs 0) (hN hs 1) (hI hs 2) (hLn hs 3) (hLn hs 4))) (fun hs=>by kernel_rfl) fun hs h1=>Eq.trans (y4z (hN hs 0) (hN hs 1) (hLn hs 3) (hLn hs 4) big (hI hs 2)) (y4g (hN hs 0) (hN hs 1) (hLn hs 3) (hLn hs 4) _ h1)
def zav:St:=(.mk [(x0V 0 0 a0 3),(x0S 3 1 a1 3),(x0I 4 c2)] [(x0L g3),(x0T g4)])
def zfx:St:=(.mk [(x0V 0 0 a0 3),(x0S 3 1 a1 3),(x0I 4 c3),(x0B 11 e4)] [(x0L g2),(x0T g5)])
def zho:Option ((Int×Bool×(List Nat)))→Option (Ex×St)
 | none=>none
 | some r=>some ((.exit 0),(zfx a0 a1 g2 r.1 r.2.1 r.2.2))
def zp5 (x:Option ((Int×Bool×(List Nat)))):LO:=(.one (.exit 0) (zfx a0 a1 g2 (x.getD default).1 (x.getD default).2.1 (x.getD default).2.2))
def y0g:Bool×LO:=sL (zp5 a0 a1 g3) (z12 a0 a1 g3 big c2 g4)
def zqe:Nat→St→Option (Bool×LO):=lpT 1 (pSt [(x1V 0 0 3),(x1S 3 1 3),(x1I 4)] [x1L,x1T]) (fun hs=>y0g (hN hs 0) (hN hs 1) (hI hs 2) (hLn hs 3) (hLn hs 4))
theorem y3y:∀ x:Option ((Int×Bool×(List Nat))),x.isSome=true→(zho a0 a1 g2) x=some (pick (zp5 a0 a1 g2 x))
 | none,h=>by cases h
 | some r,_=>rfl
theorem y4v (K:Ex→St→Option (Ex×St)):ev9 Γ2 75 3 1 fi75 (zav a0 a1 c2 g3 g4) K=z2p a0 a1 g3 c2 g4 (fun i' b1'=>K .normal (zav a0 a1 i' g3 b1')) (fun c0_ c1_ c2_=>K (.exit 0) (zfx a0 a1 g3 c0_ c1_ c2_)):=by kernel_rfl
theorem y4c:∀ (n:Nat) (i:Int) (b1:List Nat),iter 75 3 1 (ev9 Γ2 75 3 1 fi75) n (zav a0 a1 i g2 b1) (fun e st=>some (e,st))=(zho a0 a1 g2) (z12 a0 a1 g2 n i b1):=by
 intro n
 induction n with
 | zero=>intros;rfl
 | succ n ih=>
  intro i b1
  refine Eq.trans (iter_succ ..) (Eq.trans (y4v ..) (Eq.trans ?_ (zyh a0 a1 g2 i b1 (zho a0 a1 g2) rfl (fun i' b1'=>z12 a0 a1 g2 n i' b1') (fun c0_ c1_ c2_=>some (c0_,c1_,c2_)))))
  exact congrArg (fun kn_=>z2p a0 a1 g2 i b1 kn_ _) (funext fun i'=>funext fun b1'=>ih ..)
theorem zys:LoopOne J fnTab 75 3 zqe:=lpK zg2 zg3 (fi:=fi75) (by kernel_rfl) (by kernel_rfl) (q:=fun hs=>(zav (hN hs 0) (hN hs 1) (hI hs 2) (hLn hs 3) (hLn hs 4))) (fun hs=>by kernel_rfl) fun hs h1=>Eq.trans (y4c (hN hs 0) (hN hs 1) (hLn hs 3) big (hI hs 2) (hLn hs 4)) (y3y (hN hs 0) (hN hs 1) (hLn hs 3) _ h1)
def z9l:St:=(.mk [(x0B 4 e0),(5,(.v (.one (.flt .f64 a1)))),(6,(.v (.one (.flt .f64 a2)))),(7,(.v (.one (.flt .f64 a3)))),(x0I 8 c4)] [])
def zcn:St:=(.mk [(x0B 4 e0),(5,(.v (.one (.flt .f64 a1)))),(6,(.v (.one (.flt .f64 a2)))),(7,(.v (.one (.flt .f64 a3)))),(x0I 8 c4),(x0B 44 e5)] [])
def ze8:Option ((Nat×Int×Bool))→Option (Ex×St)
 | none=>none
 | some r=>some ((.exit 0),(zcn e0 a1 a2 r.1 r.2.1 r.2.2))
def zl5 (x:Option ((Nat×Int×Bool))):LO:=(.one (.exit 0) (zcn e0 a1 a2 (x.getD default).1 (x.getD default).2.1 (x.getD default).2.2))
def zya:Bool×LO:=sL (zl5 e0 a1 a2) (z0y a2 big a3 c4)
def zmy:Nat→St→Option (Bool×LO):=lpT 0 (pSt [(x1B 4),(pTm 5 (pV (pOne (pFlt .f64)))),(pTm 6 (pV (pOne (pFlt .f64)))),(pTm 7 (pV (pOne (pFlt .f64)))),(x1I 8)] []) (fun hs=>zya (hB hs 0) (hN hs 1) (hN hs 2) (hN hs 3) (hI hs 4))
theorem y1g:∀ x:Option ((Nat×Int×Bool)),x.isSome=true→(ze8 e0 a1 a2) x=some (pick (zl5 e0 a1 a2 x))
 | none,h=>by cases h
 | some r,_=>rfl
theorem y04 (K:Ex→St→Option (Ex×St)):ev9 Γ2 164 17 0 fi164 (z9l e0 a1 a2 a3 c4) K=z1y a2 a3 c4 (fun t7' t8'=>K .normal (z9l e0 a1 a2 t7' t8')) (fun c0_ c1_ c2_=>K (.exit 0) (zcn e0 a1 a2 c0_ c1_ c2_)):=by kernel_rfl
theorem y0p:∀ (n t7:Nat) (t8:Int),iter 164 17 0 (ev9 Γ2 164 17 0 fi164) n (z9l e0 a1 a2 t7 t8) (fun e st=>some (e,st))=(ze8 e0 a1 a2) (z0y a2 n t7 t8):=by
 intro n
 induction n with
 | zero=>intros;rfl
 | succ n ih=>
  intro t7 t8
  refine Eq.trans (iter_succ ..) (Eq.trans (y04 ..) (Eq.trans ?_ (zud a2 t7 t8 (ze8 e0 a1 a2) rfl (fun t7' t8'=>z0y a2 n t7' t8') (fun c0_ c1_ c2_=>some (c0_,c1_,c2_)))))
  exact congrArg (fun kn_=>z1y a2 t7 t8 kn_ _) (funext fun t7'=>funext fun t8'=>ih ..)
theorem zwk:LoopOne J fnTab 164 17 zmy:=lpK zg2 zg3 (fi:=fi164) (by kernel_rfl) (by kernel_rfl) (q:=fun hs=>(z9l (hB hs 0) (hN hs 1) (hN hs 2) (hN hs 3) (hI hs 4))) (fun hs=>by kernel_rfl) fun hs h1=>Eq.trans (y0p (hB hs 0) (hN hs 1) (hN hs 2) big (hN hs 3) (hI hs 4)) (y1g (hB hs 0) (hN hs 1) (hN hs 2) _ h1)
def tb3:List (Nat×(List PT→Option (Bool×AV×List Blk))):=(32,zsn)::(40,zit)::(45,zme)::(60,zi5)::(73,zum)::(113,zax)::(154,zmr)::(174,zx7)::tb2
def lt3:List ((Nat×Nat)×(Nat→St→Option (Bool×LO))):=((37,4),zpr)::((75,3),zqe)::((164,17),zmy)::lt2
def Γ3:Ctx:=⟨tyTab,fnTab,tblSum tb3,tblLp lt3⟩
theorem zik:SumL J tb3:=SumL.cons y9y (SumL.cons y0n (SumL.cons y4m (SumL.cons zyu (SumL.cons yck (SumL.cons zsj (SumL.cons y45 (SumL.cons yeh (zg2))))))))
theorem zim:LpL J fnTab lt3:=LpL.cons zz8 (LpL.cons zys (LpL.cons zwk (zg3)))
def zlj  : Option (Bool)→Option (AV×List Blk)
 | some r=>some ((.v (.one (.bool r))),[])
 | none=>none
def zmh:List PT→Option (Bool×AV×List Blk)
 | [.one (.row 1 a_n (.fl .f32 a)),.one (.row 1 b_n (.fl .f32 b))]=>sF zlj (z6a a_n a b_n b)
 | _=>none
theorem yb8:ev8 Γ3 37 [.one (.row 1 a0 (.fl .f32 g1)),.one (.row 1 a2 (.fl .f32 g3))]=zlj (z6a a0 g1 a2 g3):=tr2 (y23 a0 g1 a2 g3 zlj rfl (fun c0_=>some c0_)) (by kernel_rfl)
theorem y46:SumOne J 37 zmh:=mkT zik zim fun pts v news hp=>by
 unfold zmh at hp
 split at hp
 ·exact fin3 (yb8 ..) hp
 ·cases hp
def z99  : Option (Bool)→Option (AV×List Blk)
 | some r=>some ((.v (.one (.bool r))),[])
 | none=>none
def z91:List PT→Option (Bool×AV×List Blk)
 | [.one (.row 1 s_n (.bl s)),.one (.s (.bool v))]=>sF z99 (z1u s_n s v)
 | _=>none
theorem zsh:ev8 Γ3 58 [.one (.row 1 a0 (.bl m1)),.one (.s (.bool e2))]=z99 (z1u a0 m1 e2):=tr2 (zno a0 m1 e2 z99 rfl (fun c0_=>some c0_)) (by kernel_rfl)
theorem zpe:SumOne J 58 z91:=mkT zik zim fun pts v news hp=>by
 unfold z91 at hp
 split at hp
 ·exact fin3 (zsh ..) hp
 ·cases hp
def zo6  : Option (Nat×Nat×Nat×(List Nat)×(List Nat)×(List Nat))→Option (AV×List Blk)
 | some r=>some ((.v (.agg [(.sl 0 0 r.1 1),(.sl 1 0 r.2.1 1),(.sl 2 0 r.2.2.1 1)])),[(.mk true (.fl .f32 r.2.2.2.1)),(.mk true (.fl .f32 r.2.2.2.2.1)),(.mk true (.fl .f32 r.2.2.2.2.2))])
 | none=>none
def zni:List PT→Option (Bool×AV×List Blk)
 | [.agg [.row 1 q1q (.fl .f32 q22),.row 1 q1v (.fl .f32 q25),.row 1 q1w (.fl .f32 q27)]]=>sF zo6 (z2g q1q q22 q1v q25 q1w q27)
 | _=>none
theorem ych:ev8 Γ3 74 [.agg [.row 1 a0 (.fl .f32 g1),.row 1 a2 (.fl .f32 g3),.row 1 a4 (.fl .f32 g5)]]=zo6 (z2g a0 g1 a2 g3 a4 g5):=tr2 (y47 a0 g1 a2 g3 a4 g5 zo6 rfl (fun c0_ c1_ c2_ c3_ c4_ c5_=>some (c0_,c1_,c2_,c3_,c4_,c5_))) (by kernel_rfl)
theorem y61:SumOne J 74 zni:=mkT zik zim fun pts v news hp=>by
 unfold zni at hp
 split at hp
 ·exact fin3 (ych ..) hp
 ·cases hp
def zml  : Option (Nat×(List Nat))→Option (AV×List Blk)
 | some r=>some ((.v (.one (.sl 0 0 r.1 3))),[(.mk true (.fl .f32 r.2))])
 | none=>none
def zmg:List PT→Option (Bool×AV×List Blk)
 | [.one (.row 3 a_n (.fl .f32 a))]=>sF zml (z51 a_n a)
 | _=>none
theorem ya8:ev8 Γ3 75 [.one (.row 3 a0 (.fl .f32 g1))]=zml (z51 a0 g1):=tr2 (y2a a0 g1 zml rfl (fun c0_ c1_=>some (c0_,c1_))) (by kernel_rfl)
theorem y57:SumOne J 75 zmg:=mkT zik zim fun pts v news hp=>by
 unfold zmg at hp
 split at hp
 ·exact fin3 (ya8 ..) hp
 ·cases hp
def zk5  : Option (Nat)→Option (AV×List Blk)
 | some r=>some ((.v (.one (.flt .f64 r))),[])
 | none=>none
def zk9:List PT→Option (Bool×AV×List Blk)
 | [.one (.s (.flt .f64 q1j))]=>sF zk5 (z2t q1j)
 | _=>none
theorem y7u:ev8 Γ3 164 [.one (.s (.flt .f64 a0))]=zk5 (z2t a0):=tr2 (y0l a0 zk5 rfl (fun c0_=>some c0_)) (by kernel_rfl)
theorem y1z:SumOne J 164 zk9:=mkT zik zim fun pts v news hp=>by
 unfold zk9 at hp
 split at hp
 ·exact fin3 (y7u ..) hp
 ·cases hp
def zm3  : Option (Nat)→Option (AV×List Blk)
 | some r=>some ((.v (.one (.flt .f64 r))),[])
 | none=>none
def zm4:List PT→Option (Bool×AV×List Blk)
 | [.one (.s (.flt .f64 q2x))]=>sF zm3 (z6c q2x)
 | _=>none
theorem yba:ev8 Γ3 169 [.one (.s (.flt .f64 a0))]=zm3 (z6c a0):=tr2 (y2y a0 zm3 rfl (fun c0_=>some c0_)) (by kernel_rfl)
theorem y4s:SumOne J 169 zm4:=mkT zik zim fun pts v news hp=>by
 unfold zm4 at hp
 split at hp
 ·exact fin3 (yba ..) hp
 ·cases hp
def zal:St:=(.mk [(x0V 0 0 a0 3),(x0V 1 1 a1 3),(x0I 5 c2)] [(x0L g3),(x0L g4)])
def zga(an bn:Nat)(b0 b1:List Nat):St:=(.mk [(x0B 4 false)] [(x0L b0),(x0L b1)])
def zgg:St:=(.mk [(x0V 0 0 a0 3),(x0V 1 1 a1 3),(x0I 5 c4),(x0B 14 e5)] [(x0L g2),(x0L g3)])
def zie:Option ((Unit)⊕(Int×Bool))→Option (Ex×St)
 | none=>none
 | some (Sum.inl r)=>some (.ret,(zga a0 a1 g2 g3))
 | some (Sum.inr r)=>some ((.exit 0),(zgg a0 a1 g2 g3 r.1 r.2))
def zp1 (x:Option ((Unit)⊕(Int×Bool))):LO:=(.two (oL x) (.one .ret (zga a0 a1 g2 g3)) (.one (.exit 0) (zgg a0 a1 g2 g3 ((tR x).getD default).1 ((tR x).getD default).2)))
def y0r:Bool×LO:=sL (zp1 a0 a1 g3 g4) (z1h a0 a1 g3 g4 big c2)
def zrd:Nat→St→Option (Bool×LO):=lpT 2 (pSt [(x1V 0 0 3),(x1V 1 1 3),(x1I 5)] [x1L,x1L]) (fun hs=>y0r (hN hs 0) (hN hs 1) (hI hs 2) (hLn hs 3) (hLn hs 4))
theorem y3o:∀ x:Option ((Unit)⊕(Int×Bool)),x.isSome=true→(zie a0 a1 g2 g3) x=some (pick (zp1 a0 a1 g2 g3 x))
 | none,h=>by cases h
 | some (Sum.inl r),_=>rfl
 | some (Sum.inr r),_=>rfl
theorem y3r (K:Ex→St→Option (Ex×St)):ev9 Γ3 77 4 2 fi77 (zal a0 a1 c2 g3 g4) K=z2s a0 a1 g3 g4 c2 (fun i'=>K .normal (zal a0 a1 i' g3 g4)) (fun _=>K .ret (zga a0 a1 g3 g4)) (fun c0_ c1_=>K (.exit 0) (zgg a0 a1 g3 g4 c0_ c1_)):=by kernel_rfl
theorem y49:∀ (n:Nat) (i:Int),iter 77 4 2 (ev9 Γ3 77 4 2 fi77) n (zal a0 a1 i g2 g3) (fun e st=>some (e,st))=(zie a0 a1 g2 g3) (z1h a0 a1 g2 g3 n i):=by
 intro n
 induction n with
 | zero=>intros;rfl
 | succ n ih=>
  intro i
  refine Eq.trans (iter_succ ..) (Eq.trans (y3r ..) (Eq.trans ?_ (zxx a0 a1 g2 g3 i (zie a0 a1 g2 g3) rfl (fun i'=>z1h a0 a1 g2 g3 n i') (fun _=>some (Sum.inl ())) (fun c0_ c1_=>some (Sum.inr (c0_,c1_))))))
  exact congrArg (fun kn_=>z2s a0 a1 g2 g3 i kn_ _ _) (funext fun i'=>ih ..)
theorem zyy:LoopOne J fnTab 77 4 zrd:=lpK zik zim (fi:=fi77) (by kernel_rfl) (by kernel_rfl) (q:=fun hs=>(zal (hN hs 0) (hN hs 1) (hI hs 2) (hLn hs 3) (hLn hs 4))) (fun hs=>by kernel_rfl) fun hs h1=>Eq.trans (y49 (hN hs 0) (hN hs 1) (hLn hs 3) (hLn hs 4) big (hI hs 2)) (y3o (hN hs 0) (hN hs 1) (hLn hs 3) (hLn hs 4) _ h1)
def zjn:St:=(.mk [(x0P 0 3 3),(x0I 3 c0),(x0I 4 c1)] [(x0L g2),(x0L g3),(x0L g4),(.mk false (.cells [(.vw 0 0 a5 1),(.vw 1 0 a6 1),(.vw 2 0 a7 1)]))])
def znu(t3:Int)(b0 b1 b2:List Nat)(q1p q20 q21:Nat):St:=(.mk [(x0B 2 false)] [(x0L b0),(x0L b1),(x0L b2),(.mk false (.cells [(.vw 0 0 q1p 1),(.vw 1 0 q20 1),(.vw 2 0 q21 1)]))])
def znq:St:=(.mk [(x0P 0 3 3),(x0I 3 c0),(x0I 4 c7),(x0B 36 e8)] [(x0L g1),(x0L g2),(x0L g3),(.mk false (.cells [(.vw 0 0 a4 1),(.vw 1 0 a5 1),(.vw 2 0 a6 1)]))])
def zq7:Option ((Unit)⊕(Int×Bool))→Option (Ex×St)
 | none=>none
 | some (Sum.inl r)=>some (.ret,(znu c0 g1 g2 g3 a4 a5 a6))
 | some (Sum.inr r)=>some ((.exit 0),(znq c0 g1 g2 g3 a4 a5 a6 r.1 r.2))
def zwu (x:Option ((Unit)⊕(Int×Bool))):LO:=(.two (oL x) (.one .ret (znu c0 g1 g2 g3 a4 a5 a6)) (.one (.exit 0) (znq c0 g1 g2 g3 a4 a5 a6 ((tR x).getD default).1 ((tR x).getD default).2)))
def yb1:Bool×LO:=sL (zwu c0 g2 g3 g4 a5 a6 a7) (z29 c0 g2 g3 g4 a5 a6 a7 big c1)
def zzo:Nat→St→Option (Bool×LO):=lpT 4 (pSt [(x1P 0 3 3),(x1I 3),(x1I 4)] [x1L,x1L,x1L,(pBlk false (pCells [(pVw 0 (liN 0) 1),(pVw 1 (liN 0) 1),(pVw 2 (liN 0) 1)]))]) (fun hs=>yb1 (hI hs 0) (hI hs 1) (hLn hs 2) (hLn hs 3) (hLn hs 4) (hN hs 5) (hN hs 6) (hN hs 7))
theorem ydn:∀ x:Option ((Unit)⊕(Int×Bool)),x.isSome=true→(zq7 c0 g1 g2 g3 a4 a5 a6) x=some (pick (zwu c0 g1 g2 g3 a4 a5 a6 x))
 | none,h=>by cases h
 | some (Sum.inl r),_=>rfl
 | some (Sum.inr r),_=>rfl
theorem ydj (K:Ex→St→Option (Ex×St)):ev9 Γ3 120 5 4 fi120 (zjn c0 c1 g2 g3 g4 a5 a6 a7) K=z59 c0 g2 g3 g4 a5 a6 a7 c1 (fun t4'=>K .normal (zjn c0 t4' g2 g3 g4 a5 a6 a7)) (fun _=>K .ret (znu c0 g2 g3 g4 a5 a6 a7)) (fun c0_ c1_=>K (.exit 0) (znq c0 g2 g3 g4 a5 a6 a7 c0_ c1_)):=by kernel_rfl
theorem yel:∀ (n:Nat) (t4:Int),iter 120 5 4 (ev9 Γ3 120 5 4 fi120) n (zjn c0 t4 g1 g2 g3 a4 a5 a6) (fun e st=>some (e,st))=(zq7 c0 g1 g2 g3 a4 a5 a6) (z29 c0 g1 g2 g3 a4 a5 a6 n t4):=by
 intro n
 induction n with
 | zero=>intros;rfl
 | succ n ih=>
  intro t4
  refine Eq.trans (iter_succ ..) (Eq.trans (ydj ..) (Eq.trans ?_ (y6n c0 g1 g2 g3 a4 a5 a6 t4 (zq7 c0 g1 g2 g3 a4 a5 a6) rfl (fun t4'=>z29 c0 g1 g2 g3 a4 a5 a6 n t4') (fun _=>some (Sum.inl ())) (fun c0_ c1_=>some (Sum.inr (c0_,c1_))))))
  exact congrArg (fun kn_=>z59 c0 g1 g2 g3 a4 a5 a6 t4 kn_ _ _) (funext fun t4'=>ih ..)
theorem y93:LoopOne J fnTab 120 5 zzo:=lpK zik zim (fi:=fi120) (by kernel_rfl) (by kernel_rfl) (q:=fun hs=>(zjn (hI hs 0) (hI hs 1) (hLn hs 2) (hLn hs 3) (hLn hs 4) (hN hs 5) (hN hs 6) (hN hs 7))) (fun hs=>by kernel_rfl) fun hs h1=>Eq.trans (yel (hI hs 0) (hLn hs 2) (hLn hs 3) (hLn hs 4) (hN hs 5) (hN hs 6) (hN hs 7) big (hI hs 1)) (ydn (hI hs 0) (hLn hs 2) (hLn hs 3) (hLn hs 4) (hN hs 5) (hN hs 6) (hN hs 7) _ h1)
def z23:St:=(.mk [(x0V 0 0 a0 1),(1,(.v (.one (.fn 115 [])))),(x0I 7 c1),(x0I 8 c2)] [(x0L g3)])
def z3b(sn:Nat)(t7:Int)(b0:List Nat)(c0_:Int):St:=(.mk [(x0I 4 c0_)] [(x0L b0)])
def z3c:St:=(.mk [(x0V 0 0 a0 1),(1,(.v (.one (.fn 115 [])))),(x0I 7 c1),(x0I 8 c3),(x0B 9 e4)] [(x0L g2)])
def z3o:Option ((Int)⊕(Int×Bool))→Option (Ex×St)
 | none=>none
 | some (Sum.inl r)=>some (.ret,(z3b a0 c1 g2 r))
 | some (Sum.inr r)=>some ((.exit 0),(z3c a0 c1 g2 r.1 r.2))
def z6h (x:Option ((Int)⊕(Int×Bool))):LO:=(.two (oL x) (.one .ret (z3b a0 c1 g2 ((tL x).getD default))) (.one (.exit 0) (z3c a0 c1 g2 ((tR x).getD default).1 ((tR x).getD default).2)))
def zcm:Bool×LO:=sL (z6h a0 c1 g3) (z01 a0 c1 g3 big c2)
def z6o:Nat→St→Option (Bool×LO):=lpT 1 (pSt [(x1V 0 0 1),(pTm 1 (pV (pOne (pFn 115 [])))),(x1I 7),(x1I 8)] [x1L]) (fun hs=>zcm (hN hs 0) (hI hs 1) (hI hs 2) (hLn hs 3))
theorem ze7:∀ x:Option ((Int)⊕(Int×Bool)),x.isSome=true→(z3o a0 c1 g2) x=some (pick (z6h a0 c1 g2 x))
 | none,h=>by cases h
 | some (Sum.inl r),_=>rfl
 | some (Sum.inr r),_=>rfl
theorem ze0 (K:Ex→St→Option (Ex×St)):ev9 Γ3 146 2 1 fi146 (z23 a0 c1 c2 g3) K=z0h a0 c1 g3 c2 (fun t8'=>K .normal (z23 a0 c1 t8' g3)) (fun c0_=>K .ret (z3b a0 c1 g3 c0_)) (fun c0_ c1_=>K (.exit 0) (z3c a0 c1 g3 c0_ c1_)):=by kernel_rfl
theorem ze2:∀ (n:Nat) (t8:Int),iter 146 2 1 (ev9 Γ3 146 2 1 fi146) n (z23 a0 c1 t8 g2) (fun e st=>some (e,st))=(z3o a0 c1 g2) (z01 a0 c1 g2 n t8):=by
 intro n
 induction n with
 | zero=>intros;rfl
 | succ n ih=>
  intro t8
  refine Eq.trans (iter_succ ..) (Eq.trans (ze0 ..) (Eq.trans ?_ (zbn a0 c1 g2 t8 (z3o a0 c1 g2) rfl (fun t8'=>z01 a0 c1 g2 n t8') (fun c0_=>some (Sum.inl c0_)) (fun c0_ c1_=>some (Sum.inr (c0_,c1_))))))
  exact congrArg (fun kn_=>z0h a0 c1 g2 t8 kn_ _ _) (funext fun t8'=>ih ..)
theorem zby:LoopOne J fnTab 146 2 z6o:=lpK zik zim (fi:=fi146) (by kernel_rfl) (by kernel_rfl) (q:=fun hs=>(z23 (hN hs 0) (hI hs 1) (hI hs 2) (hLn hs 3))) (fun hs=>by kernel_rfl) fun hs h1=>Eq.trans (ze2 (hN hs 0) (hI hs 1) (hLn hs 3) big (hI hs 2)) (ze7 (hN hs 0) (hI hs 1) (hLn hs 3) _ h1)
def z2b:St:=(.mk [(x0V 0 0 a0 1),(1,(.v (.one (.fn 153 [])))),(x0I 7 c1),(x0I 8 c2)] [(x0L g3)])
def z3w(sn:Nat)(t7:Int)(b0:List Nat)(c0_:Int):St:=(.mk [(x0I 4 c0_)] [(x0L b0)])
def z3v:St:=(.mk [(x0V 0 0 a0 1),(1,(.v (.one (.fn 153 [])))),(x0I 7 c1),(x0I 8 c3),(x0B 9 e4)] [(x0L g2)])
def z4b:Option ((Int)⊕(Int×Bool))→Option (Ex×St)
 | none=>none
 | some (Sum.inl r)=>some (.ret,(z3w a0 c1 g2 r))
 | some (Sum.inr r)=>some ((.exit 0),(z3v a0 c1 g2 r.1 r.2))
def z71 (x:Option ((Int)⊕(Int×Bool))):LO:=(.two (oL x) (.one .ret (z3w a0 c1 g2 ((tL x).getD default))) (.one (.exit 0) (z3v a0 c1 g2 ((tR x).getD default).1 ((tR x).getD default).2)))
def ze6:Bool×LO:=sL (z71 a0 c1 g3) (z02 a0 c1 g3 big c2)
def z7u:Nat→St→Option (Bool×LO):=lpT 1 (pSt [(x1V 0 0 1),(pTm 1 (pV (pOne (pFn 153 [])))),(x1I 7),(x1I 8)] [x1L]) (fun hs=>ze6 (hN hs 0) (hI hs 1) (hI hs 2) (hLn hs 3))
theorem zg5:∀ x:Option ((Int)⊕(Int×Bool)),x.isSome=true→(z4b a0 c1 g2) x=some (pick (z71 a0 c1 g2 x))
 | none,h=>by cases h
 | some (Sum.inl r),_=>rfl
 | some (Sum.inr r),_=>rfl
theorem zgf (K:Ex→St→Option (Ex×St)):ev9 Γ3 146 2 1 fi146 (z2b a0 c1 c2 g3) K=z0j a0 c1 g3 c2 (fun t8'=>K .normal (z2b a0 c1 t8' g3)) (fun c0_=>K .ret (z3w a0 c1 g3 c0_)) (fun c0_ c1_=>K (.exit 0) (z3v a0 c1 g3 c0_ c1_)):=by kernel_rfl
theorem zfy:∀ (n:Nat) (t8:Int),iter 146 2 1 (ev9 Γ3 146 2 1 fi146) n (z2b a0 c1 t8 g2) (fun e st=>some (e,st))=(z4b a0 c1 g2) (z02 a0 c1 g2 n t8):=by
 intro n
 induction n with
 | zero=>intros;rfl
 | succ n ih=>
  intro t8
  refine Eq.trans (iter_succ ..) (Eq.trans (zgf ..) (Eq.trans ?_ (zcs a0 c1 g2 t8 (z4b a0 c1 g2) rfl (fun t8'=>z02 a0 c1 g2 n t8') (fun c0_=>some (Sum.inl c0_)) (fun c0_ c1_=>some (Sum.inr (c0_,c1_))))))
  exact congrArg (fun kn_=>z0j a0 c1 g2 t8 kn_ _ _) (funext fun t8'=>ih ..)
theorem zde:LoopOne J fnTab 146 2 z7u:=lpK zik zim (fi:=fi146) (by kernel_rfl) (by kernel_rfl) (q:=fun hs=>(z2b (hN hs 0) (hI hs 1) (hI hs 2) (hLn hs 3))) (fun hs=>by kernel_rfl) fun hs h1=>Eq.trans (zfy (hN hs 0) (hI hs 1) (hLn hs 3) big (hI hs 2)) (zg5 (hN hs 0) (hI hs 1) (hLn hs 3) _ h1)
def tb4:List (Nat×(List PT→Option (Bool×AV×List Blk))):=(37,zmh)::(58,z91)::(74,zni)::(75,zmg)::(164,zk9)::(169,zm4)::tb3
def lt4:List ((Nat×Nat)×(Nat→St→Option (Bool×LO))):=((77,4),zrd)::((120,5),zzo)::((146,2),z6o)::((146,2),z7u)::lt3
def Γ4:Ctx:=⟨tyTab,fnTab,tblSum tb4,tblLp lt4⟩
theorem zmv:SumL J tb4:=SumL.cons y46 (SumL.cons zpe (SumL.cons y61 (SumL.cons y57 (SumL.cons y1z (SumL.cons y4s (zik))))))
theorem zmw:LpL J fnTab lt4:=LpL.cons zyy (LpL.cons y93 (LpL.cons zby (LpL.cons zde (zim))))
def zse:Option (Nat×Nat×Nat×Nat×(List Nat)×(List Nat)×(List Nat)×(List Nat))→Option (AV×List Blk)
 | some r=>some ((.v (.agg [(.sl 0 0 r.1 1),(.sl 1 0 r.2.1 1),(.sl 2 0 r.2.2.1 1),(.sl 3 0 r.2.2.2.1 3),(.int .i64 c0),(.flt .f32 a1),(.flt .f32 a2)])),[(.mk true (.fl .f32 r.2.2.2.2.1)),(.mk true (.fl .f32 r.2.2.2.2.2.1)),(.mk true (.fl .f32 r.2.2.2.2.2.2.1)),(.mk true (.fl .f32 r.2.2.2.2.2.2.2))])
 | none=>none
def zs2:List PT→Option (Bool×AV×List Blk)
 | [.agg [.row 1 q0t (.fl .f32 q19),.row 1 q0v (.fl .f32 q1b),.row 1 q0u (.fl .f32 q1c),.row 3 q1n (.fl .f32 q1u),.s (.int .i64 q24),.s (.flt .f32 q2f),.s (.flt .f32 q2g)]]=>sF (zse q24 q2f q2g) (z2a q0t q19 q0v q1b q0u q1c q1n q1u q24 q2f q2g)
 | _=>none
theorem ygc:ev8 Γ4 34 [.agg [.row 1 a0 (.fl .f32 g1),.row 1 a2 (.fl .f32 g3),.row 1 a4 (.fl .f32 g5),.row 3 a6 (.fl .f32 g7),.s (.int .i64 c8),.s (.flt .f32 a9),.s (.flt .f32 a10)]]=(zse c8 a9 a10) (z2a a0 g1 a2 g3 a4 g5 a6 g7 c8 a9 a10):=tr2 (y8t a0 g1 a2 g3 a4 g5 a6 g7 c8 a9 a10 (zse c8 a9 a10) rfl (fun c0_ c1_ c2_ c3_ c4_ c5_ c6_ c7_=>some (c0_,c1_,c2_,c3_,c4_,c5_,c6_,c7_))) (by kernel_rfl)
theorem y9u:SumOne J 34 zs2:=mkT zmv zmw fun pts v news hp=>by
 unfold zs2 at hp
 split at hp
 ·exact fin3 (ygc ..) hp
 ·cases hp
def znn  : Option (Bool)→Option (AV×List Blk)
 | some r=>some ((.v (.one (.bool r))),[])
 | none=>none
def zoo:List PT→Option (Bool×AV×List Blk)
 | [.agg [.row 1 q1q (.fl .f32 q22),.row 1 q1v (.fl .f32 q25),.row 1 q1w (.fl .f32 q27)],.agg [.row 1 q3f (.fl .f32 q3k),.row 1 q3j (.fl .f32 q3n),.row 1 q3i (.fl .f32 q3p)]]=>sF znn (z78 q1q q22 q1v q25 q1w q27 q3f q3k q3j q3n q3i q3p)
 | _=>none
theorem ydg:ev8 Γ4 76 [.agg [.row 1 a0 (.fl .f32 g1),.row 1 a2 (.fl .f32 g3),.row 1 a4 (.fl .f32 g5)],.agg [.row 1 a6 (.fl .f32 g7),.row 1 a8 (.fl .f32 g9),.row 1 a10 (.fl .f32 g11)]]=znn (z78 a0 g1 a2 g3 a4 g5 a6 g7 a8 g9 a10 g11):=tr2 (y4r a0 g1 a2 g3 a4 g5 a6 g7 a8 g9 a10 g11 znn rfl (fun c0_=>some c0_)) (by kernel_rfl)
theorem y65:SumOne J 76 zoo:=mkT zmv zmw fun pts v news hp=>by
 unfold zoo at hp
 split at hp
 ·exact fin3 (ydg ..) hp
 ·cases hp
def zlx  : Option (Bool)→Option (AV×List Blk)
 | some r=>some ((.v (.one (.bool r))),[])
 | none=>none
def zm1:List PT→Option (Bool×AV×List Blk)
 | [.one (.row 3 a_n (.fl .f32 a)),.one (.row 3 b_n (.fl .f32 b))]=>sF zlx (z68 a_n a b_n b)
 | _=>none
theorem yab:ev8 Γ4 77 [.one (.row 3 a0 (.fl .f32 g1)),.one (.row 3 a2 (.fl .f32 g3))]=zlx (z68 a0 g1 a2 g3):=tr2 (y2v a0 g1 a2 g3 zlx rfl (fun c0_=>some c0_)) (by kernel_rfl)
theorem y3i:SumOne J 77 zm1:=mkT zmv zmw fun pts v news hp=>by
 unfold zm1 at hp
 split at hp
 ·exact fin3 (yab ..) hp
 ·cases hp
def zy1  : Option (Bool)→Option (AV×List Blk)
 | some r=>some ((.v (.one (.bool r))),[])
 | none=>none
def zxl:List PT→Option (Bool×AV×List Blk)
 | [.ptr [.row 1 q0k (.fl .f32 q0o),.row 1 q14 (.fl .f32 q1h),.row 1 q15 (.fl .f32 q1i)]]=>sF zy1 (zbi q0k q0o q14 q1h q15 q1i)
 | _=>none
theorem yhq:ev8 Γ4 120 [.ptr [.row 1 a0 (.fl .f32 g1),.row 1 a2 (.fl .f32 g3),.row 1 a4 (.fl .f32 g5)]]=zy1 (zbi a0 g1 a2 g3 a4 g5):=tr2 (ycv a0 g1 a2 g3 a4 g5 zy1 rfl (fun c0_=>some c0_)) (by kernel_rfl)
theorem ydt:SumOne J 120 zxl:=mkT zmv zmw fun pts v news hp=>by
 unfold zxl at hp
 split at hp
 ·exact fin3 (yhq ..) hp
 ·cases hp
def z4m  : Option (Int)→Option (AV×List Blk)
 | some r=>some ((.v (.one (.int .i64 r))),[])
 | none=>none
def z4i:List PT→Option (Bool×AV×List Blk)
 | [.one (.row 1 s_n (.fl .f32 s)),.fn 115 []]=>sF z4m (z11 s_n s)
 | _=>none
theorem zgt:ev8 Γ4 146 [.one (.row 1 a0 (.fl .f32 g1)),.fn 115 []]=z4m (z11 a0 g1):=tr2 (zdh a0 g1 z4m rfl (fun c0_=>some c0_)) (by kernel_rfl)
theorem zea:SumOne J 146 z4i:=mkT zmv zmw fun pts v news hp=>by
 unfold z4i at hp
 split at hp
 ·exact fin3 (zgt ..) hp
 ·cases hp
def z4w  : Option (Int)→Option (AV×List Blk)
 | some r=>some ((.v (.one (.int .i64 r))),[])
 | none=>none
def z4u:List PT→Option (Bool×AV×List Blk)
 | [.one (.row 1 s_n (.fl .f32 s)),.fn 153 []]=>sF z4w (z14 s_n s)
 | _=>none
theorem zih:ev8 Γ4 146 [.one (.row 1 a0 (.fl .f32 g1)),.fn 153 []]=z4w (z14 a0 g1):=tr2 (zeh a0 g1 z4w rfl (fun c0_=>some c0_)) (by kernel_rfl)
theorem zfu:SumOne J 146 z4u:=mkT zmv zmw fun pts v news hp=>by
 unfold z4u at hp
 split at hp
 ·exact fin3 (zih ..) hp
 ·cases hp
def zt3  : Option (Nat)→Option (AV×List Blk)
 | some r=>some ((.v (.one (.flt .f32 r))),[])
 | none=>none
def zst:List PT→Option (Bool×AV×List Blk)
 | [.one (.s (.flt .f32 x))]=>sF zt3 (z7y x)
 | _=>none
theorem yff:ev8 Γ4 148 [.one (.s (.flt .f32 a0))]=zt3 (z7y a0):=tr2 (y8l a0 zt3 rfl (fun c0_=>some c0_)) (by kernel_rfl)
theorem y9w:SumOne J 148 zst:=mkT zmv zmw fun pts v news hp=>by
 unfold zst at hp
 split at hp
 ·exact fin3 (yff ..) hp
 ·cases hp
def z2h:St:=(.mk [(x0V 0 0 a0 1),(1,(.v (.one (.fn 154 [])))),(x0I 7 c1),(x0I 8 c2)] [(x0L g3)])
def z4f(sn:Nat)(t7:Int)(b0:List Nat)(c0_:Int):St:=(.mk [(x0I 4 c0_)] [(x0L b0)])
def z4e:St:=(.mk [(x0V 0 0 a0 1),(1,(.v (.one (.fn 154 [])))),(x0I 7 c1),(x0I 8 c3),(x0B 9 e4)] [(x0L g2)])
def z4j:Option ((Int)⊕(Int×Bool))→Option (Ex×St)
 | none=>none
 | some (Sum.inl r)=>some (.ret,(z4f a0 c1 g2 r))
 | some (Sum.inr r)=>some ((.exit 0),(z4e a0 c1 g2 r.1 r.2))
def z7k (x:Option ((Int)⊕(Int×Bool))):LO:=(.two (oL x) (.one .ret (z4f a0 c1 g2 ((tL x).getD default))) (.one (.exit 0) (z4e a0 c1 g2 ((tR x).getD default).1 ((tR x).getD default).2)))
def zel:Bool×LO:=sL (z7k a0 c1 g3) (z03 a0 c1 g3 big c2)
def z85:Nat→St→Option (Bool×LO):=lpT 1 (pSt [(x1V 0 0 1),(pTm 1 (pV (pOne (pFn 154 [])))),(x1I 7),(x1I 8)] [x1L]) (fun hs=>zel (hN hs 0) (hI hs 1) (hI hs 2) (hLn hs 3))
theorem zgu:∀ x:Option ((Int)⊕(Int×Bool)),x.isSome=true→(z4j a0 c1 g2) x=some (pick (z7k a0 c1 g2 x))
 | none,h=>by cases h
 | some (Sum.inl r),_=>rfl
 | some (Sum.inr r),_=>rfl
theorem zgm (K:Ex→St→Option (Ex×St)):ev9 Γ4 146 2 1 fi146 (z2h a0 c1 c2 g3) K=z0k a0 c1 g3 c2 (fun t8'=>K .normal (z2h a0 c1 t8' g3)) (fun c0_=>K .ret (z4f a0 c1 g3 c0_)) (fun c0_ c1_=>K (.exit 0) (z4e a0 c1 g3 c0_ c1_)):=by kernel_rfl
theorem zgv:∀ (n:Nat) (t8:Int),iter 146 2 1 (ev9 Γ4 146 2 1 fi146) n (z2h a0 c1 t8 g2) (fun e st=>some (e,st))=(z4j a0 c1 g2) (z03 a0 c1 g2 n t8):=by
 intro n
 induction n with
 | zero=>intros;rfl
 | succ n ih=>
  intro t8
  refine Eq.trans (iter_succ ..) (Eq.trans (zgm ..) (Eq.trans ?_ (zdi a0 c1 g2 t8 (z4j a0 c1 g2) rfl (fun t8'=>z03 a0 c1 g2 n t8') (fun c0_=>some (Sum.inl c0_)) (fun c0_ c1_=>some (Sum.inr (c0_,c1_))))))
  exact congrArg (fun kn_=>z0k a0 c1 g2 t8 kn_ _ _) (funext fun t8'=>ih ..)
theorem zdz:LoopOne J fnTab 146 2 z85:=lpK zmv zmw (fi:=fi146) (by kernel_rfl) (by kernel_rfl) (q:=fun hs=>(z2h (hN hs 0) (hI hs 1) (hI hs 2) (hLn hs 3))) (fun hs=>by kernel_rfl) fun hs h1=>Eq.trans (zgv (hN hs 0) (hI hs 1) (hLn hs 3) big (hI hs 2)) (zgu (hN hs 0) (hI hs 1) (hLn hs 3) _ h1)
def tb5:List (Nat×(List PT→Option (Bool×AV×List Blk))):=(34,zs2)::(76,zoo)::(77,zm1)::(120,zxl)::(146,z4i)::(146,z4u)::(148,zst)::tb4
def lt5:List ((Nat×Nat)×(Nat→St→Option (Bool×LO))):=((146,2),z85)::lt4
def Γ5:Ctx:=⟨tyTab,fnTab,tblSum tb5,tblLp lt5⟩
theorem y24:SumL J tb5:=SumL.cons y9u (SumL.cons y65 (SumL.cons y3i (SumL.cons ydt (SumL.cons zea (SumL.cons zfu (SumL.cons y9w (zmv)))))))
theorem y3a:LpL J fnTab lt5:=LpL.cons zdz (zmw)
def zsp  : Option (Bool)→Option (AV×List Blk)
 | some r=>some ((.v (.one (.bool r))),[])
 | none=>none
def zsu:List PT→Option (Bool×AV×List Blk)
 | [.agg [.row 1 q0t (.fl .f32 q19),.row 1 q0v (.fl .f32 q1b),.row 1 q0u (.fl .f32 q1c),.row 3 q1n (.fl .f32 q1u),.s (.int .i64 q24),.s (.flt .f32 q2f),.s (.flt .f32 q2g)],.agg [.row 1 q2o (.fl .f32 q2y),.row 1 q2q (.fl .f32 q33),.row 1 q2r (.fl .f32 q34),.row 3 q37 (.fl .f32 q3h),.s (.int .i64 q3q),.s (.flt .f32 q3s),.s (.flt .f32 q3r)]]=>sF zsp (z9c q0t q19 q0v q1b q0u q1c q1n q1u q24 q2f q2g q2o q2y q2q q33 q2r q34 q37 q3h q3q q3s q3r)
 | _=>none
theorem yfz:ev8 Γ5 36 [.agg [.row 1 a0 (.fl .f32 g1),.row 1 a2 (.fl .f32 g3),.row 1 a4 (.fl .f32 g5),.row 3 a6 (.fl .f32 g7),.s (.int .i64 c8),.s (.flt .f32 a9),.s (.flt .f32 a10)],.agg [.row 1 a11 (.fl .f32 g12),.row 1 a13 (.fl .f32 g14),.row 1 a15 (.fl .f32 g16),.row 3 a17 (.fl .f32 g18),.s (.int .i64 c19),.s (.flt .f32 a20),.s (.flt .f32 a21)]]=zsp (z9c a0 g1 a2 g3 a4 g5 a6 g7 c8 a9 a10 a11 g12 a13 g14 a15 g16 a17 g18 c19 a20 a21):=tr2 (y8b a0 g1 a2 g3 a4 g5 a6 g7 c8 a9 a10 a11 g12 a13 g14 a15 g16 a17 g18 c19 a20 a21 zsp rfl (fun c0_=>some c0_)) (by kernel_rfl)
theorem ybb:SumOne J 36 zsu:=mkT y24 y3a fun pts v news hp=>by
 unfold zsu at hp
 split at hp
 ·exact fin3 (yfz ..) hp
 ·cases hp
def z57  : Option (Int)→Option (AV×List Blk)
 | some r=>some ((.v (.one (.int .i64 r))),[])
 | none=>none
def z55:List PT→Option (Bool×AV×List Blk)
 | [.one (.row 1 s_n (.fl .f32 s)),.fn 154 []]=>sF z57 (z17 s_n s)
 | _=>none
theorem zj8:ev8 Γ5 146 [.one (.row 1 a0 (.fl .f32 g1)),.fn 154 []]=z57 (z17 a0 g1):=tr2 (zge a0 g1 z57 rfl (fun c0_=>some c0_)) (by kernel_rfl)
theorem zgq:SumOne J 146 z55:=mkT y24 y3a fun pts v news hp=>by
 unfold z55 at hp
 split at hp
 ·exact fin3 (zj8 ..) hp
 ·cases hp
def zwr  : Option (Nat)→Option (AV×List Blk)
 | some r=>some ((.v (.one (.flt .f64 r))),[])
 | none=>none
def zxj:List PT→Option (Bool×AV×List Blk)
 | [.one (.s (.flt .f64 x))]=>sF zwr (zbo x)
 | _=>none
theorem yhs:ev8 Γ5 175 [.one (.s (.flt .f64 a0))]=zwr (zbo a0):=tr2 (ycu a0 zwr rfl (fun c0_=>some c0_)) (by kernel_rfl)
theorem ye1:SumOne J 175 zxj:=mkT y24 y3a fun pts v news hp=>by
 unfold zxj at hp
 split at hp
 ·exact fin3 (yhs ..) hp
 ·cases hp
def zkq:St:=(.mk [(x0B 4 e0),(5,(.v (.one (.flt .f64 a1)))),(6,(.v (.one (.flt .f64 a2)))),(7,(.v (.one (.flt .f64 a3)))),(8,(.v (.one (.flt .f64 a4))))] [])
def zpp:St:=(.mk [(x0B 4 e0),(5,(.v (.one (.flt .f64 a1)))),(6,(.v (.one (.flt .f64 a2)))),(7,(.v (.one (.flt .f64 a3)))),(8,(.v (.one (.flt .f64 a4)))),(x0B 25 e5)] [])
def zt8:Option ((Nat×Nat×Bool))→Option (Ex×St)
 | none=>none
 | some r=>some ((.exit 0),(zpp e0 a1 a2 r.1 r.2.1 r.2.2))
def y01 (x:Option ((Nat×Nat×Bool))):LO:=(.one (.exit 0) (zpp e0 a1 a2 (x.getD default).1 (x.getD default).2.1 (x.getD default).2.2))
def ycw:Bool×LO:=sL (y01 e0 a1 a2) (z2c a2 big a3 a4)
def y1x:Nat→St→Option (Bool×LO):=lpT 0 (pSt [(x1B 4),(pTm 5 (pV (pOne (pFlt .f64)))),(pTm 6 (pV (pOne (pFlt .f64)))),(pTm 7 (pV (pOne (pFlt .f64)))),(pTm 8 (pV (pOne (pFlt .f64))))] []) (fun hs=>ycw (hB hs 0) (hN hs 1) (hN hs 2) (hN hs 3) (hN hs 4))
theorem yeq:∀ x:Option ((Nat×Nat×Bool)),x.isSome=true→(zt8 e0 a1 a2) x=some (pick (y01 e0 a1 a2 x))
 | none,h=>by cases h
 | some r,_=>rfl
theorem yeu (K:Ex→St→Option (Ex×St)):ev9 Γ5 160 9 0 fi160 (zkq e0 a1 a2 a3 a4) K=z5z a2 a3 a4 (fun p' k'=>K .normal (zkq e0 a1 a2 p' k')) (fun c0_ c1_ c2_=>K (.exit 0) (zpp e0 a1 a2 c0_ c1_ c2_)):=by kernel_rfl
theorem ygg:∀ (n p k:Nat),iter 160 9 0 (ev9 Γ5 160 9 0 fi160) n (zkq e0 a1 a2 p k) (fun e st=>some (e,st))=(zt8 e0 a1 a2) (z2c a2 n p k):=by
 intro n
 induction n with
 | zero=>intros;rfl
 | succ n ih=>
  intro p k
  refine Eq.trans (iter_succ ..) (Eq.trans (yeu ..) (Eq.trans ?_ (y8e a2 p k (zt8 e0 a1 a2) rfl (fun p' k'=>z2c a2 n p' k') (fun c0_ c1_ c2_=>some (c0_,c1_,c2_)))))
  exact congrArg (fun kn_=>z5z a2 p k kn_ _) (funext fun p'=>funext fun k'=>ih ..)
theorem ybe:LoopOne J fnTab 160 9 y1x:=lpK y24 y3a (fi:=fi160) (by kernel_rfl) (by kernel_rfl) (q:=fun hs=>(zkq (hB hs 0) (hN hs 1) (hN hs 2) (hN hs 3) (hN hs 4))) (fun hs=>by kernel_rfl) fun hs h1=>Eq.trans (ygg (hB hs 0) (hN hs 1) (hN hs 2) big (hN hs 3) (hN hs 4)) (yeq (hB hs 0) (hN hs 1) (hN hs 2) _ h1)
def tb6:List (Nat×(List PT→Option (Bool×AV×List Blk))):=(36,zsu)::(146,z55)::(175,zxj)::tb5
def lt6:List ((Nat×Nat)×(Nat→St→Option (Bool×LO))):=((160,9),y1x)::lt5
def Γ6:Ctx:=⟨tyTab,fnTab,tblSum tb6,tblLp lt6⟩
theorem zr5:SumL J tb6:=SumL.cons ybb (SumL.cons zgq (SumL.cons ye1 (y24)))
theorem zrh:LpL J fnTab lt6:=LpL.cons ybe (y3a)
def z3k  : Option (Bool)→Option (AV×List Blk)
 | some r=>some ((.v (.one (.bool r))),[])
 | none=>none
def z3n:List PT→Option (Bool×AV×List Blk)
 | [.one (.row 1 s_n (.fl .f32 s)),.fn 115 []]=>sF z3k (z0r s_n s)
 | _=>none
theorem ze9:ev8 Γ6 114 [.one (.row 1 a0 (.fl .f32 g1)),.fn 115 []]=z3k (z0r a0 g1):=tr2 (zba a0 g1 z3k rfl (fun c0_=>some c0_)) (by kernel_rfl)
theorem zc4:SumOne J 114 z3n:=mkT zr5 zrh fun pts v news hp=>by
 unfold z3n at hp
 split at hp
 ·exact fin3 (ze9 ..) hp
 ·cases hp
def z4a  : Option (Bool)→Option (AV×List Blk)
 | some r=>some ((.v (.one (.bool r))),[])
 | none=>none
def z47:List PT→Option (Bool×AV×List Blk)
 | [.one (.row 1 s_n (.fl .f32 s)),.fn 153 []]=>sF z4a (z0x s_n s)
 | _=>none
theorem zg7:ev8 Γ6 114 [.one (.row 1 a0 (.fl .f32 g1)),.fn 153 []]=z4a (z0x a0 g1):=tr2 (zcb a0 g1 z4a rfl (fun c0_=>some c0_)) (by kernel_rfl)
theorem zdf:SumOne J 114 z47:=mkT zr5 zrh fun pts v news hp=>by
 unfold z47 at hp
 split at hp
 ·exact fin3 (zg7 ..) hp
 ·cases hp
def z4g  : Option (Bool)→Option (AV×List Blk)
 | some r=>some ((.v (.one (.bool r))),[])
 | none=>none
def z4n:List PT→Option (Bool×AV×List Blk)
 | [.one (.row 1 s_n (.fl .f32 s)),.fn 154 []]=>sF z4g (z10 s_n s)
 | _=>none
theorem zgo:ev8 Γ6 114 [.one (.row 1 a0 (.fl .f32 g1)),.fn 154 []]=z4g (z10 a0 g1):=tr2 (zd0 a0 g1 z4g rfl (fun c0_=>some c0_)) (by kernel_rfl)
theorem zef:SumOne J 114 z4n:=mkT zr5 zrh fun pts v news hp=>by
 unfold z4n at hp
 split at hp
 ·exact fin3 (zgo ..) hp
 ·cases hp
def y03  : Option (Nat)→Option (AV×List Blk)
 | some r=>some ((.v (.one (.flt .f64 r))),[])
 | none=>none
def y05:List PT→Option (Bool×AV×List Blk)
 | [.one (.s (.flt .f64 q2x))]=>sF y03 (zdx q2x)
 | _=>none
theorem yi7:ev8 Γ6 160 [.one (.s (.flt .f64 a0))]=y03 (zdx a0):=tr2 (ye5 a0 y03 rfl (fun c0_=>some c0_)) (by kernel_rfl)
theorem yer:SumOne J 160 y05:=mkT zr5 zrh fun pts v news hp=>by
 unfold y05 at hp
 split at hp
 ·exact fin3 (yi7 ..) hp
 ·cases hp
def znf  : Option (Nat)→Option (AV×List Blk)
 | some r=>some ((.v (.one (.flt .f32 r))),[])
 | none=>none
def zo8:List PT→Option (Bool×AV×List Blk)
 | [.one (.s (.flt .f32 x))]=>sF znf (z7h x)
 | _=>none
theorem ycx:ev8 Γ6 170 [.one (.s (.flt .f32 a0))]=znf (z7h a0):=tr2 (y5c a0 znf rfl (fun c0_=>some c0_)) (by kernel_rfl)
theorem y7k:SumOne J 170 zo8:=mkT zr5 zrh fun pts v news hp=>by
 unfold zo8 at hp
 split at hp
 ·exact fin3 (ycx ..) hp
 ·cases hp
def zsr  : Option (Nat)→Option (AV×List Blk)
 | some r=>some ((.v (.one (.flt .f32 r))),[])
 | none=>none
def zt5:List PT→Option (Bool×AV×List Blk)
 | [.one (.s (.flt .f32 x))]=>sF zsr (z90 x)
 | _=>none
theorem yet:ev8 Γ6 181 [.one (.s (.flt .f32 a0))]=zsr (z90 a0):=tr2 (y7v a0 zsr rfl (fun c0_=>some c0_)) (by kernel_rfl)
theorem yaq:SumOne J 181 zt5:=mkT zr5 zrh fun pts v news hp=>by
 unfold zt5 at hp
 split at hp
 ·exact fin3 (yet ..) hp
 ·cases hp
def zjd:St:=(.mk [(x0P 0 4 7),(x0F 4 a0),(x0I 57 c1),(x0I 58 c2)] [(x0L g3),(x0L g4),(x0L g5),(x0L g6),(x0R false 0 1 2 3 a7 a8 a9 a10 c11 a12 a13)])
def znm(t57:Int)(b0 b1 b2 b3:List Nat)(q0w q0x q0y q0r:Nat)(q1f:Int)(q1g q0z:Nat):St:=(.mk [(x0B 2 false)] [(x0L b0),(x0L b1),(x0L b2),(x0L b3),(x0R false 0 1 2 3 q0w q0x q0y q0r q1f q1g q0z)])
def zov:St:=(.mk [(x0P 0 4 7),(x0F 4 a12),(x0I 57 c0),(x0I 58 c13),(x0B 59 e14)] [(x0L g1),(x0L g2),(x0L g3),(x0L g4),(x0R false 0 1 2 3 a5 a6 a7 a8 c9 a10 a11)])
def zre:Option ((Unit)⊕(Nat×Int×Bool))→Option (Ex×St)
 | none=>none
 | some (Sum.inl r)=>some (.ret,(znm c0 g1 g2 g3 g4 a5 a6 a7 a8 c9 a10 a11))
 | some (Sum.inr r)=>some ((.exit 0),(zov c0 g1 g2 g3 g4 a5 a6 a7 a8 c9 a10 a11 r.1 r.2.1 r.2.2))
def zwo (x:Option ((Unit)⊕(Nat×Int×Bool))):LO:=(.two (oL x) (.one .ret (znm c0 g1 g2 g3 g4 a5 a6 a7 a8 c9 a10 a11)) (.one (.exit 0) (zov c0 g1 g2 g3 g4 a5 a6 a7 a8 c9 a10 a11 ((tR x).getD default).1 ((tR x).getD default).2.1 ((tR x).getD default).2.2)))
def ybg:Bool×LO:=sL (zwo c1 g3 g4 g5 g6 a7 a8 a9 a10 c11 a12 a13) (z1f c1 g6 a10 a13 big a0 c2)
def zzt:Nat→St→Option (Bool×LO):=lpT 5 (pSt [(x1P 0 4 7),(x1F 4),(x1I 57),(x1I 58)] [x1L,x1L,x1L,x1L,(x1R false 0 1 2 3)]) (fun hs=>ybg (hN hs 0) (hI hs 1) (hI hs 2) (hLn hs 3) (hLn hs 4) (hLn hs 5) (hLn hs 6) (hN hs 7) (hN hs 8) (hN hs 9) (hN hs 10) (hI hs 11) (hN hs 12) (hN hs 13))
theorem yeb:∀ x:Option ((Unit)⊕(Nat×Int×Bool)),x.isSome=true→(zre c0 g1 g2 g3 g4 a5 a6 a7 a8 c9 a10 a11) x=some (pick (zwo c0 g1 g2 g3 g4 a5 a6 a7 a8 c9 a10 a11 x))
 | none,h=>by cases h
 | some (Sum.inl r),_=>rfl
 | some (Sum.inr r),_=>rfl
theorem yef (K:Ex→St→Option (Ex×St)):ev9 Γ6 82 6 5 fi82 (zjd a0 c1 c2 g3 g4 g5 g6 a7 a8 a9 a10 c11 a12 a13) K=z5b c1 g6 a10 a13 a0 c2 (fun t4' t58'=>K .normal (zjd t4' c1 t58' g3 g4 g5 g6 a7 a8 a9 a10 c11 a12 a13)) (fun _=>K .ret (znm c1 g3 g4 g5 g6 a7 a8 a9 a10 c11 a12 a13)) (fun c0_ c1_ c2_=>K (.exit 0) (zov c1 g3 g4 g5 g6 a7 a8 a9 a10 c11 a12 a13 c0_ c1_ c2_)):=by kernel_rfl
theorem ydo:∀ (n t4:Nat) (t58:Int),iter 82 6 5 (ev9 Γ6 82 6 5 fi82) n (zjd t4 c0 t58 g1 g2 g3 g4 a5 a6 a7 a8 c9 a10 a11) (fun e st=>some (e,st))=(zre c0 g1 g2 g3 g4 a5 a6 a7 a8 c9 a10 a11) (z1f c0 g4 a8 a11 n t4 t58):=by
 intro n
 induction n with
 | zero=>intros;rfl
 | succ n ih=>
  intro t4 t58
  refine Eq.trans (iter_succ ..) (Eq.trans (yef ..) (Eq.trans ?_ (y6q c0 g4 a8 a11 t4 t58 (zre c0 g1 g2 g3 g4 a5 a6 a7 a8 c9 a10 a11) rfl (fun t4' t58'=>z1f c0 g4 a8 a11 n t4' t58') (fun _=>some (Sum.inl ())) (fun c0_ c1_ c2_=>some (Sum.inr (c0_,c1_,c2_))))))
  exact congrArg (fun kn_=>z5b c0 g4 a8 a11 t4 t58 kn_ _ _) (funext fun t4'=>funext fun t58'=>ih ..)
theorem y8x:LoopOne J fnTab 82 6 zzt:=lpK zr5 zrh (fi:=fi82) (by kernel_rfl) (by kernel_rfl) (q:=fun hs=>(zjd (hN hs 0) (hI hs 1) (hI hs 2) (hLn hs 3) (hLn hs 4) (hLn hs 5) (hLn hs 6) (hN hs 7) (hN hs 8) (hN hs 9) (hN hs 10) (hI hs 11) (hN hs 12) (hN hs 13))) (fun hs=>by kernel_rfl) fun hs h1=>Eq.trans (ydo (hI hs 1) (hLn hs 3) (hLn hs 4) (hLn hs 5) (hLn hs 6) (hN hs 7) (hN hs 8) (hN hs 9) (hN hs 10) (hI hs 11) (hN hs 12) (hN hs 13) big (hN hs 0) (hI hs 2)) (yeb (hI hs 1) (hLn hs 3) (hLn hs 4) (hLn hs 5) (hLn hs 6) (hN hs 7) (hN hs 8) (hN hs 9) (hN hs 10) (hI hs 11) (hN hs 12) (hN hs 13) _ h1)
def tb7:List (Nat×(List PT→Option (Bool×AV×List Blk))):=(114,z3n)::(114,z47)::(114,z4n)::(160,y05)::(170,zo8)::(181,zt5)::tb6
def lt7:List ((Nat×Nat)×(Nat→St→Option (Bool×LO))):=((82,6),zzt)::lt6
def Γ7:Ctx:=⟨tyTab,fnTab,tblSum tb7,tblLp lt7⟩
theorem zxy:SumL J tb7:=SumL.cons zc4 (SumL.cons zdf (SumL.cons zef (SumL.cons yer (SumL.cons y7k (SumL.cons yaq (zr5))))))
theorem zx0:LpL J fnTab lt7:=LpL.cons y8x (zrh)
def zkh  : Option (Bool)→Option (AV×List Blk)
 | some r=>some ((.v (.one (.bool r))),[])
 | none=>none
def zk8:List PT→Option (Bool×AV×List Blk)
 | [.one (.row 1 q1r (.fl .f32 q23))]=>sF zkh (z24 q1r q23)
 | _=>none
theorem y81:ev8 Γ7 64 [.one (.row 1 a0 (.fl .f32 g1))]=zkh (z24 a0 g1):=tr2 (y08 a0 g1 zkh rfl (fun c0_=>some c0_)) (by kernel_rfl)
theorem y2l:SumOne J 64 zk8:=mkT zxy zx0 fun pts v news hp=>by
 unfold zk8 at hp
 split at hp
 ·exact fin3 (y81 ..) hp
 ·cases hp
def zxk  : Option (Bool)→Option (AV×List Blk)
 | some r=>some ((.v (.one (.bool r))),[])
 | none=>none
def zxz:List PT→Option (Bool×AV×List Blk)
 | [.ptr [.row 1 q04 (.fl .f32 q0a),.row 1 q08 (.fl .f32 q0b),.row 1 q07 (.fl .f32 q0c),.row 3 q0d (.fl .f32 q0f),.s (.int .i64 q0g),.s (.flt .f32 q0i),.s (.flt .f32 q0j)]]=>sF zxk (zb4 q04 q0a q08 q0b q07 q0c q0d q0f q0g q0i q0j)
 | _=>none
theorem yht:ev8 Γ7 82 [.ptr [.row 1 a0 (.fl .f32 g1),.row 1 a2 (.fl .f32 g3),.row 1 a4 (.fl .f32 g5),.row 3 a6 (.fl .f32 g7),.s (.int .i64 c8),.s (.flt .f32 a9),.s (.flt .f32 a10)]]=zxk (zb4 a0 g1 a2 g3 a4 g5 a6 g7 c8 a9 a10):=tr2 (yco a0 g1 a2 g3 a4 g5 a6 g7 c8 a9 a10 zxk rfl (fun c0_=>some c0_)) (by kernel_rfl)
theorem ydu:SumOne J 82 zxz:=mkT zxy zx0 fun pts v news hp=>by
 unfold zxz at hp
 split at hp
 ·exact fin3 (yht ..) hp
 ·cases hp
def zog  : Option (Bool)→Option (AV×List Blk)
 | some r=>some ((.v (.one (.bool r))),[])
 | none=>none
def zof:List PT→Option (Bool×AV×List Blk)
 | [.one (.row 1 q1r (.fl .f32 q23))]=>sF zog (z5j q1r q23)
 | _=>none
theorem ydc:ev8 Γ7 132 [.one (.row 1 a0 (.fl .f32 g1))]=zog (z5j a0 g1):=tr2 (y4u a0 g1 zog rfl (fun c0_=>some c0_)) (by kernel_rfl)
theorem y6g:SumOne J 132 zof:=mkT zxy zx0 fun pts v news hp=>by
 unfold zof at hp
 split at hp
 ·exact fin3 (ydc ..) hp
 ·cases hp
def zpv  : Option (Bool)→Option (AV×List Blk)
 | some r=>some ((.v (.one (.bool r))),[])
 | none=>none
def zr4:List PT→Option (Bool×AV×List Blk)
 | [.one (.row 1 q1r (.fl .f32 q23))]=>sF zpv (z8c q1r q23)
 | _=>none
theorem ydw:ev8 Γ7 133 [.one (.row 1 a0 (.fl .f32 g1))]=zpv (z8c a0 g1):=tr2 (y67 a0 g1 zpv rfl (fun c0_=>some c0_)) (by kernel_rfl)
theorem y9c:SumOne J 133 zr4:=mkT zxy zx0 fun pts v news hp=>by
 unfold zr4 at hp
 split at hp
 ·exact fin3 (ydw ..) hp
 ·cases hp
def zns  : Option (Nat)→Option (AV×List Blk)
 | some r=>some ((.v (.one (.flt .f32 r))),[])
 | none=>none
def zoq:List PT→Option (Bool×AV×List Blk)
 | [.one (.s (.flt .f32 x))]=>sF zns (z7e x)
 | _=>none
theorem yc9:ev8 Γ7 141 [.one (.s (.flt .f32 a0))]=zns (z7e a0):=tr2 (y3k a0 zns rfl (fun c0_=>some c0_)) (by kernel_rfl)
theorem y6u:SumOne J 141 zoq:=mkT zxy zx0 fun pts v news hp=>by
 unfold zoq at hp
 split at hp
 ·exact fin3 (yc9 ..) hp
 ·cases hp
def tb8:List (Nat×(List PT→Option (Bool×AV×List Blk))):=(64,zk8)::(82,zxz)::(132,zof)::(133,zr4)::(141,zoq)::tb7
def lt8:List ((Nat×Nat)×(Nat→St→Option (Bool×LO))):=lt7
def Γ8:Ctx:=⟨tyTab,fnTab,tblSum tb8,tblLp lt8⟩
theorem zx3:SumL J tb8:=SumL.cons y2l (SumL.cons ydu (SumL.cons y6g (SumL.cons y9c (SumL.cons y6u (zxy)))))
theorem zyk:LpL J fnTab lt8:=zx0
def zlv  : Option (Nat×Nat×Bool)→Option (AV×List Blk)
 | some r=>some ((.tup [(.one (.flt .f32 r.1)),(.one (.flt .f32 r.2.1)),(.one (.bool r.2.2))]),[])
 | none=>none
def zmn:List PT→Option (Bool×AV×List Blk)
 | [.one (.s (.flt .f32 x)),.one (.s (.flt .f32 y))]=>sF zlv (z3y x y)
 | _=>none
theorem ybl:ev8 Γ8 107 [.one (.s (.flt .f32 a0)),.one (.s (.flt .f32 a1))]=zlv (z3y a0 a1):=tr2 (y2t a0 a1 zlv rfl (fun c0_ c1_ c2_=>some (c0_,c1_,c2_))) (by kernel_rfl)
theorem y5m:SumOne J 107 zmn:=mkT zx3 zyk fun pts v news hp=>by
 unfold zmn at hp
 split at hp
 ·exact fin3 (ybl ..) hp
 ·cases hp
def zmc  : Option (Bool)→Option (AV×List Blk)
 | some r=>some ((.v (.one (.bool r))),[])
 | none=>none
def zmf:List PT→Option (Bool×AV×List Blk)
 | [.ptr [.row 1 q00 (.fl .f32 q03),.row 1 q02 (.fl .f32 q06),.row 1 q01 (.fl .f32 q05),.row 3 q09 (.fl .f32 q0e),.s (.int .i64 q0h),.s (.flt .f32 q0n),.s (.flt .f32 q0m)],.one (.s (.int .i64 i))]=>sF zmc (z6e q00 q03 q02 q06 q01 q05 q09 q0e q0h q0n q0m i)
 | _=>none
theorem yau:ev8 Γ8 127 [.ptr [.row 1 a0 (.fl .f32 g1),.row 1 a2 (.fl .f32 g3),.row 1 a4 (.fl .f32 g5),.row 3 a6 (.fl .f32 g7),.s (.int .i64 c8),.s (.flt .f32 a9),.s (.flt .f32 a10)],.one (.s (.int .i64 c11))]=zmc (z6e a0 g1 a2 g3 a4 g5 a6 g7 c8 a9 a10 c11):=tr2 (y3c a0 g1 a2 g3 a4 g5 a6 g7 c8 a9 a10 c11 zmc rfl (fun c0_=>some c0_)) (by kernel_rfl)
theorem y3u:SumOne J 127 zmf:=mkT zx3 zyk fun pts v news hp=>by
 unfold zmf at hp
 split at hp
 ·exact fin3 (yau ..) hp
 ·cases hp
def zfp  : Option (Nat)→Option (AV×List Blk)
 | some r=>some ((.v (.one (.flt .f32 r))),[])
 | none=>none
def zgl:List PT→Option (Bool×AV×List Blk)
 | [.agg [.row 1 q00 (.fl .f32 q03),.row 1 q02 (.fl .f32 q06),.row 1 q01 (.fl .f32 q05),.row 3 q09 (.fl .f32 q0e),.s (.int .i64 q0h),.s (.flt .f32 q0n),.s (.flt .f32 q0m)],.one (.s (.int .i64 i)),.one (.s (.flt .f32 q1o))]=>sF zfp (z4d q00 q03 q02 q06 q01 q05 q09 q0e q0h q0n q0m i q1o)
 | _=>none
theorem y39:ev8 Γ8 143 [.agg [.row 1 a0 (.fl .f32 g1),.row 1 a2 (.fl .f32 g3),.row 1 a4 (.fl .f32 g5),.row 3 a6 (.fl .f32 g7),.s (.int .i64 c8),.s (.flt .f32 a9),.s (.flt .f32 a10)],.one (.s (.int .i64 c11)),.one (.s (.flt .f32 a12))]=zfp (z4d a0 g1 a2 g3 a4 g5 a6 g7 c8 a9 a10 c11 a12):=tr2 (zwf a0 g1 a2 g3 a4 g5 a6 g7 c8 a9 a10 c11 a12 zfp rfl (fun c0_=>some c0_)) (by kernel_rfl)
theorem zxm:SumOne J 143 zgl:=mkT zx3 zyk fun pts v news hp=>by
 unfold zgl at hp
 split at hp
 ·exact fin3 (y39 ..) hp
 ·cases hp
def z1s:St:=(.mk [(x0V 0 0 a0 1),(1,(.v (.one (.fn 171 [(.ptr 4 0 1)])))),(x0I 7 c1),(x0I 8 c2)] [(x0L g3),(x0L g4),(x0L g5),(.mk true (.cells [(.vw 0 0 a6 1),(.vw 1 0 a7 1),(.vw 2 0 a8 1)])),(.mk true (.cells [(.flt .f32 a9)]))])
def z37(sn:Nat)(t7:Int)(b0 b1 b2:List Nat)(q1p q20 q21 b4:Nat)(c0_:Int):St:=(.mk [(x0I 4 c0_)] [(x0L b0),(x0L b1),(x0L b2),(.mk true (.cells [(.vw 0 0 q1p 1),(.vw 1 0 q20 1),(.vw 2 0 q21 1)])),(.mk true (.cells [(.flt .f32 b4)]))])
def z33:St:=(.mk [(x0V 0 0 a0 1),(1,(.v (.one (.fn 171 [(.ptr 4 0 1)])))),(x0I 7 c1),(x0I 8 c9),(x0B 9 e10)] [(x0L g2),(x0L g3),(x0L g4),(.mk true (.cells [(.vw 0 0 a5 1),(.vw 1 0 a6 1),(.vw 2 0 a7 1)])),(.mk true (.cells [(.flt .f32 a8)]))])
def z38:Option ((Int)⊕(Int×Bool))→Option (Ex×St)
 | none=>none
 | some (Sum.inl r)=>some (.ret,(z37 a0 c1 g2 g3 g4 a5 a6 a7 a8 r))
 | some (Sum.inr r)=>some ((.exit 0),(z33 a0 c1 g2 g3 g4 a5 a6 a7 a8 r.1 r.2))
def z62 (x:Option ((Int)⊕(Int×Bool))):LO:=(.two (oL x) (.one .ret (z37 a0 c1 g2 g3 g4 a5 a6 a7 a8 ((tL x).getD default))) (.one (.exit 0) (z33 a0 c1 g2 g3 g4 a5 a6 a7 a8 ((tR x).getD default).1 ((tR x).getD default).2)))
def zc1:Bool×LO:=sL (z62 a0 c1 g3 g4 g5 a6 a7 a8 a9) (z00 a0 c1 g3 a9 big c2)
def z6i:Nat→St→Option (Bool×LO):=lpT 5 (pSt [(x1V 0 0 1),(pTm 1 (pV (pOne (pFn 171 [(pPtr 4 (liN 0) 1)])))),(x1I 7),(x1I 8)] [x1L,x1L,x1L,(pBlk true (pCells [(pVw 0 (liN 0) 1),(pVw 1 (liN 0) 1),(pVw 2 (liN 0) 1)])),(pBlk true (pCells [(pFlt .f32)]))]) (fun hs=>zc1 (hN hs 0) (hI hs 1) (hI hs 2) (hLn hs 3) (hLn hs 4) (hLn hs 5) (hN hs 6) (hN hs 7) (hN hs 8) (hN hs 9))
theorem zd9:∀ x:Option ((Int)⊕(Int×Bool)),x.isSome=true→(z38 a0 c1 g2 g3 g4 a5 a6 a7 a8) x=some (pick (z62 a0 c1 g2 g3 g4 a5 a6 a7 a8 x))
 | none,h=>by cases h
 | some (Sum.inl r),_=>rfl
 | some (Sum.inr r),_=>rfl
theorem zd2 (K:Ex→St→Option (Ex×St)):ev9 Γ8 146 2 5 fi146 (z1s a0 c1 c2 g3 g4 g5 a6 a7 a8 a9) K=z0f a0 c1 g3 a9 c2 (fun t8'=>K .normal (z1s a0 c1 t8' g3 g4 g5 a6 a7 a8 a9)) (fun c0_=>K .ret (z37 a0 c1 g3 g4 g5 a6 a7 a8 a9 c0_)) (fun c0_ c1_=>K (.exit 0) (z33 a0 c1 g3 g4 g5 a6 a7 a8 a9 c0_ c1_)):=by kernel_rfl
theorem zd8:∀ (n:Nat) (t8:Int),iter 146 2 5 (ev9 Γ8 146 2 5 fi146) n (z1s a0 c1 t8 g2 g3 g4 a5 a6 a7 a8) (fun e st=>some (e,st))=(z38 a0 c1 g2 g3 g4 a5 a6 a7 a8) (z00 a0 c1 g2 a8 n t8):=by
 intro n
 induction n with
 | zero=>intros;rfl
 | succ n ih=>
  intro t8
  refine Eq.trans (iter_succ ..) (Eq.trans (zd2 ..) (Eq.trans ?_ (zb1 a0 c1 g2 a8 t8 (z38 a0 c1 g2 g3 g4 a5 a6 a7 a8) rfl (fun t8'=>z00 a0 c1 g2 a8 n t8') (fun c0_=>some (Sum.inl c0_)) (fun c0_ c1_=>some (Sum.inr (c0_,c1_))))))
  exact congrArg (fun kn_=>z0f a0 c1 g2 a8 t8 kn_ _ _) (funext fun t8'=>ih ..)
theorem zbm:LoopOne J fnTab 146 2 z6i:=lpK zx3 zyk (fi:=fi146) (by kernel_rfl) (by kernel_rfl) (q:=fun hs=>(z1s (hN hs 0) (hI hs 1) (hI hs 2) (hLn hs 3) (hLn hs 4) (hLn hs 5) (hN hs 6) (hN hs 7) (hN hs 8) (hN hs 9))) (fun hs=>by kernel_rfl) fun hs h1=>Eq.trans (zd8 (hN hs 0) (hI hs 1) (hLn hs 3) (hLn hs 4) (hLn hs 5) (hN hs 6) (hN hs 7) (hN hs 8) (hN hs 9) big (hI hs 2)) (zd9 (hN hs 0) (hI hs 1) (hLn hs 3) (hLn hs 4) (hLn hs 5) (hN hs 6) (hN hs 7) (hN hs 8) (hN hs 9) _ h1)
def zf6:St:=(.mk [(x0P 0 3 3),(x0F 8 a0),(x0I 9 c1),(x0I 10 c2)] [(x0L g3),(x0L g4),(x0L g5),(.mk false (.cells [(.vw 0 0 a6 1),(.vw 1 0 a7 1),(.vw 2 0 a8 1)]))])
def zk7:St:=(.mk [(x0P 0 3 3),(x0F 8 a0),(x0I 9 c1),(x0I 10 c8),(x0B 36 e9)] [(x0L g2),(x0L g3),(x0L g4),(.mk false (.cells [(.vw 0 0 a5 1),(.vw 1 0 a6 1),(.vw 2 0 a7 1)]))])
def zlo:Option ((Int×Bool))→Option (Ex×St)
 | none=>none
 | some r=>some ((.exit 0),(zk7 a0 c1 g2 g3 g4 a5 a6 a7 r.1 r.2))
def zti (x:Option ((Int×Bool))):LO:=(.one (.exit 0) (zk7 a0 c1 g2 g3 g4 a5 a6 a7 (x.getD default).1 (x.getD default).2))
def y6v:Bool×LO:=sL (zti a0 c1 g3 g4 g5 a6 a7 a8) (z1w a0 g3 a6 big c2)
def zvw:Nat→St→Option (Bool×LO):=lpT 4 (pSt [(x1P 0 3 3),(x1F 8),(x1I 9),(x1I 10)] [x1L,x1L,x1L,(pBlk false (pCells [(pVw 0 (liN 0) 1),(pVw 1 (liN 0) 1),(pVw 2 (liN 0) 1)]))]) (fun hs=>y6v (hN hs 0) (hI hs 1) (hI hs 2) (hLn hs 3) (hLn hs 4) (hLn hs 5) (hN hs 6) (hN hs 7) (hN hs 8))
theorem ya7:∀ x:Option ((Int×Bool)),x.isSome=true→(zlo a0 c1 g2 g3 g4 a5 a6 a7) x=some (pick (zti a0 c1 g2 g3 g4 a5 a6 a7 x))
 | none,h=>by cases h
 | some r,_=>rfl
theorem yat (K:Ex→St→Option (Ex×St)):ev9 Γ8 176 4 4 fi176 (zf6 a0 c1 c2 g3 g4 g5 a6 a7 a8) K=z40 a0 g3 a6 c2 (fun t10'=>K .normal (zf6 a0 c1 t10' g3 g4 g5 a6 a7 a8)) (fun c0_ c1_=>K (.exit 0) (zk7 a0 c1 g3 g4 g5 a6 a7 a8 c0_ c1_)):=by kernel_rfl
theorem yak:∀ (n:Nat) (t10:Int),iter 176 4 4 (ev9 Γ8 176 4 4 fi176) n (zf6 a0 c1 t10 g2 g3 g4 a5 a6 a7) (fun e st=>some (e,st))=(zlo a0 c1 g2 g3 g4 a5 a6 a7) (z1w a0 g2 a5 n t10):=by
 intro n
 induction n with
 | zero=>intros;rfl
 | succ n ih=>
  intro t10
  refine Eq.trans (iter_succ ..) (Eq.trans (yat ..) (Eq.trans ?_ (y3d a0 g2 a5 t10 (zlo a0 c1 g2 g3 g4 a5 a6 a7) rfl (fun t10'=>z1w a0 g2 a5 n t10') (fun c0_ c1_=>some (c0_,c1_)))))
  exact congrArg (fun kn_=>z40 a0 g2 a5 t10 kn_ _) (funext fun t10'=>ih ..)
theorem y3s:LoopOne J fnTab 176 4 zvw:=lpK zx3 zyk (fi:=fi176) (by kernel_rfl) (by kernel_rfl) (q:=fun hs=>(zf6 (hN hs 0) (hI hs 1) (hI hs 2) (hLn hs 3) (hLn hs 4) (hLn hs 5) (hN hs 6) (hN hs 7) (hN hs 8))) (fun hs=>by kernel_rfl) fun hs h1=>Eq.trans (yak (hN hs 0) (hI hs 1) (hLn hs 3) (hLn hs 4) (hLn hs 5) (hN hs 6) (hN hs 7) (hN hs 8) big (hI hs 2)) (ya7 (hN hs 0) (hI hs 1) (hLn hs 3) (hLn hs 4) (hLn hs 5) (hN hs 6) (hN hs 7) (hN hs 8) _ h1)
def tb9:List (Nat×(List PT→Option (Bool×AV×List Blk))):=(107,zmn)::(127,zmf)::(143,zgl)::tb8
def lt9:List ((Nat×Nat)×(Nat→St→Option (Bool×LO))):=((146,2),z6i)::((176,4),zvw)::lt8
def Γ9:Ctx:=⟨tyTab,fnTab,tblSum tb9,tblLp lt9⟩
theorem y1w:SumL J tb9:=SumL.cons y5m (SumL.cons y3u (SumL.cons zxm (zx3)))
theorem y1y:LpL J fnTab lt9:=LpL.cons zbm (LpL.cons y3s (zyk))
def zug  : Option (Bool)→Option (AV×List Blk)
 | some r=>some ((.v (.one (.bool r))),[])
 | none=>none
def zuj:List PT→Option (Bool×AV×List Blk)
 | [.ptr [.row 1 q00 (.fl .f32 q03),.row 1 q02 (.fl .f32 q06),.row 1 q01 (.fl .f32 q05),.row 3 q09 (.fl .f32 q0e),.s (.int .i64 q0h),.s (.flt .f32 q0n),.s (.flt .f32 q0m)],.one (.s (.int .i64 i)),.one (.s (.flt .f32 q0s)),.one (.s (.flt .f32 q0p)),.one (.s (.flt .f32 q0l))]=>sF zug (zab q00 q03 q02 q06 q01 q05 q09 q0e q0h q0n q0m i q0s q0p q0l)
 | _=>none
theorem yhi:ev8 Γ9 87 [.ptr [.row 1 a0 (.fl .f32 g1),.row 1 a2 (.fl .f32 g3),.row 1 a4 (.fl .f32 g5),.row 3 a6 (.fl .f32 g7),.s (.int .i64 c8),.s (.flt .f32 a9),.s (.flt .f32 a10)],.one (.s (.int .i64 c11)),.one (.s (.flt .f32 a12)),.one (.s (.flt .f32 a13)),.one (.s (.flt .f32 a14))]=zug (zab a0 g1 a2 g3 a4 g5 a6 g7 c8 a9 a10 c11 a12 a13 a14):=tr2 (ya4 a0 g1 a2 g3 a4 g5 a6 g7 c8 a9 a10 c11 a12 a13 a14 zug rfl (fun c0_=>some c0_)) (by kernel_rfl)
theorem yda:SumOne J 87 zuj:=mkT y1w y1y fun pts v news hp=>by
 unfold zuj at hp
 split at hp
 ·exact fin3 (yhi ..) hp
 ·cases hp
def zee  : Option (Int×Int×Nat×Nat×Nat)→Option (AV×List Blk)
 | some r=>some ((.tup [(.one (.int .i64 r.1)),(.one (.int .i64 r.2.1)),(.one (.flt .f32 r.2.2.1)),(.one (.flt .f32 r.2.2.2.1)),(.one (.flt .f32 r.2.2.2.2))]),[])
 | none=>none
def zds:List PT→Option (Bool×AV×List Blk)
 | [.agg [.row 1 q0k (.fl .f32 q0o),.row 1 q14 (.fl .f32 q1h),.row 1 q15 (.fl .f32 q1i)],.one (.s (.flt .f32 x1))]=>sF zee (z1a q0k q0o q14 q1h q15 q1i x1)
 | _=>none
theorem y0q:ev8 Γ9 161 [.agg [.row 1 a0 (.fl .f32 g1),.row 1 a2 (.fl .f32 g3),.row 1 a4 (.fl .f32 g5)],.one (.s (.flt .f32 a6))]=zee (z1a a0 g1 a2 g3 a4 g5 a6):=tr2 (zu5 a0 g1 a2 g3 a4 g5 a6 zee rfl (fun c0_ c1_ c2_ c3_ c4_=>some (c0_,c1_,c2_,c3_,c4_))) (by kernel_rfl)
theorem zwa:SumOne J 161 zds:=mkT y1w y1y fun pts v news hp=>by
 unfold zds at hp
 split at hp
 ·exact fin3 (y0q ..) hp
 ·cases hp
def zsb  : Option (Int×Int×Nat×Nat)→Option (AV×List Blk)
 | some r=>some ((.tup [(.one (.int .i64 r.1)),(.one (.int .i64 r.2.1)),(.one (.flt .f32 r.2.2.1)),(.one (.flt .f32 r.2.2.2))]),[])
 | none=>none
def zsy:List PT→Option (Bool×AV×List Blk)
 | [.ptr [.row 1 q0k (.fl .f32 q0o),.row 1 q14 (.fl .f32 q1h),.row 1 q15 (.fl .f32 q1i)],.one (.s (.flt .f32 x1))]=>sF zsb (z46 q0k q0o q14 q1h q15 q1i x1)
 | _=>none
theorem yg8:ev8 Γ9 176 [.ptr [.row 1 a0 (.fl .f32 g1),.row 1 a2 (.fl .f32 g3),.row 1 a4 (.fl .f32 g5)],.one (.s (.flt .f32 a6))]=zsb (z46 a0 g1 a2 g3 a4 g5 a6):=tr2 (y94 a0 g1 a2 g3 a4 g5 a6 zsb rfl (fun c0_ c1_ c2_ c3_=>some (c0_,c1_,c2_,c3_))) (by kernel_rfl)
theorem ya2:SumOne J 176 zsy:=mkT y1w y1y fun pts v news hp=>by
 unfold zsy at hp
 split at hp
 ·exact fin3 (yg8 ..) hp
 ·cases hp
def z9j:St:=(.mk [(x0P 1 3 3),(x0V 42 0 a0 1),(x0I 43 c1),(x0I 44 c2)] [(x0L g3),(x0L g4),(x0L g5),(.mk true (.cells [(.vw 0 0 a6 1),(.vw 1 0 a7 1),(.vw 2 0 a8 1)]))])
def zcf(q3e:Nat)(t43:Int)(b0 b1 b2:List Nat)(q1p q20 q21:Nat):St:=(.mk [(x0B 2 false)] [(x0L b0),(x0L b1),(x0L b2)])
def zcp:St:=(.mk [(x0P 1 3 3),(x0V 42 0 a0 1),(x0I 43 c1),(x0I 44 c8),(x0B 45 e9)] [(x0L g2),(x0L g3),(x0L g4),(.mk true (.cells [(.vw 0 0 a5 1),(.vw 1 0 a6 1),(.vw 2 0 a7 1)]))])
def ze1:Option ((Unit)⊕(Int×Bool))→Option (Ex×St)
 | none=>none
 | some (Sum.inl r)=>some (.ret,(zcf a0 c1 g2 g3 g4 a5 a6 a7))
 | some (Sum.inr r)=>some ((.exit 0),(zcp a0 c1 g2 g3 g4 a5 a6 a7 r.1 r.2))
def zl6 (x:Option ((Unit)⊕(Int×Bool))):LO:=(.two (oL x) (.one .ret (zcf a0 c1 g2 g3 g4 a5 a6 a7)) (.one (.exit 0) (zcp a0 c1 g2 g3 g4 a5 a6 a7 ((tR x).getD default).1 ((tR x).getD default).2)))
def zww:Bool×LO:=sL (zl6 a0 c1 g3 g4 g5 a6 a7 a8) (z15 a0 c1 g3 a6 big c2)
def zn2:Nat→St→Option (Bool×LO):=lpT 3 (pSt [(x1P 1 3 3),(x1V 42 0 1),(x1I 43),(x1I 44)] [x1L,x1L,x1L,(pBlk true (pCells [(pVw 0 (liN 0) 1),(pVw 1 (liN 0) 1),(pVw 2 (liN 0) 1)]))]) (fun hs=>zww (hN hs 0) (hI hs 1) (hI hs 2) (hLn hs 3) (hLn hs 4) (hLn hs 5) (hN hs 6) (hN hs 7) (hN hs 8))
theorem y0x:∀ x:Option ((Unit)⊕(Int×Bool)),x.isSome=true→(ze1 a0 c1 g2 g3 g4 a5 a6 a7) x=some (pick (zl6 a0 c1 g2 g3 g4 a5 a6 a7 x))
 | none,h=>by cases h
 | some (Sum.inl r),_=>rfl
 | some (Sum.inr r),_=>rfl
theorem y0u (K:Ex→St→Option (Ex×St)):ev9 Γ9 89 5 3 fi89 (z9j a0 c1 c2 g3 g4 g5 a6 a7 a8) K=z1x a0 c1 g3 a6 c2 (fun t44'=>K .normal (z9j a0 c1 t44' g3 g4 g5 a6 a7 a8)) (fun _=>K .ret (zcf a0 c1 g3 g4 g5 a6 a7 a8)) (fun c0_ c1_=>K (.exit 0) (zcp a0 c1 g3 g4 g5 a6 a7 a8 c0_ c1_)):=by kernel_rfl
theorem y0c:∀ (n:Nat) (t44:Int),iter 89 5 3 (ev9 Γ9 89 5 3 fi89) n (z9j a0 c1 t44 g2 g3 g4 a5 a6 a7) (fun e st=>some (e,st))=(ze1 a0 c1 g2 g3 g4 a5 a6 a7) (z15 a0 c1 g2 a5 n t44):=by
 intro n
 induction n with
 | zero=>intros;rfl
 | succ n ih=>
  intro t44
  refine Eq.trans (iter_succ ..) (Eq.trans (y0u ..) (Eq.trans ?_ (zuy a0 c1 g2 a5 t44 (ze1 a0 c1 g2 g3 g4 a5 a6 a7) rfl (fun t44'=>z15 a0 c1 g2 a5 n t44') (fun _=>some (Sum.inl ())) (fun c0_ c1_=>some (Sum.inr (c0_,c1_))))))
  exact congrArg (fun kn_=>z1x a0 c1 g2 a5 t44 kn_ _ _) (funext fun t44'=>ih ..)
theorem zwd:LoopOne J fnTab 89 5 zn2:=lpK y1w y1y (fi:=fi89) (by kernel_rfl) (by kernel_rfl) (q:=fun hs=>(z9j (hN hs 0) (hI hs 1) (hI hs 2) (hLn hs 3) (hLn hs 4) (hLn hs 5) (hN hs 6) (hN hs 7) (hN hs 8))) (fun hs=>by kernel_rfl) fun hs h1=>Eq.trans (y0c (hN hs 0) (hI hs 1) (hLn hs 3) (hLn hs 4) (hLn hs 5) (hN hs 6) (hN hs 7) (hN hs 8) big (hI hs 2)) (y0x (hN hs 0) (hI hs 1) (hLn hs 3) (hLn hs 4) (hLn hs 5) (hN hs 6) (hN hs 7) (hN hs 8) _ h1)
def tb10:List (Nat×(List PT→Option (Bool×AV×List Blk))):=(87,zuj)::(161,zds)::(176,zsy)::tb9
def lt10:List ((Nat×Nat)×(Nat→St→Option (Bool×LO))):=((89,5),zn2)::lt9
def Γ10:Ctx:=⟨tyTab,fnTab,tblSum tb10,tblLp lt10⟩
theorem y2i:SumL J tb10:=SumL.cons yda (SumL.cons zwa (SumL.cons ya2 (y1w)))
theorem y37:LpL J fnTab lt10:=LpL.cons zwd (y1y)
def zj5  : Option (Bool)→Option (AV×List Blk)
 | some r=>some ((.v (.one (.bool r))),[])
 | none=>none
def zj7:List PT→Option (Bool×AV×List Blk)
 | [.agg [.row 1 q0k (.fl .f32 q0o),.row 1 q14 (.fl .f32 q1h),.row 1 q15 (.fl .f32 q1i)]]=>sF zj5 (z54 q0k q0o q14 q1h q15 q1i)
 | _=>none
theorem y6z:ev8 Γ10 89 [.agg [.row 1 a0 (.fl .f32 g1),.row 1 a2 (.fl .f32 g3),.row 1 a4 (.fl .f32 g5)]]=zj5 (z54 a0 g1 a2 g3 a4 g5):=tr2 (zzb a0 g1 a2 g3 a4 g5 zj5 rfl (fun c0_=>some c0_)) (by kernel_rfl)
theorem y13:SumOne J 89 zj7:=mkT y2i y37 fun pts v news hp=>by
 unfold zj7 at hp
 split at hp
 ·exact fin3 (y6z ..) hp
 ·cases hp
def zlt  : Option (Nat)→Option (AV×List Blk)
 | some r=>some ((.v (.one (.flt .f32 r))),[])
 | none=>none
def zmo:List PT→Option (Bool×AV×List Blk)
 | [.agg [.row 1 q1a (.fl .f32 q1t),.row 1 q1e (.fl .f32 q1y),.row 1 q1d (.fl .f32 q1x)],.one (.row 1 q1r (.fl .f32 q23)),.one (.s (.flt .f32 q28))]=>sF zlt (z65 q1a q1t q1e q1y q1d q1x q1r q23 q28)
 | _=>none
theorem ybd:ev8 Γ10 144 [.agg [.row 1 a0 (.fl .f32 g1),.row 1 a2 (.fl .f32 g3),.row 1 a4 (.fl .f32 g5)],.one (.row 1 a6 (.fl .f32 g7)),.one (.s (.flt .f32 a8))]=zlt (z65 a0 g1 a2 g3 a4 g5 a6 g7 a8):=tr2 (y1v a0 g1 a2 g3 a4 g5 a6 g7 a8 zlt rfl (fun c0_=>some c0_)) (by kernel_rfl)
theorem y4k:SumOne J 144 zmo:=mkT y2i y37 fun pts v news hp=>by
 unfold zmo at hp
 split at hp
 ·exact fin3 (ybd ..) hp
 ·cases hp
def zyc  : Option (Nat)→Option (AV×List Blk)
 | some r=>some ((.v (.one (.flt .f32 r))),[])
 | none=>none
def zxf:List PT→Option (Bool×AV×List Blk)
 | [.ptr [.row 1 q1a (.fl .f32 q1t),.row 1 q1e (.fl .f32 q1y),.row 1 q1d (.fl .f32 q1x)],.one (.row 1 q1r (.fl .f32 q23)),.one (.s (.flt .f32 q28))]=>sF zyc (zbf q1a q1t q1e q1y q1d q1x q1r q23 q28)
 | _=>none
theorem yhu:ev8 Γ10 172 [.ptr [.row 1 a0 (.fl .f32 g1),.row 1 a2 (.fl .f32 g3),.row 1 a4 (.fl .f32 g5)],.one (.row 1 a6 (.fl .f32 g7)),.one (.s (.flt .f32 a8))]=zyc (zbf a0 g1 a2 g3 a4 g5 a6 g7 a8):=tr2 (ybv a0 g1 a2 g3 a4 g5 a6 g7 a8 zyc rfl (fun c0_=>some c0_)) (by kernel_rfl)
theorem yej:SumOne J 172 zxf:=mkT y2i y37 fun pts v news hp=>by
 unfold zxf at hp
 split at hp
 ·exact fin3 (yhu ..) hp
 ·cases hp
def tb11:List (Nat×(List PT→Option (Bool×AV×List Blk))):=(89,zj7)::(144,zmo)::(172,zxf)::tb10
def lt11:List ((Nat×Nat)×(Nat→St→Option (Bool×LO))):=lt10
def Γ11:Ctx:=⟨tyTab,fnTab,tblSum tb11,tblLp lt11⟩
theorem y2x:SumL J tb11:=SumL.cons y13 (SumL.cons y4k (SumL.cons yej (y2i)))
theorem y3e:LpL J fnTab lt11:=y37
def ziy  : Option (Nat×Nat)→Option (AV×List Blk)
 | some r=>some ((.tup [(.one (.flt .f32 r.1)),(.one (.flt .f32 r.2))]),[])
 | none=>none
def zj1:List PT→Option (Bool×AV×List Blk)
 | [.agg [.row 1 q00 (.fl .f32 q03),.row 1 q02 (.fl .f32 q06),.row 1 q01 (.fl .f32 q05),.row 3 q09 (.fl .f32 q0e),.s (.int .i64 q0h),.s (.flt .f32 q0n),.s (.flt .f32 q0m)],.one (.s (.int .i64 i)),.one (.s (.flt .f32 q1o)),.one (.s (.flt .f32 q0l))]=>sF ziy (z31 q00 q03 q02 q06 q01 q05 q09 q0e q0h q0n q0m i q1o q0l)
 | _=>none
theorem y76:ev8 Γ11 106 [.agg [.row 1 a0 (.fl .f32 g1),.row 1 a2 (.fl .f32 g3),.row 1 a4 (.fl .f32 g5),.row 3 a6 (.fl .f32 g7),.s (.int .i64 c8),.s (.flt .f32 a9),.s (.flt .f32 a10)],.one (.s (.int .i64 c11)),.one (.s (.flt .f32 a12)),.one (.s (.flt .f32 a13))]=ziy (z31 a0 g1 a2 g3 a4 g5 a6 g7 c8 a9 a10 c11 a12 a13):=tr2 (zzf a0 g1 a2 g3 a4 g5 a6 g7 c8 a9 a10 c11 a12 a13 ziy rfl (fun c0_ c1_=>some (c0_,c1_))) (by kernel_rfl)
theorem y02:SumOne J 106 zj1:=mkT y2x y3e fun pts v news hp=>by
 unfold zj1 at hp
 split at hp
 ·exact fin3 (y76 ..) hp
 ·cases hp
def zsg  : Option (Nat)→Option (AV×List Blk)
 | some r=>some ((.v (.one (.flt .f32 r))),[])
 | none=>none
def zsk:List PT→Option (Bool×AV×List Blk)
 | [.ptr [.row 1 q1a (.fl .f32 q1t),.row 1 q1e (.fl .f32 q1y),.row 1 q1d (.fl .f32 q1x)],.one (.s (.flt .f32 q28))]=>sF zsg (z92 q1a q1t q1e q1y q1d q1x q28)
 | _=>none
theorem yg9:ev8 Γ11 165 [.ptr [.row 1 a0 (.fl .f32 g1),.row 1 a2 (.fl .f32 g3),.row 1 a4 (.fl .f32 g5)],.one (.s (.flt .f32 a6))]=zsg (z92 a0 g1 a2 g3 a4 g5 a6):=tr2 (y9g a0 g1 a2 g3 a4 g5 a6 zsg rfl (fun c0_=>some c0_)) (by kernel_rfl)
theorem ybn:SumOne J 165 zsk:=mkT y2x y3e fun pts v news hp=>by
 unfold zsk at hp
 split at hp
 ·exact fin3 (yg9 ..) hp
 ·cases hp
def zsa  : Option (Nat)→Option (AV×List Blk)
 | some r=>some ((.v (.one (.flt .f32 r))),[])
 | none=>none
def zs5:List PT→Option (Bool×AV×List Blk)
 | [.ptr [.row 1 q1a (.fl .f32 q1t),.row 1 q1e (.fl .f32 q1y),.row 1 q1d (.fl .f32 q1x)],.one (.s (.flt .f32 q28))]=>sF zsa (z9e q1a q1t q1e q1y q1d q1x q28)
 | _=>none
theorem yga:ev8 Γ11 166 [.ptr [.row 1 a0 (.fl .f32 g1),.row 1 a2 (.fl .f32 g3),.row 1 a4 (.fl .f32 g5)],.one (.s (.flt .f32 a6))]=zsa (z9e a0 g1 a2 g3 a4 g5 a6):=tr2 (y8m a0 g1 a2 g3 a4 g5 a6 zsa rfl (fun c0_=>some c0_)) (by kernel_rfl)
theorem yav:SumOne J 166 zs5:=mkT y2x y3e fun pts v news hp=>by
 unfold zs5 at hp
 split at hp
 ·exact fin3 (yga ..) hp
 ·cases hp
def tb12:List (Nat×(List PT→Option (Bool×AV×List Blk))):=(106,zj1)::(165,zsk)::(166,zs5)::tb11
def lt12:List ((Nat×Nat)×(Nat→St→Option (Bool×LO))):=lt11
def Γ12:Ctx:=⟨tyTab,fnTab,tblSum tb12,tblLp lt12⟩
theorem y1n:SumL J tb12:=SumL.cons y02 (SumL.cons ybn (SumL.cons yav (y2x)))
theorem y1o:LpL J fnTab lt12:=y3e
def zj0  : Option (Nat×Nat)→Option (AV×List Blk)
 | some r=>some ((.tup [(.one (.flt .f32 r.1)),(.one (.flt .f32 r.2))]),[])
 | none=>none
def ziw:List PT→Option (Bool×AV×List Blk)
 | [.agg [.row 1 q00 (.fl .f32 q03),.row 1 q02 (.fl .f32 q06),.row 1 q01 (.fl .f32 q05),.row 3 q09 (.fl .f32 q0e),.s (.int .i64 q0h),.s (.flt .f32 q0n),.s (.flt .f32 q0m)],.one (.s (.int .i64 i)),.one (.s (.flt .f32 q1o)),.one (.s (.flt .f32 q0l))]=>sF zj0 (z3x q00 q03 q02 q06 q01 q05 q09 q0e q0h q0n q0m i q1o q0l)
 | _=>none
theorem y6h:ev8 Γ12 105 [.agg [.row 1 a0 (.fl .f32 g1),.row 1 a2 (.fl .f32 g3),.row 1 a4 (.fl .f32 g5),.row 3 a6 (.fl .f32 g7),.s (.int .i64 c8),.s (.flt .f32 a9),.s (.flt .f32 a10)],.one (.s (.int .i64 c11)),.one (.s (.flt .f32 a12)),.one (.s (.flt .f32 a13))]=zj0 (z3x a0 g1 a2 g3 a4 g5 a6 g7 c8 a9 a10 c11 a12 a13):=tr2 (zze a0 g1 a2 g3 a4 g5 a6 g7 c8 a9 a10 c11 a12 a13 zj0 rfl (fun c0_ c1_=>some (c0_,c1_))) (by kernel_rfl)
theorem y0m:SumOne J 105 ziw:=mkT y1n y1o fun pts v news hp=>by
 unfold ziw at hp
 split at hp
 ·exact fin3 (y6h ..) hp
 ·cases hp
def znl  : Option (Nat×Nat)→Option (AV×List Blk)
 | some r=>some ((.tup [(.one (.flt .f32 r.1)),(.one (.flt .f32 r.2))]),[])
 | none=>none
def znz:List PT→Option (Bool×AV×List Blk)
 | [.ptr [.row 1 q00 (.fl .f32 q03),.row 1 q02 (.fl .f32 q06),.row 1 q01 (.fl .f32 q05),.row 3 q09 (.fl .f32 q0e),.s (.int .i64 q0h),.s (.flt .f32 q0n),.s (.flt .f32 q0m)],.one (.s (.int .i64 i)),.one (.s (.flt .f32 q1o)),.one (.s (.flt .f32 q0l))]=>sF znl (z5l q00 q03 q02 q06 q01 q05 q09 q0e q0h q0n q0m i q1o q0l)
 | _=>none
theorem yc7:ev8 Γ12 150 [.ptr [.row 1 a0 (.fl .f32 g1),.row 1 a2 (.fl .f32 g3),.row 1 a4 (.fl .f32 g5),.row 3 a6 (.fl .f32 g7),.s (.int .i64 c8),.s (.flt .f32 a9),.s (.flt .f32 a10)],.one (.s (.int .i64 c11)),.one (.s (.flt .f32 a12)),.one (.s (.flt .f32 a13))]=znl (z5l a0 g1 a2 g3 a4 g5 a6 g7 c8 a9 a10 c11 a12 a13):=tr2 (y43 a0 g1 a2 g3 a4 g5 a6 g7 c8 a9 a10 c11 a12 a13 znl rfl (fun c0_ c1_=>some (c0_,c1_))) (by kernel_rfl)
theorem y7d:SumOne J 150 znz:=mkT y1n y1o fun pts v news hp=>by
 unfold znz at hp
 split at hp
 ·exact fin3 (yc7 ..) hp
 ·cases hp
def zan:St:=(.mk [(x0P 1 4 7),(x0F 4 a0),(x0V 43 3 a1 3),(x0I 44 c2),(x0I 45 c3)] [(x0L g4),(x0L g5),(x0L g6),(x0L g7),(x0R true 0 1 2 3 a8 a9 a10 a11 c12 a13 a14)])
def zgj(q3d:Nat)(t44:Int)(b0 b1 b2 b3:List Nat)(q0w q0x q0y q0r:Nat)(q1f:Int)(q1g q0z:Nat):St:=(.mk [(x0B 2 false)] [(x0L b0),(x0L b1),(x0L b2),(x0L b3)])
def zft:St:=(.mk [(x0P 1 4 7),(x0F 4 a13),(x0V 43 3 a0 3),(x0I 44 c1),(x0I 45 c14),(x0B 46 e15)] [(x0L g2),(x0L g3),(x0L g4),(x0L g5),(x0R true 0 1 2 3 a6 a7 a8 a9 c10 a11 a12)])
def zhs:Option ((Unit)⊕(Nat×Int×Bool))→Option (Ex×St)
 | none=>none
 | some (Sum.inl r)=>some (.ret,(zgj a0 c1 g2 g3 g4 g5 a6 a7 a8 a9 c10 a11 a12))
 | some (Sum.inr r)=>some ((.exit 0),(zft a0 c1 g2 g3 g4 g5 a6 a7 a8 a9 c10 a11 a12 r.1 r.2.1 r.2.2))
def zoz (x:Option ((Unit)⊕(Nat×Int×Bool))):LO:=(.two (oL x) (.one .ret (zgj a0 c1 g2 g3 g4 g5 a6 a7 a8 a9 c10 a11 a12)) (.one (.exit 0) (zft a0 c1 g2 g3 g4 g5 a6 a7 a8 a9 c10 a11 a12 ((tR x).getD default).1 ((tR x).getD default).2.1 ((tR x).getD default).2.2)))
def y1i:Bool×LO:=sL (zoz a1 c2 g4 g5 g6 g7 a8 a9 a10 a11 c12 a13 a14) (z0q a1 c2 g7 a14 big a0 c3)
def zr3:Nat→St→Option (Bool×LO):=lpT 4 (pSt [(x1P 1 4 7),(x1F 4),(x1V 43 3 3),(x1I 44),(x1I 45)] [x1L,x1L,x1L,x1L,(x1R true 0 1 2 3)]) (fun hs=>y1i (hN hs 0) (hN hs 1) (hI hs 2) (hI hs 3) (hLn hs 4) (hLn hs 5) (hLn hs 6) (hLn hs 7) (hN hs 8) (hN hs 9) (hN hs 10) (hN hs 11) (hI hs 12) (hN hs 13) (hN hs 14))
theorem y44:∀ x:Option ((Unit)⊕(Nat×Int×Bool)),x.isSome=true→(zhs a0 c1 g2 g3 g4 g5 a6 a7 a8 a9 c10 a11 a12) x=some (pick (zoz a0 c1 g2 g3 g4 g5 a6 a7 a8 a9 c10 a11 a12 x))
 | none,h=>by cases h
 | some (Sum.inl r),_=>rfl
 | some (Sum.inr r),_=>rfl
theorem y4l (K:Ex→St→Option (Ex×St)):ev9 Γ12 51 6 4 fi51 (zan a0 a1 c2 c3 g4 g5 g6 g7 a8 a9 a10 a11 c12 a13 a14) K=z2n a1 c2 g7 a14 a0 c3 (fun t4' t45'=>K .normal (zan t4' a1 c2 t45' g4 g5 g6 g7 a8 a9 a10 a11 c12 a13 a14)) (fun _=>K .ret (zgj a1 c2 g4 g5 g6 g7 a8 a9 a10 a11 c12 a13 a14)) (fun c0_ c1_ c2_=>K (.exit 0) (zft a1 c2 g4 g5 g6 g7 a8 a9 a10 a11 c12 a13 a14 c0_ c1_ c2_)):=by kernel_rfl
theorem y4a:∀ (n t4:Nat) (t45:Int),iter 51 6 4 (ev9 Γ12 51 6 4 fi51) n (zan t4 a0 c1 t45 g2 g3 g4 g5 a6 a7 a8 a9 c10 a11 a12) (fun e st=>some (e,st))=(zhs a0 c1 g2 g3 g4 g5 a6 a7 a8 a9 c10 a11 a12) (z0q a0 c1 g5 a12 n t4 t45):=by
 intro n
 induction n with
 | zero=>intros;rfl
 | succ n ih=>
  intro t4 t45
  refine Eq.trans (iter_succ ..) (Eq.trans (y4l ..) (Eq.trans ?_ (zym a0 c1 g5 a12 t4 t45 (zhs a0 c1 g2 g3 g4 g5 a6 a7 a8 a9 c10 a11 a12) rfl (fun t4' t45'=>z0q a0 c1 g5 a12 n t4' t45') (fun _=>some (Sum.inl ())) (fun c0_ c1_ c2_=>some (Sum.inr (c0_,c1_,c2_))))))
  exact congrArg (fun kn_=>z2n a0 c1 g5 a12 t4 t45 kn_ _ _) (funext fun t4'=>funext fun t45'=>ih ..)
theorem zyx:LoopOne J fnTab 51 6 zr3:=lpK y1n y1o (fi:=fi51) (by kernel_rfl) (by kernel_rfl) (q:=fun hs=>(zan (hN hs 0) (hN hs 1) (hI hs 2) (hI hs 3) (hLn hs 4) (hLn hs 5) (hLn hs 6) (hLn hs 7) (hN hs 8) (hN hs 9) (hN hs 10) (hN hs 11) (hI hs 12) (hN hs 13) (hN hs 14))) (fun hs=>by kernel_rfl) fun hs h1=>Eq.trans (y4a (hN hs 1) (hI hs 2) (hLn hs 4) (hLn hs 5) (hLn hs 6) (hLn hs 7) (hN hs 8) (hN hs 9) (hN hs 10) (hN hs 11) (hI hs 12) (hN hs 13) (hN hs 14) big (hN hs 0) (hI hs 3)) (y44 (hN hs 1) (hI hs 2) (hLn hs 4) (hLn hs 5) (hLn hs 6) (hLn hs 7) (hN hs 8) (hN hs 9) (hN hs 10) (hN hs 11) (hI hs 12) (hN hs 13) (hN hs 14) _ h1)
def tb13:List (Nat×(List PT→Option (Bool×AV×List Blk))):=(105,ziw)::(150,znz)::tb12
def lt13:List ((Nat×Nat)×(Nat→St→Option (Bool×LO))):=((51,6),zr3)::lt12
def Γ13:Ctx:=⟨tyTab,fnTab,tblSum tb13,tblLp lt13⟩
theorem y36:SumL J tb13:=SumL.cons y0m (SumL.cons y7d (y1n))
theorem y27:LpL J fnTab lt13:=LpL.cons zyx (y1o)
def zlu  : Option (Bool)→Option (AV×List Blk)
 | some r=>some ((.v (.one (.bool r))),[])
 | none=>none
def zlz:List PT→Option (Bool×AV×List Blk)
 | [.agg [.row 1 q04 (.fl .f32 q0a),.row 1 q08 (.fl .f32 q0b),.row 1 q07 (.fl .f32 q0c),.row 3 q0d (.fl .f32 q0f),.s (.int .i64 q0g),.s (.flt .f32 q0i),.s (.flt .f32 q0j)]]=>sF zlu (z66 q04 q0a q08 q0b q07 q0c q0d q0f q0g q0i q0j)
 | _=>none
theorem ybj:ev8 Γ13 51 [.agg [.row 1 a0 (.fl .f32 g1),.row 1 a2 (.fl .f32 g3),.row 1 a4 (.fl .f32 g5),.row 3 a6 (.fl .f32 g7),.s (.int .i64 c8),.s (.flt .f32 a9),.s (.flt .f32 a10)]]=zlu (z66 a0 g1 a2 g3 a4 g5 a6 g7 c8 a9 a10):=tr2 (y2h a0 g1 a2 g3 a4 g5 a6 g7 c8 a9 a10 zlu rfl (fun c0_=>some c0_)) (by kernel_rfl)
theorem y4x:SumOne J 51 zlz:=mkT y36 y27 fun pts v news hp=>by
 unfold zlz at hp
 split at hp
 ·exact fin3 (ybj ..) hp
 ·cases hp
def zs7  : Option (Nat×Nat×Nat×Nat)→Option (AV×List Blk)
 | some r=>some ((.tup [(.one (.flt .f32 r.1)),(.one (.flt .f32 r.2.1)),(.one (.flt .f32 r.2.2.1)),(.one (.flt .f32 r.2.2.2))]),[])
 | none=>none
def zsd:List PT→Option (Bool×AV×List Blk)
 | [.ptr [.row 1 q00 (.fl .f32 q03),.row 1 q02 (.fl .f32 q06),.row 1 q01 (.fl .f32 q05),.row 3 q09 (.fl .f32 q0e),.s (.int .i64 q0h),.s (.flt .f32 q0n),.s (.flt .f32 q0m)],.one (.s (.int .i64 i)),.one (.s (.flt .f32 q1o)),.one (.s (.flt .f32 q0l))]=>sF zs7 (z4x q00 q03 q02 q06 q01 q05 q09 q0e q0h q0n q0m i q1o q0l)
 | _=>none
theorem yg0:ev8 Γ13 130 [.ptr [.row 1 a0 (.fl .f32 g1),.row 1 a2 (.fl .f32 g3),.row 1 a4 (.fl .f32 g5),.row 3 a6 (.fl .f32 g7),.s (.int .i64 c8),.s (.flt .f32 a9),.s (.flt .f32 a10)],.one (.s (.int .i64 c11)),.one (.s (.flt .f32 a12)),.one (.s (.flt .f32 a13))]=zs7 (z4x a0 g1 a2 g3 a4 g5 a6 g7 c8 a9 a10 c11 a12 a13):=tr2 (y8h a0 g1 a2 g3 a4 g5 a6 g7 c8 a9 a10 c11 a12 a13 zs7 rfl (fun c0_ c1_ c2_ c3_=>some (c0_,c1_,c2_,c3_))) (by kernel_rfl)
theorem yb7:SumOne J 130 zsd:=mkT y36 y27 fun pts v news hp=>by
 unfold zsd at hp
 split at hp
 ·exact fin3 (yg0 ..) hp
 ·cases hp
def zha  : Option (Nat)→Option (AV×List Blk)
 | some r=>some ((.v (.one (.flt .f32 r))),[])
 | none=>none
def zhe:List PT→Option (Bool×AV×List Blk)
 | [.agg [.row 1 q00 (.fl .f32 q03),.row 1 q02 (.fl .f32 q06),.row 1 q01 (.fl .f32 q05),.row 3 q09 (.fl .f32 q0e),.s (.int .i64 q0h),.s (.flt .f32 q0n),.s (.flt .f32 q0m)],.one (.s (.int .i64 i)),.one (.s (.flt .f32 q1o)),.one (.s (.flt .f32 q0s)),.one (.s (.flt .f32 q0p)),.one (.s (.flt .f32 q0l))]=>sF zha (z3a q00 q03 q02 q06 q01 q05 q09 q0e q0h q0n q0m i q1o q0s q0p q0l)
 | _=>none
theorem y5l:ev8 Γ13 157 [.agg [.row 1 a0 (.fl .f32 g1),.row 1 a2 (.fl .f32 g3),.row 1 a4 (.fl .f32 g5),.row 3 a6 (.fl .f32 g7),.s (.int .i64 c8),.s (.flt .f32 a9),.s (.flt .f32 a10)],.one (.s (.int .i64 c11)),.one (.s (.flt .f32 a12)),.one (.s (.flt .f32 a13)),.one (.s (.flt .f32 a14)),.one (.s (.flt .f32 a15))]=zha (z3a a0 g1 a2 g3 a4 g5 a6 g7 c8 a9 a10 c11 a12 a13 a14 a15):=tr2 (zxn a0 g1 a2 g3 a4 g5 a6 g7 c8 a9 a10 c11 a12 a13 a14 a15 zha rfl (fun c0_=>some c0_)) (by kernel_rfl)
theorem zza:SumOne J 157 zhe:=mkT y36 y27 fun pts v news hp=>by
 unfold zhe at hp
 split at hp
 ·exact fin3 (y5l ..) hp
 ·cases hp
def tb14:List (Nat×(List PT→Option (Bool×AV×List Blk))):=(51,zlz)::(130,zsd)::(157,zhe)::tb13
def lt14:List ((Nat×Nat)×(Nat→St→Option (Bool×LO))):=lt13
def Γ14:Ctx:=⟨tyTab,fnTab,tblSum tb14,tblLp lt14⟩
theorem y9t:SumL J tb14:=SumL.cons y4x (SumL.cons yb7 (SumL.cons zza (y36)))
theorem y9r:LpL J fnTab lt14:=y27
def zt1  : Option (Bool)→Option (AV×List Blk)
 | some r=>some ((.v (.one (.bool r))),[])
 | none=>none
def zt7:List PT→Option (Bool×AV×List Blk)
 | [.agg [.row 1 q00 (.fl .f32 q03),.row 1 q02 (.fl .f32 q06),.row 1 q01 (.fl .f32 q05),.row 3 q09 (.fl .f32 q0e),.s (.int .i64 q0h),.s (.flt .f32 q0n),.s (.flt .f32 q0m)],.one (.s (.int .i64 i)),.one (.s (.flt .f32 q0s)),.one (.s (.flt .f32 q0p)),.one (.s (.flt .f32 q0l))]=>sF zt1 (z9a q00 q03 q02 q06 q01 q05 q09 q0e q0h q0n q0m i q0s q0p q0l)
 | _=>none
theorem yfx:ev8 Γ14 139 [.agg [.row 1 a0 (.fl .f32 g1),.row 1 a2 (.fl .f32 g3),.row 1 a4 (.fl .f32 g5),.row 3 a6 (.fl .f32 g7),.s (.int .i64 c8),.s (.flt .f32 a9),.s (.flt .f32 a10)],.one (.s (.int .i64 c11)),.one (.s (.flt .f32 a12)),.one (.s (.flt .f32 a13)),.one (.s (.flt .f32 a14))]=zt1 (z9a a0 g1 a2 g3 a4 g5 a6 g7 c8 a9 a10 c11 a12 a13 a14):=tr2 (y8z a0 g1 a2 g3 a4 g5 a6 g7 c8 a9 a10 c11 a12 a13 a14 zt1 rfl (fun c0_=>some c0_)) (by kernel_rfl)
theorem ybf:SumOne J 139 zt7:=mkT y9t y9r fun pts v news hp=>by
 unfold zt7 at hp
 split at hp
 ·exact fin3 (yfx ..) hp
 ·cases hp
def zm7  : Option (Nat)→Option (AV×List Blk)
 | some r=>some ((.v (.one (.flt .f32 r))),[])
 | none=>none
def zly:List PT→Option (Bool×AV×List Blk)
 | [.ptr [.row 1 q00 (.fl .f32 q03),.row 1 q02 (.fl .f32 q06),.row 1 q01 (.fl .f32 q05),.row 3 q09 (.fl .f32 q0e),.s (.int .i64 q0h),.s (.flt .f32 q0n),.s (.flt .f32 q0m)],.one (.s (.int .i64 i)),.one (.s (.flt .f32 q1o)),.one (.s (.flt .f32 q0s)),.one (.s (.flt .f32 q0p)),.one (.s (.flt .f32 q0l))]=>sF zm7 (z42 q00 q03 q02 q06 q01 q05 q09 q0e q0h q0n q0m i q1o q0s q0p q0l)
 | _=>none
theorem yae:ev8 Γ14 149 [.ptr [.row 1 a0 (.fl .f32 g1),.row 1 a2 (.fl .f32 g3),.row 1 a4 (.fl .f32 g5),.row 3 a6 (.fl .f32 g7),.s (.int .i64 c8),.s (.flt .f32 a9),.s (.flt .f32 a10)],.one (.s (.int .i64 c11)),.one (.s (.flt .f32 a12)),.one (.s (.flt .f32 a13)),.one (.s (.flt .f32 a14)),.one (.s (.flt .f32 a15))]=zm7 (z42 a0 g1 a2 g3 a4 g5 a6 g7 c8 a9 a10 c11 a12 a13 a14 a15):=tr2 (y25 a0 g1 a2 g3 a4 g5 a6 g7 c8 a9 a10 c11 a12 a13 a14 a15 zm7 rfl (fun c0_=>some c0_)) (by kernel_rfl)
theorem y3l:SumOne J 149 zly:=mkT y9t y9r fun pts v news hp=>by
 unfold zly at hp
 split at hp
 ·exact fin3 (yae ..) hp
 ·cases hp
def tb15:List (Nat×(List PT→Option (Bool×AV×List Blk))):=(139,zt7)::(149,zly)::tb14
def lt15:List ((Nat×Nat)×(Nat→St→Option (Bool×LO))):=lt14
def Γ15:Ctx:=⟨tyTab,fnTab,tblSum tb15,tblLp lt15⟩
theorem ygf:SumL J tb15:=SumL.cons ybf (SumL.cons y3l (y9t))
theorem ygh:LpL J fnTab lt15:=y9r
def zo4  : Option (Nat×Bool)→Option (AV×List Blk)
 | some r=>some ((.tup [(.one (.flt .f32 r.1)),(.one (.bool r.2))]),[])
 | none=>none
def zol:List PT→Option (Bool×AV×List Blk)
 | [.agg [.row 1 q00 (.fl .f32 q03),.row 1 q02 (.fl .f32 q06),.row 1 q01 (.fl .f32 q05),.row 3 q09 (.fl .f32 q0e),.s (.int .i64 q0h),.s (.flt .f32 q0n),.s (.flt .f32 q0m)],.one (.s (.int .i64 i)),.one (.s (.flt .f32 q1o)),.one (.s (.flt .f32 q0s)),.one (.s (.flt .f32 q0p)),.one (.s (.flt .f32 q0l))]=>sF zo4 (z5p q00 q03 q02 q06 q01 q05 q09 q0e q0h q0n q0m i q1o q0s q0p q0l)
 | _=>none
theorem yc2:ev8 Γ15 140 [.agg [.row 1 a0 (.fl .f32 g1),.row 1 a2 (.fl .f32 g3),.row 1 a4 (.fl .f32 g5),.row 3 a6 (.fl .f32 g7),.s (.int .i64 c8),.s (.flt .f32 a9),.s (.flt .f32 a10)],.one (.s (.int .i64 c11)),.one (.s (.flt .f32 a12)),.one (.s (.flt .f32 a13)),.one (.s (.flt .f32 a14)),.one (.s (.flt .f32 a15))]=zo4 (z5p a0 g1 a2 g3 a4 g5 a6 g7 c8 a9 a10 c11 a12 a13 a14 a15):=tr2 (y50 a0 g1 a2 g3 a4 g5 a6 g7 c8 a9 a10 c11 a12 a13 a14 a15 zo4 rfl (fun c0_ c1_=>some (c0_,c1_))) (by kernel_rfl)
theorem y6y:SumOne J 140 zol:=mkT ygf ygh fun pts v news hp=>by
 unfold zol at hp
 split at hp
 ·exact fin3 (yc2 ..) hp
 ·cases hp
def tb16:List (Nat×(List PT→Option (Bool×AV×List Blk))):=(140,zol)::tb15
def lt16:List ((Nat×Nat)×(Nat→St→Option (Bool×LO))):=lt15
def Γ16:Ctx:=⟨tyTab,fnTab,tblSum tb16,tblLp lt16⟩
theorem yfd:SumL J tb16:=SumL.cons y6y (ygf)
theorem yfp:LpL J fnTab lt16:=ygh
def zbv:St:=(.mk [(x0P 0 4 7),(x0I 1 c0),(x0F 2 a1),(x0F 3 a2),(x0F 4 a3),(x0F 12 a4),(x0F 13 a5),(x0I 14 c6)] [(x0L g7),(x0L g8),(x0L g9),(x0L g10),(x0R false 0 1 2 3 a11 a12 a13 a14 c15 a16 a17)])
def zh2(i:Int)(q0s q0p q0l:Nat)(b0 b1 b2 b3:List Nat)(q0w q0x q0y q0r:Nat)(q1f:Int)(q1g q0z:Nat):St:=(.mk [(x0F 10 0),(x0B 11 false)] [(x0L b0),(x0L b1),(x0L b2),(x0L b3),(x0R false 0 1 2 3 q0w q0x q0y q0r q1f q1g q0z)])
def zhz:St:=(.mk [(x0P 0 4 7),(x0I 1 c0),(x0F 2 a1),(x0F 3 a2),(x0F 4 a3),(x0F 12 a15),(x0F 13 a16),(x0I 14 c17),(x0B 18 e18)] [(x0L g4),(x0L g5),(x0L g6),(x0L g7),(x0R false 0 1 2 3 a8 a9 a10 a11 c12 a13 a14)])
def zj2:Option ((Unit)⊕(Nat×Nat×Int×Bool))→Option (Ex×St)
 | none=>none
 | some (Sum.inl r)=>some (.ret,(zh2 c0 a1 a2 a3 g4 g5 g6 g7 a8 a9 a10 a11 c12 a13 a14))
 | some (Sum.inr r)=>some ((.exit 0),(zhz c0 a1 a2 a3 g4 g5 g6 g7 a8 a9 a10 a11 c12 a13 a14 r.1 r.2.1 r.2.2.1 r.2.2.2))
def zr7 (x:Option ((Unit)⊕(Nat×Nat×Int×Bool))):LO:=(.two (oL x) (.one .ret (zh2 c0 a1 a2 a3 g4 g5 g6 g7 a8 a9 a10 a11 c12 a13 a14)) (.one (.exit 0) (zhz c0 a1 a2 a3 g4 g5 g6 g7 a8 a9 a10 a11 c12 a13 a14 ((tR x).getD default).1 ((tR x).getD default).2.1 ((tR x).getD default).2.2.1 ((tR x).getD default).2.2.2)))
def y2d:Bool×LO:=sL (zr7 c0 a1 a2 a3 g7 g8 g9 g10 a11 a12 a13 a14 c15 a16 a17) (z0w c0 a1 a2 a3 g7 g8 g9 g10 a11 a12 a13 a14 c15 a16 a17 big a4 a5 c6)
def zrq:Nat→St→Option (Bool×LO):=lpT 5 (pSt [(x1P 0 4 7),(x1I 1),(x1F 2),(x1F 3),(x1F 4),(x1F 12),(x1F 13),(x1I 14)] [x1L,x1L,x1L,x1L,(x1R false 0 1 2 3)]) (fun hs=>y2d (hI hs 0) (hN hs 1) (hN hs 2) (hN hs 3) (hN hs 4) (hN hs 5) (hI hs 6) (hLn hs 7) (hLn hs 8) (hLn hs 9) (hLn hs 10) (hN hs 11) (hN hs 12) (hN hs 13) (hN hs 14) (hI hs 15) (hN hs 16) (hN hs 17))
theorem y7g:∀ x:Option ((Unit)⊕(Nat×Nat×Int×Bool)),x.isSome=true→(zj2 c0 a1 a2 a3 g4 g5 g6 g7 a8 a9 a10 a11 c12 a13 a14) x=some (pick (zr7 c0 a1 a2 a3 g4 g5 g6 g7 a8 a9 a10 a11 c12 a13 a14 x))
 | none,h=>by cases h
 | some (Sum.inl r),_=>rfl
 | some (Sum.inr r),_=>rfl
theorem y6x (K:Ex→St→Option (Ex×St)):ev9 Γ16 129 4 5 fi129 (zbv c0 a1 a2 a3 a4 a5 c6 g7 g8 g9 g10 a11 a12 a13 a14 c15 a16 a17) K=z2z c0 a1 a2 a3 g7 g8 g9 g10 a11 a12 a13 a14 c15 a16 a17 a4 a5 c6 (fun low' q1z' k'=>K .normal (zbv c0 a1 a2 a3 low' q1z' k' g7 g8 g9 g10 a11 a12 a13 a14 c15 a16 a17)) (fun _=>K .ret (zh2 c0 a1 a2 a3 g7 g8 g9 g10 a11 a12 a13 a14 c15 a16 a17)) (fun c0_ c1_ c2_ c3_=>K (.exit 0) (zhz c0 a1 a2 a3 g7 g8 g9 g10 a11 a12 a13 a14 c15 a16 a17 c0_ c1_ c2_ c3_)):=by kernel_rfl
theorem y7c:∀ (n low q1z:Nat) (k:Int),iter 129 4 5 (ev9 Γ16 129 4 5 fi129) n (zbv c0 a1 a2 a3 low q1z k g4 g5 g6 g7 a8 a9 a10 a11 c12 a13 a14) (fun e st=>some (e,st))=(zj2 c0 a1 a2 a3 g4 g5 g6 g7 a8 a9 a10 a11 c12 a13 a14) (z0w c0 a1 a2 a3 g4 g5 g6 g7 a8 a9 a10 a11 c12 a13 a14 n low q1z k):=by
 intro n
 induction n with
 | zero=>intros;rfl
 | succ n ih=>
  intro low q1z k
  refine Eq.trans (iter_succ ..) (Eq.trans (y6x ..) (Eq.trans ?_ (zz5 c0 a1 a2 a3 g4 g5 g6 g7 a8 a9 a10 a11 c12 a13 a14 low q1z k (zj2 c0 a1 a2 a3 g4 g5 g6 g7 a8 a9 a10 a11 c12 a13 a14) rfl (fun low' q1z' k'=>z0w c0 a1 a2 a3 g4 g5 g6 g7 a8 a9 a10 a11 c12 a13 a14 n low' q1z' k') (fun _=>some (Sum.inl ())) (fun c0_ c1_ c2_ c3_=>some (Sum.inr (c0_,c1_,c2_,c3_))))))
  exact congrArg (fun kn_=>z2z c0 a1 a2 a3 g4 g5 g6 g7 a8 a9 a10 a11 c12 a13 a14 low q1z k kn_ _ _) (funext fun low'=>funext fun q1z'=>funext fun k'=>ih ..)
theorem y0z:LoopOne J fnTab 129 4 zrq:=lpK yfd yfp (fi:=fi129) (by kernel_rfl) (by kernel_rfl) (q:=fun hs=>(zbv (hI hs 0) (hN hs 1) (hN hs 2) (hN hs 3) (hN hs 4) (hN hs 5) (hI hs 6) (hLn hs 7) (hLn hs 8) (hLn hs 9) (hLn hs 10) (hN hs 11) (hN hs 12) (hN hs 13) (hN hs 14) (hI hs 15) (hN hs 16) (hN hs 17))) (fun hs=>by kernel_rfl) fun hs h1=>Eq.trans (y7c (hI hs 0) (hN hs 1) (hN hs 2) (hN hs 3) (hLn hs 7) (hLn hs 8) (hLn hs 9) (hLn hs 10) (hN hs 11) (hN hs 12) (hN hs 13) (hN hs 14) (hI hs 15) (hN hs 16) (hN hs 17) big (hN hs 4) (hN hs 5) (hI hs 6)) (y7g (hI hs 0) (hN hs 1) (hN hs 2) (hN hs 3) (hLn hs 7) (hLn hs 8) (hLn hs 9) (hLn hs 10) (hN hs 11) (hN hs 12) (hN hs 13) (hN hs 14) (hI hs 15) (hN hs 16) (hN hs 17) _ h1)
def tb17:List (Nat×(List PT→Option (Bool×AV×List Blk))):=tb16
def lt17:List ((Nat×Nat)×(Nat→St→Option (Bool×LO))):=((129,4),zrq)::lt16
def Γ17:Ctx:=⟨tyTab,fnTab,tblSum tb17,tblLp lt17⟩
theorem y9l:SumL J tb17:=yfd
theorem y9p:LpL J fnTab lt17:=LpL.cons y0z (yfp)
def zny  : Option (Nat×Bool)→Option (AV×List Blk)
 | some r=>some ((.tup [(.one (.flt .f32 r.1)),(.one (.bool r.2))]),[])
 | none=>none
def zoa:List PT→Option (Bool×AV×List Blk)
 | [.ptr [.row 1 q00 (.fl .f32 q03),.row 1 q02 (.fl .f32 q06),.row 1 q01 (.fl .f32 q05),.row 3 q09 (.fl .f32 q0e),.s (.int .i64 q0h),.s (.flt .f32 q0n),.s (.flt .f32 q0m)],.one (.s (.int .i64 i)),.one (.s (.flt .f32 q0s)),.one (.s (.flt .f32 q0p)),.one (.s (.flt .f32 q0l))]=>sF zny (z5o q00 q03 q02 q06 q01 q05 q09 q0e q0h q0n q0m i q0s q0p q0l)
 | _=>none
theorem yd0:ev8 Γ17 129 [.ptr [.row 1 a0 (.fl .f32 g1),.row 1 a2 (.fl .f32 g3),.row 1 a4 (.fl .f32 g5),.row 3 a6 (.fl .f32 g7),.s (.int .i64 c8),.s (.flt .f32 a9),.s (.flt .f32 a10)],.one (.s (.int .i64 c11)),.one (.s (.flt .f32 a12)),.one (.s (.flt .f32 a13)),.one (.s (.flt .f32 a14))]=zny (z5o a0 g1 a2 g3 a4 g5 a6 g7 c8 a9 a10 c11 a12 a13 a14):=tr2 (y4b a0 g1 a2 g3 a4 g5 a6 g7 c8 a9 a10 c11 a12 a13 a14 zny rfl (fun c0_ c1_=>some (c0_,c1_))) (by kernel_rfl)
theorem y73:SumOne J 129 zoa:=mkT y9l y9p fun pts v news hp=>by
 unfold zoa at hp
 split at hp
 ·exact fin3 (yd0 ..) hp
 ·cases hp
def zhn:St:=(.mk [(x0I 1 c0),(x0F 2 a1),(x0F 3 a2),(x0F 4 a3),(x0P 5 4 7),(x0F 12 a4),(x0F 13 a5),(x0I 24 c6)] [(x0L g7),(x0L g8),(x0L g9),(x0L g10),(x0R true 0 1 2 3 a11 a12 a13 a14 c15 a16 a17)])
def zm2(i:Int)(q0s q0p q0l:Nat)(b0 b1 b2 b3:List Nat)(q0w q0x q0y q0r:Nat)(q1f:Int)(q1g q0z:Nat):St:=(.mk [(x0F 10 0),(x0B 11 false)] [(x0L b0),(x0L b1),(x0L b2),(x0L b3)])
def zmb:St:=(.mk [(x0I 1 c0),(x0F 2 a1),(x0F 3 a2),(x0F 4 a3),(x0P 5 4 7),(x0F 12 a15),(x0F 13 a16),(x0I 24 c17),(x0B 25 e18)] [(x0L g4),(x0L g5),(x0L g6),(x0L g7),(x0R true 0 1 2 3 a8 a9 a10 a11 c12 a13 a14)])
def zom:Option ((Unit)⊕(Nat×Nat×Int×Bool))→Option (Ex×St)
 | none=>none
 | some (Sum.inl r)=>some (.ret,(zm2 c0 a1 a2 a3 g4 g5 g6 g7 a8 a9 a10 a11 c12 a13 a14))
 | some (Sum.inr r)=>some ((.exit 0),(zmb c0 a1 a2 a3 g4 g5 g6 g7 a8 a9 a10 a11 c12 a13 a14 r.1 r.2.1 r.2.2.1 r.2.2.2))
def zvh (x:Option ((Unit)⊕(Nat×Nat×Int×Bool))):LO:=(.two (oL x) (.one .ret (zm2 c0 a1 a2 a3 g4 g5 g6 g7 a8 a9 a10 a11 c12 a13 a14)) (.one (.exit 0) (zmb c0 a1 a2 a3 g4 g5 g6 g7 a8 a9 a10 a11 c12 a13 a14 ((tR x).getD default).1 ((tR x).getD default).2.1 ((tR x).getD default).2.2.1 ((tR x).getD default).2.2.2)))
def y8j:Bool×LO:=sL (zvh c0 a1 a2 a3 g7 g8 g9 g10 a11 a12 a13 a14 c15 a16 a17) (z19 c0 a1 a2 a3 g7 g8 g9 g10 a11 a12 a13 a14 c15 a16 a17 big a4 a5 c6)
def zwz:Nat→St→Option (Bool×LO):=lpT 4 (pSt [(x1I 1),(x1F 2),(x1F 3),(x1F 4),(x1P 5 4 7),(x1F 12),(x1F 13),(x1I 24)] [x1L,x1L,x1L,x1L,(x1R true 0 1 2 3)]) (fun hs=>y8j (hI hs 0) (hN hs 1) (hN hs 2) (hN hs 3) (hN hs 4) (hN hs 5) (hI hs 6) (hLn hs 7) (hLn hs 8) (hLn hs 9) (hLn hs 10) (hN hs 11) (hN hs 12) (hN hs 13) (hN hs 14) (hI hs 15) (hN hs 16) (hN hs 17))
theorem ybw:∀ x:Option ((Unit)⊕(Nat×Nat×Int×Bool)),x.isSome=true→(zom c0 a1 a2 a3 g4 g5 g6 g7 a8 a9 a10 a11 c12 a13 a14) x=some (pick (zvh c0 a1 a2 a3 g4 g5 g6 g7 a8 a9 a10 a11 c12 a13 a14 x))
 | none,h=>by cases h
 | some (Sum.inl r),_=>rfl
 | some (Sum.inr r),_=>rfl
theorem ycn (K:Ex→St→Option (Ex×St)):ev9 Γ17 104 5 4 fi104 (zhn c0 a1 a2 a3 a4 a5 c6 g7 g8 g9 g10 a11 a12 a13 a14 c15 a16 a17) K=z4p c0 a1 a2 a3 g7 g8 g9 g10 a11 a12 a13 a14 c15 a16 a17 a4 a5 c6 (fun low' q1z' t24'=>K .normal (zhn c0 a1 a2 a3 low' q1z' t24' g7 g8 g9 g10 a11 a12 a13 a14 c15 a16 a17)) (fun _=>K .ret (zm2 c0 a1 a2 a3 g7 g8 g9 g10 a11 a12 a13 a14 c15 a16 a17)) (fun c0_ c1_ c2_ c3_=>K (.exit 0) (zmb c0 a1 a2 a3 g7 g8 g9 g10 a11 a12 a13 a14 c15 a16 a17 c0_ c1_ c2_ c3_)):=by kernel_rfl
theorem yc6:∀ (n low q1z:Nat) (t24:Int),iter 104 5 4 (ev9 Γ17 104 5 4 fi104) n (zhn c0 a1 a2 a3 low q1z t24 g4 g5 g6 g7 a8 a9 a10 a11 c12 a13 a14) (fun e st=>some (e,st))=(zom c0 a1 a2 a3 g4 g5 g6 g7 a8 a9 a10 a11 c12 a13 a14) (z19 c0 a1 a2 a3 g4 g5 g6 g7 a8 a9 a10 a11 c12 a13 a14 n low q1z t24):=by
 intro n
 induction n with
 | zero=>intros;rfl
 | succ n ih=>
  intro low q1z t24
  refine Eq.trans (iter_succ ..) (Eq.trans (ycn ..) (Eq.trans ?_ (y5g c0 a1 a2 a3 g4 g5 g6 g7 a8 a9 a10 a11 c12 a13 a14 low q1z t24 (zom c0 a1 a2 a3 g4 g5 g6 g7 a8 a9 a10 a11 c12 a13 a14) rfl (fun low' q1z' t24'=>z19 c0 a1 a2 a3 g4 g5 g6 g7 a8 a9 a10 a11 c12 a13 a14 n low' q1z' t24') (fun _=>some (Sum.inl ())) (fun c0_ c1_ c2_ c3_=>some (Sum.inr (c0_,c1_,c2_,c3_))))))
  exact congrArg (fun kn_=>z4p c0 a1 a2 a3 g4 g5 g6 g7 a8 a9 a10 a11 c12 a13 a14 low q1z t24 kn_ _ _) (funext fun low'=>funext fun q1z'=>funext fun t24'=>ih ..)
theorem y6o:LoopOne J fnTab 104 5 zwz:=lpK y9l y9p (fi:=fi104) (by kernel_rfl) (by kernel_rfl) (q:=fun hs=>(zhn (hI hs 0) (hN hs 1) (hN hs 2) (hN hs 3) (hN hs 4) (hN hs 5) (hI hs 6) (hLn hs 7) (hLn hs 8) (hLn hs 9) (hLn hs 10) (hN hs 11) (hN hs 12) (hN hs 13) (hN hs 14) (hI hs 15) (hN hs 16) (hN hs 17))) (fun hs=>by kernel_rfl) fun hs h1=>Eq.trans (yc6 (hI hs 0) (hN hs 1) (hN hs 2) (hN hs 3) (hLn hs 7) (hLn hs 8) (hLn hs 9) (hLn hs 10) (hN hs 11) (hN hs 12) (hN hs 13) (hN hs 14) (hI hs 15) (hN hs 16) (hN hs 17) big (hN hs 4) (hN hs 5) (hI hs 6)) (ybw (hI hs 0) (hN hs 1) (hN hs 2) (hN hs 3) (hLn hs 7) (hLn hs 8) (hLn hs 9) (hLn hs 10) (hN hs 11) (hN hs 12) (hN hs 13) (hN hs 14) (hI hs 15) (hN hs 16) (hN hs 17) _ h1)
def tb18:List (Nat×(List PT→Option (Bool×AV×List Blk))):=(129,zoa)::tb17
def lt18:List ((Nat×Nat)×(Nat→St→Option (Bool×LO))):=((104,5),zwz)::lt17
def Γ18:Ctx:=⟨tyTab,fnTab,tblSum tb18,tblLp lt18⟩
theorem y9s:SumL J tb18:=SumL.cons y73 (y9l)
theorem y9o:LpL J fnTab lt18:=LpL.cons y6o (y9p)
def zo7  : Option (Nat×Nat×Bool)→Option (AV×List Blk)
 | some r=>some ((.tup [(.one (.flt .f32 r.1)),(.one (.flt .f32 r.2.1)),(.one (.bool r.2.2))]),[])
 | none=>none
def znr:List PT→Option (Bool×AV×List Blk)
 | [.ptr [.row 1 q04 (.fl .f32 q0a),.row 1 q08 (.fl .f32 q0b),.row 1 q07 (.fl .f32 q0c),.row 3 q0d (.fl .f32 q0f),.s (.int .i64 q0g),.s (.flt .f32 q0i),.s (.flt .f32 q0j)],.one (.s (.int .i64 x1)),.one (.s (.flt .f32 x2)),.one (.s (.flt .f32 x3)),.one (.s (.flt .f32 x4)),.one (.s (.flt .f32 x5))]=>sF zo7 (z2e q04 q0a q08 q0b q07 q0c q0d q0f q0g q0i q0j x1 x2 x3 x4 x5)
 | _=>none
theorem yc3:ev8 Γ18 88 [.ptr [.row 1 a0 (.fl .f32 g1),.row 1 a2 (.fl .f32 g3),.row 1 a4 (.fl .f32 g5),.row 3 a6 (.fl .f32 g7),.s (.int .i64 c8),.s (.flt .f32 a9),.s (.flt .f32 a10)],.one (.s (.int .i64 c11)),.one (.s (.flt .f32 a12)),.one (.s (.flt .f32 a13)),.one (.s (.flt .f32 a14)),.one (.s (.flt .f32 a15))]=zo7 (z2e a0 g1 a2 g3 a4 g5 a6 g7 c8 a9 a10 c11 a12 a13 a14 a15):=tr2 (y3q a0 g1 a2 g3 a4 g5 a6 g7 c8 a9 a10 c11 a12 a13 a14 a15 zo7 rfl (fun c0_ c1_ c2_=>some (c0_,c1_,c2_))) (by kernel_rfl)
theorem y74:SumOne J 88 znr:=mkT y9s y9o fun pts v news hp=>by
 unfold znr at hp
 split at hp
 ·exact fin3 (yc3 ..) hp
 ·cases hp
def zuk  : Option (Nat×Bool)→Option (AV×List Blk)
 | some r=>some ((.tup [(.one (.flt .f32 r.1)),(.one (.bool r.2))]),[])
 | none=>none
def zuo:List PT→Option (Bool×AV×List Blk)
 | [.agg [.row 1 q00 (.fl .f32 q03),.row 1 q02 (.fl .f32 q06),.row 1 q01 (.fl .f32 q05),.row 3 q09 (.fl .f32 q0e),.s (.int .i64 q0h),.s (.flt .f32 q0n),.s (.flt .f32 q0m)],.one (.s (.int .i64 i)),.one (.s (.flt .f32 q0s)),.one (.s (.flt .f32 q0p)),.one (.s (.flt .f32 q0l))]=>sF zuk (z8n q00 q03 q02 q06 q01 q05 q09 q0e q0h q0n q0m i q0s q0p q0l)
 | _=>none
theorem yh2:ev8 Γ18 104 [.agg [.row 1 a0 (.fl .f32 g1),.row 1 a2 (.fl .f32 g3),.row 1 a4 (.fl .f32 g5),.row 3 a6 (.fl .f32 g7),.s (.int .i64 c8),.s (.flt .f32 a9),.s (.flt .f32 a10)],.one (.s (.int .i64 c11)),.one (.s (.flt .f32 a12)),.one (.s (.flt .f32 a13)),.one (.s (.flt .f32 a14))]=zuk (z8n a0 g1 a2 g3 a4 g5 a6 g7 c8 a9 a10 c11 a12 a13 a14):=tr2 (y9z a0 g1 a2 g3 a4 g5 a6 g7 c8 a9 a10 c11 a12 a13 a14 zuk rfl (fun c0_ c1_=>some (c0_,c1_))) (by kernel_rfl)
theorem ycj:SumOne J 104 zuo:=mkT y9s y9o fun pts v news hp=>by
 unfold zuo at hp
 split at hp
 ·exact fin3 (yh2 ..) hp
 ·cases hp
def tb19:List (Nat×(List PT→Option (Bool×AV×List Blk))):=(88,znr)::(104,zuo)::tb18
def lt19:List ((Nat×Nat)×(Nat→St→Option (Bool×LO))):=lt18
def Γ19:Ctx:=⟨tyTab,fnTab,tblSum tb19,tblLp lt19⟩
theorem yeo:SumL J tb19:=SumL.cons y74 (SumL.cons ycj (y9s))
theorem yf5:LpL J fnTab lt19:=y9o
def zh8  : Option (Nat×Nat×Bool)→Option (AV×List Blk)
 | some r=>some ((.tup [(.one (.flt .f32 r.1)),(.one (.flt .f32 r.2.1)),(.one (.bool r.2.2))]),[])
 | none=>none
def zao:List PT→Option (Bool×AV×List Blk)
 | [.agg [.row 1 q04 (.fl .f32 q0a),.row 1 q08 (.fl .f32 q0b),.row 1 q07 (.fl .f32 q0c),.row 3 q0d (.fl .f32 q0f),.s (.int .i64 q0g),.s (.flt .f32 q0i),.s (.flt .f32 q0j)],.one (.s (.int .i64 x1)),.one (.s (.flt .f32 x2)),.one (.s (.flt .f32 x3)),.one (.s (.flt .f32 x4)),.one (.s (.flt .f32 x5))]=>sF zh8 (z21 q04 q0a q08 q0b q07 q0c q0d q0f q0g q0i q0j x1 x2 x3 x4 x5)
 | _=>none
theorem y4e:ev8 Γ19 56 [.agg [.row 1 a0 (.fl .f32 g1),.row 1 a2 (.fl .f32 g3),.row 1 a4 (.fl .f32 g5),.row 3 a6 (.fl .f32 g7),.s (.int .i64 c8),.s (.flt .f32 a9),.s (.flt .f32 a10)],.one (.s (.int .i64 c11)),.one (.s (.flt .f32 a12)),.one (.s (.flt .f32 a13)),.one (.s (.flt .f32 a14)),.one (.s (.flt .f32 a15))]=zh8 (z21 a0 g1 a2 g3 a4 g5 a6 g7 c8 a9 a10 c11 a12 a13 a14 a15):=tr2 (zxc a0 g1 a2 g3 a4 g5 a6 g7 c8 a9 a10 c11 a12 a13 a14 a15 zh8 rfl (fun c0_ c1_ c2_=>some (c0_,c1_,c2_))) (by kernel_rfl)
theorem zl8:SumOne J 56 zao:=mkT yeo yf5 fun pts v news hp=>by
 unfold zao at hp
 split at hp
 ·exact fin3 (y4e ..) hp
 ·cases hp
def tb20:List (Nat×(List PT→Option (Bool×AV×List Blk))):=(56,zao)::tb19
def lt20:List ((Nat×Nat)×(Nat→St→Option (Bool×LO))):=lt19
def Γ20:Ctx:=⟨tyTab,fnTab,tblSum tb20,tblLp lt20⟩
theorem zwm:SumL J tb20:=SumL.cons zl8 (yeo)
theorem y9n:LpL J fnTab lt20:=yf5
def zhr:St:=(.mk [(x0P 0 4 7),(x0F 1 a0),(x0F 2 a1),(x0F 3 a2),(x0F 4 a3),(x0S 13 5 a4 1),(x0S 14 6 a5 1),(x0I 15 c6)] [(x0L g7),(x0L g8),(x0L g9),(x0L g10),(x0R false 0 1 2 3 a11 a12 a13 a14 c15 a16 a17),(x0T g18),(x0T g19)])
def zlg(t1 t2 t3 t4:Nat)(b0 b1 b2 b3:List Nat)(q0w q0x q0y q0r:Nat)(q1f:Int)(q1g q0z:Nat):St:=(.mk [(10,(.v (.one .nilsl))),(11,(.v (.one .nilsl))),(x0B 12 false)] [(x0L b0),(x0L b1),(x0L b2),(x0L b3),(x0R false 0 1 2 3 q0w q0x q0y q0r q1f q1g q0z)])
def zmk:St:=(.mk [(x0P 0 4 7),(x0F 1 a0),(x0F 2 a1),(x0F 3 a2),(x0F 4 a3),(x0S 13 5 a15 1),(x0S 14 6 a16 1),(x0I 15 c17),(x0B 35 e18)] [(x0L g4),(x0L g5),(x0L g6),(x0L g7),(x0R false 0 1 2 3 a8 a9 a10 a11 c12 a13 a14),(x0T g19),(x0T g20)])
def zoe:Option ((Unit)⊕(Nat×Nat×Int×Bool×(List Nat)×(List Nat)))→Option (Ex×St)
 | none=>none
 | some (Sum.inl r)=>some (.ret,(zlg a0 a1 a2 a3 g4 g5 g6 g7 a8 a9 a10 a11 c12 a13 a14))
 | some (Sum.inr r)=>some ((.exit 0),(zmk a0 a1 a2 a3 g4 g5 g6 g7 a8 a9 a10 a11 c12 a13 a14 r.1 r.2.1 r.2.2.1 r.2.2.2.1 r.2.2.2.2.1 r.2.2.2.2.2))
def zvo (x:Option ((Unit)⊕(Nat×Nat×Int×Bool×(List Nat)×(List Nat)))):LO:=(.two (oL x) (.one .ret (zlg a0 a1 a2 a3 g4 g5 g6 g7 a8 a9 a10 a11 c12 a13 a14)) (.one (.exit 0) (zmk a0 a1 a2 a3 g4 g5 g6 g7 a8 a9 a10 a11 c12 a13 a14 ((tR x).getD default).1 ((tR x).getD default).2.1 ((tR x).getD default).2.2.1 ((tR x).getD default).2.2.2.1 ((tR x).getD default).2.2.2.2.1 ((tR x).getD default).2.2.2.2.2)))
def y8i:Bool×LO:=sL (zvo a0 a1 a2 a3 g7 g8 g9 g10 a11 a12 a13 a14 c15 a16 a17) (z0o a0 a1 a2 a3 g7 g8 g9 g10 a11 a12 a13 a14 c15 a16 a17 big a4 a5 c6 g18 g19)
def zxa:Nat→St→Option (Bool×LO):=lpT 5 (pSt [(x1P 0 4 7),(x1F 1),(x1F 2),(x1F 3),(x1F 4),(x1S 13 5 1),(x1S 14 6 1),(x1I 15)] [x1L,x1L,x1L,x1L,(x1R false 0 1 2 3),x1T,x1T]) (fun hs=>y8i (hN hs 0) (hN hs 1) (hN hs 2) (hN hs 3) (hN hs 4) (hN hs 5) (hI hs 6) (hLn hs 7) (hLn hs 8) (hLn hs 9) (hLn hs 10) (hN hs 11) (hN hs 12) (hN hs 13) (hN hs 14) (hI hs 15) (hN hs 16) (hN hs 17) (hLn hs 18) (hLn hs 19))
theorem ybu:∀ x:Option ((Unit)⊕(Nat×Nat×Int×Bool×(List Nat)×(List Nat))),x.isSome=true→(zoe a0 a1 a2 a3 g4 g5 g6 g7 a8 a9 a10 a11 c12 a13 a14) x=some (pick (zvo a0 a1 a2 a3 g4 g5 g6 g7 a8 a9 a10 a11 c12 a13 a14 x))
 | none,h=>by cases h
 | some (Sum.inl r),_=>rfl
 | some (Sum.inr r),_=>rfl
theorem yce (K:Ex→St→Option (Ex×St)):ev9 Γ20 50 6 5 fi50 (zhr a0 a1 a2 a3 a4 a5 c6 g7 g8 g9 g10 a11 a12 a13 a14 c15 a16 a17 g18 g19) K=z4s a0 a1 a2 a3 g7 g8 g9 g10 a11 a12 a13 a14 c15 a16 a17 a4 a5 c6 g18 g19 (fun q3c' q3b' t15' b5' b6'=>K .normal (zhr a0 a1 a2 a3 q3c' q3b' t15' g7 g8 g9 g10 a11 a12 a13 a14 c15 a16 a17 b5' b6')) (fun _=>K .ret (zlg a0 a1 a2 a3 g7 g8 g9 g10 a11 a12 a13 a14 c15 a16 a17)) (fun c0_ c1_ c2_ c3_ c4_ c5_=>K (.exit 0) (zmk a0 a1 a2 a3 g7 g8 g9 g10 a11 a12 a13 a14 c15 a16 a17 c0_ c1_ c2_ c3_ c4_ c5_)):=by kernel_rfl
theorem ybz:∀ (n q3c q3b:Nat) (t15:Int) (b5 b6:List Nat),iter 50 6 5 (ev9 Γ20 50 6 5 fi50) n (zhr a0 a1 a2 a3 q3c q3b t15 g4 g5 g6 g7 a8 a9 a10 a11 c12 a13 a14 b5 b6) (fun e st=>some (e,st))=(zoe a0 a1 a2 a3 g4 g5 g6 g7 a8 a9 a10 a11 c12 a13 a14) (z0o a0 a1 a2 a3 g4 g5 g6 g7 a8 a9 a10 a11 c12 a13 a14 n q3c q3b t15 b5 b6):=by
 intro n
 induction n with
 | zero=>intros;rfl
 | succ n ih=>
  intro q3c q3b t15 b5 b6
  refine Eq.trans (iter_succ ..) (Eq.trans (yce ..) (Eq.trans ?_ (y3m a0 a1 a2 a3 g4 g5 g6 g7 a8 a9 a10 a11 c12 a13 a14 q3c q3b t15 b5 b6 (zoe a0 a1 a2 a3 g4 g5 g6 g7 a8 a9 a10 a11 c12 a13 a14) rfl (fun q3c' q3b' t15' b5' b6'=>z0o a0 a1 a2 a3 g4 g5 g6 g7 a8 a9 a10 a11 c12 a13 a14 n q3c' q3b' t15' b5' b6') (fun _=>some (Sum.inl ())) (fun c0_ c1_ c2_ c3_ c4_ c5_=>some (Sum.inr (c0_,c1_,c2_,c3_,c4_,c5_))))))
  exact congrArg (fun kn_=>z4s a0 a1 a2 a3 g4 g5 g6 g7 a8 a9 a10 a11 c12 a13 a14 q3c q3b t15 b5 b6 kn_ _ _) (funext fun q3c'=>funext fun q3b'=>funext fun t15'=>funext fun b5'=>funext fun b6'=>ih ..)
theorem y6i:LoopOne J fnTab 50 6 zxa:=lpK zwm y9n (fi:=fi50) (by kernel_rfl) (by kernel_rfl) (q:=fun hs=>(zhr (hN hs 0) (hN hs 1) (hN hs 2) (hN hs 3) (hN hs 4) (hN hs 5) (hI hs 6) (hLn hs 7) (hLn hs 8) (hLn hs 9) (hLn hs 10) (hN hs 11) (hN hs 12) (hN hs 13) (hN hs 14) (hI hs 15) (hN hs 16) (hN hs 17) (hLn hs 18) (hLn hs 19))) (fun hs=>by kernel_rfl) fun hs h1=>Eq.trans (ybz (hN hs 0) (hN hs 1) (hN hs 2) (hN hs 3) (hLn hs 7) (hLn hs 8) (hLn hs 9) (hLn hs 10) (hN hs 11) (hN hs 12) (hN hs 13) (hN hs 14) (hI hs 15) (hN hs 16) (hN hs 17) big (hN hs 4) (hN hs 5) (hI hs 6) (hLn hs 18) (hLn hs 19)) (ybu (hN hs 0) (hN hs 1) (hN hs 2) (hN hs 3) (hLn hs 7) (hLn hs 8) (hLn hs 9) (hLn hs 10) (hN hs 11) (hN hs 12) (hN hs 13) (hN hs 14) (hI hs 15) (hN hs 16) (hN hs 17) _ h1)
def tb21:List (Nat×(List PT→Option (Bool×AV×List Blk))):=tb20
def lt21:List ((Nat×Nat)×(Nat→St→Option (Bool×LO))):=((50,6),zxa)::lt20
def Γ21:Ctx:=⟨tyTab,fnTab,tblSum tb21,tblLp lt21⟩
theorem yf8:SumL J tb21:=zwm
theorem yen:LpL J fnTab lt21:=LpL.cons y6i (y9n)
def zuv  : Option (Nat×Nat×Bool×(List Nat)×(List Nat))→Option (AV×List Blk)
 | some r=>some ((.tup [(.one (.sl 0 0 r.1 1)),(.one (.sl 1 0 r.2.1 1)),(.one (.bool r.2.2.1))]),[(.mk true (.fl .f32 r.2.2.2.1)),(.mk true (.fl .f32 r.2.2.2.2))])
 | none=>none
def zun:List PT→Option (Bool×AV×List Blk)
 | [.ptr [.row 1 q04 (.fl .f32 q0a),.row 1 q08 (.fl .f32 q0b),.row 1 q07 (.fl .f32 q0c),.row 3 q0d (.fl .f32 q0f),.s (.int .i64 q0g),.s (.flt .f32 q0i),.s (.flt .f32 q0j)],.one (.s (.flt .f32 x1)),.one (.s (.flt .f32 x2)),.one (.s (.flt .f32 x3)),.one (.s (.flt .f32 x4))]=>sF zuv (z4v q04 q0a q08 q0b q07 q0c q0d q0f q0g q0i q0j x1 x2 x3 x4)
 | _=>none
end
end Go.Proofs.YtijjhfailnmeoaaGreat
