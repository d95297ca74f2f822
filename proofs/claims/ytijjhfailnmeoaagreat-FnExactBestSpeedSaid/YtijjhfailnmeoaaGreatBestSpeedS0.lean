import Derived.Test.YtijjhfailnmeoaaGreatBestSpeedC
set_option linter.unusedVariables false
set_option linter.unusedSimpArgs false
set_option linter.unusedSectionVars false
set_option maxRecDepth 100000
set_option maxHeartbeats 4000000
namespace Go.Proofs.YtijjhfailnmeoaaGreat
open Go Go.Rf
variable {J:Jd Tryz.prog}
abbrev x0F(d x:Nat):Nat×AV:=(d,.v (.one (.flt .f32 x)))
abbrev x0I(d:Nat)(x:Int):Nat×AV:=(d,.v (.one (.int .i64 x)))
abbrev x0B(d:Nat)(x:Bool):Nat×AV:=(d,.v (.one (.bool x)))
abbrev x0P(d b n:Nat):Nat×AV:=(d,.v (.one (.ptr b 0 n)))
abbrev x0S(d b n s:Nat):Nat×AV:=(d,.v (.one (.sl b 0 n s)))
abbrev x0V(d b n s:Nat):Nat×AV:=(d,.v (.one (.vw b 0 n s)))
abbrev x0L(x:List Nat):Blk:=.mk false (.fl .f32 x)
abbrev x0T(x:List Nat):Blk:=.mk true (.fl .f32 x)
abbrev x0R(o:Bool)(b c d e k l m n:Nat)(i:Int)(x y:Nat):Blk:=.mk o (.cells [.vw b 0 k 1,.vw c 0 l 1,.vw d 0 m 1,.vw e 0 n 3,.int .i64 i,.flt .f32 x,.flt .f32 y])
abbrev x1R(o:Bool)(b c d e:Nat):=pBlk o (pCells [pVw b (liN 0) 1,pVw c (liN 0) 1,pVw d (liN 0) 1,pVw e (liN 0) 3,pInt .i64,pFlt .f32,pFlt .f32])
abbrev x1F(d:Nat):=pTm d (pV (pOne (pFlt .f32)))
abbrev x1I(d:Nat):=pTm d (pV (pOne (pInt .i64)))
abbrev x1B(d:Nat):=pTm d (pV (pOne pBool))
abbrev x1P(d b n:Nat):=pTm d (pV (pOne (pPtr b (liN 0) n)))
abbrev x1S(d b s:Nat):=pTm d (pV (pOne (pSl b (liN 0) s)))
abbrev x1V(d b s:Nat):=pTm d (pV (pOne (pVw b (liN 0) s)))
abbrev x1L:=pBlk false (pFl .f32)
abbrev x1T:=pBlk true (pFl .f32)
noncomputable section
variable (a0:Nat) (c0:Int) (e0:Bool) (a1:Nat) (c1:Int) (e1:Bool) (g1:List Nat) (m1:List Bool) (a2:Nat) (c2:Int) (e2:Bool) (g2:List Nat) (a3:Nat) (c3:Int) (g3:List Nat) (m3:List Bool) (a4:Nat) (c4:Int) (e4:Bool) (g4:List Nat) (m4:List Bool) (a5:Nat) (e5:Bool) (g5:List Nat) (a6:Nat) (c6:Int) (g6:List Nat) (a7:Nat) (c7:Int) (g7:List Nat) (a8:Nat) (c8:Int) (e8:Bool) (g8:List Nat) (a9:Nat) (c9:Int) (e9:Bool) (g9:List Nat) (a10:Nat) (c10:Int) (e10:Bool) (g10:List Nat) (a11:Nat) (c11:Int) (g11:List Nat) (a12:Nat) (c12:Int) (g12:List Nat) (a13:Nat) (c13:Int) (a14:Nat) (c14:Int) (e14:Bool) (g14:List Nat) (a15:Nat) (c15:Int) (e15:Bool) (a16:Nat) (g16:List Nat) (a17:Nat) (c17:Int) (e18:Bool) (g18:List Nat) (c19:Int) (g19:List Nat) (a20:Nat) (g20:List Nat) (a21:Nat)
def zhl:List PT→Option (Bool×AV×List Blk)
 | [.one (.s (.flt .f32 x))]=>some (bnot (nanQ .f32 x),A1 (.int .u32 x),[])
 | _=>none
theorem zz9:SumOne J 147 zhl:=by
 intro pts v news hp w vals hv
 unfold zhl at hp
 split at hp
 ·rename_i x
  injection hp with hp
  injection hp with h1 hp
  injection hp with h2 h3
  subst h2
  subst h3
  obtain⟨l,hl⟩:∃ l,l=vals.toList:=⟨_,rfl⟩
  rw[← hl] at hv
  cases hv with
  | cons a1 a2=>
   cases a2
   obtain⟨b,hb1,hb2,hb3⟩:=a1
   subst hb1
   rename_i hx
   have hvals:vals=#[.float .f32 b]:=by rw[← Array.toList_inj,← hl]
   subst hvals
   have hn:nanB .f32 b=false:=by rw[← u4k,hb3];simpa [bnot,nanQ] using h1
   rw[u03 hn] at hb3
   subst hb3
   refine⟨nat_tame Tryz.func147 (Eq.mpr (by kernel_rfl:_=(Mute (.extern 147)∧True)) ⟨.inr ⟨_,rfl⟩,trivial⟩),.inl ⟨_,w,by (simp only[callFunc,Sem.run_bind,run_program,Result.andThen_ok,Tryz.func147];rfl),NoB,⟨⟨(fun t b' h=>by cases t<;>cases h),(fun t t' b1 b2 x x' _ h=>by cases t<;>cases h)⟩,(fun t x h=>by cases h),Fr.refl _ w⟩,rfl⟩⟩
 ·cases hp
def zc7:List PT→Option (Bool×AV×List Blk)
 | [.one (.s (.int .u64 x))]=>some (okU .f64 x,A1 (.flt .f64 (cnI .f64 x)),[])
 | _=>none
theorem zt8:SumOne J 167 zc7:=by
 intro pts v news hp w vals hv
 unfold zc7 at hp
 split at hp
 ·rename_i x
  injection hp with hp
  injection hp with h1 hp
  injection hp with h2 h3
  subst h2
  subst h3
  obtain⟨l,hl⟩:∃ l,l=vals.toList:=⟨_,rfl⟩
  rw[← hl] at hv
  cases hv with
  | cons a1 a2=>
   cases a2
   have hb1:_=Value.int .u64 x:=a1
   subst hb1
   rename_i hx
   have hvals:vals=#[.int .u64 x]:=by rw[← Array.toList_inj,← hl]
   subst hvals
   have hw:=okU_lt h1
   refine⟨nat_tame Tryz.func167 (Eq.mpr (by kernel_rfl:_=(Mute (.extern 167)∧True)) ⟨.inr ⟨_,rfl⟩,trivial⟩),.inl ⟨_,w,by (simp only[callFunc,Sem.run_bind,run_program,Result.andThen_ok,Tryz.func167];rfl),NoB,⟨⟨(fun t b' h=>by cases t<;>cases h),(fun t t' b1 b2 x x' _ h=>by cases t<;>cases h)⟩,(fun t x h=>by cases h),Fr.refl _ w⟩,⟨_,rfl,hw,rfl⟩⟩⟩
 ·cases hp
def zhk:List PT→Option (Bool×AV×List Blk)
 | [.one (.s (.flt .f64 x))]=>some (bnot (nanQ .f64 x),A1 (.int .u64 x),[])
 | _=>none
theorem zyv:SumOne J 173 zhk:=by
 intro pts v news hp w vals hv
 unfold zhk at hp
 split at hp
 ·rename_i x
  injection hp with hp
  injection hp with h1 hp
  injection hp with h2 h3
  subst h2
  subst h3
  obtain⟨l,hl⟩:∃ l,l=vals.toList:=⟨_,rfl⟩
  rw[← hl] at hv
  cases hv with
  | cons a1 a2=>
   cases a2
   obtain⟨b,hb1,hb2,hb3⟩:=a1
   subst hb1
   rename_i hx
   have hvals:vals=#[.float .f64 b]:=by rw[← Array.toList_inj,← hl]
   subst hvals
   have hn:nanB .f64 b=false:=by rw[← u4k,hb3];simpa [bnot,nanQ] using h1
   rw[u03 hn] at hb3
   subst hb3
   refine⟨nat_tame Tryz.func173 (Eq.mpr (by kernel_rfl:_=(Mute (.extern 173)∧True)) ⟨.inr ⟨_,rfl⟩,trivial⟩),.inl ⟨_,w,by (simp only[callFunc,Sem.run_bind,run_program,Result.andThen_ok,Tryz.func173];rfl),NoB,⟨⟨(fun t b' h=>by cases t<;>cases h),(fun t t' b1 b2 x x' _ h=>by cases t<;>cases h)⟩,(fun t x h=>by cases h),Fr.refl _ w⟩,rfl⟩⟩
 ·cases hp
def zlt:List PT→Option (Bool×AV×List Blk)
 | [.one (.s (.flt .f64 x))]=>some (bnot (nanQ .f64 x),A1 (.flt .f64 (fint .zero x)),[])
 | _=>none
theorem y34:SumOne J 177 zlt:=by
 intro pts v news hp w vals hv
 unfold zlt at hp
 split at hp
 ·rename_i x
  injection hp with hp
  injection hp with h1 hp
  injection hp with h2 h3
  subst h2
  subst h3
  obtain⟨l,hl⟩:∃ l,l=vals.toList:=⟨_,rfl⟩
  rw[← hl] at hv
  cases hv with
  | cons a1 a2=>
   cases a2
   obtain⟨b,hb1,hb2,hb3⟩:=a1
   subst hb1
   rename_i hx
   have hvals:vals=#[.float .f64 b]:=by rw[← Array.toList_inj,← hl]
   subst hvals
   have hn:nanB .f64 b=false:=by rw[← u4k,hb3];simpa [bnot,nanQ] using h1
   rw[u03 hn] at hb3
   subst hb3
   refine⟨nat_tame Tryz.func177 (Eq.mpr (by kernel_rfl:_=(Mute (.extern 177)∧Tame Tryz.prog (do let v ← Extern.MathFloor.toIntegral "math.archTrunc" .zero #[.float .f64 b];pure (.value v):Sem Next))) ⟨.inr ⟨_,rfl⟩,tv (t_integral _ _ _)⟩),.inl ⟨_,w,by (simp only[callFunc,Sem.run_bind,run_program,Result.andThen_ok,Tryz.func177];change (do let v ← Extern.MathFloor.toIntegral "math.archTrunc" .zero #[.float .f64 b];pure (.value v):Sem Next).run Tryz.prog w=_;rw[Sem.run_bind,run_fint hn];rfl),NoB,⟨⟨(fun t b' h=>by cases t<;>cases h),(fun t t' b1 b2 x x' _ h=>by cases t<;>cases h)⟩,(fun t x h=>by cases h),Fr.refl _ w⟩,fint_rel hn⟩⟩
 ·cases hp
def zm2:List PT→Option (Bool×AV×List Blk)
 | [.one (.s (.flt .f64 x))]=>some (bnot (nanQ .f64 x),A1 (.flt .f64 (fint .down x)),[])
 | _=>none
theorem y43:SumOne J 179 zm2:=by
 intro pts v news hp w vals hv
 unfold zm2 at hp
 split at hp
 ·rename_i x
  injection hp with hp
  injection hp with h1 hp
  injection hp with h2 h3
  subst h2
  subst h3
  obtain⟨l,hl⟩:∃ l,l=vals.toList:=⟨_,rfl⟩
  rw[← hl] at hv
  cases hv with
  | cons a1 a2=>
   cases a2
   obtain⟨b,hb1,hb2,hb3⟩:=a1
   subst hb1
   rename_i hx
   have hvals:vals=#[.float .f64 b]:=by rw[← Array.toList_inj,← hl]
   subst hvals
   have hn:nanB .f64 b=false:=by rw[← u4k,hb3];simpa [bnot,nanQ] using h1
   rw[u03 hn] at hb3
   subst hb3
   refine⟨nat_tame Tryz.func179 (Eq.mpr (by kernel_rfl:_=(Mute (.extern 179)∧Tame Tryz.prog (do let v ← Extern.MathFloor.toIntegral "math.archFloor" .down #[.float .f64 b];pure (.value v):Sem Next))) ⟨.inr ⟨_,rfl⟩,tv (t_integral _ _ _)⟩),.inl ⟨_,w,by (simp only[callFunc,Sem.run_bind,run_program,Result.andThen_ok,Tryz.func179];change (do let v ← Extern.MathFloor.toIntegral "math.archFloor" .down #[.float .f64 b];pure (.value v):Sem Next).run Tryz.prog w=_;rw[Sem.run_bind,run_fint hn];rfl),NoB,⟨⟨(fun t b' h=>by cases t<;>cases h),(fun t t' b1 b2 x x' _ h=>by cases t<;>cases h)⟩,(fun t x h=>by cases h),Fr.refl _ w⟩,fint_rel hn⟩⟩
 ·cases hp
def sF{α:Type}[Inhabited α] (o:Option α→Option (AV×List Blk)) (x:Option α):Option (Bool×AV×List Blk):=sP x.isSome o (x.getD default)
theorem fin3{α:Type}[Inhabited α] {a:Option (AV×List Blk)} {o:Option α→Option (AV×List Blk)} {x:Option α} {v:AV} {news:List Blk} (h:a=o x) (hp:sF o x=some (true,v,news)):a=some (v,news):=fin2 h hp
def sL{α:Type}(lo:Option α→LO)(x:Option α):Bool×LO:=(x.isSome,lo x)
theorem mkT {tb:List (Nat×(List PT→Option (Bool×AV×List Blk)))} {lt:List ((Nat×Nat)×(Nat→St→Option (Bool×LO)))} {J:Jd Tryz.prog} (h1:SumL J tb) (h2:LpL J fnTab lt) {g:FuncId} {F:List PT→Option (Bool×AV×List Blk)} (h:∀ pts v news,F pts=some (true,v,news)→ev8 ⟨tyTab,fnTab,tblSum tb,tblLp lt⟩ g pts=some (v,news)):SumOne J g F:=
 sum_of (Γ:=⟨tyTab,fnTab,tblSum tb,tblLp lt⟩) (fuel:=8) (d:=8) tyTab_ok (FnL.ok fnTab_ok _ _) (LpL.ok h2) (SumL.ok h1 _) mixed fun pts v news hp _=>h pts v news hp
theorem lpK {tb:List (Nat×(List PT→Option (Bool×AV×List Blk)))} {lt:List ((Nat×Nat)×(Nat→St→Option (Bool×LO)))} {J:Jd Tryz.prog} (h1:SumL J tb) (h2:LpL J fnTab lt) {f id lo0:Nat} {fi:FnI} (hfi:Rf.look fnTab f=some fi) (hu:noTwo (lids (loopsIn fi.code))=true) {p:Pz St} {F:List Hv→Bool×LO} {q:List Hv→St}
  (hq:∀ hs,p.fil hs 0=q hs) (h:∀ hs,(F hs).1=true→iter f id lo0 (ev9 ⟨tyTab,fnTab,tblSum tb,tblLp lt⟩ f id lo0 fi) big (q hs) (fun e st=>some (e,st))=some (pick (F hs).2)) (hb:Nat.beq id bodyId=false:=by rfl):LoopOne J fnTab f id (lpT lo0 p F):=
 lp9 (Γ:=⟨tyTab,fnTab,tblSum tb,tblLp lt⟩) tyTab_ok (FnL.ok fnTab_ok _ _) (LpL.ok h2) (SumL.ok h1 _) mixed hfi hu hq h hb
def tb0:List (Nat×(List PT→Option (Bool×AV×List Blk))):=[(147,zhl),(167,zc7),(173,zhk),(177,zlt),(179,zm2)]
def lt0:List ((Nat×Nat)×(Nat→St→Option (Bool×LO))):=[]
def Γ0:Ctx:=⟨tyTab,fnTab,tblSum tb0,tblLp lt0⟩
theorem z7j:SumL J tb0:=SumL.cons zz9 (SumL.cons zt8 (SumL.cons zyv (SumL.cons y34 (SumL.cons y43 (SumL.nil)))))
theorem z7i:LpL J fnTab lt0:=LpL.nil
def zm1  : Option (Bool)→Option (AV×List Blk)
 | some r=>some ((.v (.one (.bool r))),[])
 | none=>none
def zkp:List PT→Option (Bool×AV×List Blk)
 | [.one (.s (.flt .f64 a)),.one (.s (.flt .f64 b))]=>sF zm1 (z65 a b)
 | _=>none
theorem yab:ev8 Γ0 35 [.one (.s (.flt .f64 a0)),.one (.s (.flt .f64 a1))]=zm1 (z65 a0 a1):=tr2 (y1k a0 a1 zm1 rfl (fun c0_=>some c0_)) (by kernel_rfl)
theorem y3c:SumOne J 35 zkp:=mkT z7j z7i fun pts v news hp=>by
 unfold zkp at hp
 split at hp
 ·exact fin3 (yab ..) hp
 ·cases hp
def zrt  : Option (Bool)→Option (AV×List Blk)
 | some r=>some ((.v (.one (.bool r))),[])
 | none=>none
def zre:List PT→Option (Bool×AV×List Blk)
 | [.one (.s (.int .i64 n_)),.one (.s (.int .i64 low)),.one (.s (.int .i64 q1w))]=>sF zrt (z94 n_ low q1w)
 | _=>none
theorem ydu:ev8 Γ0 52 [.one (.s (.int .i64 c0)),.one (.s (.int .i64 c1)),.one (.s (.int .i64 c2))]=zrt (z94 c0 c1 c2):=tr2 (y8s c0 c1 c2 zrt rfl (fun c0_=>some c0_)) (by kernel_rfl)
theorem yah:SumOne J 52 zre:=mkT z7j z7i fun pts v news hp=>by
 unfold zre at hp
 split at hp
 ·exact fin3 (ydu ..) hp
 ·cases hp
def zmz  : Option (Bool)→Option (AV×List Blk)
 | some r=>some ((.v (.one (.bool r))),[])
 | none=>none
def znv:List PT→Option (Bool×AV×List Blk)
 | [.one (.s (.flt .f32 x))]=>sF zmz (z8n x)
 | _=>none
theorem yav:ev8 Γ0 65 [.one (.s (.flt .f32 a0))]=zmz (z8n a0):=tr2 (y4q a0 zmz rfl (fun c0_=>some c0_)) (by kernel_rfl)
theorem y5e:SumOne J 65 znv:=mkT z7j z7i fun pts v news hp=>by
 unfold znv at hp
 split at hp
 ·exact fin3 (yav ..) hp
 ·cases hp
def zvc  : Option (Bool)→Option (AV×List Blk)
 | some r=>some ((.v (.one (.bool r))),[])
 | none=>none
def zur:List PT→Option (Bool×AV×List Blk)
 | [.one (.s (.int .i64 n_)),.one (.s (.int .i64 low)),.one (.s (.int .i64 q1w))]=>sF zvc (zab n_ low q1w)
 | _=>none
theorem yee:ev8 Γ0 68 [.one (.s (.int .i64 c0)),.one (.s (.int .i64 c1)),.one (.s (.int .i64 c2))]=zvc (zab c0 c1 c2):=tr2 (yaj c0 c1 c2 zvc rfl (fun c0_=>some c0_)) (by kernel_rfl)
theorem ybc:SumOne J 68 zur:=mkT z7j z7i fun pts v news hp=>by
 unfold zur at hp
 split at hp
 ·exact fin3 (yee ..) hp
 ·cases hp
def zju  : Option (Int)→Option (AV×List Blk)
 | some r=>some ((.v (.one (.int .i64 r))),[])
 | none=>none
def zjd:List PT→Option (Bool×AV×List Blk)
 | [.one (.row 3 a_n (.fl .f32 a)),.one (.s (.int .i64 q2j))]=>sF zju (z5d a_n a q2j)
 | _=>none
theorem y72:ev8 Γ0 71 [.one (.row 3 a0 (.fl .f32 g1)),.one (.s (.int .i64 c2))]=zju (z5d a0 g1 c2):=tr2 (zyy a0 g1 c2 zju rfl (fun c0_=>some c0_)) (by kernel_rfl)
theorem y22:SumOne J 71 zjd:=mkT z7j z7i fun pts v news hp=>by
 unfold zjd at hp
 split at hp
 ·exact fin3 (y72 ..) hp
 ·cases hp
def zl4  : Option (Bool)→Option (AV×List Blk)
 | some r=>some ((.v (.one (.bool r))),[])
 | none=>none
def zl6:List PT→Option (Bool×AV×List Blk)
 | [.one (.s (.flt .f32 x))]=>sF zl4 (z80 x)
 | _=>none
theorem ya8:ev8 Γ0 84 [.one (.s (.flt .f32 a0))]=zl4 (z80 a0):=tr2 (y1t a0 zl4 rfl (fun c0_=>some c0_)) (by kernel_rfl)
theorem y4s:SumOne J 84 zl6:=mkT z7j z7i fun pts v news hp=>by
 unfold zl6 at hp
 split at hp
 ·exact fin3 (ya8 ..) hp
 ·cases hp
def zjt  : Option (Int)→Option (AV×List Blk)
 | some r=>some ((.v (.one (.int .i64 r))),[])
 | none=>none
def zjy:List PT→Option (Bool×AV×List Blk)
 | [.one (.row 1 a_n (.fl .f32 a)),.one (.s (.int .i64 q2j))]=>sF zjt (z5b a_n a q2j)
 | _=>none
theorem y6v:ev8 Γ0 117 [.one (.row 1 a0 (.fl .f32 g1)),.one (.s (.int .i64 c2))]=zjt (z5b a0 g1 c2):=tr2 (zz4 a0 g1 c2 zjt rfl (fun c0_=>some c0_)) (by kernel_rfl)
theorem y12:SumOne J 117 zjy:=mkT z7j z7i fun pts v news hp=>by
 unfold zjy at hp
 split at hp
 ·exact fin3 (y6v ..) hp
 ·cases hp
def zlw:Option (Unit)→Option (AV×List Blk)
 | some r=>some ((.v (.agg [(.flt .f32 a0),(.flt .f32 a1),(.flt .f32 a2)])),[])
 | none=>none
def zl0:List PT→Option (Bool×AV×List Blk)
 | [.agg [.s (.flt .f32 q2p),.s (.flt .f32 q2s),.s (.flt .f32 q2t)]]=>sF (zlw q2p q2s q2t) (zlf q2p q2s q2t)
 | _=>none
theorem y9x:ev8 Γ0 118 [.agg [.s (.flt .f32 a0),.s (.flt .f32 a1),.s (.flt .f32 a2)]]=(zlw a0 a1 a2) (zlf a0 a1 a2):=tr2 (y0o a0 a1 a2 (zlw a0 a1 a2) rfl (fun _=>some ())) (by kernel_rfl)
theorem y3a:SumOne J 118 zl0:=mkT z7j z7i fun pts v news hp=>by
 unfold zl0 at hp
 split at hp
 ·exact fin3 (y9x ..) hp
 ·cases hp
def znp  : Option (Bool)→Option (AV×List Blk)
 | some r=>some ((.v (.one (.bool r))),[])
 | none=>none
def zmy:List PT→Option (Bool×AV×List Blk)
 | [.one (.s (.flt .f32 x)),.one (.s (.flt .f32 low)),.one (.s (.flt .f32 q1w))]=>sF znp (z6w x low q1w)
 | _=>none
theorem yba:ev8 Γ0 134 [.one (.s (.flt .f32 a0)),.one (.s (.flt .f32 a1)),.one (.s (.flt .f32 a2))]=znp (z6w a0 a1 a2):=tr2 (y4g a0 a1 a2 znp rfl (fun c0_=>some c0_)) (by kernel_rfl)
theorem y6i:SumOne J 134 zmy:=mkT z7j z7i fun pts v news hp=>by
 unfold zmy at hp
 split at hp
 ·exact fin3 (yba ..) hp
 ·cases hp
def zdv  : Option (Nat)→Option (AV×List Blk)
 | some r=>some ((.v (.one (.flt .f32 r))),[])
 | none=>none
def zdw:List PT→Option (Bool×AV×List Blk)
 | [.agg [.row 1 q00 (.fl .f32 q03),.row 1 q01 (.fl .f32 q05),.row 1 q02 (.fl .f32 q04),.row 3 q06 (.fl .f32 q0b),.s (.int .i64 q0g),.s (.flt .f32 q0o),.s (.flt .f32 q0n)],.one (.s (.int .i64 i))]=>sF zdv (z3g q00 q03 q01 q05 q02 q04 q06 q0b q0g q0o q0n i)
 | _=>none
theorem zyf:ev8 Γ0 142 [.agg [.row 1 a0 (.fl .f32 g1),.row 1 a2 (.fl .f32 g3),.row 1 a4 (.fl .f32 g5),.row 3 a6 (.fl .f32 g7),.s (.int .i64 c8),.s (.flt .f32 a9),.s (.flt .f32 a10)],.one (.s (.int .i64 c11))]=zdv (z3g a0 g1 a2 g3 a4 g5 a6 g7 c8 a9 a10 c11):=tr2 (zta a0 g1 a2 g3 a4 g5 a6 g7 c8 a9 a10 c11 zdv rfl (fun c0_=>some c0_)) (by kernel_rfl)
theorem zu9:SumOne J 142 zdw:=mkT z7j z7i fun pts v news hp=>by
 unfold zdw at hp
 split at hp
 ·exact fin3 (zyf ..) hp
 ·cases hp
def zs2  : Option (Nat)→Option (AV×List Blk)
 | some r=>some ((.v (.one (.flt .f32 r))),[])
 | none=>none
def zrj:List PT→Option (Bool×AV×List Blk)
 | [.ptr [.row 1 q00 (.fl .f32 q03),.row 1 q01 (.fl .f32 q05),.row 1 q02 (.fl .f32 q04),.row 3 q06 (.fl .f32 q0b),.s (.int .i64 q0g),.s (.flt .f32 q0o),.s (.flt .f32 q0n)],.one (.s (.int .i64 i)),.one (.s (.flt .f32 q3g))]=>sF zs2 (z96 q00 q03 q01 q05 q02 q04 q06 q0b q0g q0o q0n i q3g)
 | _=>none
theorem ydy:ev8 Γ0 151 [.ptr [.row 1 a0 (.fl .f32 g1),.row 1 a2 (.fl .f32 g3),.row 1 a4 (.fl .f32 g5),.row 3 a6 (.fl .f32 g7),.s (.int .i64 c8),.s (.flt .f32 a9),.s (.flt .f32 a10)],.one (.s (.int .i64 c11)),.one (.s (.flt .f32 a12))]=zs2 (z96 a0 g1 a2 g3 a4 g5 a6 g7 c8 a9 a10 c11 a12):=tr2 (y8l a0 g1 a2 g3 a4 g5 a6 g7 c8 a9 a10 c11 a12 zs2 rfl (fun c0_=>some c0_)) (by kernel_rfl)
theorem y9g:SumOne J 151 zrj:=mkT z7j z7i fun pts v news hp=>by
 unfold zrj at hp
 split at hp
 ·exact fin3 (ydy ..) hp
 ·cases hp
def zht  : Option (Nat)→Option (AV×List Blk)
 | some r=>some ((.v (.one (.flt .f32 r))),[])
 | none=>none
def zhq:List PT→Option (Bool×AV×List Blk)
 | [.ptr [.row 1 q00 (.fl .f32 q03),.row 1 q01 (.fl .f32 q05),.row 1 q02 (.fl .f32 q04),.row 3 q06 (.fl .f32 q0b),.s (.int .i64 q0g),.s (.flt .f32 q0o),.s (.flt .f32 q0n)],.one (.s (.int .i64 i))]=>sF zht (z4l q00 q03 q01 q05 q02 q04 q06 q0b q0g q0o q0n i)
 | _=>none
theorem y54:ev8 Γ0 152 [.ptr [.row 1 a0 (.fl .f32 g1),.row 1 a2 (.fl .f32 g3),.row 1 a4 (.fl .f32 g5),.row 3 a6 (.fl .f32 g7),.s (.int .i64 c8),.s (.flt .f32 a9),.s (.flt .f32 a10)],.one (.s (.int .i64 c11))]=zht (z4l a0 g1 a2 g3 a4 g5 a6 g7 c8 a9 a10 c11):=tr2 (zye a0 g1 a2 g3 a4 g5 a6 g7 c8 a9 a10 c11 zht rfl (fun c0_=>some c0_)) (by kernel_rfl)
theorem zyh:SumOne J 152 zhq:=mkT z7j z7i fun pts v news hp=>by
 unfold zhq at hp
 split at hp
 ·exact fin3 (y54 ..) hp
 ·cases hp
def y0h  : Option (Nat)→Option (AV×List Blk)
 | some r=>some ((.v (.one (.flt .f64 r))),[])
 | none=>none
def y1h:List PT→Option (Bool×AV×List Blk)
 | []=>sF y0h zfc
 | _=>none
theorem yfp  : ev8 Γ0 158 []=y0h (zfc):=tr2 (ycj  y0h rfl (fun c0_=>some c0_)) (by kernel_rfl)
theorem ydw:SumOne J 158 y1h:=mkT z7j z7i fun pts v news hp=>by
 unfold y1h at hp
 split at hp
 ·exact fin3 yfp hp
 ·cases hp
def zv3  : Option (Nat)→Option (AV×List Blk)
 | some r=>some ((.v (.one (.flt .f32 r))),[])
 | none=>none
def zu0:List PT→Option (Bool×AV×List Blk)
 | [.one (.s (.flt .f32 a)),.one (.s (.flt .f32 b)),.one (.s (.flt .f32 q3e))]=>sF zv3 (ze1 a b q3e)
 | _=>none
theorem yek:ev8 Γ0 162 [.one (.s (.flt .f32 a0)),.one (.s (.flt .f32 a1)),.one (.s (.flt .f32 a2))]=zv3 (ze1 a0 a1 a2):=tr2 (y8z a0 a1 a2 zv3 rfl (fun c0_=>some c0_)) (by kernel_rfl)
theorem ybn:SumOne J 162 zu0:=mkT z7j z7i fun pts v news hp=>by
 unfold zu0 at hp
 split at hp
 ·exact fin3 (yek ..) hp
 ·cases hp
def zls  : Option (Nat)→Option (AV×List Blk)
 | some r=>some ((.v (.one (.flt .f32 r))),[])
 | none=>none
def zkr:List PT→Option (Bool×AV×List Blk)
 | [.one (.s (.flt .f64 x))]=>sF zls (z63 x)
 | _=>none
theorem y92:ev8 Γ0 163 [.one (.s (.flt .f64 a0))]=zls (z63 a0):=tr2 (y16 a0 zls rfl (fun c0_=>some c0_)) (by kernel_rfl)
theorem y35:SumOne J 163 zkr:=mkT z7j z7i fun pts v news hp=>by
 unfold zkr at hp
 split at hp
 ·exact fin3 (y92 ..) hp
 ·cases hp
def y13  : Option (Nat)→Option (AV×List Blk)
 | some r=>some ((.v (.one (.flt .f64 r))),[])
 | none=>none
def y0i:List PT→Option (Bool×AV×List Blk)
 | [.one (.s (.flt .f64 x))]=>sF y13 (zg1 x)
 | _=>none
theorem yfm:ev8 Γ0 168 [.one (.s (.flt .f64 a0))]=y13 (zg1 a0):=tr2 (ybv a0 y13 rfl (fun c0_=>some c0_)) (by kernel_rfl)
theorem ye2:SumOne J 168 y0i:=mkT z7j z7i fun pts v news hp=>by
 unfold y0i at hp
 split at hp
 ·exact fin3 (yfm ..) hp
 ·cases hp
def tb1:List (Nat×(List PT→Option (Bool×AV×List Blk))):=(35,zkp)::(52,zre)::(65,znv)::(68,zur)::(71,zjd)::(84,zl6)::(117,zjy)::(118,zl0)::(134,zmy)::(142,zdw)::(151,zrj)::(152,zhq)::(158,y1h)::(162,zu0)::(163,zkr)::(168,y0i)::tb0
def lt1:List ((Nat×Nat)×(Nat→St→Option (Bool×LO))):=lt0
def Γ1:Ctx:=⟨tyTab,fnTab,tblSum tb1,tblLp lt1⟩
theorem z5y:SumL J tb1:=SumL.cons y3c (SumL.cons yah (SumL.cons y5e (SumL.cons ybc (SumL.cons y22 (SumL.cons y4s (SumL.cons y12 (SumL.cons y3a (SumL.cons y6i (SumL.cons zu9 (SumL.cons y9g (SumL.cons zyh (SumL.cons ydw (SumL.cons ybn (SumL.cons y35 (SumL.cons ye2 (z7j))))))))))))))))
theorem z5u:LpL J fnTab lt1:=z7i
def zpy  : Option (Nat×Bool)→Option (AV×List Blk)
 | some r=>some ((.tup [(.one (.flt .f32 r.1)),(.one (.bool r.2))]),[])
 | none=>none
def zph:List PT→Option (Bool×AV×List Blk)
 | [.one (.s (.flt .f32 x))]=>sF zpy (z6g x)
 | _=>none
theorem ydk:ev8 Γ1 59 [.one (.s (.flt .f32 a0))]=zpy (z6g a0):=tr2 (y62 a0 zpy rfl (fun c0_ c1_=>some (c0_,c1_))) (by kernel_rfl)
theorem y6y:SumOne J 59 zph:=mkT z5y z5u fun pts v news hp=>by
 unfold zph at hp
 split at hp
 ·exact fin3 (ydk ..) hp
 ·cases hp
def zlc  : Option (Int)→Option (AV×List Blk)
 | some r=>some ((.v (.one (.int .i64 r))),[])
 | none=>none
def zlv:List PT→Option (Bool×AV×List Blk)
 | [.agg [.row 1 q1m (.fl .f32 q21),.row 1 q1s (.fl .f32 q26),.row 1 q1t (.fl .f32 q27)],.one (.s (.int .i64 q2j))]=>sF zlc (z6b q1m q21 q1s q26 q1t q27 q2j)
 | _=>none
theorem y91:ev8 Γ1 70 [.agg [.row 1 a0 (.fl .f32 g1),.row 1 a2 (.fl .f32 g3),.row 1 a4 (.fl .f32 g5)],.one (.s (.int .i64 c6))]=zlc (z6b a0 g1 a2 g3 a4 g5 c6):=tr2 (y0p a0 g1 a2 g3 a4 g5 c6 zlc rfl (fun c0_=>some c0_)) (by kernel_rfl)
theorem y3i:SumOne J 70 zlv:=mkT z5y z5u fun pts v news hp=>by
 unfold zlv at hp
 split at hp
 ·exact fin3 (y91 ..) hp
 ·cases hp
def zkv  : Option (Nat×Bool)→Option (AV×List Blk)
 | some r=>some ((.tup [(.one (.flt .f32 r.1)),(.one (.bool r.2))]),[])
 | none=>none
def zky:List PT→Option (Bool×AV×List Blk)
 | [.one (.s (.flt .f32 x))]=>sF zkv (z4m x)
 | _=>none
theorem yaf:ev8 Γ1 72 [.one (.s (.flt .f32 a0))]=zkv (z4m a0):=tr2 (y1o a0 zkv rfl (fun c0_ c1_=>some (c0_,c1_))) (by kernel_rfl)
theorem y3g:SumOne J 72 zky:=mkT z5y z5u fun pts v news hp=>by
 unfold zky at hp
 split at hp
 ·exact fin3 (yaf ..) hp
 ·cases hp
def zng  : Option (Bool)→Option (AV×List Blk)
 | some r=>some ((.v (.one (.bool r))),[])
 | none=>none
def zno:List PT→Option (Bool×AV×List Blk)
 | [.one (.s (.flt .f32 x))]=>sF zng (z71 x)
 | _=>none
theorem ybg:ev8 Γ1 83 [.one (.s (.flt .f32 a0))]=zng (z71 a0):=tr2 (y4o a0 zng rfl (fun c0_=>some c0_)) (by kernel_rfl)
theorem y4x:SumOne J 83 zno:=mkT z5y z5u fun pts v news hp=>by
 unfold zno at hp
 split at hp
 ·exact fin3 (ybg ..) hp
 ·cases hp
def zps  : Option (Bool)→Option (AV×List Blk)
 | some r=>some ((.v (.one (.bool r))),[])
 | none=>none
def zpu:List PT→Option (Bool×AV×List Blk)
 | [.one (.s (.flt .f32 x))]=>sF zps (z7s x)
 | _=>none
theorem yc4:ev8 Γ1 90 [.one (.s (.flt .f32 a0))]=zps (z7s a0):=tr2 (y5q a0 zps rfl (fun c0_=>some c0_)) (by kernel_rfl)
theorem y7j:SumOne J 90 zpu:=mkT z5y z5u fun pts v news hp=>by
 unfold zpu at hp
 split at hp
 ·exact fin3 (yc4 ..) hp
 ·cases hp
def zek  : Option (Bool)→Option (AV×List Blk)
 | some r=>some ((.v (.one (.bool r))),[])
 | none=>none
def zfu:List PT→Option (Bool×AV×List Blk)
 | [.one (.s (.flt .f32 x))]=>sF zek (z3y x)
 | _=>none
theorem y1m:ev8 Γ1 115 [.one (.s (.flt .f32 a0))]=zek (z3y a0):=tr2 (zut a0 zek rfl (fun c0_=>some c0_)) (by kernel_rfl)
theorem zw6:SumOne J 115 zfu:=mkT z5y z5u fun pts v news hp=>by
 unfold zfu at hp
 split at hp
 ·exact fin3 (y1m ..) hp
 ·cases hp
def zlp  : Option (Bool)→Option (AV×List Blk)
 | some r=>some ((.v (.one (.bool r))),[])
 | none=>none
def zl8:List PT→Option (Bool×AV×List Blk)
 | [.agg [.s (.flt .f32 q2p),.s (.flt .f32 q2s),.s (.flt .f32 q2t)],.agg [.s (.flt .f32 q36),.s (.flt .f32 q38),.s (.flt .f32 q37)]]=>sF zlp (z6e q2p q2s q2t q36 q38 q37)
 | _=>none
theorem ya2:ev8 Γ1 119 [.agg [.s (.flt .f32 a0),.s (.flt .f32 a1),.s (.flt .f32 a2)],.agg [.s (.flt .f32 a3),.s (.flt .f32 a4),.s (.flt .f32 a5)]]=zlp (z6e a0 a1 a2 a3 a4 a5):=tr2 (y1c a0 a1 a2 a3 a4 a5 zlp rfl (fun c0_=>some c0_)) (by kernel_rfl)
theorem y3x:SumOne J 119 zl8:=mkT z5y z5u fun pts v news hp=>by
 unfold zl8 at hp
 split at hp
 ·exact fin3 (ya2 ..) hp
 ·cases hp
def znt  : Option (Bool)→Option (AV×List Blk)
 | some r=>some ((.v (.one (.bool r))),[])
 | none=>none
def zo0:List PT→Option (Bool×AV×List Blk)
 | [.one (.s (.flt .f32 x))]=>sF znt (z6x x)
 | _=>none
theorem yb5:ev8 Γ1 121 [.one (.s (.flt .f32 a0))]=znt (z6x a0):=tr2 (y4e a0 znt rfl (fun c0_=>some c0_)) (by kernel_rfl)
theorem y66:SumOne J 121 zo0:=mkT z5y z5u fun pts v news hp=>by
 unfold zo0 at hp
 split at hp
 ·exact fin3 (yb5 ..) hp
 ·cases hp
def znd  : Option (Bool)→Option (AV×List Blk)
 | some r=>some ((.v (.one (.bool r))),[])
 | none=>none
def zn0:List PT→Option (Bool×AV×List Blk)
 | [.ptr [.row 1 q00 (.fl .f32 q03),.row 1 q01 (.fl .f32 q05),.row 1 q02 (.fl .f32 q04),.row 3 q06 (.fl .f32 q0b),.s (.int .i64 q0g),.s (.flt .f32 q0o),.s (.flt .f32 q0n)],.one (.s (.int .i64 i)),.one (.s (.flt .f32 q0l))]=>sF znd (z6v q00 q03 q01 q05 q02 q04 q06 q0b q0g q0o q0n i q0l)
 | _=>none
theorem yaw:ev8 Γ1 128 [.ptr [.row 1 a0 (.fl .f32 g1),.row 1 a2 (.fl .f32 g3),.row 1 a4 (.fl .f32 g5),.row 3 a6 (.fl .f32 g7),.s (.int .i64 c8),.s (.flt .f32 a9),.s (.flt .f32 a10)],.one (.s (.int .i64 c11)),.one (.s (.flt .f32 a12))]=znd (z6v a0 g1 a2 g3 a4 g5 a6 g7 c8 a9 a10 c11 a12):=tr2 (y40 a0 g1 a2 g3 a4 g5 a6 g7 c8 a9 a10 c11 a12 znd rfl (fun c0_=>some c0_)) (by kernel_rfl)
theorem y57:SumOne J 128 zn0:=mkT z5y z5u fun pts v news hp=>by
 unfold zn0 at hp
 split at hp
 ·exact fin3 (yaw ..) hp
 ·cases hp
def zs3  : Option (Nat×Nat×Bool)→Option (AV×List Blk)
 | some r=>some ((.tup [(.one (.flt .f32 r.1)),(.one (.flt .f32 r.2.1)),(.one (.bool r.2.2))]),[])
 | none=>none
def zrl:List PT→Option (Bool×AV×List Blk)
 | [.one (.s (.flt .f32 x)),.one (.s (.flt .f32 y))]=>sF zs3 (z60 x y)
 | _=>none
theorem ydx:ev8 Γ1 131 [.one (.s (.flt .f32 a0)),.one (.s (.flt .f32 a1))]=zs3 (z60 a0 a1):=tr2 (y7r a0 a1 zs3 rfl (fun c0_ c1_ c2_=>some (c0_,c1_,c2_))) (by kernel_rfl)
theorem y97:SumOne J 131 zrl:=mkT z5y z5u fun pts v news hp=>by
 unfold zrl at hp
 split at hp
 ·exact fin3 (ydx ..) hp
 ·cases hp
def zhm  : Option (Bool)→Option (AV×List Blk)
 | some r=>some ((.v (.one (.bool r))),[])
 | none=>none
def zhy:List PT→Option (Bool×AV×List Blk)
 | [.one (.s (.flt .f32 x))]=>sF zhm (z4p x)
 | _=>none
theorem y4y:ev8 Γ1 153 [.one (.s (.flt .f32 a0))]=zhm (z4p a0):=tr2 (zxg a0 zhm rfl (fun c0_=>some c0_)) (by kernel_rfl)
theorem zzg:SumOne J 153 zhy:=mkT z5y z5u fun pts v news hp=>by
 unfold zhy at hp
 split at hp
 ·exact fin3 (y4y ..) hp
 ·cases hp
def zc2  : Option (Bool)→Option (AV×List Blk)
 | some r=>some ((.v (.one (.bool r))),[])
 | none=>none
def zca:List PT→Option (Bool×AV×List Blk)
 | [.agg [.row 1 q00 (.fl .f32 q03),.row 1 q01 (.fl .f32 q05),.row 1 q02 (.fl .f32 q04),.row 3 q06 (.fl .f32 q0b),.s (.int .i64 q0g),.s (.flt .f32 q0o),.s (.flt .f32 q0n)],.one (.s (.int .i64 i))]=>sF zc2 (z31 q00 q03 q01 q05 q02 q04 q06 q0b q0g q0o q0n i)
 | _=>none
theorem zy2:ev8 Γ1 155 [.agg [.row 1 a0 (.fl .f32 g1),.row 1 a2 (.fl .f32 g3),.row 1 a4 (.fl .f32 g5),.row 3 a6 (.fl .f32 g7),.s (.int .i64 c8),.s (.flt .f32 a9),.s (.flt .f32 a10)],.one (.s (.int .i64 c11))]=zc2 (z31 a0 g1 a2 g3 a4 g5 a6 g7 c8 a9 a10 c11):=tr2 (zrx a0 g1 a2 g3 a4 g5 a6 g7 c8 a9 a10 c11 zc2 rfl (fun c0_=>some c0_)) (by kernel_rfl)
theorem ztc:SumOne J 155 zca:=mkT z5y z5u fun pts v news hp=>by
 unfold zca at hp
 split at hp
 ·exact fin3 (zy2 ..) hp
 ·cases hp
def zr8  : Option (Bool)→Option (AV×List Blk)
 | some r=>some ((.v (.one (.bool r))),[])
 | none=>none
def zrb:List PT→Option (Bool×AV×List Blk)
 | [.one (.s (.flt .f32 q1j))]=>sF zr8 (z8y q1j)
 | _=>none
theorem ye4:ev8 Γ1 156 [.one (.s (.flt .f32 a0))]=zr8 (z8y a0):=tr2 (y7n a0 zr8 rfl (fun c0_=>some c0_)) (by kernel_rfl)
theorem y9j:SumOne J 156 zrb:=mkT z5y z5u fun pts v news hp=>by
 unfold zrb at hp
 split at hp
 ·exact fin3 (ye4 ..) hp
 ·cases hp
def zrs  : Option (Bool)→Option (AV×List Blk)
 | some r=>some ((.v (.one (.bool r))),[])
 | none=>none
def zrv:List PT→Option (Bool×AV×List Blk)
 | [.one (.s (.flt .f64 x))]=>sF zrs (z90 x)
 | _=>none
theorem ydv:ev8 Γ1 159 [.one (.s (.flt .f64 a0))]=zrs (z90 a0):=tr2 (y6x a0 zrs rfl (fun c0_=>some c0_)) (by kernel_rfl)
theorem yag:SumOne J 159 zrv:=mkT z5y z5u fun pts v news hp=>by
 unfold zrv at hp
 split at hp
 ·exact fin3 (ydv ..) hp
 ·cases hp
def z99:St:=(.mk [(x0V 0 0 a0 1),(x0S 3 1 a1 1),(x0I 4 c2)] [(x0L g3),(x0T g4)])
def zdh:St:=(.mk [(x0V 0 0 a0 1),(x0S 3 1 a1 1),(x0I 4 c3),(x0B 11 e4)] [(x0L g2),(x0T g5)])
def zf0:Option ((Int×Bool×(List Nat)))→Option (Ex×St)
 | none=>none
 | some r=>some ((.exit 0),(zdh a0 a1 g2 r.1 r.2.1 r.2.2))
def zmi (x:Option ((Int×Bool×(List Nat)))):LO:=(.one (.exit 0) (zdh a0 a1 g2 (x.getD default).1 (x.getD default).2.1 (x.getD default).2.2))
def zyc:Bool×LO:=sL (zmi a0 a1 g3) (z16 a0 a1 g3 big c2 g4)
def zog:Nat→St→Option (Bool×LO):=lpT 1 (pSt [(x1V 0 0 1),(x1S 3 1 1),(x1I 4)] [x1L,x1T]) (fun hs=>zyc (hN hs 0) (hN hs 1) (hI hs 2) (hLn hs 3) (hLn hs 4))
theorem y0f:∀ x:Option ((Int×Bool×(List Nat))),x.isSome=true→(zf0 a0 a1 g2) x=some (pick (zmi a0 a1 g2 x))
 | none,h=>by cases h
 | some r,_=>rfl
theorem y1n (K:Ex→St→Option (Ex×St)):ev9 Γ1 45 3 1 fi45 (z99 a0 a1 c2 g3 g4) K=z25 a0 a1 g3 c2 g4 (fun i' b1'=>K .normal (z99 a0 a1 i' g3 b1')) (fun c0_ c1_ c2_=>K (.exit 0) (zdh a0 a1 g3 c0_ c1_ c2_)):=by kernel_rfl
theorem y23:∀ (n:Nat) (i:Int) (b1:List Nat),iter 45 3 1 (ev9 Γ1 45 3 1 fi45) n (z99 a0 a1 i g2 b1) (fun e st=>some (e,st))=(zf0 a0 a1 g2) (z16 a0 a1 g2 n i b1):=by
 intro n
 induction n with
 | zero=>intros;rfl
 | succ n ih=>
  intro i b1
  refine Eq.trans (iter_succ ..) (Eq.trans (y1n ..) (Eq.trans ?_ (zvj a0 a1 g2 i b1 (zf0 a0 a1 g2) rfl (fun i' b1'=>z16 a0 a1 g2 n i' b1') (fun c0_ c1_ c2_=>some (c0_,c1_,c2_)))))
  exact congrArg (fun kn_=>z25 a0 a1 g2 i b1 kn_ _) (funext fun i'=>funext fun b1'=>ih ..)
theorem zwa:LoopOne J fnTab 45 3 zog:=lpK z5y z5u (fi:=fi45) (by kernel_rfl) (by kernel_rfl) (q:=fun hs=>(z99 (hN hs 0) (hN hs 1) (hI hs 2) (hLn hs 3) (hLn hs 4))) (fun hs=>by kernel_rfl) fun hs h1=>Eq.trans (y23 (hN hs 0) (hN hs 1) (hLn hs 3) big (hI hs 2) (hLn hs 4)) (y0f (hN hs 0) (hN hs 1) (hLn hs 3) _ h1)
def z7g:St:=(.mk [(x0V 1 4 a0 1),(x0P 2 5 7),(x0F 5 a1),(x0I 6 c2)] [(x0L g3),(x0L g4),(x0L g5),(x0L g6),(x0L g7),(x0R true 0 1 2 3 a8 a9 a10 a11 c12 a13 a14)])
def za9:St:=(.mk [(x0V 1 4 a0 1),(x0P 2 5 7),(x0F 5 a13),(x0I 6 c14),(x0B 11 e15)] [(x0L g1),(x0L g2),(x0L g3),(x0L g4),(x0L g5),(x0R true 0 1 2 3 a6 a7 a8 a9 c10 a11 a12)])
def zav:Option ((Nat×Int×Bool))→Option (Ex×St)
 | none=>none
 | some r=>some ((.exit 0),(za9 a0 g1 g2 g3 g4 g5 a6 a7 a8 a9 c10 a11 a12 r.1 r.2.1 r.2.2))
def zhg (x:Option ((Nat×Int×Bool))):LO:=(.one (.exit 0) (za9 a0 g1 g2 g3 g4 g5 a6 a7 a8 a9 c10 a11 a12 (x.getD default).1 (x.getD default).2.1 (x.getD default).2.2))
def ztf:Bool×LO:=sL (zhg a0 g3 g4 g5 g6 g7 a8 a9 a10 a11 c12 a13 a14) (z0f a0 g6 g7 a11 big a1 c2)
def zin:Nat→St→Option (Bool×LO):=lpT 5 (pSt [(x1V 1 4 1),(x1P 2 5 7),(x1F 5),(x1I 6)] [x1L,x1L,x1L,x1L,x1L,(x1R true 0 1 2 3)]) (fun hs=>ztf (hN hs 0) (hN hs 1) (hI hs 2) (hLn hs 3) (hLn hs 4) (hLn hs 5) (hLn hs 6) (hLn hs 7) (hN hs 8) (hN hs 9) (hN hs 10) (hN hs 11) (hI hs 12) (hN hs 13) (hN hs 14))
theorem zwi:∀ x:Option ((Nat×Int×Bool)),x.isSome=true→(zav a0 g1 g2 g3 g4 g5 a6 a7 a8 a9 c10 a11 a12) x=some (pick (zhg a0 g1 g2 g3 g4 g5 a6 a7 a8 a9 c10 a11 a12 x))
 | none,h=>by cases h
 | some r,_=>rfl
theorem zw8 (K:Ex→St→Option (Ex×St)):ev9 Γ1 60 3 5 fi60 (z7g a0 a1 c2 g3 g4 g5 g6 g7 a8 a9 a10 a11 c12 a13 a14) K=z1e a0 g6 g7 a11 a1 c2 (fun all' i'=>K .normal (z7g a0 all' i' g3 g4 g5 g6 g7 a8 a9 a10 a11 c12 a13 a14)) (fun c0_ c1_ c2_=>K (.exit 0) (za9 a0 g3 g4 g5 g6 g7 a8 a9 a10 a11 c12 a13 a14 c0_ c1_ c2_)):=by kernel_rfl
theorem zvs:∀ (n all:Nat) (i:Int),iter 60 3 5 (ev9 Γ1 60 3 5 fi60) n (z7g a0 all i g1 g2 g3 g4 g5 a6 a7 a8 a9 c10 a11 a12) (fun e st=>some (e,st))=(zav a0 g1 g2 g3 g4 g5 a6 a7 a8 a9 c10 a11 a12) (z0f a0 g4 g5 a9 n all i):=by
 intro n
 induction n with
 | zero=>intros;rfl
 | succ n ih=>
  intro all i
  refine Eq.trans (iter_succ ..) (Eq.trans (zw8 ..) (Eq.trans ?_ (zr0 a0 g4 g5 a9 all i (zav a0 g1 g2 g3 g4 g5 a6 a7 a8 a9 c10 a11 a12) rfl (fun all' i'=>z0f a0 g4 g5 a9 n all' i') (fun c0_ c1_ c2_=>some (c0_,c1_,c2_)))))
  exact congrArg (fun kn_=>z1e a0 g4 g5 a9 all i kn_ _) (funext fun all'=>funext fun i'=>ih ..)
theorem zr9:LoopOne J fnTab 60 3 zin:=lpK z5y z5u (fi:=fi60) (by kernel_rfl) (by kernel_rfl) (q:=fun hs=>(z7g (hN hs 0) (hN hs 1) (hI hs 2) (hLn hs 3) (hLn hs 4) (hLn hs 5) (hLn hs 6) (hLn hs 7) (hN hs 8) (hN hs 9) (hN hs 10) (hN hs 11) (hI hs 12) (hN hs 13) (hN hs 14))) (fun hs=>by kernel_rfl) fun hs h1=>Eq.trans (zvs (hN hs 0) (hLn hs 3) (hLn hs 4) (hLn hs 5) (hLn hs 6) (hLn hs 7) (hN hs 8) (hN hs 9) (hN hs 10) (hN hs 11) (hI hs 12) (hN hs 13) (hN hs 14) big (hN hs 1) (hI hs 2)) (zwi (hN hs 0) (hLn hs 3) (hLn hs 4) (hLn hs 5) (hLn hs 6) (hLn hs 7) (hN hs 8) (hN hs 9) (hN hs 10) (hN hs 11) (hI hs 12) (hN hs 13) (hN hs 14) _ h1)
def zf7:St:=(.mk [(x0P 0 4 7),(x0V 1 5 a0 1),(x0F 5 a1),(x0I 6 c2)] [(x0L g3),(x0L g4),(x0L g5),(x0L g6),(x0R false 0 1 2 3 a7 a8 a9 a10 c11 a12 a13),(x0L g14)])
def zjx:St:=(.mk [(x0P 0 4 7),(x0V 1 5 a0 1),(x0F 5 a13),(x0I 6 c14),(x0B 12 e15)] [(x0L g1),(x0L g2),(x0L g3),(x0L g4),(x0R false 0 1 2 3 a5 a6 a7 a8 c9 a10 a11),(x0L g12)])
def zlr:Option ((Nat×Int×Bool))→Option (Ex×St)
 | none=>none
 | some r=>some ((.exit 0),(zjx a0 g1 g2 g3 g4 a5 a6 a7 a8 c9 a10 a11 g12 r.1 r.2.1 r.2.2))
def zt3 (x:Option ((Nat×Int×Bool))):LO:=(.one (.exit 0) (zjx a0 g1 g2 g3 g4 a5 a6 a7 a8 c9 a10 a11 g12 (x.getD default).1 (x.getD default).2.1 (x.getD default).2.2))
def y5i:Bool×LO:=sL (zt3 a0 g3 g4 g5 g6 a7 a8 a9 a10 c11 a12 a13 g14) (z11 a0 g6 a10 g14 big a1 c2)
def zuz:Nat→St→Option (Bool×LO):=lpT 6 (pSt [(x1P 0 4 7),(x1V 1 5 1),(x1F 5),(x1I 6)] [x1L,x1L,x1L,x1L,(x1R false 0 1 2 3),x1L]) (fun hs=>y5i (hN hs 0) (hN hs 1) (hI hs 2) (hLn hs 3) (hLn hs 4) (hLn hs 5) (hLn hs 6) (hN hs 7) (hN hs 8) (hN hs 9) (hN hs 10) (hI hs 11) (hN hs 12) (hN hs 13) (hLn hs 14))
theorem y9h:∀ x:Option ((Nat×Int×Bool)),x.isSome=true→(zlr a0 g1 g2 g3 g4 a5 a6 a7 a8 c9 a10 a11 g12) x=some (pick (zt3 a0 g1 g2 g3 g4 a5 a6 a7 a8 c9 a10 a11 g12 x))
 | none,h=>by cases h
 | some r,_=>rfl
theorem y95 (K:Ex→St→Option (Ex×St)):ev9 Γ1 73 3 6 fi73 (zf7 a0 a1 c2 g3 g4 g5 g6 a7 a8 a9 a10 c11 a12 a13 g14) K=z3u a0 g6 a10 g14 a1 c2 (fun sum' i'=>K .normal (zf7 a0 sum' i' g3 g4 g5 g6 a7 a8 a9 a10 c11 a12 a13 g14)) (fun c0_ c1_ c2_=>K (.exit 0) (zjx a0 g3 g4 g5 g6 a7 a8 a9 a10 c11 a12 a13 g14 c0_ c1_ c2_)):=by kernel_rfl
theorem y9q:∀ (n sum:Nat) (i:Int),iter 73 3 6 (ev9 Γ1 73 3 6 fi73) n (zf7 a0 sum i g1 g2 g3 g4 a5 a6 a7 a8 c9 a10 a11 g12) (fun e st=>some (e,st))=(zlr a0 g1 g2 g3 g4 a5 a6 a7 a8 c9 a10 a11 g12) (z11 a0 g4 a8 g12 n sum i):=by
 intro n
 induction n with
 | zero=>intros;rfl
 | succ n ih=>
  intro sum i
  refine Eq.trans (iter_succ ..) (Eq.trans (y95 ..) (Eq.trans ?_ (y0g a0 g4 a8 g12 sum i (zlr a0 g1 g2 g3 g4 a5 a6 a7 a8 c9 a10 a11 g12) rfl (fun sum' i'=>z11 a0 g4 a8 g12 n sum' i') (fun c0_ c1_ c2_=>some (c0_,c1_,c2_)))))
  exact congrArg (fun kn_=>z3u a0 g4 a8 g12 sum i kn_ _) (funext fun sum'=>funext fun i'=>ih ..)
theorem y48:LoopOne J fnTab 73 3 zuz:=lpK z5y z5u (fi:=fi73) (by kernel_rfl) (by kernel_rfl) (q:=fun hs=>(zf7 (hN hs 0) (hN hs 1) (hI hs 2) (hLn hs 3) (hLn hs 4) (hLn hs 5) (hLn hs 6) (hN hs 7) (hN hs 8) (hN hs 9) (hN hs 10) (hI hs 11) (hN hs 12) (hN hs 13) (hLn hs 14))) (fun hs=>by kernel_rfl) fun hs h1=>Eq.trans (y9q (hN hs 0) (hLn hs 3) (hLn hs 4) (hLn hs 5) (hLn hs 6) (hN hs 7) (hN hs 8) (hN hs 9) (hN hs 10) (hI hs 11) (hN hs 12) (hN hs 13) (hLn hs 14) big (hN hs 1) (hI hs 2)) (y9h (hN hs 0) (hLn hs 3) (hLn hs 4) (hLn hs 5) (hLn hs 6) (hN hs 7) (hN hs 8) (hN hs 9) (hN hs 10) (hI hs 11) (hN hs 12) (hN hs 13) (hLn hs 14) _ h1)
def zct:St:=(.mk [(x0V 0 0 a0 1),(x0I 4 c1),(x0I 7 c2),(x0I 8 c3)] [(x0L g4)])
def zhs:St:=(.mk [(x0V 0 0 a0 1),(x0I 4 c3),(x0I 7 c1),(x0I 8 c4),(x0B 9 e5)] [(x0L g2)])
def zjs:Option ((Int×Int×Bool))→Option (Ex×St)
 | none=>none
 | some r=>some ((.exit 0),(zhs a0 c1 g2 r.1 r.2.1 r.2.2))
def zqo (x:Option ((Int×Int×Bool))):LO:=(.one (.exit 0) (zhs a0 c1 g2 (x.getD default).1 (x.getD default).2.1 (x.getD default).2.2))
def y3j:Bool×LO:=sL (zqo a0 c2 g4) (z0u a0 c2 g4 big c1 c3)
def zsf:Nat→St→Option (Bool×LO):=lpT 1 (pSt [(x1V 0 0 1),(x1I 4),(x1I 7),(x1I 8)] [x1L]) (fun hs=>y3j (hN hs 0) (hI hs 1) (hI hs 2) (hI hs 3) (hLn hs 4))
theorem y7z:∀ x:Option ((Int×Int×Bool)),x.isSome=true→(zjs a0 c1 g2) x=some (pick (zqo a0 c1 g2 x))
 | none,h=>by cases h
 | some r,_=>rfl
theorem y7u (K:Ex→St→Option (Ex×St)):ev9 Γ1 81 3 1 fi81 (zct a0 c1 c2 c3 g4) K=z37 a0 c2 g4 c1 c3 (fun q2a' t8'=>K .normal (zct a0 q2a' c2 t8' g4)) (fun c0_ c1_ c2_=>K (.exit 0) (zhs a0 c2 g4 c0_ c1_ c2_)):=by kernel_rfl
theorem y8c:∀ (n:Nat) (q2a t8:Int),iter 81 3 1 (ev9 Γ1 81 3 1 fi81) n (zct a0 q2a c1 t8 g2) (fun e st=>some (e,st))=(zjs a0 c1 g2) (z0u a0 c1 g2 n q2a t8):=by
 intro n
 induction n with
 | zero=>intros;rfl
 | succ n ih=>
  intro q2a t8
  refine Eq.trans (iter_succ ..) (Eq.trans (y7u ..) (Eq.trans ?_ (y06 a0 c1 g2 q2a t8 (zjs a0 c1 g2) rfl (fun q2a' t8'=>z0u a0 c1 g2 n q2a' t8') (fun c0_ c1_ c2_=>some (c0_,c1_,c2_)))))
  exact congrArg (fun kn_=>z37 a0 c1 g2 q2a t8 kn_ _) (funext fun q2a'=>funext fun t8'=>ih ..)
theorem y0s:LoopOne J fnTab 81 3 zsf:=lpK z5y z5u (fi:=fi81) (by kernel_rfl) (by kernel_rfl) (q:=fun hs=>(zct (hN hs 0) (hI hs 1) (hI hs 2) (hI hs 3) (hLn hs 4))) (fun hs=>by kernel_rfl) fun hs h1=>Eq.trans (y8c (hN hs 0) (hI hs 2) (hLn hs 4) big (hI hs 1) (hI hs 3)) (y7z (hN hs 0) (hI hs 2) (hLn hs 4) _ h1)
def z56:St:=(.mk [(x0V 0 0 a0 1),(x0B 1 e1),(x0I 7 c2),(x0I 8 c3)] [(.mk false (.bl m4))])
def z7b(sn:Nat)(v:Bool)(t7:Int)(b0:List Bool)(c0_:Int):St:=(.mk [(x0I 4 c0_)] [(.mk false (.bl b0))])
def z7c:St:=(.mk [(x0V 0 0 a0 1),(x0B 1 e1),(x0I 7 c2),(x0I 8 c4),(x0B 9 e5)] [(.mk false (.bl m3))])
def z7q:Option ((Int)⊕(Int×Bool))→Option (Ex×St)
 | none=>none
 | some (Sum.inl r)=>some (.ret,(z7b a0 e1 c2 m3 r))
 | some (Sum.inr r)=>some ((.exit 0),(z7c a0 e1 c2 m3 r.1 r.2))
def zcm (x:Option ((Int)⊕(Int×Bool))):LO:=(.two (oL x) (.one .ret (z7b a0 e1 c2 m3 ((tL x).getD default))) (.one (.exit 0) (z7c a0 e1 c2 m3 ((tR x).getD default).1 ((tR x).getD default).2)))
def zoe:Bool×LO:=sL (zcm a0 e1 c2 m4) (z05 a0 e1 c2 m4 big c3)
def ze6:Nat→St→Option (Bool×LO):=lpT 1 (pSt [(x1V 0 0 1),(x1B 1),(x1I 7),(x1I 8)] [(pBlk false pBl)]) (fun hs=>zoe (hN hs 0) (hB hs 1) (hI hs 2) (hI hs 3) (hLb hs 4))
theorem zqd:∀ x:Option ((Int)⊕(Int×Bool)),x.isSome=true→(z7q a0 e1 c2 m3) x=some (pick (zcm a0 e1 c2 m3 x))
 | none,h=>by cases h
 | some (Sum.inl r),_=>rfl
 | some (Sum.inr r),_=>rfl
theorem zq8 (K:Ex→St→Option (Ex×St)):ev9 Γ1 113 2 1 fi113 (z56 a0 e1 c2 c3 m4) K=z0y a0 e1 c2 m4 c3 (fun t8'=>K .normal (z56 a0 e1 c2 t8' m4)) (fun c0_=>K .ret (z7b a0 e1 c2 m4 c0_)) (fun c0_ c1_=>K (.exit 0) (z7c a0 e1 c2 m4 c0_ c1_)):=by kernel_rfl
theorem zqk:∀ (n:Nat) (t8:Int),iter 113 2 1 (ev9 Γ1 113 2 1 fi113) n (z56 a0 e1 c2 t8 m3) (fun e st=>some (e,st))=(z7q a0 e1 c2 m3) (z05 a0 e1 c2 m3 n t8):=by
 intro n
 induction n with
 | zero=>intros;rfl
 | succ n ih=>
  intro t8
  refine Eq.trans (iter_succ ..) (Eq.trans (zq8 ..) (Eq.trans ?_ (zld a0 e1 c2 m3 t8 (z7q a0 e1 c2 m3) rfl (fun t8'=>z05 a0 e1 c2 m3 n t8') (fun c0_=>some (Sum.inl c0_)) (fun c0_ c1_=>some (Sum.inr (c0_,c1_))))))
  exact congrArg (fun kn_=>z0y a0 e1 c2 m3 t8 kn_ _ _) (funext fun t8'=>ih ..)
theorem zmm:LoopOne J fnTab 113 2 ze6:=lpK z5y z5u (fi:=fi113) (by kernel_rfl) (by kernel_rfl) (q:=fun hs=>(z56 (hN hs 0) (hB hs 1) (hI hs 2) (hI hs 3) (hLb hs 4))) (fun hs=>by kernel_rfl) fun hs h1=>Eq.trans (zqk (hN hs 0) (hB hs 1) (hI hs 2) (hLb hs 4) big (hI hs 3)) (zqd (hN hs 0) (hB hs 1) (hI hs 2) (hLb hs 4) _ h1)
def tb2:List (Nat×(List PT→Option (Bool×AV×List Blk))):=(59,zph)::(70,zlv)::(72,zky)::(83,zno)::(90,zpu)::(115,zfu)::(119,zl8)::(121,zo0)::(128,zn0)::(131,zrl)::(153,zhy)::(155,zca)::(156,zrb)::(159,zrv)::tb1
def lt2:List ((Nat×Nat)×(Nat→St→Option (Bool×LO))):=((45,3),zog)::((60,3),zin)::((73,3),zuz)::((81,3),zsf)::((113,2),ze6)::lt1
def Γ2:Ctx:=⟨tyTab,fnTab,tblSum tb2,tblLp lt2⟩
theorem zds:SumL J tb2:=SumL.cons y6y (SumL.cons y3i (SumL.cons y3g (SumL.cons y4x (SumL.cons y7j (SumL.cons zw6 (SumL.cons y3x (SumL.cons y66 (SumL.cons y57 (SumL.cons y97 (SumL.cons zzg (SumL.cons ztc (SumL.cons y9j (SumL.cons yag (z5y))))))))))))))
theorem zdp:LpL J fnTab lt2:=LpL.cons zwa (LpL.cons zr9 (LpL.cons y48 (LpL.cons y0s (LpL.cons zmm (z5u)))))
def zpe  : Option (Int)→Option (AV×List Blk)
 | some r=>some ((.v (.one (.int .i64 r))),[])
 | none=>none
def zpi:List PT→Option (Bool×AV×List Blk)
 | [.agg [.row 1 q0t (.fl .f32 q15),.row 1 q0u (.fl .f32 q18),.row 1 q0v (.fl .f32 q17),.row 3 q1h (.fl .f32 q1r),.s (.int .i64 q25),.s (.flt .f32 q2b),.s (.flt .f32 q2c)],.one (.s (.int .i64 q2j))]=>sF zpe (z7z q0t q15 q0u q18 q0v q17 q1h q1r q25 q2b q2c q2j)
 | _=>none
theorem ybx:ev8 Γ2 32 [.agg [.row 1 a0 (.fl .f32 g1),.row 1 a2 (.fl .f32 g3),.row 1 a4 (.fl .f32 g5),.row 3 a6 (.fl .f32 g7),.s (.int .i64 c8),.s (.flt .f32 a9),.s (.flt .f32 a10)],.one (.s (.int .i64 c11))]=zpe (z7z a0 g1 a2 g3 a4 g5 a6 g7 c8 a9 a10 c11):=tr2 (y5a a0 g1 a2 g3 a4 g5 a6 g7 c8 a9 a10 c11 zpe rfl (fun c0_=>some c0_)) (by kernel_rfl)
theorem y7g:SumOne J 32 zpi:=mkT zds zdp fun pts v news hp=>by
 unfold zpi at hp
 split at hp
 ·exact fin3 (ybx ..) hp
 ·cases hp
def zjf  : Option (Nat×(List Nat))→Option (AV×List Blk)
 | some r=>some ((.v (.one (.sl 0 0 r.1 1))),[(.mk true (.fl .f32 r.2))])
 | none=>none
def zj8:List PT→Option (Bool×AV×List Blk)
 | [.one (.row 1 a_n (.fl .f32 a))]=>sF zjf (z47 a_n a)
 | _=>none
theorem y8n:ev8 Γ2 45 [.one (.row 1 a0 (.fl .f32 g1))]=zjf (z47 a0 g1):=tr2 (zz3 a0 g1 zjf rfl (fun c0_ c1_=>some (c0_,c1_))) (by kernel_rfl)
theorem y0w:SumOne J 45 zj8:=mkT zds zdp fun pts v news hp=>by
 unfold zj8 at hp
 split at hp
 ·exact fin3 (y8n ..) hp
 ·cases hp
def zfx  : Option (Nat)→Option (AV×List Blk)
 | some r=>some ((.v (.one (.flt .f32 r))),[])
 | none=>none
def zem:List PT→Option (Bool×AV×List Blk)
 | [.agg [.row 1 q00 (.fl .f32 q03),.row 1 q01 (.fl .f32 q05),.row 1 q02 (.fl .f32 q04),.row 3 q06 (.fl .f32 q0b),.s (.int .i64 q0g),.s (.flt .f32 q0o),.s (.flt .f32 q0n)],.one (.row 1 q1i (.fl .f32 q1x))]=>sF zfx (z3x q00 q03 q01 q05 q02 q04 q06 q0b q0g q0o q0n q1i q1x)
 | _=>none
theorem y1g:ev8 Γ2 60 [.agg [.row 1 a0 (.fl .f32 g1),.row 1 a2 (.fl .f32 g3),.row 1 a4 (.fl .f32 g5),.row 3 a6 (.fl .f32 g7),.s (.int .i64 c8),.s (.flt .f32 a9),.s (.flt .f32 a10)],.one (.row 1 a11 (.fl .f32 g12))]=zfx (z3x a0 g1 a2 g3 a4 g5 a6 g7 c8 a9 a10 a11 g12):=tr2 (zu4 a0 g1 a2 g3 a4 g5 a6 g7 c8 a9 a10 a11 g12 zfx rfl (fun c0_=>some c0_)) (by kernel_rfl)
theorem zwf:SumOne J 60 zem:=mkT zds zdp fun pts v news hp=>by
 unfold zem at hp
 split at hp
 ·exact fin3 (y1g ..) hp
 ·cases hp
def zrc  : Option (Nat)→Option (AV×List Blk)
 | some r=>some ((.v (.one (.flt .f32 r))),[])
 | none=>none
def zrz:List PT→Option (Bool×AV×List Blk)
 | [.ptr [.row 1 q00 (.fl .f32 q03),.row 1 q01 (.fl .f32 q05),.row 1 q02 (.fl .f32 q04),.row 3 q06 (.fl .f32 q0b),.s (.int .i64 q0g),.s (.flt .f32 q0o),.s (.flt .f32 q0n)],.one (.row 1 q1i (.fl .f32 q1x))]=>sF zrc (z95 q00 q03 q01 q05 q02 q04 q06 q0b q0g q0o q0n q1i q1x)
 | _=>none
theorem ye9:ev8 Γ2 73 [.ptr [.row 1 a0 (.fl .f32 g1),.row 1 a2 (.fl .f32 g3),.row 1 a4 (.fl .f32 g5),.row 3 a6 (.fl .f32 g7),.s (.int .i64 c8),.s (.flt .f32 a9),.s (.flt .f32 a10)],.one (.row 1 a11 (.fl .f32 g12))]=zrc (z95 a0 g1 a2 g3 a4 g5 a6 g7 c8 a9 a10 a11 g12):=tr2 (y8m a0 g1 a2 g3 a4 g5 a6 g7 c8 a9 a10 a11 g12 zrc rfl (fun c0_=>some c0_)) (by kernel_rfl)
theorem y9p:SumOne J 73 zrz:=mkT zds zdp fun pts v news hp=>by
 unfold zrz at hp
 split at hp
 ·exact fin3 (ye9 ..) hp
 ·cases hp
def zqi  : Option (Int×Nat)→Option (AV×List Blk)
 | some r=>some ((.tup [(.one (.int .i64 r.1)),(.one (.flt .f32 r.2))]),[])
 | none=>none
def zpw:List PT→Option (Bool×AV×List Blk)
 | [.one (.row 1 q1i (.fl .f32 q1x))]=>sF zqi (z6i q1i q1x)
 | _=>none
theorem ybs:ev8 Γ2 81 [.one (.row 1 a0 (.fl .f32 g1))]=zqi (z6i a0 g1):=tr2 (y52 a0 g1 zqi rfl (fun c0_ c1_=>some (c0_,c1_))) (by kernel_rfl)
theorem y7q:SumOne J 81 zpw:=mkT zds zdp fun pts v news hp=>by
 unfold zpw at hp
 split at hp
 ·exact fin3 (ybs ..) hp
 ·cases hp
def z9o  : Option (Int)→Option (AV×List Blk)
 | some r=>some ((.v (.one (.int .i64 r))),[])
 | none=>none
def z9s:List PT→Option (Bool×AV×List Blk)
 | [.one (.row 1 s_n (.bl s)),.one (.s (.bool v))]=>sF z9o (z22 s_n s v)
 | _=>none
theorem ztj:ev8 Γ2 113 [.one (.row 1 a0 (.bl m1)),.one (.s (.bool e2))]=z9o (z22 a0 m1 e2):=tr2 (zov a0 m1 e2 z9o rfl (fun c0_=>some c0_)) (by kernel_rfl)
theorem zq3:SumOne J 113 z9s:=mkT zds zdp fun pts v news hp=>by
 unfold z9s at hp
 split at hp
 ·exact fin3 (ztj ..) hp
 ·cases hp
def zjr  : Option (Bool)→Option (AV×List Blk)
 | some r=>some ((.v (.one (.bool r))),[])
 | none=>none
def zjq:List PT→Option (Bool×AV×List Blk)
 | [.one (.s (.flt .f32 x))]=>sF zjr (z5h x)
 | _=>none
theorem y7k:ev8 Γ2 154 [.one (.s (.flt .f32 a0))]=zjr (z5h a0):=tr2 (y0d a0 zjr rfl (fun c0_=>some c0_)) (by kernel_rfl)
theorem y1q:SumOne J 154 zjq:=mkT zds zdp fun pts v news hp=>by
 unfold zjq at hp
 split at hp
 ·exact fin3 (y7k ..) hp
 ·cases hp
def ztz  : Option (Nat)→Option (AV×List Blk)
 | some r=>some ((.v (.one (.flt .f64 r))),[])
 | none=>none
def zvn:List PT→Option (Bool×AV×List Blk)
 | [.one (.s (.flt .f64 x))]=>sF ztz (za8 x)
 | _=>none
theorem yes:ev8 Γ2 174 [.one (.s (.flt .f64 a0))]=ztz (za8 a0):=tr2 (yai a0 ztz rfl (fun c0_=>some c0_)) (by kernel_rfl)
theorem yb3:SumOne J 174 zvn:=mkT zds zdp fun pts v news hp=>by
 unfold zvn at hp
 split at hp
 ·exact fin3 (yes ..) hp
 ·cases hp
def z9n:St:=(.mk [(x0V 0 0 a0 1),(x0V 1 1 a1 1),(x0I 5 c2)] [(x0L g3),(x0L g4)])
def zdx(an bn:Nat)(b0 b1:List Nat):St:=(.mk [(x0B 4 false)] [(x0L b0),(x0L b1)])
def zdu:St:=(.mk [(x0V 0 0 a0 1),(x0V 1 1 a1 1),(x0I 5 c4),(x0B 14 e5)] [(x0L g2),(x0L g3)])
def zes:Option ((Unit)⊕(Int×Bool))→Option (Ex×St)
 | none=>none
 | some (Sum.inl r)=>some (.ret,(zdx a0 a1 g2 g3))
 | some (Sum.inr r)=>some ((.exit 0),(zdu a0 a1 g2 g3 r.1 r.2))
def zmh (x:Option ((Unit)⊕(Int×Bool))):LO:=(.two (oL x) (.one .ret (zdx a0 a1 g2 g3)) (.one (.exit 0) (zdu a0 a1 g2 g3 ((tR x).getD default).1 ((tR x).getD default).2)))
def zxo:Bool×LO:=sL (zmh a0 a1 g3 g4) (z19 a0 a1 g3 g4 big c2)
def zmt:Nat→St→Option (Bool×LO):=lpT 2 (pSt [(x1V 0 0 1),(x1V 1 1 1),(x1I 5)] [x1L,x1L]) (fun hs=>zxo (hN hs 0) (hN hs 1) (hI hs 2) (hLn hs 3) (hLn hs 4))
theorem y1z:∀ x:Option ((Unit)⊕(Int×Bool)),x.isSome=true→(zes a0 a1 g2 g3) x=some (pick (zmh a0 a1 g2 g3 x))
 | none,h=>by cases h
 | some (Sum.inl r),_=>rfl
 | some (Sum.inr r),_=>rfl
theorem y0u (K:Ex→St→Option (Ex×St)):ev9 Γ2 37 4 2 fi37 (z9n a0 a1 c2 g3 g4) K=z23 a0 a1 g3 g4 c2 (fun i'=>K .normal (z9n a0 a1 i' g3 g4)) (fun _=>K .ret (zdx a0 a1 g3 g4)) (fun c0_ c1_=>K (.exit 0) (zdu a0 a1 g3 g4 c0_ c1_)):=by kernel_rfl
theorem y17:∀ (n:Nat) (i:Int),iter 37 4 2 (ev9 Γ2 37 4 2 fi37) n (z9n a0 a1 i g2 g3) (fun e st=>some (e,st))=(zes a0 a1 g2 g3) (z19 a0 a1 g2 g3 n i):=by
 intro n
 induction n with
 | zero=>intros;rfl
 | succ n ih=>
  intro i
  refine Eq.trans (iter_succ ..) (Eq.trans (y0u ..) (Eq.trans ?_ (zvo a0 a1 g2 g3 i (zes a0 a1 g2 g3) rfl (fun i'=>z19 a0 a1 g2 g3 n i') (fun _=>some (Sum.inl ())) (fun c0_ c1_=>some (Sum.inr (c0_,c1_))))))
  exact congrArg (fun kn_=>z23 a0 a1 g2 g3 i kn_ _ _) (funext fun i'=>ih ..)
theorem zwb:LoopOne J fnTab 37 4 zmt:=lpK zds zdp (fi:=fi37) (by kernel_rfl) (by kernel_rfl) (q:=fun hs=>(z9n (hN hs 0) (hN hs 1) (hI hs 2) (hLn hs 3) (hLn hs 4))) (fun hs=>by kernel_rfl) fun hs h1=>Eq.trans (y17 (hN hs 0) (hN hs 1) (hLn hs 3) (hLn hs 4) big (hI hs 2)) (y1z (hN hs 0) (hN hs 1) (hLn hs 3) (hLn hs 4) _ h1)
def z9l:St:=(.mk [(x0V 0 0 a0 3),(x0S 3 1 a1 3),(x0I 4 c2)] [(x0L g3),(x0T g4)])
def zea:St:=(.mk [(x0V 0 0 a0 3),(x0S 3 1 a1 3),(x0I 4 c3),(x0B 11 e4)] [(x0L g2),(x0T g5)])
def zet:Option ((Int×Bool×(List Nat)))→Option (Ex×St)
 | none=>none
 | some r=>some ((.exit 0),(zea a0 a1 g2 r.1 r.2.1 r.2.2))
def zmb (x:Option ((Int×Bool×(List Nat)))):LO:=(.one (.exit 0) (zea a0 a1 g2 (x.getD default).1 (x.getD default).2.1 (x.getD default).2.2))
def zxh:Bool×LO:=sL (zmb a0 a1 g3) (z0p a0 a1 g3 big c2 g4)
def zoh:Nat→St→Option (Bool×LO):=lpT 1 (pSt [(x1V 0 0 3),(x1S 3 1 3),(x1I 4)] [x1L,x1T]) (fun hs=>zxh (hN hs 0) (hN hs 1) (hI hs 2) (hLn hs 3) (hLn hs 4))
theorem y2h:∀ x:Option ((Int×Bool×(List Nat))),x.isSome=true→(zet a0 a1 g2) x=some (pick (zmb a0 a1 g2 x))
 | none,h=>by cases h
 | some r,_=>rfl
theorem y0k (K:Ex→St→Option (Ex×St)):ev9 Γ2 75 3 1 fi75 (z9l a0 a1 c2 g3 g4) K=z27 a0 a1 g3 c2 g4 (fun i' b1'=>K .normal (z9l a0 a1 i' g3 b1')) (fun c0_ c1_ c2_=>K (.exit 0) (zea a0 a1 g3 c0_ c1_ c2_)):=by kernel_rfl
theorem y2g:∀ (n:Nat) (i:Int) (b1:List Nat),iter 75 3 1 (ev9 Γ2 75 3 1 fi75) n (z9l a0 a1 i g2 b1) (fun e st=>some (e,st))=(zet a0 a1 g2) (z0p a0 a1 g2 n i b1):=by
 intro n
 induction n with
 | zero=>intros;rfl
 | succ n ih=>
  intro i b1
  refine Eq.trans (iter_succ ..) (Eq.trans (y0k ..) (Eq.trans ?_ (zv8 a0 a1 g2 i b1 (zet a0 a1 g2) rfl (fun i' b1'=>z0p a0 a1 g2 n i' b1') (fun c0_ c1_ c2_=>some (c0_,c1_,c2_)))))
  exact congrArg (fun kn_=>z27 a0 a1 g2 i b1 kn_ _) (funext fun i'=>funext fun b1'=>ih ..)
theorem zwg:LoopOne J fnTab 75 3 zoh:=lpK zds zdp (fi:=fi75) (by kernel_rfl) (by kernel_rfl) (q:=fun hs=>(z9l (hN hs 0) (hN hs 1) (hI hs 2) (hLn hs 3) (hLn hs 4))) (fun hs=>by kernel_rfl) fun hs h1=>Eq.trans (y2g (hN hs 0) (hN hs 1) (hLn hs 3) big (hI hs 2) (hLn hs 4)) (y2h (hN hs 0) (hN hs 1) (hLn hs 3) _ h1)
def z88:St:=(.mk [(x0B 4 e0),(5,(.v (.one (.flt .f64 a1)))),(6,(.v (.one (.flt .f64 a2)))),(7,(.v (.one (.flt .f64 a3)))),(x0I 8 c4)] [])
def zat:St:=(.mk [(x0B 4 e0),(5,(.v (.one (.flt .f64 a1)))),(6,(.v (.one (.flt .f64 a2)))),(7,(.v (.one (.flt .f64 a3)))),(x0I 8 c4),(x0B 44 e5)] [])
def zc4:Option ((Nat×Int×Bool))→Option (Ex×St)
 | none=>none
 | some r=>some ((.exit 0),(zat e0 a1 a2 r.1 r.2.1 r.2.2))
def zir (x:Option ((Nat×Int×Bool))):LO:=(.one (.exit 0) (zat e0 a1 a2 (x.getD default).1 (x.getD default).2.1 (x.getD default).2.2))
def zum:Bool×LO:=sL (zir e0 a1 a2) (z0l a2 big a3 c4)
def zk2:Nat→St→Option (Bool×LO):=lpT 0 (pSt [(x1B 4),(pTm 5 (pV (pOne (pFlt .f64)))),(pTm 6 (pV (pOne (pFlt .f64)))),(pTm 7 (pV (pOne (pFlt .f64)))),(x1I 8)] []) (fun hs=>zum (hB hs 0) (hN hs 1) (hN hs 2) (hN hs 3) (hI hs 4))
theorem zxd:∀ x:Option ((Nat×Int×Bool)),x.isSome=true→(zc4 e0 a1 a2) x=some (pick (zir e0 a1 a2 x))
 | none,h=>by cases h
 | some r,_=>rfl
theorem zxm (K:Ex→St→Option (Ex×St)):ev9 Γ2 164 17 0 fi164 (z88 e0 a1 a2 a3 c4) K=z1o a2 a3 c4 (fun t7' t8'=>K .normal (z88 e0 a1 a2 t7' t8')) (fun c0_ c1_ c2_=>K (.exit 0) (zat e0 a1 a2 c0_ c1_ c2_)):=by kernel_rfl
theorem zxq:∀ (n t7:Nat) (t8:Int),iter 164 17 0 (ev9 Γ2 164 17 0 fi164) n (z88 e0 a1 a2 t7 t8) (fun e st=>some (e,st))=(zc4 e0 a1 a2) (z0l a2 n t7 t8):=by
 intro n
 induction n with
 | zero=>intros;rfl
 | succ n ih=>
  intro t7 t8
  refine Eq.trans (iter_succ ..) (Eq.trans (zxm ..) (Eq.trans ?_ (zrq a2 t7 t8 (zc4 e0 a1 a2) rfl (fun t7' t8'=>z0l a2 n t7' t8') (fun c0_ c1_ c2_=>some (c0_,c1_,c2_)))))
  exact congrArg (fun kn_=>z1o a2 t7 t8 kn_ _) (funext fun t7'=>funext fun t8'=>ih ..)
theorem ztb:LoopOne J fnTab 164 17 zk2:=lpK zds zdp (fi:=fi164) (by kernel_rfl) (by kernel_rfl) (q:=fun hs=>(z88 (hB hs 0) (hN hs 1) (hN hs 2) (hN hs 3) (hI hs 4))) (fun hs=>by kernel_rfl) fun hs h1=>Eq.trans (zxq (hB hs 0) (hN hs 1) (hN hs 2) big (hN hs 3) (hI hs 4)) (zxd (hB hs 0) (hN hs 1) (hN hs 2) _ h1)
def tb3:List (Nat×(List PT→Option (Bool×AV×List Blk))):=(32,zpi)::(45,zj8)::(60,zem)::(73,zrz)::(81,zpw)::(113,z9s)::(154,zjq)::(174,zvn)::tb2
def lt3:List ((Nat×Nat)×(Nat→St→Option (Bool×LO))):=((37,4),zmt)::((75,3),zoh)::((164,17),zk2)::lt2
def Γ3:Ctx:=⟨tyTab,fnTab,tblSum tb3,tblLp lt3⟩
theorem zg3:SumL J tb3:=SumL.cons y7g (SumL.cons y0w (SumL.cons zwf (SumL.cons y9p (SumL.cons y7q (SumL.cons zq3 (SumL.cons y1q (SumL.cons yb3 (zds))))))))
theorem zg7:LpL J fnTab lt3:=LpL.cons zwb (LpL.cons zwg (LpL.cons ztb (zdp)))
def zj9  : Option (Bool)→Option (AV×List Blk)
 | some r=>some ((.v (.one (.bool r))),[])
 | none=>none
def zjh:List PT→Option (Bool×AV×List Blk)
 | [.one (.row 1 a_n (.fl .f32 a)),.one (.row 1 b_n (.fl .f32 b))]=>sF zj9 (z5e a_n a b_n b)
 | _=>none
theorem y8h:ev8 Γ3 37 [.one (.row 1 a0 (.fl .f32 g1)),.one (.row 1 a2 (.fl .f32 g3))]=zj9 (z5e a0 g1 a2 g3):=tr2 (zzp a0 g1 a2 g3 zj9 rfl (fun c0_=>some c0_)) (by kernel_rfl)
theorem y14:SumOne J 37 zjh:=mkT zg3 zg7 fun pts v news hp=>by
 unfold zjh at hp
 split at hp
 ·exact fin3 (y8h ..) hp
 ·cases hp
def z7n  : Option (Bool)→Option (AV×List Blk)
 | some r=>some ((.v (.one (.bool r))),[])
 | none=>none
def z7o:List PT→Option (Bool×AV×List Blk)
 | [.one (.row 1 s_n (.bl s)),.one (.s (.bool v))]=>sF z7n (z1h s_n s v)
 | _=>none
theorem zq4:ev8 Γ3 58 [.one (.row 1 a0 (.bl m1)),.one (.s (.bool e2))]=z7n (z1h a0 m1 e2):=tr2 (zli a0 m1 e2 z7n rfl (fun c0_=>some c0_)) (by kernel_rfl)
theorem zmo:SumOne J 58 z7o:=mkT zg3 zg7 fun pts v news hp=>by
 unfold z7o at hp
 split at hp
 ·exact fin3 (zq4 ..) hp
 ·cases hp
def zm3  : Option (Nat×Nat×Nat×(List Nat)×(List Nat)×(List Nat))→Option (AV×List Blk)
 | some r=>some ((.v (.agg [(.sl 0 0 r.1 1),(.sl 1 0 r.2.1 1),(.sl 2 0 r.2.2.1 1)])),[(.mk true (.fl .f32 r.2.2.2.1)),(.mk true (.fl .f32 r.2.2.2.2.1)),(.mk true (.fl .f32 r.2.2.2.2.2))])
 | none=>none
def zkl:List PT→Option (Bool×AV×List Blk)
 | [.agg [.row 1 q1m (.fl .f32 q21),.row 1 q1s (.fl .f32 q26),.row 1 q1t (.fl .f32 q27)]]=>sF zm3 (z1y q1m q21 q1s q26 q1t q27)
 | _=>none
theorem ya9:ev8 Γ3 74 [.agg [.row 1 a0 (.fl .f32 g1),.row 1 a2 (.fl .f32 g3),.row 1 a4 (.fl .f32 g5)]]=zm3 (z1y a0 g1 a2 g3 a4 g5):=tr2 (y18 a0 g1 a2 g3 a4 g5 zm3 rfl (fun c0_ c1_ c2_ c3_ c4_ c5_=>some (c0_,c1_,c2_,c3_,c4_,c5_))) (by kernel_rfl)
theorem y4n:SumOne J 74 zkl:=mkT zg3 zg7 fun pts v news hp=>by
 unfold zkl at hp
 split at hp
 ·exact fin3 (ya9 ..) hp
 ·cases hp
def zjv  : Option (Nat×(List Nat))→Option (AV×List Blk)
 | some r=>some ((.v (.one (.sl 0 0 r.1 3))),[(.mk true (.fl .f32 r.2))])
 | none=>none
def zj5:List PT→Option (Bool×AV×List Blk)
 | [.one (.row 3 a_n (.fl .f32 a))]=>sF zjv (z49 a_n a)
 | _=>none
theorem y75:ev8 Γ3 75 [.one (.row 3 a0 (.fl .f32 g1))]=zjv (z49 a0 g1):=tr2 (zz8 a0 g1 zjv rfl (fun c0_ c1_=>some (c0_,c1_))) (by kernel_rfl)
theorem y0y:SumOne J 75 zj5:=mkT zg3 zg7 fun pts v news hp=>by
 unfold zj5 at hp
 split at hp
 ·exact fin3 (y75 ..) hp
 ·cases hp
def zi0  : Option (Nat)→Option (AV×List Blk)
 | some r=>some ((.v (.one (.flt .f64 r))),[])
 | none=>none
def zhz:List PT→Option (Bool×AV×List Blk)
 | [.one (.s (.flt .f64 q1f))]=>sF zi0 (z28 q1f)
 | _=>none
theorem y50:ev8 Γ3 164 [.one (.s (.flt .f64 a0))]=zi0 (z28 a0):=tr2 (zxc a0 zi0 rfl (fun c0_=>some c0_)) (by kernel_rfl)
theorem y05:SumOne J 164 zhz:=mkT zg3 zg7 fun pts v news hp=>by
 unfold zhz at hp
 split at hp
 ·exact fin3 (y50 ..) hp
 ·cases hp
def zj0  : Option (Nat)→Option (AV×List Blk)
 | some r=>some ((.v (.one (.flt .f64 r))),[])
 | none=>none
def ziw:List PT→Option (Bool×AV×List Blk)
 | [.one (.s (.flt .f64 q2k))]=>sF zj0 (z5c q2k)
 | _=>none
theorem y89:ev8 Γ3 169 [.one (.s (.flt .f64 a0))]=zj0 (z5c a0):=tr2 (zza a0 zj0 rfl (fun c0_=>some c0_)) (by kernel_rfl)
theorem y0m:SumOne J 169 ziw:=mkT zg3 zg7 fun pts v news hp=>by
 unfold ziw at hp
 split at hp
 ·exact fin3 (y89 ..) hp
 ·cases hp
def z9e:St:=(.mk [(x0V 0 0 a0 3),(x0V 1 1 a1 3),(x0I 5 c2)] [(x0L g3),(x0L g4)])
def zdg(an bn:Nat)(b0 b1:List Nat):St:=(.mk [(x0B 4 false)] [(x0L b0),(x0L b1)])
def ze4:St:=(.mk [(x0V 0 0 a0 3),(x0V 1 1 a1 3),(x0I 5 c4),(x0B 14 e5)] [(x0L g2),(x0L g3)])
def zfl:Option ((Unit)⊕(Int×Bool))→Option (Ex×St)
 | none=>none
 | some (Sum.inl r)=>some (.ret,(zdg a0 a1 g2 g3))
 | some (Sum.inr r)=>some ((.exit 0),(ze4 a0 a1 g2 g3 r.1 r.2))
def zmd (x:Option ((Unit)⊕(Int×Bool))):LO:=(.two (oL x) (.one .ret (zdg a0 a1 g2 g3)) (.one (.exit 0) (ze4 a0 a1 g2 g3 ((tR x).getD default).1 ((tR x).getD default).2)))
def zyd:Bool×LO:=sL (zmd a0 a1 g3 g4) (z17 a0 a1 g3 g4 big c2)
def znb:Nat→St→Option (Bool×LO):=lpT 2 (pSt [(x1V 0 0 3),(x1V 1 1 3),(x1I 5)] [x1L,x1L]) (fun hs=>zyd (hN hs 0) (hN hs 1) (hI hs 2) (hLn hs 3) (hLn hs 4))
theorem y1j:∀ x:Option ((Unit)⊕(Int×Bool)),x.isSome=true→(zfl a0 a1 g2 g3) x=some (pick (zmd a0 a1 g2 g3 x))
 | none,h=>by cases h
 | some (Sum.inl r),_=>rfl
 | some (Sum.inr r),_=>rfl
theorem y0e (K:Ex→St→Option (Ex×St)):ev9 Γ3 77 4 2 fi77 (z9e a0 a1 c2 g3 g4) K=z24 a0 a1 g3 g4 c2 (fun i'=>K .normal (z9e a0 a1 i' g3 g4)) (fun _=>K .ret (zdg a0 a1 g3 g4)) (fun c0_ c1_=>K (.exit 0) (ze4 a0 a1 g3 g4 c0_ c1_)):=by kernel_rfl
theorem y2a:∀ (n:Nat) (i:Int),iter 77 4 2 (ev9 Γ3 77 4 2 fi77) n (z9e a0 a1 i g2 g3) (fun e st=>some (e,st))=(zfl a0 a1 g2 g3) (z17 a0 a1 g2 g3 n i):=by
 intro n
 induction n with
 | zero=>intros;rfl
 | succ n ih=>
  intro i
  refine Eq.trans (iter_succ ..) (Eq.trans (y0e ..) (Eq.trans ?_ (zu6 a0 a1 g2 g3 i (zfl a0 a1 g2 g3) rfl (fun i'=>z17 a0 a1 g2 g3 n i') (fun _=>some (Sum.inl ())) (fun c0_ c1_=>some (Sum.inr (c0_,c1_))))))
  exact congrArg (fun kn_=>z24 a0 a1 g2 g3 i kn_ _ _) (funext fun i'=>ih ..)
theorem zvx:LoopOne J fnTab 77 4 znb:=lpK zg3 zg7 (fi:=fi77) (by kernel_rfl) (by kernel_rfl) (q:=fun hs=>(z9e (hN hs 0) (hN hs 1) (hI hs 2) (hLn hs 3) (hLn hs 4))) (fun hs=>by kernel_rfl) fun hs h1=>Eq.trans (y2a (hN hs 0) (hN hs 1) (hLn hs 3) (hLn hs 4) big (hI hs 2)) (y1j (hN hs 0) (hN hs 1) (hLn hs 3) (hLn hs 4) _ h1)
def zh4:St:=(.mk [(x0P 0 3 3),(x0I 3 c0),(x0I 4 c1)] [(x0L g2),(x0L g3),(x0L g4),(.mk false (.cells [(.vw 0 0 a5 1),(.vw 1 0 a6 1),(.vw 2 0 a7 1)]))])
def zlh(t3:Int)(b0 b1 b2:List Nat)(q1l q1y q1z:Nat):St:=(.mk [(x0B 2 false)] [(x0L b0),(x0L b1),(x0L b2),(.mk false (.cells [(.vw 0 0 q1l 1),(.vw 1 0 q1y 1),(.vw 2 0 q1z 1)]))])
def zle:St:=(.mk [(x0P 0 3 3),(x0I 3 c0),(x0I 4 c7),(x0B 36 e8)] [(x0L g1),(x0L g2),(x0L g3),(.mk false (.cells [(.vw 0 0 a4 1),(.vw 1 0 a5 1),(.vw 2 0 a6 1)]))])
def zn7:Option ((Unit)⊕(Int×Bool))→Option (Ex×St)
 | none=>none
 | some (Sum.inl r)=>some (.ret,(zlh c0 g1 g2 g3 a4 a5 a6))
 | some (Sum.inr r)=>some ((.exit 0),(zle c0 g1 g2 g3 a4 a5 a6 r.1 r.2))
def zus (x:Option ((Unit)⊕(Int×Bool))):LO:=(.two (oL x) (.one .ret (zlh c0 g1 g2 g3 a4 a5 a6)) (.one (.exit 0) (zle c0 g1 g2 g3 a4 a5 a6 ((tR x).getD default).1 ((tR x).getD default).2)))
def y77:Bool×LO:=sL (zus c0 g2 g3 g4 a5 a6 a7) (z1w c0 g2 g3 g4 a5 a6 a7 big c1)
def zwy:Nat→St→Option (Bool×LO):=lpT 4 (pSt [(x1P 0 3 3),(x1I 3),(x1I 4)] [x1L,x1L,x1L,(pBlk false (pCells [(pVw 0 (liN 0) 1),(pVw 1 (liN 0) 1),(pVw 2 (liN 0) 1)]))]) (fun hs=>y77 (hI hs 0) (hI hs 1) (hLn hs 2) (hLn hs 3) (hLn hs 4) (hN hs 5) (hN hs 6) (hN hs 7))
theorem yb7:∀ x:Option ((Unit)⊕(Int×Bool)),x.isSome=true→(zn7 c0 g1 g2 g3 a4 a5 a6) x=some (pick (zus c0 g1 g2 g3 a4 a5 a6 x))
 | none,h=>by cases h
 | some (Sum.inl r),_=>rfl
 | some (Sum.inr r),_=>rfl
theorem yan (K:Ex→St→Option (Ex×St)):ev9 Γ3 120 5 4 fi120 (zh4 c0 c1 g2 g3 g4 a5 a6 a7) K=z4g c0 g2 g3 g4 a5 a6 a7 c1 (fun t4'=>K .normal (zh4 c0 t4' g2 g3 g4 a5 a6 a7)) (fun _=>K .ret (zlh c0 g2 g3 g4 a5 a6 a7)) (fun c0_ c1_=>K (.exit 0) (zle c0 g2 g3 g4 a5 a6 a7 c0_ c1_)):=by kernel_rfl
theorem yb1:∀ (n:Nat) (t4:Int),iter 120 5 4 (ev9 Γ3 120 5 4 fi120) n (zh4 c0 t4 g1 g2 g3 a4 a5 a6) (fun e st=>some (e,st))=(zn7 c0 g1 g2 g3 a4 a5 a6) (z1w c0 g1 g2 g3 a4 a5 a6 n t4):=by
 intro n
 induction n with
 | zero=>intros;rfl
 | succ n ih=>
  intro t4
  refine Eq.trans (iter_succ ..) (Eq.trans (yan ..) (Eq.trans ?_ (y3o c0 g1 g2 g3 a4 a5 a6 t4 (zn7 c0 g1 g2 g3 a4 a5 a6) rfl (fun t4'=>z1w c0 g1 g2 g3 a4 a5 a6 n t4') (fun _=>some (Sum.inl ())) (fun c0_ c1_=>some (Sum.inr (c0_,c1_))))))
  exact congrArg (fun kn_=>z4g c0 g1 g2 g3 a4 a5 a6 t4 kn_ _ _) (funext fun t4'=>ih ..)
theorem y4w:LoopOne J fnTab 120 5 zwy:=lpK zg3 zg7 (fi:=fi120) (by kernel_rfl) (by kernel_rfl) (q:=fun hs=>(zh4 (hI hs 0) (hI hs 1) (hLn hs 2) (hLn hs 3) (hLn hs 4) (hN hs 5) (hN hs 6) (hN hs 7))) (fun hs=>by kernel_rfl) fun hs h1=>Eq.trans (yb1 (hI hs 0) (hLn hs 2) (hLn hs 3) (hLn hs 4) (hN hs 5) (hN hs 6) (hN hs 7) big (hI hs 1)) (yb7 (hI hs 0) (hLn hs 2) (hLn hs 3) (hLn hs 4) (hN hs 5) (hN hs 6) (hN hs 7) _ h1)
def z1m:St:=(.mk [(x0V 0 0 a0 1),(1,(.v (.one (.fn 115 [])))),(x0I 7 c1),(x0I 8 c2)] [(x0L g3)])
def z2r(sn:Nat)(t7:Int)(b0:List Nat)(c0_:Int):St:=(.mk [(x0I 4 c0_)] [(x0L b0)])
def z2o:St:=(.mk [(x0V 0 0 a0 1),(1,(.v (.one (.fn 115 [])))),(x0I 7 c1),(x0I 8 c3),(x0B 9 e4)] [(x0L g2)])
def z30:Option ((Int)⊕(Int×Bool))→Option (Ex×St)
 | none=>none
 | some (Sum.inl r)=>some (.ret,(z2r a0 c1 g2 r))
 | some (Sum.inr r)=>some ((.exit 0),(z2o a0 c1 g2 r.1 r.2))
def z5o (x:Option ((Int)⊕(Int×Bool))):LO:=(.two (oL x) (.one .ret (z2r a0 c1 g2 ((tL x).getD default))) (.one (.exit 0) (z2o a0 c1 g2 ((tR x).getD default).1 ((tR x).getD default).2)))
def zaw:Bool×LO:=sL (z5o a0 c1 g3) (z01 a0 c1 g3 big c2)
def z5z:Nat→St→Option (Bool×LO):=lpT 1 (pSt [(x1V 0 0 1),(pTm 1 (pV (pOne (pFn 115 [])))),(x1I 7),(x1I 8)] [x1L]) (fun hs=>zaw (hN hs 0) (hI hs 1) (hI hs 2) (hLn hs 3))
theorem zc6:∀ x:Option ((Int)⊕(Int×Bool)),x.isSome=true→(z30 a0 c1 g2) x=some (pick (z5o a0 c1 g2 x))
 | none,h=>by cases h
 | some (Sum.inl r),_=>rfl
 | some (Sum.inr r),_=>rfl
theorem zcc (K:Ex→St→Option (Ex×St)):ev9 Γ3 146 2 1 fi146 (z1m a0 c1 c2 g3) K=z0b a0 c1 g3 c2 (fun t8'=>K .normal (z1m a0 c1 t8' g3)) (fun c0_=>K .ret (z2r a0 c1 g3 c0_)) (fun c0_ c1_=>K (.exit 0) (z2o a0 c1 g3 c0_ c1_)):=by kernel_rfl
theorem zc0:∀ (n:Nat) (t8:Int),iter 146 2 1 (ev9 Γ3 146 2 1 fi146) n (z1m a0 c1 t8 g2) (fun e st=>some (e,st))=(z30 a0 c1 g2) (z01 a0 c1 g2 n t8):=by
 intro n
 induction n with
 | zero=>intros;rfl
 | succ n ih=>
  intro t8
  refine Eq.trans (iter_succ ..) (Eq.trans (zcc ..) (Eq.trans ?_ (za5 a0 c1 g2 t8 (z30 a0 c1 g2) rfl (fun t8'=>z01 a0 c1 g2 n t8') (fun c0_=>some (Sum.inl c0_)) (fun c0_ c1_=>some (Sum.inr (c0_,c1_))))))
  exact congrArg (fun kn_=>z0b a0 c1 g2 t8 kn_ _ _) (funext fun t8'=>ih ..)
theorem zan:LoopOne J fnTab 146 2 z5z:=lpK zg3 zg7 (fi:=fi146) (by kernel_rfl) (by kernel_rfl) (q:=fun hs=>(z1m (hN hs 0) (hI hs 1) (hI hs 2) (hLn hs 3))) (fun hs=>by kernel_rfl) fun hs h1=>Eq.trans (zc0 (hN hs 0) (hI hs 1) (hLn hs 3) big (hI hs 2)) (zc6 (hN hs 0) (hI hs 1) (hLn hs 3) _ h1)
def z1t:St:=(.mk [(x0V 0 0 a0 1),(1,(.v (.one (.fn 153 [])))),(x0I 7 c1),(x0I 8 c2)] [(x0L g3)])
def z32(sn:Nat)(t7:Int)(b0:List Nat)(c0_:Int):St:=(.mk [(x0I 4 c0_)] [(x0L b0)])
def z34:St:=(.mk [(x0V 0 0 a0 1),(1,(.v (.one (.fn 153 [])))),(x0I 7 c1),(x0I 8 c3),(x0B 9 e4)] [(x0L g2)])
def z3i:Option ((Int)⊕(Int×Bool))→Option (Ex×St)
 | none=>none
 | some (Sum.inl r)=>some (.ret,(z32 a0 c1 g2 r))
 | some (Sum.inr r)=>some ((.exit 0),(z34 a0 c1 g2 r.1 r.2))
def z62 (x:Option ((Int)⊕(Int×Bool))):LO:=(.two (oL x) (.one .ret (z32 a0 c1 g2 ((tL x).getD default))) (.one (.exit 0) (z34 a0 c1 g2 ((tR x).getD default).1 ((tR x).getD default).2)))
def zcl:Bool×LO:=sL (z62 a0 c1 g3) (z02 a0 c1 g3 big c2)
def z6q:Nat→St→Option (Bool×LO):=lpT 1 (pSt [(x1V 0 0 1),(pTm 1 (pV (pOne (pFn 153 [])))),(x1I 7),(x1I 8)] [x1L]) (fun hs=>zcl (hN hs 0) (hI hs 1) (hI hs 2) (hLn hs 3))
theorem zdt:∀ x:Option ((Int)⊕(Int×Bool)),x.isSome=true→(z3i a0 c1 g2) x=some (pick (z62 a0 c1 g2 x))
 | none,h=>by cases h
 | some (Sum.inl r),_=>rfl
 | some (Sum.inr r),_=>rfl
theorem zdk (K:Ex→St→Option (Ex×St)):ev9 Γ3 146 2 1 fi146 (z1t a0 c1 c2 g3) K=z0c a0 c1 g3 c2 (fun t8'=>K .normal (z1t a0 c1 t8' g3)) (fun c0_=>K .ret (z32 a0 c1 g3 c0_)) (fun c0_ c1_=>K (.exit 0) (z34 a0 c1 g3 c0_ c1_)):=by kernel_rfl
theorem ze2:∀ (n:Nat) (t8:Int),iter 146 2 1 (ev9 Γ3 146 2 1 fi146) n (z1t a0 c1 t8 g2) (fun e st=>some (e,st))=(z3i a0 c1 g2) (z02 a0 c1 g2 n t8):=by
 intro n
 induction n with
 | zero=>intros;rfl
 | succ n ih=>
  intro t8
  refine Eq.trans (iter_succ ..) (Eq.trans (zdk ..) (Eq.trans ?_ (zb0 a0 c1 g2 t8 (z3i a0 c1 g2) rfl (fun t8'=>z02 a0 c1 g2 n t8') (fun c0_=>some (Sum.inl c0_)) (fun c0_ c1_=>some (Sum.inr (c0_,c1_))))))
  exact congrArg (fun kn_=>z0c a0 c1 g2 t8 kn_ _ _) (funext fun t8'=>ih ..)
theorem zbp:LoopOne J fnTab 146 2 z6q:=lpK zg3 zg7 (fi:=fi146) (by kernel_rfl) (by kernel_rfl) (q:=fun hs=>(z1t (hN hs 0) (hI hs 1) (hI hs 2) (hLn hs 3))) (fun hs=>by kernel_rfl) fun hs h1=>Eq.trans (ze2 (hN hs 0) (hI hs 1) (hLn hs 3) big (hI hs 2)) (zdt (hN hs 0) (hI hs 1) (hLn hs 3) _ h1)
def tb4:List (Nat×(List PT→Option (Bool×AV×List Blk))):=(37,zjh)::(58,z7o)::(74,zkl)::(75,zj5)::(164,zhz)::(169,ziw)::tb3
def lt4:List ((Nat×Nat)×(Nat→St→Option (Bool×LO))):=((77,4),znb)::((120,5),zwy)::((146,2),z5z)::((146,2),z6q)::lt3
def Γ4:Ctx:=⟨tyTab,fnTab,tblSum tb4,tblLp lt4⟩
theorem zk1:SumL J tb4:=SumL.cons y14 (SumL.cons zmo (SumL.cons y4n (SumL.cons y0y (SumL.cons y05 (SumL.cons y0m (zg3))))))
theorem zk6:LpL J fnTab lt4:=LpL.cons zvx (LpL.cons y4w (LpL.cons zan (LpL.cons zbp (zg7))))
def zq2:Option (Nat×Nat×Nat×Nat×(List Nat)×(List Nat)×(List Nat)×(List Nat))→Option (AV×List Blk)
 | some r=>some ((.v (.agg [(.sl 0 0 r.1 1),(.sl 1 0 r.2.1 1),(.sl 2 0 r.2.2.1 1),(.sl 3 0 r.2.2.2.1 3),(.int .i64 c0),(.flt .f32 a1),(.flt .f32 a2)])),[(.mk true (.fl .f32 r.2.2.2.2.1)),(.mk true (.fl .f32 r.2.2.2.2.2.1)),(.mk true (.fl .f32 r.2.2.2.2.2.2.1)),(.mk true (.fl .f32 r.2.2.2.2.2.2.2))])
 | none=>none
def zpg:List PT→Option (Bool×AV×List Blk)
 | [.agg [.row 1 q0t (.fl .f32 q15),.row 1 q0u (.fl .f32 q18),.row 1 q0v (.fl .f32 q17),.row 3 q1h (.fl .f32 q1r),.s (.int .i64 q25),.s (.flt .f32 q2b),.s (.flt .f32 q2c)]]=>sF (zq2 q25 q2b q2c) (z1v q0t q15 q0u q18 q0v q17 q1h q1r q25 q2b q2c)
 | _=>none
theorem ycq:ev8 Γ4 34 [.agg [.row 1 a0 (.fl .f32 g1),.row 1 a2 (.fl .f32 g3),.row 1 a4 (.fl .f32 g5),.row 3 a6 (.fl .f32 g7),.s (.int .i64 c8),.s (.flt .f32 a9),.s (.flt .f32 a10)]]=(zq2 c8 a9 a10) (z1v a0 g1 a2 g3 a4 g5 a6 g7 c8 a9 a10):=tr2 (y61 a0 g1 a2 g3 a4 g5 a6 g7 c8 a9 a10 (zq2 c8 a9 a10) rfl (fun c0_ c1_ c2_ c3_ c4_ c5_ c6_ c7_=>some (c0_,c1_,c2_,c3_,c4_,c5_,c6_,c7_))) (by kernel_rfl)
theorem y7m:SumOne J 34 zpg:=mkT zk1 zk6 fun pts v news hp=>by
 unfold zpg at hp
 split at hp
 ·exact fin3 (ycq ..) hp
 ·cases hp
def zl1  : Option (Bool)→Option (AV×List Blk)
 | some r=>some ((.v (.one (.bool r))),[])
 | none=>none
def zkz:List PT→Option (Bool×AV×List Blk)
 | [.agg [.row 1 q1m (.fl .f32 q21),.row 1 q1s (.fl .f32 q26),.row 1 q1t (.fl .f32 q27)],.agg [.row 1 q30 (.fl .f32 q35),.row 1 q33 (.fl .f32 q39),.row 1 q34 (.fl .f32 q3a)]]=>sF zl1 (z69 q1m q21 q1s q26 q1t q27 q30 q35 q33 q39 q34 q3a)
 | _=>none
theorem y9c:ev8 Γ4 76 [.agg [.row 1 a0 (.fl .f32 g1),.row 1 a2 (.fl .f32 g3),.row 1 a4 (.fl .f32 g5)],.agg [.row 1 a6 (.fl .f32 g7),.row 1 a8 (.fl .f32 g9),.row 1 a10 (.fl .f32 g11)]]=zl1 (z69 a0 g1 a2 g3 a4 g5 a6 g7 a8 g9 a10 g11):=tr2 (y24 a0 g1 a2 g3 a4 g5 a6 g7 a8 g9 a10 g11 zl1 rfl (fun c0_=>some c0_)) (by kernel_rfl)
theorem y3w:SumOne J 76 zkz:=mkT zk1 zk6 fun pts v news hp=>by
 unfold zkz at hp
 split at hp
 ·exact fin3 (y9c ..) hp
 ·cases hp
def zjm  : Option (Bool)→Option (AV×List Blk)
 | some r=>some ((.v (.one (.bool r))),[])
 | none=>none
def zj6:List PT→Option (Bool×AV×List Blk)
 | [.one (.row 3 a_n (.fl .f32 a)),.one (.row 3 b_n (.fl .f32 b))]=>sF zjm (z59 a_n a b_n b)
 | _=>none
theorem y7f:ev8 Γ4 77 [.one (.row 3 a0 (.fl .f32 g1)),.one (.row 3 a2 (.fl .f32 g3))]=zjm (z59 a0 g1 a2 g3):=tr2 (zzx a0 g1 a2 g3 zjm rfl (fun c0_=>some c0_)) (by kernel_rfl)
theorem y1l:SumOne J 77 zj6:=mkT zk1 zk6 fun pts v news hp=>by
 unfold zj6 at hp
 split at hp
 ·exact fin3 (y7f ..) hp
 ·cases hp
def zue  : Option (Bool)→Option (AV×List Blk)
 | some r=>some ((.v (.one (.bool r))),[])
 | none=>none
def zul:List PT→Option (Bool×AV×List Blk)
 | [.ptr [.row 1 q0i (.fl .f32 q0m),.row 1 q13 (.fl .f32 q1e),.row 1 q14 (.fl .f32 q1d)]]=>sF zue (za0 q0i q0m q13 q1e q14 q1d)
 | _=>none
theorem yer:ev8 Γ4 120 [.ptr [.row 1 a0 (.fl .f32 g1),.row 1 a2 (.fl .f32 g3),.row 1 a4 (.fl .f32 g5)]]=zue (za0 a0 g1 a2 g3 a4 g5):=tr2 (yae a0 g1 a2 g3 a4 g5 zue rfl (fun c0_=>some c0_)) (by kernel_rfl)
theorem yb4:SumOne J 120 zul:=mkT zk1 zk6 fun pts v news hp=>by
 unfold zul at hp
 split at hp
 ·exact fin3 (yer ..) hp
 ·cases hp
def z3m  : Option (Int)→Option (AV×List Blk)
 | some r=>some ((.v (.one (.int .i64 r))),[])
 | none=>none
def z3l:List PT→Option (Bool×AV×List Blk)
 | [.one (.row 1 s_n (.fl .f32 s)),.fn 115 []]=>sF z3m (z0n s_n s)
 | _=>none
theorem zed:ev8 Γ4 146 [.one (.row 1 a0 (.fl .f32 g1)),.fn 115 []]=z3m (z0n a0 g1):=tr2 (zbm a0 g1 z3m rfl (fun c0_=>some c0_)) (by kernel_rfl)
theorem zcf:SumOne J 146 z3l:=mkT zk1 zk6 fun pts v news hp=>by
 unfold z3l at hp
 split at hp
 ·exact fin3 (zed ..) hp
 ·cases hp
def z41  : Option (Int)→Option (AV×List Blk)
 | some r=>some ((.v (.one (.int .i64 r))),[])
 | none=>none
def z42:List PT→Option (Bool×AV×List Blk)
 | [.one (.row 1 s_n (.fl .f32 s)),.fn 153 []]=>sF z41 (z0r s_n s)
 | _=>none
theorem zg6:ev8 Γ4 146 [.one (.row 1 a0 (.fl .f32 g1)),.fn 153 []]=z41 (z0r a0 g1):=tr2 (zcn a0 g1 z41 rfl (fun c0_=>some c0_)) (by kernel_rfl)
theorem ze8:SumOne J 146 z42:=mkT zk1 zk6 fun pts v news hp=>by
 unfold z42 at hp
 split at hp
 ·exact fin3 (zg6 ..) hp
 ·cases hp
def zpq  : Option (Nat)→Option (AV×List Blk)
 | some r=>some ((.v (.one (.flt .f32 r))),[])
 | none=>none
def zq0:List PT→Option (Bool×AV×List Blk)
 | [.one (.s (.flt .f32 x))]=>sF zpq (z6l x)
 | _=>none
theorem ydi:ev8 Γ4 148 [.one (.s (.flt .f32 a0))]=zpq (z6l a0):=tr2 (y5x a0 zpq rfl (fun c0_=>some c0_)) (by kernel_rfl)
theorem y8f:SumOne J 148 zq0:=mkT zk1 zk6 fun pts v news hp=>by
 unfold zq0 at hp
 split at hp
 ·exact fin3 (ydi ..) hp
 ·cases hp
def z1z:St:=(.mk [(x0V 0 0 a0 1),(1,(.v (.one (.fn 154 [])))),(x0I 7 c1),(x0I 8 c2)] [(x0L g3)])
def z3d(sn:Nat)(t7:Int)(b0:List Nat)(c0_:Int):St:=(.mk [(x0I 4 c0_)] [(x0L b0)])
def z3e:St:=(.mk [(x0V 0 0 a0 1),(1,(.v (.one (.fn 154 [])))),(x0I 7 c1),(x0I 8 c3),(x0B 9 e4)] [(x0L g2)])
def z3q:Option ((Int)⊕(Int×Bool))→Option (Ex×St)
 | none=>none
 | some (Sum.inl r)=>some (.ret,(z3d a0 c1 g2 r))
 | some (Sum.inr r)=>some ((.exit 0),(z3e a0 c1 g2 r.1 r.2))
def z6n (x:Option ((Int)⊕(Int×Bool))):LO:=(.two (oL x) (.one .ret (z3d a0 c1 g2 ((tL x).getD default))) (.one (.exit 0) (z3e a0 c1 g2 ((tR x).getD default).1 ((tR x).getD default).2)))
def zco:Bool×LO:=sL (z6n a0 c1 g3) (z03 a0 c1 g3 big c2)
def z6t:Nat→St→Option (Bool×LO):=lpT 1 (pSt [(x1V 0 0 1),(pTm 1 (pV (pOne (pFn 154 [])))),(x1I 7),(x1I 8)] [x1L]) (fun hs=>zco (hN hs 0) (hI hs 1) (hI hs 2) (hLn hs 3))
theorem zeb:∀ x:Option ((Int)⊕(Int×Bool)),x.isSome=true→(z3q a0 c1 g2) x=some (pick (z6n a0 c1 g2 x))
 | none,h=>by cases h
 | some (Sum.inl r),_=>rfl
 | some (Sum.inr r),_=>rfl
theorem zeg (K:Ex→St→Option (Ex×St)):ev9 Γ4 146 2 1 fi146 (z1z a0 c1 c2 g3) K=z0d a0 c1 g3 c2 (fun t8'=>K .normal (z1z a0 c1 t8' g3)) (fun c0_=>K .ret (z3d a0 c1 g3 c0_)) (fun c0_ c1_=>K (.exit 0) (z3e a0 c1 g3 c0_ c1_)):=by kernel_rfl
theorem zee:∀ (n:Nat) (t8:Int),iter 146 2 1 (ev9 Γ4 146 2 1 fi146) n (z1z a0 c1 t8 g2) (fun e st=>some (e,st))=(z3q a0 c1 g2) (z03 a0 c1 g2 n t8):=by
 intro n
 induction n with
 | zero=>intros;rfl
 | succ n ih=>
  intro t8
  refine Eq.trans (iter_succ ..) (Eq.trans (zeg ..) (Eq.trans ?_ (zb8 a0 c1 g2 t8 (z3q a0 c1 g2) rfl (fun t8'=>z03 a0 c1 g2 n t8') (fun c0_=>some (Sum.inl c0_)) (fun c0_ c1_=>some (Sum.inr (c0_,c1_))))))
  exact congrArg (fun kn_=>z0d a0 c1 g2 t8 kn_ _ _) (funext fun t8'=>ih ..)
theorem zci:LoopOne J fnTab 146 2 z6t:=lpK zk1 zk6 (fi:=fi146) (by kernel_rfl) (by kernel_rfl) (q:=fun hs=>(z1z (hN hs 0) (hI hs 1) (hI hs 2) (hLn hs 3))) (fun hs=>by kernel_rfl) fun hs h1=>Eq.trans (zee (hN hs 0) (hI hs 1) (hLn hs 3) big (hI hs 2)) (zeb (hN hs 0) (hI hs 1) (hLn hs 3) _ h1)
def tb5:List (Nat×(List PT→Option (Bool×AV×List Blk))):=(34,zpg)::(76,zkz)::(77,zj6)::(120,zul)::(146,z3l)::(146,z42)::(148,zq0)::tb4
def lt5:List ((Nat×Nat)×(Nat→St→Option (Bool×LO))):=((146,2),z6t)::lt4
def Γ5:Ctx:=⟨tyTab,fnTab,tblSum tb5,tblLp lt5⟩
theorem zze:SumL J tb5:=SumL.cons y7m (SumL.cons y3w (SumL.cons y1l (SumL.cons yb4 (SumL.cons zcf (SumL.cons ze8 (SumL.cons y8f (zk1)))))))
theorem y09:LpL J fnTab lt5:=LpL.cons zci (zk6)
def zqb  : Option (Bool)→Option (AV×List Blk)
 | some r=>some ((.v (.one (.bool r))),[])
 | none=>none
def zqc:List PT→Option (Bool×AV×List Blk)
 | [.agg [.row 1 q0t (.fl .f32 q15),.row 1 q0u (.fl .f32 q18),.row 1 q0v (.fl .f32 q17),.row 3 q1h (.fl .f32 q1r),.s (.int .i64 q25),.s (.flt .f32 q2b),.s (.flt .f32 q2c)],.agg [.row 1 q2e (.fl .f32 q2l),.row 1 q2g (.fl .f32 q2o),.row 1 q2f (.fl .f32 q2n),.row 3 q2r (.fl .f32 q32),.s (.int .i64 q3b),.s (.flt .f32 q3c),.s (.flt .f32 q3d)]]=>sF zqb (z7u q0t q15 q0u q18 q0v q17 q1h q1r q25 q2b q2c q2e q2l q2g q2o q2f q2n q2r q32 q3b q3c q3d)
 | _=>none
theorem yd9:ev8 Γ5 36 [.agg [.row 1 a0 (.fl .f32 g1),.row 1 a2 (.fl .f32 g3),.row 1 a4 (.fl .f32 g5),.row 3 a6 (.fl .f32 g7),.s (.int .i64 c8),.s (.flt .f32 a9),.s (.flt .f32 a10)],.agg [.row 1 a11 (.fl .f32 g12),.row 1 a13 (.fl .f32 g14),.row 1 a15 (.fl .f32 g16),.row 3 a17 (.fl .f32 g18),.s (.int .i64 c19),.s (.flt .f32 a20),.s (.flt .f32 a21)]]=zqb (z7u a0 g1 a2 g3 a4 g5 a6 g7 c8 a9 a10 a11 g12 a13 g14 a15 g16 a17 g18 c19 a20 a21):=tr2 (y5y a0 g1 a2 g3 a4 g5 a6 g7 c8 a9 a10 a11 g12 a13 g14 a15 g16 a17 g18 c19 a20 a21 zqb rfl (fun c0_=>some c0_)) (by kernel_rfl)
theorem y70:SumOne J 36 zqc:=mkT zze y09 fun pts v news hp=>by
 unfold zqc at hp
 split at hp
 ·exact fin3 (yd9 ..) hp
 ·cases hp
def z4d  : Option (Int)→Option (AV×List Blk)
 | some r=>some ((.v (.one (.int .i64 r))),[])
 | none=>none
def z4b:List PT→Option (Bool×AV×List Blk)
 | [.one (.row 1 s_n (.fl .f32 s)),.fn 154 []]=>sF z4d (z0t s_n s)
 | _=>none
theorem zgd:ev8 Γ5 146 [.one (.row 1 a0 (.fl .f32 g1)),.fn 154 []]=z4d (z0t a0 g1):=tr2 (ze0 a0 g1 z4d rfl (fun c0_=>some c0_)) (by kernel_rfl)
theorem zef:SumOne J 146 z4b:=mkT zze y09 fun pts v news hp=>by
 unfold z4b at hp
 split at hp
 ·exact fin3 (zgd ..) hp
 ·cases hp
def zuy  : Option (Nat)→Option (AV×List Blk)
 | some r=>some ((.v (.one (.flt .f64 r))),[])
 | none=>none
def zuh:List PT→Option (Bool×AV×List Blk)
 | [.one (.s (.flt .f64 x))]=>sF zuy (zae x)
 | _=>none
theorem yev:ev8 Γ5 175 [.one (.s (.flt .f64 a0))]=zuy (zae a0):=tr2 (ya7 a0 zuy rfl (fun c0_=>some c0_)) (by kernel_rfl)
theorem yb2:SumOne J 175 zuh:=mkT zze y09 fun pts v news hp=>by
 unfold zuh at hp
 split at hp
 ·exact fin3 (yev ..) hp
 ·cases hp
def zia:St:=(.mk [(x0B 4 e0),(5,(.v (.one (.flt .f64 a1)))),(6,(.v (.one (.flt .f64 a2)))),(7,(.v (.one (.flt .f64 a3)))),(8,(.v (.one (.flt .f64 a4))))] [])
def zn9:St:=(.mk [(x0B 4 e0),(5,(.v (.one (.flt .f64 a1)))),(6,(.v (.one (.flt .f64 a2)))),(7,(.v (.one (.flt .f64 a3)))),(8,(.v (.one (.flt .f64 a4)))),(x0B 25 e5)] [])
def zpl:Option ((Nat×Nat×Bool))→Option (Ex×St)
 | none=>none
 | some r=>some ((.exit 0),(zn9 e0 a1 a2 r.1 r.2.1 r.2.2))
def zwm (x:Option ((Nat×Nat×Bool))):LO:=(.one (.exit 0) (zn9 e0 a1 a2 (x.getD default).1 (x.getD default).2.1 (x.getD default).2.2))
def y9v:Bool×LO:=sL (zwm e0 a1 a2) (z1u a2 big a3 a4)
def zzc:Nat→St→Option (Bool×LO):=lpT 0 (pSt [(x1B 4),(pTm 5 (pV (pOne (pFlt .f64)))),(pTm 6 (pV (pOne (pFlt .f64)))),(pTm 7 (pV (pOne (pFlt .f64)))),(pTm 8 (pV (pOne (pFlt .f64))))] []) (fun hs=>y9v (hB hs 0) (hN hs 1) (hN hs 2) (hN hs 3) (hN hs 4))
theorem yd3:∀ x:Option ((Nat×Nat×Bool)),x.isSome=true→(zpl e0 a1 a2) x=some (pick (zwm e0 a1 a2 x))
 | none,h=>by cases h
 | some r,_=>rfl
theorem ycn (K:Ex→St→Option (Ex×St)):ev9 Γ5 160 9 0 fi160 (zia e0 a1 a2 a3 a4) K=z53 a2 a3 a4 (fun p' k'=>K .normal (zia e0 a1 a2 p' k')) (fun c0_ c1_ c2_=>K (.exit 0) (zn9 e0 a1 a2 c0_ c1_ c2_)):=by kernel_rfl
theorem yc7:∀ (n p k:Nat),iter 160 9 0 (ev9 Γ5 160 9 0 fi160) n (zia e0 a1 a2 p k) (fun e st=>some (e,st))=(zpl e0 a1 a2) (z1u a2 n p k):=by
 intro n
 induction n with
 | zero=>intros;rfl
 | succ n ih=>
  intro p k
  refine Eq.trans (iter_succ ..) (Eq.trans (ycn ..) (Eq.trans ?_ (y6k a2 p k (zpl e0 a1 a2) rfl (fun p' k'=>z1u a2 n p' k') (fun c0_ c1_ c2_=>some (c0_,c1_,c2_)))))
  exact congrArg (fun kn_=>z53 a2 p k kn_ _) (funext fun p'=>funext fun k'=>ih ..)
theorem y76:LoopOne J fnTab 160 9 zzc:=lpK zze y09 (fi:=fi160) (by kernel_rfl) (by kernel_rfl) (q:=fun hs=>(zia (hB hs 0) (hN hs 1) (hN hs 2) (hN hs 3) (hN hs 4))) (fun hs=>by kernel_rfl) fun hs h1=>Eq.trans (yc7 (hB hs 0) (hN hs 1) (hN hs 2) big (hN hs 3) (hN hs 4)) (yd3 (hB hs 0) (hN hs 1) (hN hs 2) _ h1)
def tb6:List (Nat×(List PT→Option (Bool×AV×List Blk))):=(36,zqc)::(146,z4b)::(175,zuh)::tb5
def lt6:List ((Nat×Nat)×(Nat→St→Option (Bool×LO))):=((160,9),zzc)::lt5
def Γ6:Ctx:=⟨tyTab,fnTab,tblSum tb6,tblLp lt6⟩
theorem zns:SumL J tb6:=SumL.cons y70 (SumL.cons zef (SumL.cons yb2 (zze)))
theorem znw:LpL J fnTab lt6:=LpL.cons y76 (y09)
def z2x  : Option (Bool)→Option (AV×List Blk)
 | some r=>some ((.v (.one (.bool r))),[])
 | none=>none
def z2z:List PT→Option (Bool×AV×List Blk)
 | [.one (.row 1 s_n (.fl .f32 s)),.fn 115 []]=>sF z2x (z0i s_n s)
 | _=>none
theorem zck:ev8 Γ6 114 [.one (.row 1 a0 (.fl .f32 g1)),.fn 115 []]=z2x (z0i a0 g1):=tr2 (za2 a0 g1 z2x rfl (fun c0_=>some c0_)) (by kernel_rfl)
theorem zam:SumOne J 114 z2z:=mkT zns znw fun pts v news hp=>by
 unfold z2z at hp
 split at hp
 ·exact fin3 (zck ..) hp
 ·cases hp
def z3j  : Option (Bool)→Option (AV×List Blk)
 | some r=>some ((.v (.one (.bool r))),[])
 | none=>none
def z3b:List PT→Option (Bool×AV×List Blk)
 | [.one (.row 1 s_n (.fl .f32 s)),.fn 153 []]=>sF z3j (z0k s_n s)
 | _=>none
theorem zdo:ev8 Γ6 114 [.one (.row 1 a0 (.fl .f32 g1)),.fn 153 []]=z3j (z0k a0 g1):=tr2 (zb2 a0 g1 z3j rfl (fun c0_=>some c0_)) (by kernel_rfl)
theorem zbd:SumOne J 114 z3b:=mkT zns znw fun pts v news hp=>by
 unfold z3b at hp
 split at hp
 ·exact fin3 (zdo ..) hp
 ·cases hp
def z3o  : Option (Bool)→Option (AV×List Blk)
 | some r=>some ((.v (.one (.bool r))),[])
 | none=>none
def z3p:List PT→Option (Bool×AV×List Blk)
 | [.one (.row 1 s_n (.fl .f32 s)),.fn 154 []]=>sF z3o (z0m s_n s)
 | _=>none
theorem zec:ev8 Γ6 114 [.one (.row 1 a0 (.fl .f32 g1)),.fn 154 []]=z3o (z0m a0 g1):=tr2 (zbu a0 g1 z3o rfl (fun c0_=>some c0_)) (by kernel_rfl)
theorem zcg:SumOne J 114 z3p:=mkT zns znw fun pts v news hp=>by
 unfold z3p at hp
 split at hp
 ·exact fin3 (zec ..) hp
 ·cases hp
def zxs  : Option (Nat)→Option (AV×List Blk)
 | some r=>some ((.v (.one (.flt .f64 r))),[])
 | none=>none
def zyb:List PT→Option (Bool×AV×List Blk)
 | [.one (.s (.flt .f64 q2k))]=>sF zxs (zc3 q2k)
 | _=>none
theorem yf3:ev8 Γ6 160 [.one (.s (.flt .f64 a0))]=zxs (zc3 a0):=tr2 (ybh a0 zxs rfl (fun c0_=>some c0_)) (by kernel_rfl)
theorem ydc:SumOne J 160 zyb:=mkT zns znw fun pts v news hp=>by
 unfold zyb at hp
 split at hp
 ·exact fin3 (yf3 ..) hp
 ·cases hp
def zl5  : Option (Nat)→Option (AV×List Blk)
 | some r=>some ((.v (.one (.flt .f32 r))),[])
 | none=>none
def zlo:List PT→Option (Bool×AV×List Blk)
 | [.one (.s (.flt .f32 x))]=>sF zl5 (z68 x)
 | _=>none
theorem y9s:ev8 Γ6 170 [.one (.s (.flt .f32 a0))]=zl5 (z68 a0):=tr2 (y2e a0 zl5 rfl (fun c0_=>some c0_)) (by kernel_rfl)
theorem y3d:SumOne J 170 zlo:=mkT zns znw fun pts v news hp=>by
 unfold zlo at hp
 split at hp
 ·exact fin3 (y9s ..) hp
 ·cases hp
def zpz  : Option (Nat)→Option (AV×List Blk)
 | some r=>some ((.v (.one (.flt .f32 r))),[])
 | none=>none
def zpm:List PT→Option (Bool×AV×List Blk)
 | [.one (.s (.flt .f32 x))]=>sF zpz (z7w x)
 | _=>none
theorem ycx:ev8 Γ6 181 [.one (.s (.flt .f32 a0))]=zpz (z7w a0):=tr2 (y4z a0 zpz rfl (fun c0_=>some c0_)) (by kernel_rfl)
theorem y80:SumOne J 181 zpm:=mkT zns znw fun pts v news hp=>by
 unfold zpm at hp
 split at hp
 ·exact fin3 (ycx ..) hp
 ·cases hp
def zh9:St:=(.mk [(x0P 0 4 7),(x0F 4 a0),(x0I 57 c1),(x0I 58 c2)] [(x0L g3),(x0L g4),(x0L g5),(x0L g6),(x0R false 0 1 2 3 a7 a8 a9 a10 c11 a12 a13)])
def zkm(t57:Int)(b0 b1 b2 b3:List Nat)(q0w q0x q0y q0r:Nat)(q1c:Int)(q1b q0z:Nat):St:=(.mk [(x0B 2 false)] [(x0L b0),(x0L b1),(x0L b2),(x0L b3),(x0R false 0 1 2 3 q0w q0x q0y q0r q1c q1b q0z)])
def zm4:St:=(.mk [(x0P 0 4 7),(x0F 4 a12),(x0I 57 c0),(x0I 58 c13),(x0B 59 e14)] [(x0L g1),(x0L g2),(x0L g3),(x0L g4),(x0R false 0 1 2 3 a5 a6 a7 a8 c9 a10 a11)])
def znq:Option ((Unit)⊕(Nat×Int×Bool))→Option (Ex×St)
 | none=>none
 | some (Sum.inl r)=>some (.ret,(zkm c0 g1 g2 g3 g4 a5 a6 a7 a8 c9 a10 a11))
 | some (Sum.inr r)=>some ((.exit 0),(zm4 c0 g1 g2 g3 g4 a5 a6 a7 a8 c9 a10 a11 r.1 r.2.1 r.2.2))
def zuf (x:Option ((Unit)⊕(Nat×Int×Bool))):LO:=(.two (oL x) (.one .ret (zkm c0 g1 g2 g3 g4 a5 a6 a7 a8 c9 a10 a11)) (.one (.exit 0) (zm4 c0 g1 g2 g3 g4 a5 a6 a7 a8 c9 a10 a11 ((tR x).getD default).1 ((tR x).getD default).2.1 ((tR x).getD default).2.2)))
def y7i:Bool×LO:=sL (zuf c1 g3 g4 g5 g6 a7 a8 a9 a10 c11 a12 a13) (z14 c1 g6 a10 a13 big a0 c2)
def zwr:Nat→St→Option (Bool×LO):=lpT 5 (pSt [(x1P 0 4 7),(x1F 4),(x1I 57),(x1I 58)] [x1L,x1L,x1L,x1L,(x1R false 0 1 2 3)]) (fun hs=>y7i (hN hs 0) (hI hs 1) (hI hs 2) (hLn hs 3) (hLn hs 4) (hLn hs 5) (hLn hs 6) (hN hs 7) (hN hs 8) (hN hs 9) (hN hs 10) (hI hs 11) (hN hs 12) (hN hs 13))
theorem ybf:∀ x:Option ((Unit)⊕(Nat×Int×Bool)),x.isSome=true→(znq c0 g1 g2 g3 g4 a5 a6 a7 a8 c9 a10 a11) x=some (pick (zuf c0 g1 g2 g3 g4 a5 a6 a7 a8 c9 a10 a11 x))
 | none,h=>by cases h
 | some (Sum.inl r),_=>rfl
 | some (Sum.inr r),_=>rfl
theorem yax (K:Ex→St→Option (Ex×St)):ev9 Γ6 82 6 5 fi82 (zh9 a0 c1 c2 g3 g4 g5 g6 a7 a8 a9 a10 c11 a12 a13) K=z4f c1 g6 a10 a13 a0 c2 (fun t4' t58'=>K .normal (zh9 t4' c1 t58' g3 g4 g5 g6 a7 a8 a9 a10 c11 a12 a13)) (fun _=>K .ret (zkm c1 g3 g4 g5 g6 a7 a8 a9 a10 c11 a12 a13)) (fun c0_ c1_ c2_=>K (.exit 0) (zm4 c1 g3 g4 g5 g6 a7 a8 a9 a10 c11 a12 a13 c0_ c1_ c2_)):=by kernel_rfl
theorem yaz:∀ (n t4:Nat) (t58:Int),iter 82 6 5 (ev9 Γ6 82 6 5 fi82) n (zh9 t4 c0 t58 g1 g2 g3 g4 a5 a6 a7 a8 c9 a10 a11) (fun e st=>some (e,st))=(znq c0 g1 g2 g3 g4 a5 a6 a7 a8 c9 a10 a11) (z14 c0 g4 a8 a11 n t4 t58):=by
 intro n
 induction n with
 | zero=>intros;rfl
 | succ n ih=>
  intro t4 t58
  refine Eq.trans (iter_succ ..) (Eq.trans (yax ..) (Eq.trans ?_ (y3k c0 g4 a8 a11 t4 t58 (znq c0 g1 g2 g3 g4 a5 a6 a7 a8 c9 a10 a11) rfl (fun t4' t58'=>z14 c0 g4 a8 a11 n t4' t58') (fun _=>some (Sum.inl ())) (fun c0_ c1_ c2_=>some (Sum.inr (c0_,c1_,c2_))))))
  exact congrArg (fun kn_=>z4f c0 g4 a8 a11 t4 t58 kn_ _ _) (funext fun t4'=>funext fun t58'=>ih ..)
theorem y6a:LoopOne J fnTab 82 6 zwr:=lpK zns znw (fi:=fi82) (by kernel_rfl) (by kernel_rfl) (q:=fun hs=>(zh9 (hN hs 0) (hI hs 1) (hI hs 2) (hLn hs 3) (hLn hs 4) (hLn hs 5) (hLn hs 6) (hN hs 7) (hN hs 8) (hN hs 9) (hN hs 10) (hI hs 11) (hN hs 12) (hN hs 13))) (fun hs=>by kernel_rfl) fun hs h1=>Eq.trans (yaz (hI hs 1) (hLn hs 3) (hLn hs 4) (hLn hs 5) (hLn hs 6) (hN hs 7) (hN hs 8) (hN hs 9) (hN hs 10) (hI hs 11) (hN hs 12) (hN hs 13) big (hN hs 0) (hI hs 2)) (ybf (hI hs 1) (hLn hs 3) (hLn hs 4) (hLn hs 5) (hLn hs 6) (hN hs 7) (hN hs 8) (hN hs 9) (hN hs 10) (hI hs 11) (hN hs 12) (hN hs 13) _ h1)
def tb7:List (Nat×(List PT→Option (Bool×AV×List Blk))):=(114,z2z)::(114,z3b)::(114,z3p)::(160,zyb)::(170,zlo)::(181,zpm)::tb6
def lt7:List ((Nat×Nat)×(Nat→St→Option (Bool×LO))):=((82,6),zwr)::lt6
def Γ7:Ctx:=⟨tyTab,fnTab,tblSum tb7,tblLp lt7⟩
theorem zub:SumL J tb7:=SumL.cons zam (SumL.cons zbd (SumL.cons zcg (SumL.cons ydc (SumL.cons y3d (SumL.cons y80 (zns))))))
theorem zvb:LpL J fnTab lt7:=LpL.cons y6a (znw)
def zhu  : Option (Bool)→Option (AV×List Blk)
 | some r=>some ((.v (.one (.bool r))),[])
 | none=>none
def zhn:List PT→Option (Bool×AV×List Blk)
 | [.one (.row 1 q1i (.fl .f32 q1x))]=>sF zhu (z1r q1i q1x)
 | _=>none
theorem y69:ev8 Γ7 64 [.one (.row 1 a0 (.fl .f32 g1))]=zhu (z1r a0 g1):=tr2 (zxr a0 g1 zhu rfl (fun c0_=>some c0_)) (by kernel_rfl)
theorem zyx:SumOne J 64 zhn:=mkT zub zvb fun pts v news hp=>by
 unfold zhn at hp
 split at hp
 ·exact fin3 (y69 ..) hp
 ·cases hp
def zuu  : Option (Bool)→Option (AV×List Blk)
 | some r=>some ((.v (.one (.bool r))),[])
 | none=>none
def zuo:List PT→Option (Bool×AV×List Blk)
 | [.ptr [.row 1 q07 (.fl .f32 q0a),.row 1 q09 (.fl .f32 q0c),.row 1 q08 (.fl .f32 q0d),.row 3 q0e (.fl .f32 q0f),.s (.int .i64 q0h),.s (.flt .f32 q0j),.s (.flt .f32 q0k)]]=>sF zuu (z9y q07 q0a q09 q0c q08 q0d q0e q0f q0h q0j q0k)
 | _=>none
theorem yex:ev8 Γ7 82 [.ptr [.row 1 a0 (.fl .f32 g1),.row 1 a2 (.fl .f32 g3),.row 1 a4 (.fl .f32 g5),.row 3 a6 (.fl .f32 g7),.s (.int .i64 c8),.s (.flt .f32 a9),.s (.flt .f32 a10)]]=zuu (z9y a0 g1 a2 g3 a4 g5 a6 g7 c8 a9 a10):=tr2 (y94 a0 g1 a2 g3 a4 g5 a6 g7 c8 a9 a10 zuu rfl (fun c0_=>some c0_)) (by kernel_rfl)
theorem ybb:SumOne J 82 zuo:=mkT zub zvb fun pts v news hp=>by
 unfold zuo at hp
 split at hp
 ·exact fin3 (yex ..) hp
 ·cases hp
def zkw  : Option (Bool)→Option (AV×List Blk)
 | some r=>some ((.v (.one (.bool r))),[])
 | none=>none
def zlk:List PT→Option (Bool×AV×List Blk)
 | [.one (.row 1 q1i (.fl .f32 q1x))]=>sF zkw (z4v q1i q1x)
 | _=>none
theorem ya4:ev8 Γ7 132 [.one (.row 1 a0 (.fl .f32 g1))]=zkw (z4v a0 g1):=tr2 (y2b a0 g1 zkw rfl (fun c0_=>some c0_)) (by kernel_rfl)
theorem y37:SumOne J 132 zlk:=mkT zub zvb fun pts v news hp=>by
 unfold zlk at hp
 split at hp
 ·exact fin3 (ya4 ..) hp
 ·cases hp
def zok  : Option (Bool)→Option (AV×List Blk)
 | some r=>some ((.v (.one (.bool r))),[])
 | none=>none
def zoo:List PT→Option (Bool×AV×List Blk)
 | [.one (.row 1 q1i (.fl .f32 q1x))]=>sF zok (z70 q1i q1x)
 | _=>none
theorem yb9:ev8 Γ7 133 [.one (.row 1 a0 (.fl .f32 g1))]=zok (z70 a0 g1):=tr2 (y4i a0 g1 zok rfl (fun c0_=>some c0_)) (by kernel_rfl)
theorem y5c:SumOne J 133 zoo:=mkT zub zvb fun pts v news hp=>by
 unfold zoo at hp
 split at hp
 ·exact fin3 (yb9 ..) hp
 ·cases hp
def zlb  : Option (Nat)→Option (AV×List Blk)
 | some r=>some ((.v (.one (.flt .f32 r))),[])
 | none=>none
def zlu:List PT→Option (Bool×AV×List Blk)
 | [.one (.s (.flt .f32 x))]=>sF zlb (z6d x)
 | _=>none
theorem y9f:ev8 Γ7 141 [.one (.s (.flt .f32 a0))]=zlb (z6d a0):=tr2 (y0t a0 zlb rfl (fun c0_=>some c0_)) (by kernel_rfl)
theorem y4c:SumOne J 141 zlu:=mkT zub zvb fun pts v news hp=>by
 unfold zlu at hp
 split at hp
 ·exact fin3 (y9f ..) hp
 ·cases hp
def tb8:List (Nat×(List PT→Option (Bool×AV×List Blk))):=(64,zhn)::(82,zuo)::(132,zlk)::(133,zoo)::(141,zlu)::tb7
def lt8:List ((Nat×Nat)×(Nat→St→Option (Bool×LO))):=lt7
def Γ8:Ctx:=⟨tyTab,fnTab,tblSum tb8,tblLp lt8⟩
theorem ztx:SumL J tb8:=SumL.cons zyx (SumL.cons ybb (SumL.cons y37 (SumL.cons y5c (SumL.cons y4c (zub)))))
theorem zv9:LpL J fnTab lt8:=zvb
def zj4  : Option (Nat×Nat×Bool)→Option (AV×List Blk)
 | some r=>some ((.tup [(.one (.flt .f32 r.1)),(.one (.flt .f32 r.2.1)),(.one (.bool r.2.2))]),[])
 | none=>none
def zjg:List PT→Option (Bool×AV×List Blk)
 | [.one (.s (.flt .f32 x)),.one (.s (.flt .f32 y))]=>sF zj4 (z36 x y)
 | _=>none
theorem y8e:ev8 Γ8 107 [.one (.s (.flt .f32 a0)),.one (.s (.flt .f32 a1))]=zj4 (z36 a0 a1):=tr2 (y0b a0 a1 zj4 rfl (fun c0_ c1_ c2_=>some (c0_,c1_,c2_))) (by kernel_rfl)
theorem y1d:SumOne J 107 zjg:=mkT ztx zv9 fun pts v news hp=>by
 unfold zjg at hp
 split at hp
 ·exact fin3 (y8e ..) hp
 ·cases hp
def zj7  : Option (Bool)→Option (AV×List Blk)
 | some r=>some ((.v (.one (.bool r))),[])
 | none=>none
def zj3:List PT→Option (Bool×AV×List Blk)
 | [.ptr [.row 1 q00 (.fl .f32 q03),.row 1 q01 (.fl .f32 q05),.row 1 q02 (.fl .f32 q04),.row 3 q06 (.fl .f32 q0b),.s (.int .i64 q0g),.s (.flt .f32 q0o),.s (.flt .f32 q0n)],.one (.s (.int .i64 i))]=>sF zj7 (z5f q00 q03 q01 q05 q02 q04 q06 q0b q0g q0o q0n i)
 | _=>none
theorem y8g:ev8 Γ8 127 [.ptr [.row 1 a0 (.fl .f32 g1),.row 1 a2 (.fl .f32 g3),.row 1 a4 (.fl .f32 g5),.row 3 a6 (.fl .f32 g7),.s (.int .i64 c8),.s (.flt .f32 a9),.s (.flt .f32 a10)],.one (.s (.int .i64 c11))]=zj7 (z5f a0 g1 a2 g3 a4 g5 a6 g7 c8 a9 a10 c11):=tr2 (zzm a0 g1 a2 g3 a4 g5 a6 g7 c8 a9 a10 c11 zj7 rfl (fun c0_=>some c0_)) (by kernel_rfl)
theorem y0q:SumOne J 127 zj3:=mkT ztx zv9 fun pts v news hp=>by
 unfold zj3 at hp
 split at hp
 ·exact fin3 (y8g ..) hp
 ·cases hp
def zdn  : Option (Nat)→Option (AV×List Blk)
 | some r=>some ((.v (.one (.flt .f32 r))),[])
 | none=>none
def ze3:List PT→Option (Bool×AV×List Blk)
 | [.agg [.row 1 q00 (.fl .f32 q03),.row 1 q01 (.fl .f32 q05),.row 1 q02 (.fl .f32 q04),.row 3 q06 (.fl .f32 q0b),.s (.int .i64 q0g),.s (.flt .f32 q0o),.s (.flt .f32 q0n)],.one (.s (.int .i64 i)),.one (.s (.flt .f32 q1j))]=>sF zdn (z3h q00 q03 q01 q05 q02 q04 q06 q0b q0g q0o q0n i q1j)
 | _=>none
theorem zzd:ev8 Γ8 143 [.agg [.row 1 a0 (.fl .f32 g1),.row 1 a2 (.fl .f32 g3),.row 1 a4 (.fl .f32 g5),.row 3 a6 (.fl .f32 g7),.s (.int .i64 c8),.s (.flt .f32 a9),.s (.flt .f32 a10)],.one (.s (.int .i64 c11)),.one (.s (.flt .f32 a12))]=zdn (z3h a0 g1 a2 g3 a4 g5 a6 g7 c8 a9 a10 c11 a12):=tr2 (ztl a0 g1 a2 g3 a4 g5 a6 g7 c8 a9 a10 c11 a12 zdn rfl (fun c0_=>some c0_)) (by kernel_rfl)
theorem ztw:SumOne J 143 ze3:=mkT ztx zv9 fun pts v news hp=>by
 unfold ze3 at hp
 split at hp
 ·exact fin3 (zzd ..) hp
 ·cases hp
def z1g:St:=(.mk [(x0V 0 0 a0 1),(1,(.v (.one (.fn 171 [(.ptr 4 0 1)])))),(x0I 7 c1),(x0I 8 c2)] [(x0L g3),(x0L g4),(x0L g5),(.mk true (.cells [(.vw 0 0 a6 1),(.vw 1 0 a7 1),(.vw 2 0 a8 1)])),(.mk true (.cells [(.flt .f32 a9)]))])
def z2m(sn:Nat)(t7:Int)(b0 b1 b2:List Nat)(q1l q1y q1z b4:Nat)(c0_:Int):St:=(.mk [(x0I 4 c0_)] [(x0L b0),(x0L b1),(x0L b2),(.mk true (.cells [(.vw 0 0 q1l 1),(.vw 1 0 q1y 1),(.vw 2 0 q1z 1)])),(.mk true (.cells [(.flt .f32 b4)]))])
def z2j:St:=(.mk [(x0V 0 0 a0 1),(1,(.v (.one (.fn 171 [(.ptr 4 0 1)])))),(x0I 7 c1),(x0I 8 c9),(x0B 9 e10)] [(x0L g2),(x0L g3),(x0L g4),(.mk true (.cells [(.vw 0 0 a5 1),(.vw 1 0 a6 1),(.vw 2 0 a7 1)])),(.mk true (.cells [(.flt .f32 a8)]))])
def z2u:Option ((Int)⊕(Int×Bool))→Option (Ex×St)
 | none=>none
 | some (Sum.inl r)=>some (.ret,(z2m a0 c1 g2 g3 g4 a5 a6 a7 a8 r))
 | some (Sum.inr r)=>some ((.exit 0),(z2j a0 c1 g2 g3 g4 a5 a6 a7 a8 r.1 r.2))
def z57 (x:Option ((Int)⊕(Int×Bool))):LO:=(.two (oL x) (.one .ret (z2m a0 c1 g2 g3 g4 a5 a6 a7 a8 ((tL x).getD default))) (.one (.exit 0) (z2j a0 c1 g2 g3 g4 a5 a6 a7 a8 ((tR x).getD default).1 ((tR x).getD default).2)))
def zao:Bool×LO:=sL (z57 a0 c1 g3 g4 g5 a6 a7 a8 a9) (z00 a0 c1 g3 a9 big c2)
def z5n:Nat→St→Option (Bool×LO):=lpT 5 (pSt [(x1V 0 0 1),(pTm 1 (pV (pOne (pFn 171 [(pPtr 4 (liN 0) 1)])))),(x1I 7),(x1I 8)] [x1L,x1L,x1L,(pBlk true (pCells [(pVw 0 (liN 0) 1),(pVw 1 (liN 0) 1),(pVw 2 (liN 0) 1)])),(pBlk true (pCells [(pFlt .f32)]))]) (fun hs=>zao (hN hs 0) (hI hs 1) (hI hs 2) (hLn hs 3) (hLn hs 4) (hLn hs 5) (hN hs 6) (hN hs 7) (hN hs 8) (hN hs 9))
theorem zbv:∀ x:Option ((Int)⊕(Int×Bool)),x.isSome=true→(z2u a0 c1 g2 g3 g4 a5 a6 a7 a8) x=some (pick (z57 a0 c1 g2 g3 g4 a5 a6 a7 a8 x))
 | none,h=>by cases h
 | some (Sum.inl r),_=>rfl
 | some (Sum.inr r),_=>rfl
theorem zbw (K:Ex→St→Option (Ex×St)):ev9 Γ8 146 2 5 fi146 (z1g a0 c1 c2 g3 g4 g5 a6 a7 a8 a9) K=z0a a0 c1 g3 a9 c2 (fun t8'=>K .normal (z1g a0 c1 t8' g3 g4 g5 a6 a7 a8 a9)) (fun c0_=>K .ret (z2m a0 c1 g3 g4 g5 a6 a7 a8 a9 c0_)) (fun c0_ c1_=>K (.exit 0) (z2j a0 c1 g3 g4 g5 a6 a7 a8 a9 c0_ c1_)):=by kernel_rfl
theorem zbq:∀ (n:Nat) (t8:Int),iter 146 2 5 (ev9 Γ8 146 2 5 fi146) n (z1g a0 c1 t8 g2 g3 g4 a5 a6 a7 a8) (fun e st=>some (e,st))=(z2u a0 c1 g2 g3 g4 a5 a6 a7 a8) (z00 a0 c1 g2 a8 n t8):=by
 intro n
 induction n with
 | zero=>intros;rfl
 | succ n ih=>
  intro t8
  refine Eq.trans (iter_succ ..) (Eq.trans (zbw ..) (Eq.trans ?_ (z9w a0 c1 g2 a8 t8 (z2u a0 c1 g2 g3 g4 a5 a6 a7 a8) rfl (fun t8'=>z00 a0 c1 g2 a8 n t8') (fun c0_=>some (Sum.inl c0_)) (fun c0_ c1_=>some (Sum.inr (c0_,c1_))))))
  exact congrArg (fun kn_=>z0a a0 c1 g2 a8 t8 kn_ _ _) (funext fun t8'=>ih ..)
theorem za1:LoopOne J fnTab 146 2 z5n:=lpK ztx zv9 (fi:=fi146) (by kernel_rfl) (by kernel_rfl) (q:=fun hs=>(z1g (hN hs 0) (hI hs 1) (hI hs 2) (hLn hs 3) (hLn hs 4) (hLn hs 5) (hN hs 6) (hN hs 7) (hN hs 8) (hN hs 9))) (fun hs=>by kernel_rfl) fun hs h1=>Eq.trans (zbq (hN hs 0) (hI hs 1) (hLn hs 3) (hLn hs 4) (hLn hs 5) (hN hs 6) (hN hs 7) (hN hs 8) (hN hs 9) big (hI hs 2)) (zbv (hN hs 0) (hI hs 1) (hLn hs 3) (hLn hs 4) (hLn hs 5) (hN hs 6) (hN hs 7) (hN hs 8) (hN hs 9) _ h1)
def zd0:St:=(.mk [(x0P 0 3 3),(x0F 8 a0),(x0I 9 c1),(x0I 10 c2)] [(x0L g3),(x0L g4),(x0L g5),(.mk false (.cells [(.vw 0 0 a6 1),(.vw 1 0 a7 1),(.vw 2 0 a8 1)]))])
def zhe:St:=(.mk [(x0P 0 3 3),(x0F 8 a0),(x0I 9 c1),(x0I 10 c8),(x0B 36 e9)] [(x0L g2),(x0L g3),(x0L g4),(.mk false (.cells [(.vw 0 0 a5 1),(.vw 1 0 a6 1),(.vw 2 0 a7 1)]))])
def zix:Option ((Int×Bool))→Option (Ex×St)
 | none=>none
 | some r=>some ((.exit 0),(zhe a0 c1 g2 g3 g4 a5 a6 a7 r.1 r.2))
def zr5 (x:Option ((Int×Bool))):LO:=(.one (.exit 0) (zhe a0 c1 g2 g3 g4 a5 a6 a7 (x.getD default).1 (x.getD default).2))
def y49:Bool×LO:=sL (zr5 a0 c1 g3 g4 g5 a6 a7 a8) (z1j a0 g3 a6 big c2)
def zt7:Nat→St→Option (Bool×LO):=lpT 4 (pSt [(x1P 0 3 3),(x1F 8),(x1I 9),(x1I 10)] [x1L,x1L,x1L,(pBlk false (pCells [(pVw 0 (liN 0) 1),(pVw 1 (liN 0) 1),(pVw 2 (liN 0) 1)]))]) (fun hs=>y49 (hN hs 0) (hI hs 1) (hI hs 2) (hLn hs 3) (hLn hs 4) (hLn hs 5) (hN hs 6) (hN hs 7) (hN hs 8))
theorem y8p:∀ x:Option ((Int×Bool)),x.isSome=true→(zix a0 c1 g2 g3 g4 a5 a6 a7) x=some (pick (zr5 a0 c1 g2 g3 g4 a5 a6 a7 x))
 | none,h=>by cases h
 | some r,_=>rfl
theorem y88 (K:Ex→St→Option (Ex×St)):ev9 Γ8 176 4 4 fi176 (zd0 a0 c1 c2 g3 g4 g5 a6 a7 a8) K=z38 a0 g3 a6 c2 (fun t10'=>K .normal (zd0 a0 c1 t10' g3 g4 g5 a6 a7 a8)) (fun c0_ c1_=>K (.exit 0) (zhe a0 c1 g3 g4 g5 a6 a7 a8 c0_ c1_)):=by kernel_rfl
theorem y8q:∀ (n:Nat) (t10:Int),iter 176 4 4 (ev9 Γ8 176 4 4 fi176) n (zd0 a0 c1 t10 g2 g3 g4 a5 a6 a7) (fun e st=>some (e,st))=(zix a0 c1 g2 g3 g4 a5 a6 a7) (z1j a0 g2 a5 n t10):=by
 intro n
 induction n with
 | zero=>intros;rfl
 | succ n ih=>
  intro t10
  refine Eq.trans (iter_succ ..) (Eq.trans (y88 ..) (Eq.trans ?_ (y03 a0 g2 a5 t10 (zix a0 c1 g2 g3 g4 a5 a6 a7) rfl (fun t10'=>z1j a0 g2 a5 n t10') (fun c0_ c1_=>some (c0_,c1_)))))
  exact congrArg (fun kn_=>z38 a0 g2 a5 t10 kn_ _) (funext fun t10'=>ih ..)
theorem y1x:LoopOne J fnTab 176 4 zt7:=lpK ztx zv9 (fi:=fi176) (by kernel_rfl) (by kernel_rfl) (q:=fun hs=>(zd0 (hN hs 0) (hI hs 1) (hI hs 2) (hLn hs 3) (hLn hs 4) (hLn hs 5) (hN hs 6) (hN hs 7) (hN hs 8))) (fun hs=>by kernel_rfl) fun hs h1=>Eq.trans (y8q (hN hs 0) (hI hs 1) (hLn hs 3) (hLn hs 4) (hLn hs 5) (hN hs 6) (hN hs 7) (hN hs 8) big (hI hs 2)) (y8p (hN hs 0) (hI hs 1) (hLn hs 3) (hLn hs 4) (hLn hs 5) (hN hs 6) (hN hs 7) (hN hs 8) _ h1)
def tb9:List (Nat×(List PT→Option (Bool×AV×List Blk))):=(107,zjg)::(127,zj3)::(143,ze3)::tb8
def lt9:List ((Nat×Nat)×(Nat→St→Option (Bool×LO))):=((146,2),z5n)::((176,4),zt7)::lt8
def Γ9:Ctx:=⟨tyTab,fnTab,tblSum tb9,tblLp lt9⟩
theorem zzn:SumL J tb9:=SumL.cons y1d (SumL.cons y0q (SumL.cons ztw (ztx)))
theorem zyz:LpL J fnTab lt9:=LpL.cons za1 (LpL.cons y1x (zv9))
def zs1  : Option (Bool)→Option (AV×List Blk)
 | some r=>some ((.v (.one (.bool r))),[])
 | none=>none
def zs0:List PT→Option (Bool×AV×List Blk)
 | [.ptr [.row 1 q00 (.fl .f32 q03),.row 1 q01 (.fl .f32 q05),.row 1 q02 (.fl .f32 q04),.row 3 q06 (.fl .f32 q0b),.s (.int .i64 q0g),.s (.flt .f32 q0o),.s (.flt .f32 q0n)],.one (.s (.int .i64 i)),.one (.s (.flt .f32 q0p)),.one (.s (.flt .f32 q0q)),.one (.s (.flt .f32 q0l))]=>sF zs1 (z93 q00 q03 q01 q05 q02 q04 q06 q0b q0g q0o q0n i q0p q0q q0l)
 | _=>none
theorem ye3:ev8 Γ9 87 [.ptr [.row 1 a0 (.fl .f32 g1),.row 1 a2 (.fl .f32 g3),.row 1 a4 (.fl .f32 g5),.row 3 a6 (.fl .f32 g7),.s (.int .i64 c8),.s (.flt .f32 a9),.s (.flt .f32 a10)],.one (.s (.int .i64 c11)),.one (.s (.flt .f32 a12)),.one (.s (.flt .f32 a13)),.one (.s (.flt .f32 a14))]=zs1 (z93 a0 g1 a2 g3 a4 g5 a6 g7 c8 a9 a10 c11 a12 a13 a14):=tr2 (y8i a0 g1 a2 g3 a4 g5 a6 g7 c8 a9 a10 c11 a12 a13 a14 zs1 rfl (fun c0_=>some c0_)) (by kernel_rfl)
theorem yal:SumOne J 87 zs0:=mkT zzn zyz fun pts v news hp=>by
 unfold zs0 at hp
 split at hp
 ·exact fin3 (ye3 ..) hp
 ·cases hp
def zcj  : Option (Int×Int×Nat×Nat×Nat)→Option (AV×List Blk)
 | some r=>some ((.tup [(.one (.int .i64 r.1)),(.one (.int .i64 r.2.1)),(.one (.flt .f32 r.2.2.1)),(.one (.flt .f32 r.2.2.2.1)),(.one (.flt .f32 r.2.2.2.2))]),[])
 | none=>none
def zcd:List PT→Option (Bool×AV×List Blk)
 | [.agg [.row 1 q0i (.fl .f32 q0m),.row 1 q13 (.fl .f32 q1e),.row 1 q14 (.fl .f32 q1d)],.one (.s (.flt .f32 x1))]=>sF zcj (z0x q0i q0m q13 q1e q14 q1d x1)
 | _=>none
theorem zx3:ev8 Γ9 161 [.agg [.row 1 a0 (.fl .f32 g1),.row 1 a2 (.fl .f32 g3),.row 1 a4 (.fl .f32 g5)],.one (.s (.flt .f32 a6))]=zcj (z0x a0 g1 a2 g3 a4 g5 a6):=tr2 (zrn a0 g1 a2 g3 a4 g5 a6 zcj rfl (fun c0_ c1_ c2_ c3_ c4_=>some (c0_,c1_,c2_,c3_,c4_))) (by kernel_rfl)
theorem zti:SumOne J 161 zcd:=mkT zzn zyz fun pts v news hp=>by
 unfold zcd at hp
 split at hp
 ·exact fin3 (zx3 ..) hp
 ·cases hp
def zpx  : Option (Int×Int×Nat×Nat)→Option (AV×List Blk)
 | some r=>some ((.tup [(.one (.int .i64 r.1)),(.one (.int .i64 r.2.1)),(.one (.flt .f32 r.2.2.1)),(.one (.flt .f32 r.2.2.2))]),[])
 | none=>none
def zqh:List PT→Option (Bool×AV×List Blk)
 | [.ptr [.row 1 q0i (.fl .f32 q0m),.row 1 q13 (.fl .f32 q1e),.row 1 q14 (.fl .f32 q1d)],.one (.s (.flt .f32 x1))]=>sF zpx (z3c q0i q0m q13 q1e q14 q1d x1)
 | _=>none
theorem ycs:ev8 Γ9 176 [.ptr [.row 1 a0 (.fl .f32 g1),.row 1 a2 (.fl .f32 g3),.row 1 a4 (.fl .f32 g5)],.one (.s (.flt .f32 a6))]=zpx (z3c a0 g1 a2 g3 a4 g5 a6):=tr2 (y53 a0 g1 a2 g3 a4 g5 a6 zpx rfl (fun c0_ c1_ c2_ c3_=>some (c0_,c1_,c2_,c3_))) (by kernel_rfl)
theorem y7s:SumOne J 176 zqh:=mkT zzn zyz fun pts v news hp=>by
 unfold zqh at hp
 split at hp
 ·exact fin3 (ycs ..) hp
 ·cases hp
def z86:St:=(.mk [(x0P 1 3 3),(x0V 42 0 a0 1),(x0I 43 c1),(x0I 44 c2)] [(x0L g3),(x0L g4),(x0L g5),(.mk true (.cells [(.vw 0 0 a6 1),(.vw 1 0 a7 1),(.vw 2 0 a8 1)]))])
def zb3(q2z:Nat)(t43:Int)(b0 b1 b2:List Nat)(q1l q1y q1z:Nat):St:=(.mk [(x0B 2 false)] [(x0L b0),(x0L b1),(x0L b2)])
def zb6:St:=(.mk [(x0P 1 3 3),(x0V 42 0 a0 1),(x0I 43 c1),(x0I 44 c8),(x0B 45 e9)] [(x0L g2),(x0L g3),(x0L g4),(.mk true (.cells [(.vw 0 0 a5 1),(.vw 1 0 a6 1),(.vw 2 0 a7 1)]))])
def zcb:Option ((Unit)⊕(Int×Bool))→Option (Ex×St)
 | none=>none
 | some (Sum.inl r)=>some (.ret,(zb3 a0 c1 g2 g3 g4 a5 a6 a7))
 | some (Sum.inr r)=>some ((.exit 0),(zb6 a0 c1 g2 g3 g4 a5 a6 a7 r.1 r.2))
def zip (x:Option ((Unit)⊕(Int×Bool))):LO:=(.two (oL x) (.one .ret (zb3 a0 c1 g2 g3 g4 a5 a6 a7)) (.one (.exit 0) (zb6 a0 c1 g2 g3 g4 a5 a6 a7 ((tR x).getD default).1 ((tR x).getD default).2)))
def zu8:Bool×LO:=sL (zip a0 c1 g3 g4 g5 a6 a7 a8) (z0s a0 c1 g3 a6 big c2)
def zk3:Nat→St→Option (Bool×LO):=lpT 3 (pSt [(x1P 1 3 3),(x1V 42 0 1),(x1I 43),(x1I 44)] [x1L,x1L,x1L,(pBlk true (pCells [(pVw 0 (liN 0) 1),(pVw 1 (liN 0) 1),(pVw 2 (liN 0) 1)]))]) (fun hs=>zu8 (hN hs 0) (hI hs 1) (hI hs 2) (hLn hs 3) (hLn hs 4) (hLn hs 5) (hN hs 6) (hN hs 7) (hN hs 8))
theorem zxw:∀ x:Option ((Unit)⊕(Int×Bool)),x.isSome=true→(zcb a0 c1 g2 g3 g4 a5 a6 a7) x=some (pick (zip a0 c1 g2 g3 g4 a5 a6 a7 x))
 | none,h=>by cases h
 | some (Sum.inl r),_=>rfl
 | some (Sum.inr r),_=>rfl
theorem zy9 (K:Ex→St→Option (Ex×St)):ev9 Γ9 89 5 3 fi89 (z86 a0 c1 c2 g3 g4 g5 a6 a7 a8) K=z1q a0 c1 g3 a6 c2 (fun t44'=>K .normal (z86 a0 c1 t44' g3 g4 g5 a6 a7 a8)) (fun _=>K .ret (zb3 a0 c1 g3 g4 g5 a6 a7 a8)) (fun c0_ c1_=>K (.exit 0) (zb6 a0 c1 g3 g4 g5 a6 a7 a8 c0_ c1_)):=by kernel_rfl
theorem zy6:∀ (n:Nat) (t44:Int),iter 89 5 3 (ev9 Γ9 89 5 3 fi89) n (z86 a0 c1 t44 g2 g3 g4 a5 a6 a7) (fun e st=>some (e,st))=(zcb a0 c1 g2 g3 g4 a5 a6 a7) (z0s a0 c1 g2 a5 n t44):=by
 intro n
 induction n with
 | zero=>intros;rfl
 | succ n ih=>
  intro t44
  refine Eq.trans (iter_succ ..) (Eq.trans (zy9 ..) (Eq.trans ?_ (zrk a0 c1 g2 a5 t44 (zcb a0 c1 g2 g3 g4 a5 a6 a7) rfl (fun t44'=>z0s a0 c1 g2 a5 n t44') (fun _=>some (Sum.inl ())) (fun c0_ c1_=>some (Sum.inr (c0_,c1_))))))
  exact congrArg (fun kn_=>z1q a0 c1 g2 a5 t44 kn_ _ _) (funext fun t44'=>ih ..)
theorem zto:LoopOne J fnTab 89 5 zk3:=lpK zzn zyz (fi:=fi89) (by kernel_rfl) (by kernel_rfl) (q:=fun hs=>(z86 (hN hs 0) (hI hs 1) (hI hs 2) (hLn hs 3) (hLn hs 4) (hLn hs 5) (hN hs 6) (hN hs 7) (hN hs 8))) (fun hs=>by kernel_rfl) fun hs h1=>Eq.trans (zy6 (hN hs 0) (hI hs 1) (hLn hs 3) (hLn hs 4) (hLn hs 5) (hN hs 6) (hN hs 7) (hN hs 8) big (hI hs 2)) (zxw (hN hs 0) (hI hs 1) (hLn hs 3) (hLn hs 4) (hLn hs 5) (hN hs 6) (hN hs 7) (hN hs 8) _ h1)
def tb10:List (Nat×(List PT→Option (Bool×AV×List Blk))):=(87,zs0)::(161,zcd)::(176,zqh)::tb9
def lt10:List ((Nat×Nat)×(Nat→St→Option (Bool×LO))):=((89,5),zk3)::lt9
def Γ10:Ctx:=⟨tyTab,fnTab,tblSum tb10,tblLp lt10⟩
theorem y04:SumL J tb10:=SumL.cons yal (SumL.cons zti (SumL.cons y7s (zzn)))
theorem zzu:LpL J fnTab lt10:=LpL.cons zto (zyz)
def zge  : Option (Bool)→Option (AV×List Blk)
 | some r=>some ((.v (.one (.bool r))),[])
 | none=>none
def zgv:List PT→Option (Bool×AV×List Blk)
 | [.agg [.row 1 q0i (.fl .f32 q0m),.row 1 q13 (.fl .f32 q1e),.row 1 q14 (.fl .f32 q1d)]]=>sF zge (z4a q0i q0m q13 q1e q14 q1d)
 | _=>none
theorem y42:ev8 Γ10 89 [.agg [.row 1 a0 (.fl .f32 g1),.row 1 a2 (.fl .f32 g3),.row 1 a4 (.fl .f32 g5)]]=zge (z4a a0 g1 a2 g3 a4 g5):=tr2 (zw9 a0 g1 a2 g3 a4 g5 zge rfl (fun c0_=>some c0_)) (by kernel_rfl)
theorem zxz:SumOne J 89 zgv:=mkT y04 zzu fun pts v news hp=>by
 unfold zgv at hp
 split at hp
 ·exact fin3 (y42 ..) hp
 ·cases hp
def zjj  : Option (Nat)→Option (AV×List Blk)
 | some r=>some ((.v (.one (.flt .f32 r))),[])
 | none=>none
def zji:List PT→Option (Bool×AV×List Blk)
 | [.agg [.row 1 q16 (.fl .f32 q1n),.row 1 q1a (.fl .f32 q1u),.row 1 q19 (.fl .f32 q1v)],.one (.row 1 q1i (.fl .f32 q1x)),.one (.s (.flt .f32 q28))]=>sF zjj (z5g q16 q1n q1a q1u q19 q1v q1i q1x q28)
 | _=>none
theorem y7l:ev8 Γ10 144 [.agg [.row 1 a0 (.fl .f32 g1),.row 1 a2 (.fl .f32 g3),.row 1 a4 (.fl .f32 g5)],.one (.row 1 a6 (.fl .f32 g7)),.one (.s (.flt .f32 a8))]=zjj (z5g a0 g1 a2 g3 a4 g5 a6 g7 a8):=tr2 (zyu a0 g1 a2 g3 a4 g5 a6 g7 a8 zjj rfl (fun c0_=>some c0_)) (by kernel_rfl)
theorem y0n:SumOne J 144 zji:=mkT y04 zzu fun pts v news hp=>by
 unfold zji at hp
 split at hp
 ·exact fin3 (y7l ..) hp
 ·cases hp
def zuw  : Option (Nat)→Option (AV×List Blk)
 | some r=>some ((.v (.one (.flt .f32 r))),[])
 | none=>none
def zv5:List PT→Option (Bool×AV×List Blk)
 | [.ptr [.row 1 q16 (.fl .f32 q1n),.row 1 q1a (.fl .f32 q1u),.row 1 q19 (.fl .f32 q1v)],.one (.row 1 q1i (.fl .f32 q1x)),.one (.s (.flt .f32 q28))]=>sF zuw (za7 q16 q1n q1a q1u q19 q1v q1i q1x q28)
 | _=>none
theorem yem:ev8 Γ10 172 [.ptr [.row 1 a0 (.fl .f32 g1),.row 1 a2 (.fl .f32 g3),.row 1 a4 (.fl .f32 g5)],.one (.row 1 a6 (.fl .f32 g7)),.one (.s (.flt .f32 a8))]=zuw (za7 a0 g1 a2 g3 a4 g5 a6 g7 a8):=tr2 (ya5 a0 g1 a2 g3 a4 g5 a6 g7 a8 zuw rfl (fun c0_=>some c0_)) (by kernel_rfl)
theorem ybj:SumOne J 172 zv5:=mkT y04 zzu fun pts v news hp=>by
 unfold zv5 at hp
 split at hp
 ·exact fin3 (yem ..) hp
 ·cases hp
def tb11:List (Nat×(List PT→Option (Bool×AV×List Blk))):=(89,zgv)::(144,zji)::(172,zv5)::tb10
def lt11:List ((Nat×Nat)×(Nat→St→Option (Bool×LO))):=lt10
def Γ11:Ctx:=⟨tyTab,fnTab,tblSum tb11,tblLp lt11⟩
theorem y00:SumL J tb11:=SumL.cons zxz (SumL.cons y0n (SumL.cons ybj (y04)))
theorem zyo:LpL J fnTab lt11:=zzu
def zgs  : Option (Nat×Nat)→Option (AV×List Blk)
 | some r=>some ((.tup [(.one (.flt .f32 r.1)),(.one (.flt .f32 r.2))]),[])
 | none=>none
def zgr:List PT→Option (Bool×AV×List Blk)
 | [.agg [.row 1 q00 (.fl .f32 q03),.row 1 q01 (.fl .f32 q05),.row 1 q02 (.fl .f32 q04),.row 3 q06 (.fl .f32 q0b),.s (.int .i64 q0g),.s (.flt .f32 q0o),.s (.flt .f32 q0n)],.one (.s (.int .i64 i)),.one (.s (.flt .f32 q1j)),.one (.s (.flt .f32 q0l))]=>sF zgs (z2d q00 q03 q01 q05 q02 q04 q06 q0b q0g q0o q0n i q1j q0l)
 | _=>none
theorem y4p:ev8 Γ11 106 [.agg [.row 1 a0 (.fl .f32 g1),.row 1 a2 (.fl .f32 g3),.row 1 a4 (.fl .f32 g5),.row 3 a6 (.fl .f32 g7),.s (.int .i64 c8),.s (.flt .f32 a9),.s (.flt .f32 a10)],.one (.s (.int .i64 c11)),.one (.s (.flt .f32 a12)),.one (.s (.flt .f32 a13))]=zgs (z2d a0 g1 a2 g3 a4 g5 a6 g7 c8 a9 a10 c11 a12 a13):=tr2 (zw3 a0 g1 a2 g3 a4 g5 a6 g7 c8 a9 a10 c11 a12 a13 zgs rfl (fun c0_ c1_=>some (c0_,c1_))) (by kernel_rfl)
theorem zy1:SumOne J 106 zgr:=mkT y00 zyo fun pts v news hp=>by
 unfold zgr at hp
 split at hp
 ·exact fin3 (y4p ..) hp
 ·cases hp
def zpr  : Option (Nat)→Option (AV×List Blk)
 | some r=>some ((.v (.one (.flt .f32 r))),[])
 | none=>none
def zq1:List PT→Option (Bool×AV×List Blk)
 | [.ptr [.row 1 q16 (.fl .f32 q1n),.row 1 q1a (.fl .f32 q1u),.row 1 q19 (.fl .f32 q1v)],.one (.s (.flt .f32 q28))]=>sF zpr (z7v q16 q1n q1a q1u q19 q1v q28)
 | _=>none
theorem ydj:ev8 Γ11 165 [.ptr [.row 1 a0 (.fl .f32 g1),.row 1 a2 (.fl .f32 g3),.row 1 a4 (.fl .f32 g5)],.one (.s (.flt .f32 a6))]=zpr (z7v a0 g1 a2 g3 a4 g5 a6):=tr2 (y55 a0 g1 a2 g3 a4 g5 a6 zpr rfl (fun c0_=>some c0_)) (by kernel_rfl)
theorem y6u:SumOne J 165 zq1:=mkT y00 zyo fun pts v news hp=>by
 unfold zq1 at hp
 split at hp
 ·exact fin3 (ydj ..) hp
 ·cases hp
def zqf  : Option (Nat)→Option (AV×List Blk)
 | some r=>some ((.v (.one (.flt .f32 r))),[])
 | none=>none
def zpv:List PT→Option (Bool×AV×List Blk)
 | [.ptr [.row 1 q16 (.fl .f32 q1n),.row 1 q1a (.fl .f32 q1u),.row 1 q19 (.fl .f32 q1v)],.one (.s (.flt .f32 q28))]=>sF zqf (z7r q16 q1n q1a q1u q19 q1v q28)
 | _=>none
theorem yc8:ev8 Γ11 166 [.ptr [.row 1 a0 (.fl .f32 g1),.row 1 a2 (.fl .f32 g3),.row 1 a4 (.fl .f32 g5)],.one (.s (.flt .f32 a6))]=zqf (z7r a0 g1 a2 g3 a4 g5 a6):=tr2 (y5l a0 g1 a2 g3 a4 g5 a6 zqf rfl (fun c0_=>some c0_)) (by kernel_rfl)
theorem y73:SumOne J 166 zpv:=mkT y00 zyo fun pts v news hp=>by
 unfold zpv at hp
 split at hp
 ·exact fin3 (yc8 ..) hp
 ·cases hp
def tb12:List (Nat×(List PT→Option (Bool×AV×List Blk))):=(106,zgr)::(165,zq1)::(166,zpv)::tb11
def lt12:List ((Nat×Nat)×(Nat→St→Option (Bool×LO))):=lt11
def Γ12:Ctx:=⟨tyTab,fnTab,tblSum tb12,tblLp lt12⟩
theorem zz5:SumL J tb12:=SumL.cons zy1 (SumL.cons y6u (SumL.cons y73 (y00)))
theorem zzo:LpL J fnTab lt12:=zyo
def zgl  : Option (Nat×Nat)→Option (AV×List Blk)
 | some r=>some ((.tup [(.one (.flt .f32 r.1)),(.one (.flt .f32 r.2))]),[])
 | none=>none
def zgf:List PT→Option (Bool×AV×List Blk)
 | [.agg [.row 1 q00 (.fl .f32 q03),.row 1 q01 (.fl .f32 q05),.row 1 q02 (.fl .f32 q04),.row 3 q06 (.fl .f32 q0b),.s (.int .i64 q0g),.s (.flt .f32 q0o),.s (.flt .f32 q0n)],.one (.s (.int .i64 i)),.one (.s (.flt .f32 q1j)),.one (.s (.flt .f32 q0l))]=>sF zgl (z35 q00 q03 q01 q05 q02 q04 q06 q0b q0g q0o q0n i q1j q0l)
 | _=>none
theorem y4b:ev8 Γ12 105 [.agg [.row 1 a0 (.fl .f32 g1),.row 1 a2 (.fl .f32 g3),.row 1 a4 (.fl .f32 g5),.row 3 a6 (.fl .f32 g7),.s (.int .i64 c8),.s (.flt .f32 a9),.s (.flt .f32 a10)],.one (.s (.int .i64 c11)),.one (.s (.flt .f32 a12)),.one (.s (.flt .f32 a13))]=zgl (z35 a0 g1 a2 g3 a4 g5 a6 g7 c8 a9 a10 c11 a12 a13):=tr2 (zvz a0 g1 a2 g3 a4 g5 a6 g7 c8 a9 a10 c11 a12 a13 zgl rfl (fun c0_ c1_=>some (c0_,c1_))) (by kernel_rfl)
theorem zxb:SumOne J 105 zgf:=mkT zz5 zzo fun pts v news hp=>by
 unfold zgf at hp
 split at hp
 ·exact fin3 (y4b ..) hp
 ·cases hp
def zku  : Option (Nat×Nat)→Option (AV×List Blk)
 | some r=>some ((.tup [(.one (.flt .f32 r.1)),(.one (.flt .f32 r.2))]),[])
 | none=>none
def zko:List PT→Option (Bool×AV×List Blk)
 | [.ptr [.row 1 q00 (.fl .f32 q03),.row 1 q01 (.fl .f32 q05),.row 1 q02 (.fl .f32 q04),.row 3 q06 (.fl .f32 q0b),.s (.int .i64 q0g),.s (.flt .f32 q0o),.s (.flt .f32 q0n)],.one (.s (.int .i64 i)),.one (.s (.flt .f32 q1j)),.one (.s (.flt .f32 q0l))]=>sF zku (z4u q00 q03 q01 q05 q02 q04 q06 q0b q0g q0o q0n i q1j q0l)
 | _=>none
theorem y9y:ev8 Γ12 150 [.ptr [.row 1 a0 (.fl .f32 g1),.row 1 a2 (.fl .f32 g3),.row 1 a4 (.fl .f32 g5),.row 3 a6 (.fl .f32 g7),.s (.int .i64 c8),.s (.flt .f32 a9),.s (.flt .f32 a10)],.one (.s (.int .i64 c11)),.one (.s (.flt .f32 a12)),.one (.s (.flt .f32 a13))]=zku (z4u a0 g1 a2 g3 a4 g5 a6 g7 c8 a9 a10 c11 a12 a13):=tr2 (y1b a0 g1 a2 g3 a4 g5 a6 g7 c8 a9 a10 c11 a12 a13 zku rfl (fun c0_ c1_=>some (c0_,c1_))) (by kernel_rfl)
theorem y3q:SumOne J 150 zko:=mkT zz5 zzo fun pts v news hp=>by
 unfold zko at hp
 split at hp
 ·exact fin3 (y9y ..) hp
 ·cases hp
def z9g:St:=(.mk [(x0P 1 4 7),(x0F 4 a0),(x0V 43 3 a1 3),(x0I 44 c2),(x0I 45 c3)] [(x0L g4),(x0L g5),(x0L g6),(x0L g7),(x0R true 0 1 2 3 a8 a9 a10 a11 c12 a13 a14)])
def ze7(q2x:Nat)(t44:Int)(b0 b1 b2 b3:List Nat)(q0w q0x q0y q0r:Nat)(q1c:Int)(q1b q0z:Nat):St:=(.mk [(x0B 2 false)] [(x0L b0),(x0L b1),(x0L b2),(x0L b3)])
def zdi:St:=(.mk [(x0P 1 4 7),(x0F 4 a13),(x0V 43 3 a0 3),(x0I 44 c1),(x0I 45 c14),(x0B 46 e15)] [(x0L g2),(x0L g3),(x0L g4),(x0L g5),(x0R true 0 1 2 3 a6 a7 a8 a9 c10 a11 a12)])
def zfq:Option ((Unit)⊕(Nat×Int×Bool))→Option (Ex×St)
 | none=>none
 | some (Sum.inl r)=>some (.ret,(ze7 a0 c1 g2 g3 g4 g5 a6 a7 a8 a9 c10 a11 a12))
 | some (Sum.inr r)=>some ((.exit 0),(zdi a0 c1 g2 g3 g4 g5 a6 a7 a8 a9 c10 a11 a12 r.1 r.2.1 r.2.2))
def zm9 (x:Option ((Unit)⊕(Nat×Int×Bool))):LO:=(.two (oL x) (.one .ret (ze7 a0 c1 g2 g3 g4 g5 a6 a7 a8 a9 c10 a11 a12)) (.one (.exit 0) (zdi a0 c1 g2 g3 g4 g5 a6 a7 a8 a9 c10 a11 a12 ((tR x).getD default).1 ((tR x).getD default).2.1 ((tR x).getD default).2.2)))
def zxp:Bool×LO:=sL (zm9 a1 c2 g4 g5 g6 g7 a8 a9 a10 a11 c12 a13 a14) (z0h a1 c2 g7 a14 big a0 c3)
def zoa:Nat→St→Option (Bool×LO):=lpT 4 (pSt [(x1P 1 4 7),(x1F 4),(x1V 43 3 3),(x1I 44),(x1I 45)] [x1L,x1L,x1L,x1L,(x1R true 0 1 2 3)]) (fun hs=>zxp (hN hs 0) (hN hs 1) (hI hs 2) (hI hs 3) (hLn hs 4) (hLn hs 5) (hLn hs 6) (hLn hs 7) (hN hs 8) (hN hs 9) (hN hs 10) (hN hs 11) (hI hs 12) (hN hs 13) (hN hs 14))
theorem y19:∀ x:Option ((Unit)⊕(Nat×Int×Bool)),x.isSome=true→(zfq a0 c1 g2 g3 g4 g5 a6 a7 a8 a9 c10 a11 a12) x=some (pick (zm9 a0 c1 g2 g3 g4 g5 a6 a7 a8 a9 c10 a11 a12 x))
 | none,h=>by cases h
 | some (Sum.inl r),_=>rfl
 | some (Sum.inr r),_=>rfl
theorem y1f (K:Ex→St→Option (Ex×St)):ev9 Γ12 51 6 4 fi51 (z9g a0 a1 c2 c3 g4 g5 g6 g7 a8 a9 a10 a11 c12 a13 a14) K=z26 a1 c2 g7 a14 a0 c3 (fun t4' t45'=>K .normal (z9g t4' a1 c2 t45' g4 g5 g6 g7 a8 a9 a10 a11 c12 a13 a14)) (fun _=>K .ret (ze7 a1 c2 g4 g5 g6 g7 a8 a9 a10 a11 c12 a13 a14)) (fun c0_ c1_ c2_=>K (.exit 0) (zdi a1 c2 g4 g5 g6 g7 a8 a9 a10 a11 c12 a13 a14 c0_ c1_ c2_)):=by kernel_rfl
theorem y1p:∀ (n t4:Nat) (t45:Int),iter 51 6 4 (ev9 Γ12 51 6 4 fi51) n (z9g t4 a0 c1 t45 g2 g3 g4 g5 a6 a7 a8 a9 c10 a11 a12) (fun e st=>some (e,st))=(zfq a0 c1 g2 g3 g4 g5 a6 a7 a8 a9 c10 a11 a12) (z0h a0 c1 g5 a12 n t4 t45):=by
 intro n
 induction n with
 | zero=>intros;rfl
 | succ n ih=>
  intro t4 t45
  refine Eq.trans (iter_succ ..) (Eq.trans (y1f ..) (Eq.trans ?_ (zuv a0 c1 g5 a12 t4 t45 (zfq a0 c1 g2 g3 g4 g5 a6 a7 a8 a9 c10 a11 a12) rfl (fun t4' t45'=>z0h a0 c1 g5 a12 n t4' t45') (fun _=>some (Sum.inl ())) (fun c0_ c1_ c2_=>some (Sum.inr (c0_,c1_,c2_))))))
  exact congrArg (fun kn_=>z26 a0 c1 g5 a12 t4 t45 kn_ _ _) (funext fun t4'=>funext fun t45'=>ih ..)
theorem zwl:LoopOne J fnTab 51 6 zoa:=lpK zz5 zzo (fi:=fi51) (by kernel_rfl) (by kernel_rfl) (q:=fun hs=>(z9g (hN hs 0) (hN hs 1) (hI hs 2) (hI hs 3) (hLn hs 4) (hLn hs 5) (hLn hs 6) (hLn hs 7) (hN hs 8) (hN hs 9) (hN hs 10) (hN hs 11) (hI hs 12) (hN hs 13) (hN hs 14))) (fun hs=>by kernel_rfl) fun hs h1=>Eq.trans (y1p (hN hs 1) (hI hs 2) (hLn hs 4) (hLn hs 5) (hLn hs 6) (hLn hs 7) (hN hs 8) (hN hs 9) (hN hs 10) (hN hs 11) (hI hs 12) (hN hs 13) (hN hs 14) big (hN hs 0) (hI hs 3)) (y19 (hN hs 1) (hI hs 2) (hLn hs 4) (hLn hs 5) (hLn hs 6) (hLn hs 7) (hN hs 8) (hN hs 9) (hN hs 10) (hN hs 11) (hI hs 12) (hN hs 13) (hN hs 14) _ h1)
def tb13:List (Nat×(List PT→Option (Bool×AV×List Blk))):=(105,zgf)::(150,zko)::tb12
def lt13:List ((Nat×Nat)×(Nat→St→Option (Bool×LO))):=((51,6),zoa)::lt12
def Γ13:Ctx:=⟨tyTab,fnTab,tblSum tb13,tblLp lt13⟩
theorem zyl:SumL J tb13:=SumL.cons zxb (SumL.cons y3q (zz5))
theorem zzh:LpL J fnTab lt13:=LpL.cons zwl (zzo)
def zja  : Option (Bool)→Option (AV×List Blk)
 | some r=>some ((.v (.one (.bool r))),[])
 | none=>none
def zjp:List PT→Option (Bool×AV×List Blk)
 | [.agg [.row 1 q07 (.fl .f32 q0a),.row 1 q09 (.fl .f32 q0c),.row 1 q08 (.fl .f32 q0d),.row 3 q0e (.fl .f32 q0f),.s (.int .i64 q0h),.s (.flt .f32 q0j),.s (.flt .f32 q0k)]]=>sF zja (z5j q07 q0a q09 q0c q08 q0d q0e q0f q0h q0j q0k)
 | _=>none
theorem y8k:ev8 Γ13 51 [.agg [.row 1 a0 (.fl .f32 g1),.row 1 a2 (.fl .f32 g3),.row 1 a4 (.fl .f32 g5),.row 3 a6 (.fl .f32 g7),.s (.int .i64 c8),.s (.flt .f32 a9),.s (.flt .f32 a10)]]=zja (z5j a0 g1 a2 g3 a4 g5 a6 g7 c8 a9 a10):=tr2 (zyr a0 g1 a2 g3 a4 g5 a6 g7 c8 a9 a10 zja rfl (fun c0_=>some c0_)) (by kernel_rfl)
theorem y2c:SumOne J 51 zjp:=mkT zyl zzh fun pts v news hp=>by
 unfold zjp at hp
 split at hp
 ·exact fin3 (y8k ..) hp
 ·cases hp
def zpp  : Option (Nat×Nat×Nat×Nat)→Option (AV×List Blk)
 | some r=>some ((.tup [(.one (.flt .f32 r.1)),(.one (.flt .f32 r.2.1)),(.one (.flt .f32 r.2.2.1)),(.one (.flt .f32 r.2.2.2))]),[])
 | none=>none
def zqe:List PT→Option (Bool×AV×List Blk)
 | [.ptr [.row 1 q00 (.fl .f32 q03),.row 1 q01 (.fl .f32 q05),.row 1 q02 (.fl .f32 q04),.row 3 q06 (.fl .f32 q0b),.s (.int .i64 q0g),.s (.flt .f32 q0o),.s (.flt .f32 q0n)],.one (.s (.int .i64 i)),.one (.s (.flt .f32 q1j)),.one (.s (.flt .f32 q0l))]=>sF zpp (z44 q00 q03 q01 q05 q02 q04 q06 q0b q0g q0o q0n i q1j q0l)
 | _=>none
theorem yd6:ev8 Γ13 130 [.ptr [.row 1 a0 (.fl .f32 g1),.row 1 a2 (.fl .f32 g3),.row 1 a4 (.fl .f32 g5),.row 3 a6 (.fl .f32 g7),.s (.int .i64 c8),.s (.flt .f32 a9),.s (.flt .f32 a10)],.one (.s (.int .i64 c11)),.one (.s (.flt .f32 a12)),.one (.s (.flt .f32 a13))]=zpp (z44 a0 g1 a2 g3 a4 g5 a6 g7 c8 a9 a10 c11 a12 a13):=tr2 (y6f a0 g1 a2 g3 a4 g5 a6 g7 c8 a9 a10 c11 a12 a13 zpp rfl (fun c0_ c1_ c2_ c3_=>some (c0_,c1_,c2_,c3_))) (by kernel_rfl)
theorem y78:SumOne J 130 zqe:=mkT zyl zzh fun pts v news hp=>by
 unfold zqe at hp
 split at hp
 ·exact fin3 (yd6 ..) hp
 ·cases hp
def zft  : Option (Nat)→Option (AV×List Blk)
 | some r=>some ((.v (.one (.flt .f32 r))),[])
 | none=>none
def zfg:List PT→Option (Bool×AV×List Blk)
 | [.agg [.row 1 q00 (.fl .f32 q03),.row 1 q01 (.fl .f32 q05),.row 1 q02 (.fl .f32 q04),.row 3 q06 (.fl .f32 q0b),.s (.int .i64 q0g),.s (.flt .f32 q0o),.s (.flt .f32 q0n)],.one (.s (.int .i64 i)),.one (.s (.flt .f32 q1j)),.one (.s (.flt .f32 q0p)),.one (.s (.flt .f32 q0q)),.one (.s (.flt .f32 q0l))]=>sF zft (z2v q00 q03 q01 q05 q02 q04 q06 q0b q0g q0o q0n i q1j q0p q0q q0l)
 | _=>none
theorem y1r:ev8 Γ13 157 [.agg [.row 1 a0 (.fl .f32 g1),.row 1 a2 (.fl .f32 g3),.row 1 a4 (.fl .f32 g5),.row 3 a6 (.fl .f32 g7),.s (.int .i64 c8),.s (.flt .f32 a9),.s (.flt .f32 a10)],.one (.s (.int .i64 c11)),.one (.s (.flt .f32 a12)),.one (.s (.flt .f32 a13)),.one (.s (.flt .f32 a14)),.one (.s (.flt .f32 a15))]=zft (z2v a0 g1 a2 g3 a4 g5 a6 g7 c8 a9 a10 c11 a12 a13 a14 a15):=tr2 (zv4 a0 g1 a2 g3 a4 g5 a6 g7 c8 a9 a10 c11 a12 a13 a14 a15 zft rfl (fun c0_=>some c0_)) (by kernel_rfl)
theorem zvp:SumOne J 157 zfg:=mkT zyl zzh fun pts v news hp=>by
 unfold zfg at hp
 split at hp
 ·exact fin3 (y1r ..) hp
 ·cases hp
def tb14:List (Nat×(List PT→Option (Bool×AV×List Blk))):=(51,zjp)::(130,zqe)::(157,zfg)::tb13
def lt14:List ((Nat×Nat)×(Nat→St→Option (Bool×LO))):=lt13
def Γ14:Ctx:=⟨tyTab,fnTab,tblSum tb14,tblLp lt14⟩
theorem y6m:SumL J tb14:=SumL.cons y2c (SumL.cons y78 (SumL.cons zvp (zyl)))
theorem y6l:LpL J fnTab lt14:=zzh
def zql  : Option (Bool)→Option (AV×List Blk)
 | some r=>some ((.v (.one (.bool r))),[])
 | none=>none
def zpf:List PT→Option (Bool×AV×List Blk)
 | [.agg [.row 1 q00 (.fl .f32 q03),.row 1 q01 (.fl .f32 q05),.row 1 q02 (.fl .f32 q04),.row 3 q06 (.fl .f32 q0b),.s (.int .i64 q0g),.s (.flt .f32 q0o),.s (.flt .f32 q0n)],.one (.s (.int .i64 i)),.one (.s (.flt .f32 q0p)),.one (.s (.flt .f32 q0q)),.one (.s (.flt .f32 q0l))]=>sF zql (z81 q00 q03 q01 q05 q02 q04 q06 q0b q0g q0o q0n i q0p q0q q0l)
 | _=>none
theorem yc9:ev8 Γ14 139 [.agg [.row 1 a0 (.fl .f32 g1),.row 1 a2 (.fl .f32 g3),.row 1 a4 (.fl .f32 g5),.row 3 a6 (.fl .f32 g7),.s (.int .i64 c8),.s (.flt .f32 a9),.s (.flt .f32 a10)],.one (.s (.int .i64 c11)),.one (.s (.flt .f32 a12)),.one (.s (.flt .f32 a13)),.one (.s (.flt .f32 a14))]=zql (z81 a0 g1 a2 g3 a4 g5 a6 g7 c8 a9 a10 c11 a12 a13 a14):=tr2 (y5s a0 g1 a2 g3 a4 g5 a6 g7 c8 a9 a10 c11 a12 a13 a14 zql rfl (fun c0_=>some c0_)) (by kernel_rfl)
theorem y7v:SumOne J 139 zpf:=mkT y6m y6l fun pts v news hp=>by
 unfold zpf at hp
 split at hp
 ·exact fin3 (yc9 ..) hp
 ·cases hp
def zjb  : Option (Nat)→Option (AV×List Blk)
 | some r=>some ((.v (.one (.flt .f32 r))),[])
 | none=>none
def zjn:List PT→Option (Bool×AV×List Blk)
 | [.ptr [.row 1 q00 (.fl .f32 q03),.row 1 q01 (.fl .f32 q05),.row 1 q02 (.fl .f32 q04),.row 3 q06 (.fl .f32 q0b),.s (.int .i64 q0g),.s (.flt .f32 q0o),.s (.flt .f32 q0n)],.one (.s (.int .i64 i)),.one (.s (.flt .f32 q1j)),.one (.s (.flt .f32 q0p)),.one (.s (.flt .f32 q0q)),.one (.s (.flt .f32 q0l))]=>sF zjb (z39 q00 q03 q01 q05 q02 q04 q06 q0b q0g q0o q0n i q1j q0p q0q q0l)
 | _=>none
theorem y82:ev8 Γ14 149 [.ptr [.row 1 a0 (.fl .f32 g1),.row 1 a2 (.fl .f32 g3),.row 1 a4 (.fl .f32 g5),.row 3 a6 (.fl .f32 g7),.s (.int .i64 c8),.s (.flt .f32 a9),.s (.flt .f32 a10)],.one (.s (.int .i64 c11)),.one (.s (.flt .f32 a12)),.one (.s (.flt .f32 a13)),.one (.s (.flt .f32 a14)),.one (.s (.flt .f32 a15))]=zjb (z39 a0 g1 a2 g3 a4 g5 a6 g7 c8 a9 a10 c11 a12 a13 a14 a15):=tr2 (zz1 a0 g1 a2 g3 a4 g5 a6 g7 c8 a9 a10 c11 a12 a13 a14 a15 zjb rfl (fun c0_=>some c0_)) (by kernel_rfl)
theorem y27:SumOne J 149 zjn:=mkT y6m y6l fun pts v news hp=>by
 unfold zjn at hp
 split at hp
 ·exact fin3 (y82 ..) hp
 ·cases hp
def tb15:List (Nat×(List PT→Option (Bool×AV×List Blk))):=(139,zpf)::(149,zjn)::tb14
def lt15:List ((Nat×Nat)×(Nat→St→Option (Bool×LO))):=lt14
def Γ15:Ctx:=⟨tyTab,fnTab,tblSum tb15,tblLp lt15⟩
theorem ydg:SumL J tb15:=SumL.cons y7v (SumL.cons y27 (y6m))
theorem yck:LpL J fnTab lt15:=y6l
def zl7  : Option (Nat×Bool)→Option (AV×List Blk)
 | some r=>some ((.tup [(.one (.flt .f32 r.1)),(.one (.bool r.2))]),[])
 | none=>none
def zly:List PT→Option (Bool×AV×List Blk)
 | [.agg [.row 1 q00 (.fl .f32 q03),.row 1 q01 (.fl .f32 q05),.row 1 q02 (.fl .f32 q04),.row 3 q06 (.fl .f32 q0b),.s (.int .i64 q0g),.s (.flt .f32 q0o),.s (.flt .f32 q0n)],.one (.s (.int .i64 i)),.one (.s (.flt .f32 q1j)),.one (.s (.flt .f32 q0p)),.one (.s (.flt .f32 q0q)),.one (.s (.flt .f32 q0l))]=>sF zl7 (z4r q00 q03 q01 q05 q02 q04 q06 q0b q0g q0o q0n i q1j q0p q0q q0l)
 | _=>none
theorem y9z:ev8 Γ15 140 [.agg [.row 1 a0 (.fl .f32 g1),.row 1 a2 (.fl .f32 g3),.row 1 a4 (.fl .f32 g5),.row 3 a6 (.fl .f32 g7),.s (.int .i64 c8),.s (.flt .f32 a9),.s (.flt .f32 a10)],.one (.s (.int .i64 c11)),.one (.s (.flt .f32 a12)),.one (.s (.flt .f32 a13)),.one (.s (.flt .f32 a14)),.one (.s (.flt .f32 a15))]=zl7 (z4r a0 g1 a2 g3 a4 g5 a6 g7 c8 a9 a10 c11 a12 a13 a14 a15):=tr2 (y0r a0 g1 a2 g3 a4 g5 a6 g7 c8 a9 a10 c11 a12 a13 a14 a15 zl7 rfl (fun c0_ c1_=>some (c0_,c1_))) (by kernel_rfl)
theorem y30:SumOne J 140 zly:=mkT ydg yck fun pts v news hp=>by
 unfold zly at hp
 split at hp
 ·exact fin3 (y9z ..) hp
 ·cases hp
def tb16:List (Nat×(List PT→Option (Bool×AV×List Blk))):=(140,zly)::tb15
def lt16:List ((Nat×Nat)×(Nat→St→Option (Bool×LO))):=lt15
def Γ16:Ctx:=⟨tyTab,fnTab,tblSum tb16,tblLp lt16⟩
theorem ybz:SumL J tb16:=SumL.cons y30 (ydg)
theorem yd4:LpL J fnTab lt16:=yck
def zaj:St:=(.mk [(x0P 0 4 7),(x0I 1 c0),(x0F 2 a1),(x0F 3 a2),(x0F 4 a3),(x0F 12 a4),(x0F 13 a5),(x0I 14 c6)] [(x0L g7),(x0L g8),(x0L g9),(x0L g10),(x0R false 0 1 2 3 a11 a12 a13 a14 c15 a16 a17)])
def zfs(i:Int)(q0p q0q q0l:Nat)(b0 b1 b2 b3:List Nat)(q0w q0x q0y q0r:Nat)(q1c:Int)(q1b q0z:Nat):St:=(.mk [(x0F 10 0),(x0B 11 false)] [(x0L b0),(x0L b1),(x0L b2),(x0L b3),(x0R false 0 1 2 3 q0w q0x q0y q0r q1c q1b q0z)])
def zfe:St:=(.mk [(x0P 0 4 7),(x0I 1 c0),(x0F 2 a1),(x0F 3 a2),(x0F 4 a3),(x0F 12 a15),(x0F 13 a16),(x0I 14 c17),(x0B 18 e18)] [(x0L g4),(x0L g5),(x0L g6),(x0L g7),(x0R false 0 1 2 3 a8 a9 a10 a11 c12 a13 a14)])
def zgm:Option ((Unit)⊕(Nat×Nat×Int×Bool))→Option (Ex×St)
 | none=>none
 | some (Sum.inl r)=>some (.ret,(zfs c0 a1 a2 a3 g4 g5 g6 g7 a8 a9 a10 a11 c12 a13 a14))
 | some (Sum.inr r)=>some ((.exit 0),(zfe c0 a1 a2 a3 g4 g5 g6 g7 a8 a9 a10 a11 c12 a13 a14 r.1 r.2.1 r.2.2.1 r.2.2.2))
def zna (x:Option ((Unit)⊕(Nat×Nat×Int×Bool))):LO:=(.two (oL x) (.one .ret (zfs c0 a1 a2 a3 g4 g5 g6 g7 a8 a9 a10 a11 c12 a13 a14)) (.one (.exit 0) (zfe c0 a1 a2 a3 g4 g5 g6 g7 a8 a9 a10 a11 c12 a13 a14 ((tR x).getD default).1 ((tR x).getD default).2.1 ((tR x).getD default).2.2.1 ((tR x).getD default).2.2.2)))
def zyw:Bool×LO:=sL (zna c0 a1 a2 a3 g7 g8 g9 g10 a11 a12 a13 a14 c15 a16 a17) (z0j c0 a1 a2 a3 g7 g8 g9 g10 a11 a12 a13 a14 c15 a16 a17 big a4 a5 c6)
def zpb:Nat→St→Option (Bool×LO):=lpT 5 (pSt [(x1P 0 4 7),(x1I 1),(x1F 2),(x1F 3),(x1F 4),(x1F 12),(x1F 13),(x1I 14)] [x1L,x1L,x1L,x1L,(x1R false 0 1 2 3)]) (fun hs=>zyw (hI hs 0) (hN hs 1) (hN hs 2) (hN hs 3) (hN hs 4) (hN hs 5) (hI hs 6) (hLn hs 7) (hLn hs 8) (hLn hs 9) (hLn hs 10) (hN hs 11) (hN hs 12) (hN hs 13) (hN hs 14) (hI hs 15) (hN hs 16) (hN hs 17))
theorem y2y:∀ x:Option ((Unit)⊕(Nat×Nat×Int×Bool)),x.isSome=true→(zgm c0 a1 a2 a3 g4 g5 g6 g7 a8 a9 a10 a11 c12 a13 a14) x=some (pick (zna c0 a1 a2 a3 g4 g5 g6 g7 a8 a9 a10 a11 c12 a13 a14 x))
 | none,h=>by cases h
 | some (Sum.inl r),_=>rfl
 | some (Sum.inr r),_=>rfl
theorem y3m (K:Ex→St→Option (Ex×St)):ev9 Γ16 129 4 5 fi129 (zaj c0 a1 a2 a3 a4 a5 c6 g7 g8 g9 g10 a11 a12 a13 a14 c15 a16 a17) K=z2g c0 a1 a2 a3 g7 g8 g9 g10 a11 a12 a13 a14 c15 a16 a17 a4 a5 c6 (fun low' q1w' k'=>K .normal (zaj c0 a1 a2 a3 low' q1w' k' g7 g8 g9 g10 a11 a12 a13 a14 c15 a16 a17)) (fun _=>K .ret (zfs c0 a1 a2 a3 g7 g8 g9 g10 a11 a12 a13 a14 c15 a16 a17)) (fun c0_ c1_ c2_ c3_=>K (.exit 0) (zfe c0 a1 a2 a3 g7 g8 g9 g10 a11 a12 a13 a14 c15 a16 a17 c0_ c1_ c2_ c3_)):=by kernel_rfl
theorem y3z:∀ (n low q1w:Nat) (k:Int),iter 129 4 5 (ev9 Γ16 129 4 5 fi129) n (zaj c0 a1 a2 a3 low q1w k g4 g5 g6 g7 a8 a9 a10 a11 c12 a13 a14) (fun e st=>some (e,st))=(zgm c0 a1 a2 a3 g4 g5 g6 g7 a8 a9 a10 a11 c12 a13 a14) (z0j c0 a1 a2 a3 g4 g5 g6 g7 a8 a9 a10 a11 c12 a13 a14 n low q1w k):=by
 intro n
 induction n with
 | zero=>intros;rfl
 | succ n ih=>
  intro low q1w k
  refine Eq.trans (iter_succ ..) (Eq.trans (y3m ..) (Eq.trans ?_ (zvu c0 a1 a2 a3 g4 g5 g6 g7 a8 a9 a10 a11 c12 a13 a14 low q1w k (zgm c0 a1 a2 a3 g4 g5 g6 g7 a8 a9 a10 a11 c12 a13 a14) rfl (fun low' q1w' k'=>z0j c0 a1 a2 a3 g4 g5 g6 g7 a8 a9 a10 a11 c12 a13 a14 n low' q1w' k') (fun _=>some (Sum.inl ())) (fun c0_ c1_ c2_ c3_=>some (Sum.inr (c0_,c1_,c2_,c3_))))))
  exact congrArg (fun kn_=>z2g c0 a1 a2 a3 g4 g5 g6 g7 a8 a9 a10 a11 c12 a13 a14 low q1w k kn_ _ _) (funext fun low'=>funext fun q1w'=>funext fun k'=>ih ..)
theorem zy3:LoopOne J fnTab 129 4 zpb:=lpK ybz yd4 (fi:=fi129) (by kernel_rfl) (by kernel_rfl) (q:=fun hs=>(zaj (hI hs 0) (hN hs 1) (hN hs 2) (hN hs 3) (hN hs 4) (hN hs 5) (hI hs 6) (hLn hs 7) (hLn hs 8) (hLn hs 9) (hLn hs 10) (hN hs 11) (hN hs 12) (hN hs 13) (hN hs 14) (hI hs 15) (hN hs 16) (hN hs 17))) (fun hs=>by kernel_rfl) fun hs h1=>Eq.trans (y3z (hI hs 0) (hN hs 1) (hN hs 2) (hN hs 3) (hLn hs 7) (hLn hs 8) (hLn hs 9) (hLn hs 10) (hN hs 11) (hN hs 12) (hN hs 13) (hN hs 14) (hI hs 15) (hN hs 16) (hN hs 17) big (hN hs 4) (hN hs 5) (hI hs 6)) (y2y (hI hs 0) (hN hs 1) (hN hs 2) (hN hs 3) (hLn hs 7) (hLn hs 8) (hLn hs 9) (hLn hs 10) (hN hs 11) (hN hs 12) (hN hs 13) (hN hs 14) (hI hs 15) (hN hs 16) (hN hs 17) _ h1)
def tb17:List (Nat×(List PT→Option (Bool×AV×List Blk))):=tb16
def lt17:List ((Nat×Nat)×(Nat→St→Option (Bool×LO))):=((129,4),zpb)::lt16
def Γ17:Ctx:=⟨tyTab,fnTab,tblSum tb17,tblLp lt17⟩
theorem y6t:SumL J tb17:=ybz
theorem y6o:LpL J fnTab lt17:=LpL.cons zy3 (yd4)
def zkh  : Option (Nat×Bool)→Option (AV×List Blk)
 | some r=>some ((.tup [(.one (.flt .f32 r.1)),(.one (.bool r.2))]),[])
 | none=>none
def zkj:List PT→Option (Bool×AV×List Blk)
 | [.ptr [.row 1 q00 (.fl .f32 q03),.row 1 q01 (.fl .f32 q05),.row 1 q02 (.fl .f32 q04),.row 3 q06 (.fl .f32 q0b),.s (.int .i64 q0g),.s (.flt .f32 q0o),.s (.flt .f32 q0n)],.one (.s (.int .i64 i)),.one (.s (.flt .f32 q0p)),.one (.s (.flt .f32 q0q)),.one (.s (.flt .f32 q0l))]=>sF zkh (z4w q00 q03 q01 q05 q02 q04 q06 q0b q0g q0o q0n i q0p q0q q0l)
 | _=>none
theorem y9m:ev8 Γ17 129 [.ptr [.row 1 a0 (.fl .f32 g1),.row 1 a2 (.fl .f32 g3),.row 1 a4 (.fl .f32 g5),.row 3 a6 (.fl .f32 g7),.s (.int .i64 c8),.s (.flt .f32 a9),.s (.flt .f32 a10)],.one (.s (.int .i64 c11)),.one (.s (.flt .f32 a12)),.one (.s (.flt .f32 a13)),.one (.s (.flt .f32 a14))]=zkh (z4w a0 g1 a2 g3 a4 g5 a6 g7 c8 a9 a10 c11 a12 a13 a14):=tr2 (y1v a0 g1 a2 g3 a4 g5 a6 g7 c8 a9 a10 c11 a12 a13 a14 zkh rfl (fun c0_ c1_=>some (c0_,c1_))) (by kernel_rfl)
theorem y4l:SumOne J 129 zkj:=mkT y6t y6o fun pts v news hp=>by
 unfold zkj at hp
 split at hp
 ·exact fin3 (y9m ..) hp
 ·cases hp
def zfv:St:=(.mk [(x0I 1 c0),(x0F 2 a1),(x0F 3 a2),(x0F 4 a3),(x0P 5 4 7),(x0F 12 a4),(x0F 13 a5),(x0I 24 c6)] [(x0L g7),(x0L g8),(x0L g9),(x0L g10),(x0R true 0 1 2 3 a11 a12 a13 a14 c15 a16 a17)])
def ziz(i:Int)(q0p q0q q0l:Nat)(b0 b1 b2 b3:List Nat)(q0w q0x q0y q0r:Nat)(q1c:Int)(q1b q0z:Nat):St:=(.mk [(x0F 10 0),(x0B 11 false)] [(x0L b0),(x0L b1),(x0L b2),(x0L b3)])
def zje:St:=(.mk [(x0I 1 c0),(x0F 2 a1),(x0F 3 a2),(x0F 4 a3),(x0P 5 4 7),(x0F 12 a15),(x0F 13 a16),(x0I 24 c17),(x0B 25 e18)] [(x0L g4),(x0L g5),(x0L g6),(x0L g7),(x0R true 0 1 2 3 a8 a9 a10 a11 c12 a13 a14)])
def zlz:Option ((Unit)⊕(Nat×Nat×Int×Bool))→Option (Ex×St)
 | none=>none
 | some (Sum.inl r)=>some (.ret,(ziz c0 a1 a2 a3 g4 g5 g6 g7 a8 a9 a10 a11 c12 a13 a14))
 | some (Sum.inr r)=>some ((.exit 0),(zje c0 a1 a2 a3 g4 g5 g6 g7 a8 a9 a10 a11 c12 a13 a14 r.1 r.2.1 r.2.2.1 r.2.2.2))
def zsd (x:Option ((Unit)⊕(Nat×Nat×Int×Bool))):LO:=(.two (oL x) (.one .ret (ziz c0 a1 a2 a3 g4 g5 g6 g7 a8 a9 a10 a11 c12 a13 a14)) (.one (.exit 0) (zje c0 a1 a2 a3 g4 g5 g6 g7 a8 a9 a10 a11 c12 a13 a14 ((tR x).getD default).1 ((tR x).getD default).2.1 ((tR x).getD default).2.2.1 ((tR x).getD default).2.2.2)))
def y5u:Bool×LO:=sL (zsd c0 a1 a2 a3 g7 g8 g9 g10 a11 a12 a13 a14 c15 a16 a17) (z0w c0 a1 a2 a3 g7 g8 g9 g10 a11 a12 a13 a14 c15 a16 a17 big a4 a5 c6)
def zuq:Nat→St→Option (Bool×LO):=lpT 4 (pSt [(x1I 1),(x1F 2),(x1F 3),(x1F 4),(x1P 5 4 7),(x1F 12),(x1F 13),(x1I 24)] [x1L,x1L,x1L,x1L,(x1R true 0 1 2 3)]) (fun hs=>y5u (hI hs 0) (hN hs 1) (hN hs 2) (hN hs 3) (hN hs 4) (hN hs 5) (hI hs 6) (hLn hs 7) (hLn hs 8) (hLn hs 9) (hLn hs 10) (hN hs 11) (hN hs 12) (hN hs 13) (hN hs 14) (hI hs 15) (hN hs 16) (hN hs 17))
theorem y9t:∀ x:Option ((Unit)⊕(Nat×Nat×Int×Bool)),x.isSome=true→(zlz c0 a1 a2 a3 g4 g5 g6 g7 a8 a9 a10 a11 c12 a13 a14) x=some (pick (zsd c0 a1 a2 a3 g4 g5 g6 g7 a8 a9 a10 a11 c12 a13 a14 x))
 | none,h=>by cases h
 | some (Sum.inl r),_=>rfl
 | some (Sum.inr r),_=>rfl
theorem y99 (K:Ex→St→Option (Ex×St)):ev9 Γ17 104 5 4 fi104 (zfv c0 a1 a2 a3 a4 a5 c6 g7 g8 g9 g10 a11 a12 a13 a14 c15 a16 a17) K=z3z c0 a1 a2 a3 g7 g8 g9 g10 a11 a12 a13 a14 c15 a16 a17 a4 a5 c6 (fun low' q1w' t24'=>K .normal (zfv c0 a1 a2 a3 low' q1w' t24' g7 g8 g9 g10 a11 a12 a13 a14 c15 a16 a17)) (fun _=>K .ret (ziz c0 a1 a2 a3 g7 g8 g9 g10 a11 a12 a13 a14 c15 a16 a17)) (fun c0_ c1_ c2_ c3_=>K (.exit 0) (zje c0 a1 a2 a3 g7 g8 g9 g10 a11 a12 a13 a14 c15 a16 a17 c0_ c1_ c2_ c3_)):=by kernel_rfl
theorem y93:∀ (n low q1w:Nat) (t24:Int),iter 104 5 4 (ev9 Γ17 104 5 4 fi104) n (zfv c0 a1 a2 a3 low q1w t24 g4 g5 g6 g7 a8 a9 a10 a11 c12 a13 a14) (fun e st=>some (e,st))=(zlz c0 a1 a2 a3 g4 g5 g6 g7 a8 a9 a10 a11 c12 a13 a14) (z0w c0 a1 a2 a3 g4 g5 g6 g7 a8 a9 a10 a11 c12 a13 a14 n low q1w t24):=by
 intro n
 induction n with
 | zero=>intros;rfl
 | succ n ih=>
  intro low q1w t24
  refine Eq.trans (iter_succ ..) (Eq.trans (y99 ..) (Eq.trans ?_ (y0z c0 a1 a2 a3 g4 g5 g6 g7 a8 a9 a10 a11 c12 a13 a14 low q1w t24 (zlz c0 a1 a2 a3 g4 g5 g6 g7 a8 a9 a10 a11 c12 a13 a14) rfl (fun low' q1w' t24'=>z0w c0 a1 a2 a3 g4 g5 g6 g7 a8 a9 a10 a11 c12 a13 a14 n low' q1w' t24') (fun _=>some (Sum.inl ())) (fun c0_ c1_ c2_ c3_=>some (Sum.inr (c0_,c1_,c2_,c3_))))))
  exact congrArg (fun kn_=>z3z c0 a1 a2 a3 g4 g5 g6 g7 a8 a9 a10 a11 c12 a13 a14 low q1w t24 kn_ _ _) (funext fun low'=>funext fun q1w'=>funext fun t24'=>ih ..)
theorem y3n:LoopOne J fnTab 104 5 zuq:=lpK y6t y6o (fi:=fi104) (by kernel_rfl) (by kernel_rfl) (q:=fun hs=>(zfv (hI hs 0) (hN hs 1) (hN hs 2) (hN hs 3) (hN hs 4) (hN hs 5) (hI hs 6) (hLn hs 7) (hLn hs 8) (hLn hs 9) (hLn hs 10) (hN hs 11) (hN hs 12) (hN hs 13) (hN hs 14) (hI hs 15) (hN hs 16) (hN hs 17))) (fun hs=>by kernel_rfl) fun hs h1=>Eq.trans (y93 (hI hs 0) (hN hs 1) (hN hs 2) (hN hs 3) (hLn hs 7) (hLn hs 8) (hLn hs 9) (hLn hs 10) (hN hs 11) (hN hs 12) (hN hs 13) (hN hs 14) (hI hs 15) (hN hs 16) (hN hs 17) big (hN hs 4) (hN hs 5) (hI hs 6)) (y9t (hI hs 0) (hN hs 1) (hN hs 2) (hN hs 3) (hLn hs 7) (hLn hs 8) (hLn hs 9) (hLn hs 10) (hN hs 11) (hN hs 12) (hN hs 13) (hN hs 14) (hI hs 15) (hN hs 16) (hN hs 17) _ h1)
def tb18:List (Nat×(List PT→Option (Bool×AV×List Blk))):=(129,zkj)::tb17
def lt18:List ((Nat×Nat)×(Nat→St→Option (Bool×LO))):=((104,5),zuq)::lt17
def Γ18:Ctx:=⟨tyTab,fnTab,tblSum tb18,tblLp lt18⟩
theorem y6s:SumL J tb18:=SumL.cons y4l (y6t)
theorem y6n:LpL J fnTab lt18:=LpL.cons y3n (y6o)
def zlj  : Option (Nat×Nat×Bool)→Option (AV×List Blk)
 | some r=>some ((.tup [(.one (.flt .f32 r.1)),(.one (.flt .f32 r.2.1)),(.one (.bool r.2.2))]),[])
 | none=>none
def zl2:List PT→Option (Bool×AV×List Blk)
 | [.ptr [.row 1 q07 (.fl .f32 q0a),.row 1 q09 (.fl .f32 q0c),.row 1 q08 (.fl .f32 q0d),.row 3 q0e (.fl .f32 q0f),.s (.int .i64 q0h),.s (.flt .f32 q0j),.s (.flt .f32 q0k)],.one (.s (.int .i64 x1)),.one (.s (.flt .f32 x2)),.one (.s (.flt .f32 x3)),.one (.s (.flt .f32 x4)),.one (.s (.flt .f32 x5))]=>sF zlj (z1x q07 q0a q09 q0c q08 q0d q0e q0f q0h q0j q0k x1 x2 x3 x4 x5)
 | _=>none
theorem y90:ev8 Γ18 88 [.ptr [.row 1 a0 (.fl .f32 g1),.row 1 a2 (.fl .f32 g3),.row 1 a4 (.fl .f32 g5),.row 3 a6 (.fl .f32 g7),.s (.int .i64 c8),.s (.flt .f32 a9),.s (.flt .f32 a10)],.one (.s (.int .i64 c11)),.one (.s (.flt .f32 a12)),.one (.s (.flt .f32 a13)),.one (.s (.flt .f32 a14)),.one (.s (.flt .f32 a15))]=zlj (z1x a0 g1 a2 g3 a4 g5 a6 g7 c8 a9 a10 c11 a12 a13 a14 a15):=tr2 (y21 a0 g1 a2 g3 a4 g5 a6 g7 c8 a9 a10 c11 a12 a13 a14 a15 zlj rfl (fun c0_ c1_ c2_=>some (c0_,c1_,c2_))) (by kernel_rfl)
theorem y47:SumOne J 88 zl2:=mkT y6s y6n fun pts v news hp=>by
 unfold zl2 at hp
 split at hp
 ·exact fin3 (y90 ..) hp
 ·cases hp
def zro  : Option (Nat×Bool)→Option (AV×List Blk)
 | some r=>some ((.tup [(.one (.flt .f32 r.1)),(.one (.bool r.2))]),[])
 | none=>none
def zrm:List PT→Option (Bool×AV×List Blk)
 | [.agg [.row 1 q00 (.fl .f32 q03),.row 1 q01 (.fl .f32 q05),.row 1 q02 (.fl .f32 q04),.row 3 q06 (.fl .f32 q0b),.s (.int .i64 q0g),.s (.flt .f32 q0o),.s (.flt .f32 q0n)],.one (.s (.int .i64 i)),.one (.s (.flt .f32 q0p)),.one (.s (.flt .f32 q0q)),.one (.s (.flt .f32 q0l))]=>sF zro (z79 q00 q03 q01 q05 q02 q04 q06 q0b q0g q0o q0n i q0p q0q q0l)
 | _=>none
theorem ye0:ev8 Γ18 104 [.agg [.row 1 a0 (.fl .f32 g1),.row 1 a2 (.fl .f32 g3),.row 1 a4 (.fl .f32 g5),.row 3 a6 (.fl .f32 g7),.s (.int .i64 c8),.s (.flt .f32 a9),.s (.flt .f32 a10)],.one (.s (.int .i64 c11)),.one (.s (.flt .f32 a12)),.one (.s (.flt .f32 a13)),.one (.s (.flt .f32 a14))]=zro (z79 a0 g1 a2 g3 a4 g5 a6 g7 c8 a9 a10 c11 a12 a13 a14):=tr2 (y7w a0 g1 a2 g3 a4 g5 a6 g7 c8 a9 a10 c11 a12 a13 a14 zro rfl (fun c0_ c1_=>some (c0_,c1_))) (by kernel_rfl)
theorem y9n:SumOne J 104 zrm:=mkT y6s y6n fun pts v news hp=>by
 unfold zrm at hp
 split at hp
 ·exact fin3 (ye0 ..) hp
 ·cases hp
def tb19:List (Nat×(List PT→Option (Bool×AV×List Blk))):=(88,zl2)::(104,zrm)::tb18
def lt19:List ((Nat×Nat)×(Nat→St→Option (Bool×LO))):=lt18
def Γ19:Ctx:=⟨tyTab,fnTab,tblSum tb19,tblLp lt19⟩
theorem yc5:SumL J tb19:=SumL.cons y47 (SumL.cons y9n (y6s))
theorem ydh:LpL J fnTab lt19:=y6n
def zg2  : Option (Nat×Nat×Bool)→Option (AV×List Blk)
 | some r=>some ((.tup [(.one (.flt .f32 r.1)),(.one (.flt .f32 r.2.1)),(.one (.bool r.2.2))]),[])
 | none=>none
def z9t:List PT→Option (Bool×AV×List Blk)
 | [.agg [.row 1 q07 (.fl .f32 q0a),.row 1 q09 (.fl .f32 q0c),.row 1 q08 (.fl .f32 q0d),.row 3 q0e (.fl .f32 q0f),.s (.int .i64 q0h),.s (.flt .f32 q0j),.s (.flt .f32 q0k)],.one (.s (.int .i64 x1)),.one (.s (.flt .f32 x2)),.one (.s (.flt .f32 x3)),.one (.s (.flt .f32 x4)),.one (.s (.flt .f32 x5))]=>sF zg2 (z1p q07 q0a q09 q0c q08 q0d q0e q0f q0h q0j q0k x1 x2 x3 x4 x5)
 | _=>none
theorem y10:ev8 Γ19 56 [.agg [.row 1 a0 (.fl .f32 g1),.row 1 a2 (.fl .f32 g3),.row 1 a4 (.fl .f32 g5),.row 3 a6 (.fl .f32 g7),.s (.int .i64 c8),.s (.flt .f32 a9),.s (.flt .f32 a10)],.one (.s (.int .i64 c11)),.one (.s (.flt .f32 a12)),.one (.s (.flt .f32 a13)),.one (.s (.flt .f32 a14)),.one (.s (.flt .f32 a15))]=zg2 (z1p a0 g1 a2 g3 a4 g5 a6 g7 c8 a9 a10 c11 a12 a13 a14 a15):=tr2 (zvk a0 g1 a2 g3 a4 g5 a6 g7 c8 a9 a10 c11 a12 a13 a14 a15 zg2 rfl (fun c0_ c1_ c2_=>some (c0_,c1_,c2_))) (by kernel_rfl)
theorem ziq:SumOne J 56 z9t:=mkT yc5 ydh fun pts v news hp=>by
 unfold z9t at hp
 split at hp
 ·exact fin3 (y10 ..) hp
 ·cases hp
def tb20:List (Nat×(List PT→Option (Bool×AV×List Blk))):=(56,z9t)::tb19
def lt20:List ((Nat×Nat)×(Nat→St→Option (Bool×LO))):=lt19
def Γ20:Ctx:=⟨tyTab,fnTab,tblSum tb20,tblLp lt20⟩
theorem ztr:SumL J tb20:=SumL.cons ziq (yc5)
theorem y6p:LpL J fnTab lt20:=ydh
def zfn:St:=(.mk [(x0P 0 4 7),(x0F 1 a0),(x0F 2 a1),(x0F 3 a2),(x0F 4 a3),(x0S 13 5 a4 1),(x0S 14 6 a5 1),(x0I 15 c6)] [(x0L g7),(x0L g8),(x0L g9),(x0L g10),(x0R false 0 1 2 3 a11 a12 a13 a14 c15 a16 a17),(x0T g18),(x0T g19)])
def zjo(t1 t2 t3 t4:Nat)(b0 b1 b2 b3:List Nat)(q0w q0x q0y q0r:Nat)(q1c:Int)(q1b q0z:Nat):St:=(.mk [(10,(.v (.one .nilsl))),(11,(.v (.one .nilsl))),(x0B 12 false)] [(x0L b0),(x0L b1),(x0L b2),(x0L b3),(x0R false 0 1 2 3 q0w q0x q0y q0r q1c q1b q0z)])
def zjw:St:=(.mk [(x0P 0 4 7),(x0F 1 a0),(x0F 2 a1),(x0F 3 a2),(x0F 4 a3),(x0S 13 5 a15 1),(x0S 14 6 a16 1),(x0I 15 c17),(x0B 35 e18)] [(x0L g4),(x0L g5),(x0L g6),(x0L g7),(x0R false 0 1 2 3 a8 a9 a10 a11 c12 a13 a14),(x0T g19),(x0T g20)])
def zll:Option ((Unit)⊕(Nat×Nat×Int×Bool×(List Nat)×(List Nat)))→Option (Ex×St)
 | none=>none
 | some (Sum.inl r)=>some (.ret,(zjo a0 a1 a2 a3 g4 g5 g6 g7 a8 a9 a10 a11 c12 a13 a14))
 | some (Sum.inr r)=>some ((.exit 0),(zjw a0 a1 a2 a3 g4 g5 g6 g7 a8 a9 a10 a11 c12 a13 a14 r.1 r.2.1 r.2.2.1 r.2.2.2.1 r.2.2.2.2.1 r.2.2.2.2.2))
def zt2 (x:Option ((Unit)⊕(Nat×Nat×Int×Bool×(List Nat)×(List Nat)))):LO:=(.two (oL x) (.one .ret (zjo a0 a1 a2 a3 g4 g5 g6 g7 a8 a9 a10 a11 c12 a13 a14)) (.one (.exit 0) (zjw a0 a1 a2 a3 g4 g5 g6 g7 a8 a9 a10 a11 c12 a13 a14 ((tR x).getD default).1 ((tR x).getD default).2.1 ((tR x).getD default).2.2.1 ((tR x).getD default).2.2.2.1 ((tR x).getD default).2.2.2.2.1 ((tR x).getD default).2.2.2.2.2)))
def y4t:Bool×LO:=sL (zt2 a0 a1 a2 a3 g7 g8 g9 g10 a11 a12 a13 a14 c15 a16 a17) (z0g a0 a1 a2 a3 g7 g8 g9 g10 a11 a12 a13 a14 c15 a16 a17 big a4 a5 c6 g18 g19)
def ztu:Nat→St→Option (Bool×LO):=lpT 5 (pSt [(x1P 0 4 7),(x1F 1),(x1F 2),(x1F 3),(x1F 4),(x1S 13 5 1),(x1S 14 6 1),(x1I 15)] [x1L,x1L,x1L,x1L,(x1R false 0 1 2 3),x1T,x1T]) (fun hs=>y4t (hN hs 0) (hN hs 1) (hN hs 2) (hN hs 3) (hN hs 4) (hN hs 5) (hI hs 6) (hLn hs 7) (hLn hs 8) (hLn hs 9) (hLn hs 10) (hN hs 11) (hN hs 12) (hN hs 13) (hN hs 14) (hI hs 15) (hN hs 16) (hN hs 17) (hLn hs 18) (hLn hs 19))
theorem y9u:∀ x:Option ((Unit)⊕(Nat×Nat×Int×Bool×(List Nat)×(List Nat))),x.isSome=true→(zll a0 a1 a2 a3 g4 g5 g6 g7 a8 a9 a10 a11 c12 a13 a14) x=some (pick (zt2 a0 a1 a2 a3 g4 g5 g6 g7 a8 a9 a10 a11 c12 a13 a14 x))
 | none,h=>by cases h
 | some (Sum.inl r),_=>rfl
 | some (Sum.inr r),_=>rfl
theorem y9l (K:Ex→St→Option (Ex×St)):ev9 Γ20 50 6 5 fi50 (zfn a0 a1 a2 a3 a4 a5 c6 g7 g8 g9 g10 a11 a12 a13 a14 c15 a16 a17 g18 g19) K=z3t a0 a1 a2 a3 g7 g8 g9 g10 a11 a12 a13 a14 c15 a16 a17 a4 a5 c6 g18 g19 (fun q2w' q2v' t15' b5' b6'=>K .normal (zfn a0 a1 a2 a3 q2w' q2v' t15' g7 g8 g9 g10 a11 a12 a13 a14 c15 a16 a17 b5' b6')) (fun _=>K .ret (zjo a0 a1 a2 a3 g7 g8 g9 g10 a11 a12 a13 a14 c15 a16 a17)) (fun c0_ c1_ c2_ c3_ c4_ c5_=>K (.exit 0) (zjw a0 a1 a2 a3 g7 g8 g9 g10 a11 a12 a13 a14 c15 a16 a17 c0_ c1_ c2_ c3_ c4_ c5_)):=by kernel_rfl
theorem ya3:∀ (n q2w q2v:Nat) (t15:Int) (b5 b6:List Nat),iter 50 6 5 (ev9 Γ20 50 6 5 fi50) n (zfn a0 a1 a2 a3 q2w q2v t15 g4 g5 g6 g7 a8 a9 a10 a11 c12 a13 a14 b5 b6) (fun e st=>some (e,st))=(zll a0 a1 a2 a3 g4 g5 g6 g7 a8 a9 a10 a11 c12 a13 a14) (z0g a0 a1 a2 a3 g4 g5 g6 g7 a8 a9 a10 a11 c12 a13 a14 n q2w q2v t15 b5 b6):=by
 intro n
 induction n with
 | zero=>intros;rfl
 | succ n ih=>
  intro q2w q2v t15 b5 b6
  refine Eq.trans (iter_succ ..) (Eq.trans (y9l ..) (Eq.trans ?_ (y28 a0 a1 a2 a3 g4 g5 g6 g7 a8 a9 a10 a11 c12 a13 a14 q2w q2v t15 b5 b6 (zll a0 a1 a2 a3 g4 g5 g6 g7 a8 a9 a10 a11 c12 a13 a14) rfl (fun q2w' q2v' t15' b5' b6'=>z0g a0 a1 a2 a3 g4 g5 g6 g7 a8 a9 a10 a11 c12 a13 a14 n q2w' q2v' t15' b5' b6') (fun _=>some (Sum.inl ())) (fun c0_ c1_ c2_ c3_ c4_ c5_=>some (Sum.inr (c0_,c1_,c2_,c3_,c4_,c5_))))))
  exact congrArg (fun kn_=>z3t a0 a1 a2 a3 g4 g5 g6 g7 a8 a9 a10 a11 c12 a13 a14 q2w q2v t15 b5 b6 kn_ _ _) (funext fun q2w'=>funext fun q2v'=>funext fun t15'=>funext fun b5'=>funext fun b6'=>ih ..)
theorem y41:LoopOne J fnTab 50 6 ztu:=lpK ztr y6p (fi:=fi50) (by kernel_rfl) (by kernel_rfl) (q:=fun hs=>(zfn (hN hs 0) (hN hs 1) (hN hs 2) (hN hs 3) (hN hs 4) (hN hs 5) (hI hs 6) (hLn hs 7) (hLn hs 8) (hLn hs 9) (hLn hs 10) (hN hs 11) (hN hs 12) (hN hs 13) (hN hs 14) (hI hs 15) (hN hs 16) (hN hs 17) (hLn hs 18) (hLn hs 19))) (fun hs=>by kernel_rfl) fun hs h1=>Eq.trans (ya3 (hN hs 0) (hN hs 1) (hN hs 2) (hN hs 3) (hLn hs 7) (hLn hs 8) (hLn hs 9) (hLn hs 10) (hN hs 11) (hN hs 12) (hN hs 13) (hN hs 14) (hI hs 15) (hN hs 16) (hN hs 17) big (hN hs 4) (hN hs 5) (hI hs 6) (hLn hs 18) (hLn hs 19)) (y9u (hN hs 0) (hN hs 1) (hN hs 2) (hN hs 3) (hLn hs 7) (hLn hs 8) (hLn hs 9) (hLn hs 10) (hN hs 11) (hN hs 12) (hN hs 13) (hN hs 14) (hI hs 15) (hN hs 16) (hN hs 17) _ h1)
def tb21:List (Nat×(List PT→Option (Bool×AV×List Blk))):=tb20
def lt21:List ((Nat×Nat)×(Nat→St→Option (Bool×LO))):=((50,6),ztu)::lt20
def Γ21:Ctx:=⟨tyTab,fnTab,tblSum tb21,tblLp lt21⟩
theorem ycb:SumL J tb21:=ztr
theorem yby:LpL J fnTab lt21:=LpL.cons y41 (y6p)
def zrd  : Option (Nat×Nat×Bool×(List Nat)×(List Nat))→Option (AV×List Blk)
 | some r=>some ((.tup [(.one (.sl 0 0 r.1 1)),(.one (.sl 1 0 r.2.1 1)),(.one (.bool r.2.2.1))]),[(.mk true (.fl .f32 r.2.2.2.1)),(.mk true (.fl .f32 r.2.2.2.2))])
 | none=>none
def zrr:List PT→Option (Bool×AV×List Blk)
 | [.ptr [.row 1 q07 (.fl .f32 q0a),.row 1 q09 (.fl .f32 q0c),.row 1 q08 (.fl .f32 q0d),.row 3 q0e (.fl .f32 q0f),.s (.int .i64 q0h),.s (.flt .f32 q0j),.s (.flt .f32 q0k)],.one (.s (.flt .f32 x1)),.one (.s (.flt .f32 x2)),.one (.s (.flt .f32 x3)),.one (.s (.flt .f32 x4))]=>sF zrd (z43 q07 q0a q09 q0c q08 q0d q0e q0f q0h q0j q0k x1 x2 x3 x4)
 | _=>none
end
end Go.Proofs.YtijjhfailnmeoaaGreat
