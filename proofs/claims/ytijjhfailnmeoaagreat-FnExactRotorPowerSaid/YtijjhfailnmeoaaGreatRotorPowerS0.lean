import Derived.Test.YtijjhfailnmeoaaGreatRotorPowerC
set_option linter.unusedVariables false
set_option linter.unusedSimpArgs false
set_option linter.unusedSectionVars false
set_option maxRecDepth 100000
set_option maxHeartbeats 4000000
namespace Go.Proofs.YtijjhfailnmeoaaGreat
open Go Go.Rf
variable {J:Jd Tryz.prog}
abbrev x0F(d x:Nat):Nat×AV:=(d,.v (.one (.flt .f32 x)))
abbrev x0I(d:Nat)(x:Int):Nat×AV:=(d,.v (.one (.int .i64 x)))
abbrev x0B(d:Nat)(x:Bool):Nat×AV:=(d,.v (.one (.bool x)))
abbrev x0P(d b n:Nat):Nat×AV:=(d,.v (.one (.ptr b 0 n)))
abbrev x0S(d b n s:Nat):Nat×AV:=(d,.v (.one (.sl b 0 n s)))
abbrev x0V(d b n s:Nat):Nat×AV:=(d,.v (.one (.vw b 0 n s)))
abbrev x0L(x:List Nat):Blk:=.mk false (.fl .f32 x)
abbrev x0T(x:List Nat):Blk:=.mk true (.fl .f32 x)
abbrev x0R(o:Bool)(b c d e k l m n:Nat)(i:Int)(x y:Nat):Blk:=.mk o (.cells [.vw b 0 k 1,.vw c 0 l 1,.vw d 0 m 1,.vw e 0 n 3,.int .i64 i,.flt .f32 x,.flt .f32 y])
abbrev x1R(o:Bool)(b c d e:Nat):=pBlk o (pCells [pVw b (liN 0) 1,pVw c (liN 0) 1,pVw d (liN 0) 1,pVw e (liN 0) 3,pInt .i64,pFlt .f32,pFlt .f32])
abbrev x1F(d:Nat):=pTm d (pV (pOne (pFlt .f32)))
abbrev x1I(d:Nat):=pTm d (pV (pOne (pInt .i64)))
abbrev x1B(d:Nat):=pTm d (pV (pOne pBool))
abbrev x1P(d b n:Nat):=pTm d (pV (pOne (pPtr b (liN 0) n)))
abbrev x1S(d b s:Nat):=pTm d (pV (pOne (pSl b (liN 0) s)))
abbrev x1V(d b s:Nat):=pTm d (pV (pOne (pVw b (liN 0) s)))
abbrev x1L:=pBlk false (pFl .f32)
abbrev x1T:=pBlk true (pFl .f32)
noncomputable section
variable (a0:Nat) (c0:Int) (e0:Bool) (a1:Nat) (c1:Int) (e1:Bool) (g1:List Nat) (m1:List Bool) (a2:Nat) (c2:Int) (e2:Bool) (g2:List Nat) (a3:Nat) (c3:Int) (g3:List Nat) (m3:List Bool) (a4:Nat) (c4:Int) (e4:Bool) (g4:List Nat) (m4:List Bool) (a5:Nat) (e5:Bool) (g5:List Nat) (a6:Nat) (c6:Int) (g6:List Nat) (a7:Nat) (c7:Int) (g7:List Nat) (a8:Nat) (c8:Int) (e8:Bool) (g8:List Nat) (a9:Nat) (c9:Int) (e9:Bool) (g9:List Nat) (a10:Nat) (c10:Int) (e10:Bool) (g10:List Nat) (a11:Nat) (c11:Int) (g11:List Nat) (a12:Nat) (c12:Int) (g12:List Nat) (a13:Nat) (c13:Int) (a14:Nat) (c14:Int) (e14:Bool) (g14:List Nat) (a15:Nat) (c15:Int) (e15:Bool) (g15:List Nat) (a16:Nat) (g16:List Nat) (a17:Nat) (c17:Int) (e18:Bool) (g18:List Nat) (c19:Int) (g19:List Nat) (a20:Nat) (g20:List Nat) (a21:Nat)
def zgi:List PT→Option (Bool×AV×List Blk)
 | [.one (.s (.flt .f32 x))]=>some (bnot (nanQ .f32 x),A1 (.int .u32 x),[])
 | _=>none
theorem zxq:SumOne J 147 zgi:=by
 intro pts v news hp w vals hv
 unfold zgi at hp
 split at hp
 ·rename_i x
  injection hp with hp
  injection hp with h1 hp
  injection hp with h2 h3
  subst h2
  subst h3
  obtain⟨l,hl⟩:∃ l,l=vals.toList:=⟨_,rfl⟩
  rw[← hl] at hv
  cases hv with
  | cons a1 a2=>
   cases a2
   obtain⟨b,hb1,hb2,hb3⟩:=a1
   subst hb1
   rename_i hx
   have hvals:vals=#[.float .f32 b]:=by rw[← Array.toList_inj,← hl]
   subst hvals
   have hn:nanB .f32 b=false:=by rw[← u4k,hb3];simpa [bnot,nanQ] using h1
   rw[u03 hn] at hb3
   subst hb3
   refine⟨nat_tame Tryz.func147 (Eq.mpr (by kernel_rfl:_=(Mute (.extern 147)∧True)) ⟨.inr ⟨_,rfl⟩,trivial⟩),.inl ⟨_,w,by (simp only[callFunc,Sem.run_bind,run_program,Result.andThen_ok,Tryz.func147];rfl),NoB,⟨⟨(fun t b' h=>by cases t<;>cases h),(fun t t' b1 b2 x x' _ h=>by cases t<;>cases h)⟩,(fun t x h=>by cases h),Fr.refl _ w⟩,rfl⟩⟩
 ·cases hp
def zbj:List PT→Option (Bool×AV×List Blk)
 | [.one (.s (.int .u64 x))]=>some (okU .f64 x,A1 (.flt .f64 (cnI .f64 x)),[])
 | _=>none
theorem zs2:SumOne J 167 zbj:=by
 intro pts v news hp w vals hv
 unfold zbj at hp
 split at hp
 ·rename_i x
  injection hp with hp
  injection hp with h1 hp
  injection hp with h2 h3
  subst h2
  subst h3
  obtain⟨l,hl⟩:∃ l,l=vals.toList:=⟨_,rfl⟩
  rw[← hl] at hv
  cases hv with
  | cons a1 a2=>
   cases a2
   have hb1:_=Value.int .u64 x:=a1
   subst hb1
   rename_i hx
   have hvals:vals=#[.int .u64 x]:=by rw[← Array.toList_inj,← hl]
   subst hvals
   have hw:=okU_lt h1
   refine⟨nat_tame Tryz.func167 (Eq.mpr (by kernel_rfl:_=(Mute (.extern 167)∧True)) ⟨.inr ⟨_,rfl⟩,trivial⟩),.inl ⟨_,w,by (simp only[callFunc,Sem.run_bind,run_program,Result.andThen_ok,Tryz.func167];rfl),NoB,⟨⟨(fun t b' h=>by cases t<;>cases h),(fun t t' b1 b2 x x' _ h=>by cases t<;>cases h)⟩,(fun t x h=>by cases h),Fr.refl _ w⟩,⟨_,rfl,hw,rfl⟩⟩⟩
 ·cases hp
def zgl:List PT→Option (Bool×AV×List Blk)
 | [.one (.s (.flt .f64 x))]=>some (bnot (nanQ .f64 x),A1 (.int .u64 x),[])
 | _=>none
theorem zxm:SumOne J 173 zgl:=by
 intro pts v news hp w vals hv
 unfold zgl at hp
 split at hp
 ·rename_i x
  injection hp with hp
  injection hp with h1 hp
  injection hp with h2 h3
  subst h2
  subst h3
  obtain⟨l,hl⟩:∃ l,l=vals.toList:=⟨_,rfl⟩
  rw[← hl] at hv
  cases hv with
  | cons a1 a2=>
   cases a2
   obtain⟨b,hb1,hb2,hb3⟩:=a1
   subst hb1
   rename_i hx
   have hvals:vals=#[.float .f64 b]:=by rw[← Array.toList_inj,← hl]
   subst hvals
   have hn:nanB .f64 b=false:=by rw[← u4k,hb3];simpa [bnot,nanQ] using h1
   rw[u03 hn] at hb3
   subst hb3
   refine⟨nat_tame Tryz.func173 (Eq.mpr (by kernel_rfl:_=(Mute (.extern 173)∧True)) ⟨.inr ⟨_,rfl⟩,trivial⟩),.inl ⟨_,w,by (simp only[callFunc,Sem.run_bind,run_program,Result.andThen_ok,Tryz.func173];rfl),NoB,⟨⟨(fun t b' h=>by cases t<;>cases h),(fun t t' b1 b2 x x' _ h=>by cases t<;>cases h)⟩,(fun t x h=>by cases h),Fr.refl _ w⟩,rfl⟩⟩
 ·cases hp
def zjw:List PT→Option (Bool×AV×List Blk)
 | [.one (.s (.flt .f64 x))]=>some (bnot (nanQ .f64 x),A1 (.flt .f64 (fint .zero x)),[])
 | _=>none
theorem y22:SumOne J 177 zjw:=by
 intro pts v news hp w vals hv
 unfold zjw at hp
 split at hp
 ·rename_i x
  injection hp with hp
  injection hp with h1 hp
  injection hp with h2 h3
  subst h2
  subst h3
  obtain⟨l,hl⟩:∃ l,l=vals.toList:=⟨_,rfl⟩
  rw[← hl] at hv
  cases hv with
  | cons a1 a2=>
   cases a2
   obtain⟨b,hb1,hb2,hb3⟩:=a1
   subst hb1
   rename_i hx
   have hvals:vals=#[.float .f64 b]:=by rw[← Array.toList_inj,← hl]
   subst hvals
   have hn:nanB .f64 b=false:=by rw[← u4k,hb3];simpa [bnot,nanQ] using h1
   rw[u03 hn] at hb3
   subst hb3
   refine⟨nat_tame Tryz.func177 (Eq.mpr (by kernel_rfl:_=(Mute (.extern 177)∧Tame Tryz.prog (do let v ← Extern.MathFloor.toIntegral "math.archTrunc" .zero #[.float .f64 b];pure (.value v):Sem Next))) ⟨.inr ⟨_,rfl⟩,tv (t_integral _ _ _)⟩),.inl ⟨_,w,by (simp only[callFunc,Sem.run_bind,run_program,Result.andThen_ok,Tryz.func177];change (do let v ← Extern.MathFloor.toIntegral "math.archTrunc" .zero #[.float .f64 b];pure (.value v):Sem Next).run Tryz.prog w=_;rw[Sem.run_bind,run_fint hn];rfl),NoB,⟨⟨(fun t b' h=>by cases t<;>cases h),(fun t t' b1 b2 x x' _ h=>by cases t<;>cases h)⟩,(fun t x h=>by cases h),Fr.refl _ w⟩,fint_rel hn⟩⟩
 ·cases hp
def zju:List PT→Option (Bool×AV×List Blk)
 | [.one (.s (.flt .f64 x))]=>some (bnot (nanQ .f64 x),A1 (.flt .f64 (fint .down x)),[])
 | _=>none
theorem y18:SumOne J 179 zju:=by
 intro pts v news hp w vals hv
 unfold zju at hp
 split at hp
 ·rename_i x
  injection hp with hp
  injection hp with h1 hp
  injection hp with h2 h3
  subst h2
  subst h3
  obtain⟨l,hl⟩:∃ l,l=vals.toList:=⟨_,rfl⟩
  rw[← hl] at hv
  cases hv with
  | cons a1 a2=>
   cases a2
   obtain⟨b,hb1,hb2,hb3⟩:=a1
   subst hb1
   rename_i hx
   have hvals:vals=#[.float .f64 b]:=by rw[← Array.toList_inj,← hl]
   subst hvals
   have hn:nanB .f64 b=false:=by rw[← u4k,hb3];simpa [bnot,nanQ] using h1
   rw[u03 hn] at hb3
   subst hb3
   refine⟨nat_tame Tryz.func179 (Eq.mpr (by kernel_rfl:_=(Mute (.extern 179)∧Tame Tryz.prog (do let v ← Extern.MathFloor.toIntegral "math.archFloor" .down #[.float .f64 b];pure (.value v):Sem Next))) ⟨.inr ⟨_,rfl⟩,tv (t_integral _ _ _)⟩),.inl ⟨_,w,by (simp only[callFunc,Sem.run_bind,run_program,Result.andThen_ok,Tryz.func179];change (do let v ← Extern.MathFloor.toIntegral "math.archFloor" .down #[.float .f64 b];pure (.value v):Sem Next).run Tryz.prog w=_;rw[Sem.run_bind,run_fint hn];rfl),NoB,⟨⟨(fun t b' h=>by cases t<;>cases h),(fun t t' b1 b2 x x' _ h=>by cases t<;>cases h)⟩,(fun t x h=>by cases h),Fr.refl _ w⟩,fint_rel hn⟩⟩
 ·cases hp
def sF{α:Type}[Inhabited α] (o:Option α→Option (AV×List Blk)) (x:Option α):Option (Bool×AV×List Blk):=sP x.isSome o (x.getD default)
theorem fin3{α:Type}[Inhabited α] {a:Option (AV×List Blk)} {o:Option α→Option (AV×List Blk)} {x:Option α} {v:AV} {news:List Blk} (h:a=o x) (hp:sF o x=some (true,v,news)):a=some (v,news):=fin2 h hp
def sL{α:Type}(lo:Option α→LO)(x:Option α):Bool×LO:=(x.isSome,lo x)
theorem mkT {tb:List (Nat×(List PT→Option (Bool×AV×List Blk)))} {lt:List ((Nat×Nat)×(Nat→St→Option (Bool×LO)))} {J:Jd Tryz.prog} (h1:SumL J tb) (h2:LpL J fnTab lt) {g:FuncId} {F:List PT→Option (Bool×AV×List Blk)} (h:∀ pts v news,F pts=some (true,v,news)→ev8 ⟨tyTab,fnTab,tblSum tb,tblLp lt⟩ g pts=some (v,news)):SumOne J g F:=
 sum_of (Γ:=⟨tyTab,fnTab,tblSum tb,tblLp lt⟩) (fuel:=8) (d:=8) tyTab_ok (FnL.ok fnTab_ok _ _) (LpL.ok h2) (SumL.ok h1 _) mixed fun pts v news hp _=>h pts v news hp
theorem lpK {tb:List (Nat×(List PT→Option (Bool×AV×List Blk)))} {lt:List ((Nat×Nat)×(Nat→St→Option (Bool×LO)))} {J:Jd Tryz.prog} (h1:SumL J tb) (h2:LpL J fnTab lt) {f id lo0:Nat} {fi:FnI} (hfi:Rf.look fnTab f=some fi) (hu:noTwo (lids (loopsIn fi.code))=true) {p:Pz St} {F:List Hv→Bool×LO} {q:List Hv→St}
  (hq:∀ hs,p.fil hs 0=q hs) (h:∀ hs,(F hs).1=true→iter f id lo0 (ev9 ⟨tyTab,fnTab,tblSum tb,tblLp lt⟩ f id lo0 fi) big (q hs) (fun e st=>some (e,st))=some (pick (F hs).2)) (hb:Nat.beq id bodyId=false:=by rfl):LoopOne J fnTab f id (lpT lo0 p F):=
 lp9 (Γ:=⟨tyTab,fnTab,tblSum tb,tblLp lt⟩) tyTab_ok (FnL.ok fnTab_ok _ _) (LpL.ok h2) (SumL.ok h1 _) mixed hfi hu hq h hb
def tb0:List (Nat×(List PT→Option (Bool×AV×List Blk))):=[(147,zgi),(167,zbj),(173,zgl),(177,zjw),(179,zju)]
def lt0:List ((Nat×Nat)×(Nat→St→Option (Bool×LO))):=[]
def Γ0:Ctx:=⟨tyTab,fnTab,tblSum tb0,tblLp lt0⟩
theorem z77:SumL J tb0:=SumL.cons zxq (SumL.cons zs2 (SumL.cons zxm (SumL.cons y22 (SumL.cons y18 (SumL.nil)))))
theorem z79:LpL J fnTab lt0:=LpL.nil
def zjq  : Option (Bool)→Option (AV×List Blk)
 | some r=>some ((.v (.one (.bool r))),[])
 | none=>none
def zkg:List PT→Option (Bool×AV×List Blk)
 | [.one (.s (.flt .f64 a)),.one (.s (.flt .f64 b))]=>sF zjq (z5y a b)
 | _=>none
theorem y7g:ev8 Γ0 35 [.one (.s (.flt .f64 a0)),.one (.s (.flt .f64 a1))]=zjq (z5y a0 a1):=tr2 (y02 a0 a1 zjq rfl (fun c0_=>some c0_)) (by kernel_rfl)
theorem y1r:SumOne J 35 zkg:=mkT z77 z79 fun pts v news hp=>by
 unfold zkg at hp
 split at hp
 ·exact fin3 (y7g ..) hp
 ·cases hp
def zqh  : Option (Bool)→Option (AV×List Blk)
 | some r=>some ((.v (.one (.bool r))),[])
 | none=>none
def zqf:List PT→Option (Bool×AV×List Blk)
 | [.one (.s (.int .i64 n_)),.one (.s (.int .i64 low)),.one (.s (.int .i64 q22))]=>sF zqh (z8j n_ low q22)
 | _=>none
theorem ybe:ev8 Γ0 52 [.one (.s (.int .i64 c0)),.one (.s (.int .i64 c1)),.one (.s (.int .i64 c2))]=zqh (z8j c0 c1 c2):=tr2 (y4w c0 c1 c2 zqh rfl (fun c0_=>some c0_)) (by kernel_rfl)
theorem y6z:SumOne J 52 zqf:=mkT z77 z79 fun pts v news hp=>by
 unfold zqf at hp
 split at hp
 ·exact fin3 (ybe ..) hp
 ·cases hp
def zmz  : Option (Bool)→Option (AV×List Blk)
 | some r=>some ((.v (.one (.bool r))),[])
 | none=>none
def zmg:List PT→Option (Bool×AV×List Blk)
 | [.one (.s (.flt .f32 x))]=>sF zmz (z89 x)
 | _=>none
theorem y8g:ev8 Γ0 65 [.one (.s (.flt .f32 a0))]=zmz (z89 a0):=tr2 (y1w a0 zmz rfl (fun c0_=>some c0_)) (by kernel_rfl)
theorem y33:SumOne J 65 zmg:=mkT z77 z79 fun pts v news hp=>by
 unfold zmg at hp
 split at hp
 ·exact fin3 (y8g ..) hp
 ·cases hp
def zsh  : Option (Bool)→Option (AV×List Blk)
 | some r=>some ((.v (.one (.bool r))),[])
 | none=>none
def zsv:List PT→Option (Bool×AV×List Blk)
 | [.one (.s (.int .i64 n_)),.one (.s (.int .i64 low)),.one (.s (.int .i64 q22))]=>sF zsh (z9p n_ low q22)
 | _=>none
theorem ybz:ev8 Γ0 68 [.one (.s (.int .i64 c0)),.one (.s (.int .i64 c1)),.one (.s (.int .i64 c2))]=zsh (z9p c0 c1 c2):=tr2 (y6t c0 c1 c2 zsh rfl (fun c0_=>some c0_)) (by kernel_rfl)
theorem y90:SumOne J 68 zsv:=mkT z77 z79 fun pts v news hp=>by
 unfold zsv at hp
 split at hp
 ·exact fin3 (ybz ..) hp
 ·cases hp
def zi5  : Option (Int)→Option (AV×List Blk)
 | some r=>some ((.v (.one (.int .i64 r))),[])
 | none=>none
def zhx:List PT→Option (Bool×AV×List Blk)
 | [.one (.row 3 a_n (.fl .f32 a)),.one (.s (.int .i64 q2j))]=>sF zi5 (z54 a_n a q2j)
 | _=>none
theorem y5h:ev8 Γ0 71 [.one (.row 3 a0 (.fl .f32 g1)),.one (.s (.int .i64 c2))]=zi5 (z54 a0 g1 c2):=tr2 (zyc a0 g1 c2 zi5 rfl (fun c0_=>some c0_)) (by kernel_rfl)
theorem y00:SumOne J 71 zhx:=mkT z77 z79 fun pts v news hp=>by
 unfold zhx at hp
 split at hp
 ·exact fin3 (y5h ..) hp
 ·cases hp
def zkc  : Option (Bool)→Option (AV×List Blk)
 | some r=>some ((.v (.one (.bool r))),[])
 | none=>none
def zk2:List PT→Option (Bool×AV×List Blk)
 | [.one (.s (.flt .f32 x))]=>sF zkc (z7f x)
 | _=>none
theorem y75:ev8 Γ0 84 [.one (.s (.flt .f32 a0))]=zkc (z7f a0):=tr2 (y0a a0 zkc rfl (fun c0_=>some c0_)) (by kernel_rfl)
theorem y2n:SumOne J 84 zk2:=mkT z77 z79 fun pts v news hp=>by
 unfold zk2 at hp
 split at hp
 ·exact fin3 (y75 ..) hp
 ·cases hp
def zio  : Option (Int)→Option (AV×List Blk)
 | some r=>some ((.v (.one (.int .i64 r))),[])
 | none=>none
def zir:List PT→Option (Bool×AV×List Blk)
 | [.one (.row 1 a_n (.fl .f32 a)),.one (.s (.int .i64 q2j))]=>sF zio (z55 a_n a q2j)
 | _=>none
theorem y5e:ev8 Γ0 117 [.one (.row 1 a0 (.fl .f32 g1)),.one (.s (.int .i64 c2))]=zio (z55 a0 g1 c2):=tr2 (zxe a0 g1 c2 zio rfl (fun c0_=>some c0_)) (by kernel_rfl)
theorem zyp:SumOne J 117 zir:=mkT z77 z79 fun pts v news hp=>by
 unfold zir at hp
 split at hp
 ·exact fin3 (y5e ..) hp
 ·cases hp
def zks:Option (Unit)→Option (AV×List Blk)
 | some r=>some ((.v (.agg [(.flt .f32 a0),(.flt .f32 a1),(.flt .f32 a2)])),[])
 | none=>none
def zl0:List PT→Option (Bool×AV×List Blk)
 | [.agg [.s (.flt .f32 q2p),.s (.flt .f32 q2s),.s (.flt .f32 q2r)]]=>sF (zks q2p q2s q2r) (zkw q2p q2s q2r)
 | _=>none
theorem y7v:ev8 Γ0 118 [.agg [.s (.flt .f32 a0),.s (.flt .f32 a1),.s (.flt .f32 a2)]]=(zks a0 a1 a2) (zkw a0 a1 a2):=tr2 (zzo a0 a1 a2 (zks a0 a1 a2) rfl (fun _=>some ())) (by kernel_rfl)
theorem y1s:SumOne J 118 zl0:=mkT z77 z79 fun pts v news hp=>by
 unfold zl0 at hp
 split at hp
 ·exact fin3 (y7v ..) hp
 ·cases hp
def zmd  : Option (Bool)→Option (AV×List Blk)
 | some r=>some ((.v (.one (.bool r))),[])
 | none=>none
def zm2:List PT→Option (Bool×AV×List Blk)
 | [.one (.s (.flt .f32 x)),.one (.s (.flt .f32 low)),.one (.s (.flt .f32 q22))]=>sF zmd (z6m x low q22)
 | _=>none
theorem y9e:ev8 Γ0 134 [.one (.s (.flt .f32 a0)),.one (.s (.flt .f32 a1)),.one (.s (.flt .f32 a2))]=zmd (z6m a0 a1 a2):=tr2 (y1y a0 a1 a2 zmd rfl (fun c0_=>some c0_)) (by kernel_rfl)
theorem y4j:SumOne J 134 zm2:=mkT z77 z79 fun pts v news hp=>by
 unfold zm2 at hp
 split at hp
 ·exact fin3 (y9e ..) hp
 ·cases hp
def zd0  : Option (Nat)→Option (AV×List Blk)
 | some r=>some ((.v (.one (.flt .f32 r))),[])
 | none=>none
def zcr:List PT→Option (Bool×AV×List Blk)
 | [.agg [.row 1 q00 (.fl .f32 q03),.row 1 q02 (.fl .f32 q04),.row 1 q01 (.fl .f32 q05),.row 3 q06 (.fl .f32 q07),.s (.int .i64 q0b),.s (.flt .f32 q0j),.s (.flt .f32 q0i)],.one (.s (.int .i64 i))]=>sF zd0 (z3a q00 q03 q02 q04 q01 q05 q06 q07 q0b q0j q0i i)
 | _=>none
theorem zy1:ev8 Γ0 142 [.agg [.row 1 a0 (.fl .f32 g1),.row 1 a2 (.fl .f32 g3),.row 1 a4 (.fl .f32 g5),.row 3 a6 (.fl .f32 g7),.s (.int .i64 c8),.s (.flt .f32 a9),.s (.flt .f32 a10)],.one (.s (.int .i64 c11))]=zd0 (z3a a0 g1 a2 g3 a4 g5 a6 g7 c8 a9 a10 c11):=tr2 (zrt a0 g1 a2 g3 a4 g5 a6 g7 c8 a9 a10 c11 zd0 rfl (fun c0_=>some c0_)) (by kernel_rfl)
theorem zt8:SumOne J 142 zcr:=mkT z77 z79 fun pts v news hp=>by
 unfold zcr at hp
 split at hp
 ·exact fin3 (zy1 ..) hp
 ·cases hp
def zqk  : Option (Nat)→Option (AV×List Blk)
 | some r=>some ((.v (.one (.flt .f32 r))),[])
 | none=>none
def zq6:List PT→Option (Bool×AV×List Blk)
 | [.ptr [.row 1 q00 (.fl .f32 q03),.row 1 q02 (.fl .f32 q04),.row 1 q01 (.fl .f32 q05),.row 3 q06 (.fl .f32 q07),.s (.int .i64 q0b),.s (.flt .f32 q0j),.s (.flt .f32 q0i)],.one (.s (.int .i64 i)),.one (.s (.flt .f32 q3o))]=>sF zqk (z8h q00 q03 q02 q04 q01 q05 q06 q07 q0b q0j q0i i q3o)
 | _=>none
theorem ybp:ev8 Γ0 151 [.ptr [.row 1 a0 (.fl .f32 g1),.row 1 a2 (.fl .f32 g3),.row 1 a4 (.fl .f32 g5),.row 3 a6 (.fl .f32 g7),.s (.int .i64 c8),.s (.flt .f32 a9),.s (.flt .f32 a10)],.one (.s (.int .i64 c11)),.one (.s (.flt .f32 a12))]=zqk (z8h a0 g1 a2 g3 a4 g5 a6 g7 c8 a9 a10 c11 a12):=tr2 (y62 a0 g1 a2 g3 a4 g5 a6 g7 c8 a9 a10 c11 a12 zqk rfl (fun c0_=>some c0_)) (by kernel_rfl)
theorem y7f:SumOne J 151 zq6:=mkT z77 z79 fun pts v news hp=>by
 unfold zq6 at hp
 split at hp
 ·exact fin3 (ybp ..) hp
 ·cases hp
def zgt  : Option (Nat)→Option (AV×List Blk)
 | some r=>some ((.v (.one (.flt .f32 r))),[])
 | none=>none
def zgz:List PT→Option (Bool×AV×List Blk)
 | [.ptr [.row 1 q00 (.fl .f32 q03),.row 1 q02 (.fl .f32 q04),.row 1 q01 (.fl .f32 q05),.row 3 q06 (.fl .f32 q07),.s (.int .i64 q0b),.s (.flt .f32 q0j),.s (.flt .f32 q0i)],.one (.s (.int .i64 i))]=>sF zgt (z4n q00 q03 q02 q04 q01 q05 q06 q07 q0b q0j q0i i)
 | _=>none
theorem y37:ev8 Γ0 152 [.ptr [.row 1 a0 (.fl .f32 g1),.row 1 a2 (.fl .f32 g3),.row 1 a4 (.fl .f32 g5),.row 3 a6 (.fl .f32 g7),.s (.int .i64 c8),.s (.flt .f32 a9),.s (.flt .f32 a10)],.one (.s (.int .i64 c11))]=zgt (z4n a0 g1 a2 g3 a4 g5 a6 g7 c8 a9 a10 c11):=tr2 (zwh a0 g1 a2 g3 a4 g5 a6 g7 c8 a9 a10 c11 zgt rfl (fun c0_=>some c0_)) (by kernel_rfl)
theorem zww:SumOne J 152 zgz:=mkT z77 z79 fun pts v news hp=>by
 unfold zgz at hp
 split at hp
 ·exact fin3 (y37 ..) hp
 ·cases hp
def y0b  : Option (Nat)→Option (AV×List Blk)
 | some r=>some ((.v (.one (.flt .f64 r))),[])
 | none=>none
def y0g:List PT→Option (Bool×AV×List Blk)
 | []=>sF y0b zeb
 | _=>none
theorem yd5  : ev8 Γ0 158 []=y0b (zeb):=tr2 (y9l  y0b rfl (fun c0_=>some c0_)) (by kernel_rfl)
theorem ybl:SumOne J 158 y0g:=mkT z77 z79 fun pts v news hp=>by
 unfold y0g at hp
 split at hp
 ·exact fin3 yd5 hp
 ·cases hp
def zsc  : Option (Nat)→Option (AV×List Blk)
 | some r=>some ((.v (.one (.flt .f32 r))),[])
 | none=>none
def zsy:List PT→Option (Bool×AV×List Blk)
 | [.one (.s (.flt .f32 a)),.one (.s (.flt .f32 b)),.one (.s (.flt .f32 q3j))]=>sF zsc (zdb a b q3j)
 | _=>none
theorem ycf:ev8 Γ0 162 [.one (.s (.flt .f32 a0)),.one (.s (.flt .f32 a1)),.one (.s (.flt .f32 a2))]=zsc (zdb a0 a1 a2):=tr2 (y77 a0 a1 a2 zsc rfl (fun c0_=>some c0_)) (by kernel_rfl)
theorem y8e:SumOne J 162 zsy:=mkT z77 z79 fun pts v news hp=>by
 unfold zsy at hp
 split at hp
 ·exact fin3 (ycf ..) hp
 ·cases hp
def zl4  : Option (Nat)→Option (AV×List Blk)
 | some r=>some ((.v (.one (.flt .f32 r))),[])
 | none=>none
def zl3:List PT→Option (Bool×AV×List Blk)
 | [.one (.s (.flt .f64 x))]=>sF zl4 (z5z x)
 | _=>none
theorem y7w:ev8 Γ0 163 [.one (.s (.flt .f64 a0))]=zl4 (z5z a0):=tr2 (zyx a0 zl4 rfl (fun c0_=>some c0_)) (by kernel_rfl)
theorem y17:SumOne J 163 zl3:=mkT z77 z79 fun pts v news hp=>by
 unfold zl3 at hp
 split at hp
 ·exact fin3 (y7w ..) hp
 ·cases hp
def y0k  : Option (Nat)→Option (AV×List Blk)
 | some r=>some ((.v (.one (.flt .f64 r))),[])
 | none=>none
def y0j:List PT→Option (Bool×AV×List Blk)
 | [.one (.s (.flt .f64 x))]=>sF y0k (zdy x)
 | _=>none
theorem yd2:ev8 Γ0 168 [.one (.s (.flt .f64 a0))]=y0k (zdy a0):=tr2 (ya2 a0 y0k rfl (fun c0_=>some c0_)) (by kernel_rfl)
theorem ybu:SumOne J 168 y0j:=mkT z77 z79 fun pts v news hp=>by
 unfold y0j at hp
 split at hp
 ·exact fin3 (yd2 ..) hp
 ·cases hp
def tb1:List (Nat×(List PT→Option (Bool×AV×List Blk))):=(35,zkg)::(52,zqf)::(65,zmg)::(68,zsv)::(71,zhx)::(84,zk2)::(117,zir)::(118,zl0)::(134,zm2)::(142,zcr)::(151,zq6)::(152,zgz)::(158,y0g)::(162,zsy)::(163,zl3)::(168,y0j)::tb0
def lt1:List ((Nat×Nat)×(Nat→St→Option (Bool×LO))):=lt0
def Γ1:Ctx:=⟨tyTab,fnTab,tblSum tb1,tblLp lt1⟩
theorem z66:SumL J tb1:=SumL.cons y1r (SumL.cons y6z (SumL.cons y33 (SumL.cons y90 (SumL.cons y00 (SumL.cons y2n (SumL.cons zyp (SumL.cons y1s (SumL.cons y4j (SumL.cons zt8 (SumL.cons y7f (SumL.cons zww (SumL.cons ybl (SumL.cons y8e (SumL.cons y17 (SumL.cons ybu (z77))))))))))))))))
theorem z65:LpL J fnTab lt1:=z79
def zox  : Option (Nat×Bool)→Option (AV×List Blk)
 | some r=>some ((.tup [(.one (.flt .f32 r.1)),(.one (.bool r.2))]),[])
 | none=>none
def zp8:List PT→Option (Bool×AV×List Blk)
 | [.one (.s (.flt .f32 x))]=>sF zox (z6b x)
 | _=>none
theorem y9j:ev8 Γ1 59 [.one (.s (.flt .f32 a0))]=zox (z6b a0):=tr2 (y44 a0 zox rfl (fun c0_ c1_=>some (c0_,c1_))) (by kernel_rfl)
theorem y52:SumOne J 59 zp8:=mkT z66 z65 fun pts v news hp=>by
 unfold zp8 at hp
 split at hp
 ·exact fin3 (y9j ..) hp
 ·cases hp
def zkr  : Option (Int)→Option (AV×List Blk)
 | some r=>some ((.v (.one (.int .i64 r))),[])
 | none=>none
def zjs:List PT→Option (Bool×AV×List Blk)
 | [.agg [.row 1 q1s (.fl .f32 q25),.row 1 q1y (.fl .f32 q28),.row 1 q1z (.fl .f32 q29)],.one (.s (.int .i64 q2j))]=>sF zkr (z62 q1s q25 q1y q28 q1z q29 q2j)
 | _=>none
theorem y7t:ev8 Γ1 70 [.agg [.row 1 a0 (.fl .f32 g1),.row 1 a2 (.fl .f32 g3),.row 1 a4 (.fl .f32 g5)],.one (.s (.int .i64 c6))]=zkr (z62 a0 g1 a2 g3 a4 g5 c6):=tr2 (zzl a0 g1 a2 g3 a4 g5 c6 zkr rfl (fun c0_=>some c0_)) (by kernel_rfl)
theorem y1i:SumOne J 70 zjs:=mkT z66 z65 fun pts v news hp=>by
 unfold zjs at hp
 split at hp
 ·exact fin3 (y7t ..) hp
 ·cases hp
def zk0  : Option (Nat×Bool)→Option (AV×List Blk)
 | some r=>some ((.tup [(.one (.flt .f32 r.1)),(.one (.bool r.2))]),[])
 | none=>none
def zl1:List PT→Option (Bool×AV×List Blk)
 | [.one (.s (.flt .f32 x))]=>sF zk0 (z4l x)
 | _=>none
theorem y74:ev8 Γ1 72 [.one (.s (.flt .f32 a0))]=zk0 (z4l a0):=tr2 (zzh a0 zk0 rfl (fun c0_ c1_=>some (c0_,c1_))) (by kernel_rfl)
theorem y2a:SumOne J 72 zl1:=mkT z66 z65 fun pts v news hp=>by
 unfold zl1 at hp
 split at hp
 ·exact fin3 (y74 ..) hp
 ·cases hp
def zmw  : Option (Bool)→Option (AV×List Blk)
 | some r=>some ((.v (.one (.bool r))),[])
 | none=>none
def zn9:List PT→Option (Bool×AV×List Blk)
 | [.one (.s (.flt .f32 x))]=>sF zmw (z6q x)
 | _=>none
theorem y92:ev8 Γ1 83 [.one (.s (.flt .f32 a0))]=zmw (z6q a0):=tr2 (y1n a0 zmw rfl (fun c0_=>some c0_)) (by kernel_rfl)
theorem y3x:SumOne J 83 zn9:=mkT z66 z65 fun pts v news hp=>by
 unfold zn9 at hp
 split at hp
 ·exact fin3 (y92 ..) hp
 ·cases hp
def zp4  : Option (Bool)→Option (AV×List Blk)
 | some r=>some ((.v (.one (.bool r))),[])
 | none=>none
def zoe:List PT→Option (Bool×AV×List Blk)
 | [.one (.s (.flt .f32 x))]=>sF zp4 (z7l x)
 | _=>none
theorem y9s:ev8 Γ1 90 [.one (.s (.flt .f32 a0))]=zp4 (z7l a0):=tr2 (y3o a0 zp4 rfl (fun c0_=>some c0_)) (by kernel_rfl)
theorem y5t:SumOne J 90 zoe:=mkT z66 z65 fun pts v news hp=>by
 unfold zoe at hp
 split at hp
 ·exact fin3 (y9s ..) hp
 ·cases hp
def zeq  : Option (Bool)→Option (AV×List Blk)
 | some r=>some ((.v (.one (.bool r))),[])
 | none=>none
def zdx:List PT→Option (Bool×AV×List Blk)
 | [.one (.s (.flt .f32 x))]=>sF zeq (z3k x)
 | _=>none
theorem zzz:ev8 Γ1 115 [.one (.s (.flt .f32 a0))]=zeq (z3k a0):=tr2 (zu4 a0 zeq rfl (fun c0_=>some c0_)) (by kernel_rfl)
theorem zuj:SumOne J 115 zdx:=mkT z66 z65 fun pts v news hp=>by
 unfold zdx at hp
 split at hp
 ·exact fin3 (zzz ..) hp
 ·cases hp
def zkl  : Option (Bool)→Option (AV×List Blk)
 | some r=>some ((.v (.one (.bool r))),[])
 | none=>none
def zk4:List PT→Option (Bool×AV×List Blk)
 | [.agg [.s (.flt .f32 q2p),.s (.flt .f32 q2s),.s (.flt .f32 q2r)],.agg [.s (.flt .f32 q37),.s (.flt .f32 q3a),.s (.flt .f32 q3b)]]=>sF zkl (z5v q2p q2s q2r q37 q3a q3b)
 | _=>none
theorem y7e:ev8 Γ1 119 [.agg [.s (.flt .f32 a0),.s (.flt .f32 a1),.s (.flt .f32 a2)],.agg [.s (.flt .f32 a3),.s (.flt .f32 a4),.s (.flt .f32 a5)]]=zkl (z5v a0 a1 a2 a3 a4 a5):=tr2 (y03 a0 a1 a2 a3 a4 a5 zkl rfl (fun c0_=>some c0_)) (by kernel_rfl)
theorem y14:SumOne J 119 zk4:=mkT z66 z65 fun pts v news hp=>by
 unfold zk4 at hp
 split at hp
 ·exact fin3 (y7e ..) hp
 ·cases hp
def zmt  : Option (Bool)→Option (AV×List Blk)
 | some r=>some ((.v (.one (.bool r))),[])
 | none=>none
def zme:List PT→Option (Bool×AV×List Blk)
 | [.one (.s (.flt .f32 x))]=>sF zmt (z6r x)
 | _=>none
theorem y8p:ev8 Γ1 121 [.one (.s (.flt .f32 a0))]=zmt (z6r a0):=tr2 (y20 a0 zmt rfl (fun c0_=>some c0_)) (by kernel_rfl)
theorem y3m:SumOne J 121 zme:=mkT z66 z65 fun pts v news hp=>by
 unfold zme at hp
 split at hp
 ·exact fin3 (y8p ..) hp
 ·cases hp
def zng  : Option (Bool)→Option (AV×List Blk)
 | some r=>some ((.v (.one (.bool r))),[])
 | none=>none
def znb:List PT→Option (Bool×AV×List Blk)
 | [.ptr [.row 1 q00 (.fl .f32 q03),.row 1 q02 (.fl .f32 q04),.row 1 q01 (.fl .f32 q05),.row 3 q06 (.fl .f32 q07),.s (.int .i64 q0b),.s (.flt .f32 q0j),.s (.flt .f32 q0i)],.one (.s (.int .i64 i)),.one (.s (.flt .f32 q0k))]=>sF zng (z6l q00 q03 q02 q04 q01 q05 q06 q07 q0b q0j q0i i q0k)
 | _=>none
theorem y8q:ev8 Γ1 128 [.ptr [.row 1 a0 (.fl .f32 g1),.row 1 a2 (.fl .f32 g3),.row 1 a4 (.fl .f32 g5),.row 3 a6 (.fl .f32 g7),.s (.int .i64 c8),.s (.flt .f32 a9),.s (.flt .f32 a10)],.one (.s (.int .i64 c11)),.one (.s (.flt .f32 a12))]=zng (z6l a0 g1 a2 g3 a4 g5 a6 g7 c8 a9 a10 c11 a12):=tr2 (y1f a0 g1 a2 g3 a4 g5 a6 g7 c8 a9 a10 c11 a12 zng rfl (fun c0_=>some c0_)) (by kernel_rfl)
theorem y2t:SumOne J 128 znb:=mkT z66 z65 fun pts v news hp=>by
 unfold znb at hp
 split at hp
 ·exact fin3 (y8q ..) hp
 ·cases hp
def zq1  : Option (Nat×Nat×Bool)→Option (AV×List Blk)
 | some r=>some ((.tup [(.one (.flt .f32 r.1)),(.one (.flt .f32 r.2.1)),(.one (.bool r.2.2))]),[])
 | none=>none
def zqe:List PT→Option (Bool×AV×List Blk)
 | [.one (.s (.flt .f32 x)),.one (.s (.flt .f32 y))]=>sF zq1 (z5o x y)
 | _=>none
theorem ybk:ev8 Γ1 131 [.one (.s (.flt .f32 a0)),.one (.s (.flt .f32 a1))]=zq1 (z5o a0 a1):=tr2 (y6j a0 a1 zq1 rfl (fun c0_ c1_ c2_=>some (c0_,c1_,c2_))) (by kernel_rfl)
theorem y8b:SumOne J 131 zqe:=mkT z66 z65 fun pts v news hp=>by
 unfold zqe at hp
 split at hp
 ·exact fin3 (ybk ..) hp
 ·cases hp
def zh0  : Option (Bool)→Option (AV×List Blk)
 | some r=>some ((.v (.one (.bool r))),[])
 | none=>none
def zgw:List PT→Option (Bool×AV×List Blk)
 | [.one (.s (.flt .f32 x))]=>sF zh0 (z4f x)
 | _=>none
theorem y48:ev8 Γ1 153 [.one (.s (.flt .f32 a0))]=zh0 (z4f a0):=tr2 (zvz a0 zh0 rfl (fun c0_=>some c0_)) (by kernel_rfl)
theorem zxk:SumOne J 153 zgw:=mkT z66 z65 fun pts v news hp=>by
 unfold zgw at hp
 split at hp
 ·exact fin3 (y48 ..) hp
 ·cases hp
def zbb  : Option (Bool)→Option (AV×List Blk)
 | some r=>some ((.v (.one (.bool r))),[])
 | none=>none
def zbf:List PT→Option (Bool×AV×List Blk)
 | [.agg [.row 1 q00 (.fl .f32 q03),.row 1 q02 (.fl .f32 q04),.row 1 q01 (.fl .f32 q05),.row 3 q06 (.fl .f32 q07),.s (.int .i64 q0b),.s (.flt .f32 q0j),.s (.flt .f32 q0i)],.one (.s (.int .i64 i))]=>sF zbb (z2s q00 q03 q02 q04 q01 q05 q06 q07 q0b q0j q0i i)
 | _=>none
theorem zvx:ev8 Γ1 155 [.agg [.row 1 a0 (.fl .f32 g1),.row 1 a2 (.fl .f32 g3),.row 1 a4 (.fl .f32 g5),.row 3 a6 (.fl .f32 g7),.s (.int .i64 c8),.s (.flt .f32 a9),.s (.flt .f32 a10)],.one (.s (.int .i64 c11))]=zbb (z2s a0 g1 a2 g3 a4 g5 a6 g7 c8 a9 a10 c11):=tr2 (zq7 a0 g1 a2 g3 a4 g5 a6 g7 c8 a9 a10 c11 zbb rfl (fun c0_=>some c0_)) (by kernel_rfl)
theorem zs9:SumOne J 155 zbf:=mkT z66 z65 fun pts v news hp=>by
 unfold zbf at hp
 split at hp
 ·exact fin3 (zvx ..) hp
 ·cases hp
def zq2  : Option (Bool)→Option (AV×List Blk)
 | some r=>some ((.v (.one (.bool r))),[])
 | none=>none
def zqt:List PT→Option (Bool×AV×List Blk)
 | [.one (.s (.flt .f32 q1q))]=>sF zq2 (z8e q1q)
 | _=>none
theorem ybj:ev8 Γ1 156 [.one (.s (.flt .f32 a0))]=zq2 (z8e a0):=tr2 (y5b a0 zq2 rfl (fun c0_=>some c0_)) (by kernel_rfl)
theorem y81:SumOne J 156 zqt:=mkT z66 z65 fun pts v news hp=>by
 unfold zqt at hp
 split at hp
 ·exact fin3 (ybj ..) hp
 ·cases hp
def zqc  : Option (Bool)→Option (AV×List Blk)
 | some r=>some ((.v (.one (.bool r))),[])
 | none=>none
def zqi:List PT→Option (Bool×AV×List Blk)
 | [.one (.s (.flt .f64 x))]=>sF zqc (z8g x)
 | _=>none
theorem ybg:ev8 Γ1 159 [.one (.s (.flt .f64 a0))]=zqc (z8g a0):=tr2 (y4v a0 zqc rfl (fun c0_=>some c0_)) (by kernel_rfl)
theorem y6y:SumOne J 159 zqi:=mkT z66 z65 fun pts v news hp=>by
 unfold zqi at hp
 split at hp
 ·exact fin3 (ybg ..) hp
 ·cases hp
def z8n:St:=(.mk [(x0V 0 0 a0 1),(x0S 3 1 a1 1),(x0I 4 c2)] [(x0L g3),(x0T g4)])
def zd7:St:=(.mk [(x0V 0 0 a0 1),(x0S 3 1 a1 1),(x0I 4 c3),(x0B 11 e4)] [(x0L g2),(x0T g5)])
def ze9:Option ((Int×Bool×(List Nat)))→Option (Ex×St)
 | none=>none
 | some r=>some ((.exit 0),(zd7 a0 a1 g2 r.1 r.2.1 r.2.2))
def zlc (x:Option ((Int×Bool×(List Nat)))):LO:=(.one (.exit 0) (zd7 a0 a1 g2 (x.getD default).1 (x.getD default).2.1 (x.getD default).2.2))
def zw3:Bool×LO:=sL (zlc a0 a1 g3) (z13 a0 a1 g3 big c2 g4)
def zm0:Nat→St→Option (Bool×LO):=lpT 1 (pSt [(x1V 0 0 1),(x1S 3 1 1),(x1I 4)] [x1L,x1T]) (fun hs=>zw3 (hN hs 0) (hN hs 1) (hI hs 2) (hLn hs 3) (hLn hs 4))
theorem y09:∀ x:Option ((Int×Bool×(List Nat))),x.isSome=true→(ze9 a0 a1 g2) x=some (pick (zlc a0 a1 g2 x))
 | none,h=>by cases h
 | some r,_=>rfl
theorem zzn (K:Ex→St→Option (Ex×St)):ev9 Γ1 45 3 1 fi45 (z8n a0 a1 c2 g3 g4) K=z1x a0 a1 g3 c2 g4 (fun i' b1'=>K .normal (z8n a0 a1 i' g3 b1')) (fun c0_ c1_ c2_=>K (.exit 0) (zd7 a0 a1 g3 c0_ c1_ c2_)):=by kernel_rfl
theorem y05:∀ (n:Nat) (i:Int) (b1:List Nat),iter 45 3 1 (ev9 Γ1 45 3 1 fi45) n (z8n a0 a1 i g2 b1) (fun e st=>some (e,st))=(ze9 a0 a1 g2) (z13 a0 a1 g2 n i b1):=by
 intro n
 induction n with
 | zero=>intros;rfl
 | succ n ih=>
  intro i b1
  refine Eq.trans (iter_succ ..) (Eq.trans (zzn ..) (Eq.trans ?_ (zsq a0 a1 g2 i b1 (ze9 a0 a1 g2) rfl (fun i' b1'=>z13 a0 a1 g2 n i' b1') (fun c0_ c1_ c2_=>some (c0_,c1_,c2_)))))
  exact congrArg (fun kn_=>z1x a0 a1 g2 i b1 kn_ _) (funext fun i'=>funext fun b1'=>ih ..)
theorem zug:LoopOne J fnTab 45 3 zm0:=lpK z66 z65 (fi:=fi45) (by kernel_rfl) (by kernel_rfl) (q:=fun hs=>(z8n (hN hs 0) (hN hs 1) (hI hs 2) (hLn hs 3) (hLn hs 4))) (fun hs=>by kernel_rfl) fun hs h1=>Eq.trans (y05 (hN hs 0) (hN hs 1) (hLn hs 3) big (hI hs 2) (hLn hs 4)) (y09 (hN hs 0) (hN hs 1) (hLn hs 3) _ h1)
def z75:St:=(.mk [(x0V 1 4 a0 1),(x0P 2 5 7),(x0F 5 a1),(x0I 6 c2)] [(x0L g3),(x0L g4),(x0L g5),(x0L g6),(x0L g7),(x0R true 0 1 2 3 a8 a9 a10 a11 c12 a13 a14)])
def z9e:St:=(.mk [(x0V 1 4 a0 1),(x0P 2 5 7),(x0F 5 a13),(x0I 6 c14),(x0B 11 e15)] [(x0L g1),(x0L g2),(x0L g3),(x0L g4),(x0L g5),(x0R true 0 1 2 3 a6 a7 a8 a9 c10 a11 a12)])
def zaf:Option ((Nat×Int×Bool))→Option (Ex×St)
 | none=>none
 | some r=>some ((.exit 0),(z9e a0 g1 g2 g3 g4 g5 a6 a7 a8 a9 c10 a11 a12 r.1 r.2.1 r.2.2))
def zh4 (x:Option ((Nat×Int×Bool))):LO:=(.one (.exit 0) (z9e a0 g1 g2 g3 g4 g5 a6 a7 a8 a9 c10 a11 a12 (x.getD default).1 (x.getD default).2.1 (x.getD default).2.2))
def zrz:Bool×LO:=sL (zh4 a0 g3 g4 g5 g6 g7 a8 a9 a10 a11 c12 a13 a14) (z0d a0 g6 g7 a11 big a1 c2)
def zhu:Nat→St→Option (Bool×LO):=lpT 5 (pSt [(x1V 1 4 1),(x1P 2 5 7),(x1F 5),(x1I 6)] [x1L,x1L,x1L,x1L,x1L,(x1R true 0 1 2 3)]) (fun hs=>zrz (hN hs 0) (hN hs 1) (hI hs 2) (hLn hs 3) (hLn hs 4) (hLn hs 5) (hLn hs 6) (hLn hs 7) (hN hs 8) (hN hs 9) (hN hs 10) (hN hs 11) (hI hs 12) (hN hs 13) (hN hs 14))
theorem zup:∀ x:Option ((Nat×Int×Bool)),x.isSome=true→(zaf a0 g1 g2 g3 g4 g5 a6 a7 a8 a9 c10 a11 a12) x=some (pick (zh4 a0 g1 g2 g3 g4 g5 a6 a7 a8 a9 c10 a11 a12 x))
 | none,h=>by cases h
 | some r,_=>rfl
theorem zux (K:Ex→St→Option (Ex×St)):ev9 Γ1 60 3 5 fi60 (z75 a0 a1 c2 g3 g4 g5 g6 g7 a8 a9 a10 a11 c12 a13 a14) K=z19 a0 g6 g7 a11 a1 c2 (fun all' i'=>K .normal (z75 a0 all' i' g3 g4 g5 g6 g7 a8 a9 a10 a11 c12 a13 a14)) (fun c0_ c1_ c2_=>K (.exit 0) (z9e a0 g3 g4 g5 g6 g7 a8 a9 a10 a11 c12 a13 a14 c0_ c1_ c2_)):=by kernel_rfl
theorem zur:∀ (n all:Nat) (i:Int),iter 60 3 5 (ev9 Γ1 60 3 5 fi60) n (z75 a0 all i g1 g2 g3 g4 g5 a6 a7 a8 a9 c10 a11 a12) (fun e st=>some (e,st))=(zaf a0 g1 g2 g3 g4 g5 a6 a7 a8 a9 c10 a11 a12) (z0d a0 g4 g5 a9 n all i):=by
 intro n
 induction n with
 | zero=>intros;rfl
 | succ n ih=>
  intro all i
  refine Eq.trans (iter_succ ..) (Eq.trans (zux ..) (Eq.trans ?_ (zpt a0 g4 g5 a9 all i (zaf a0 g1 g2 g3 g4 g5 a6 a7 a8 a9 c10 a11 a12) rfl (fun all' i'=>z0d a0 g4 g5 a9 n all' i') (fun c0_ c1_ c2_=>some (c0_,c1_,c2_)))))
  exact congrArg (fun kn_=>z19 a0 g4 g5 a9 all i kn_ _) (funext fun all'=>funext fun i'=>ih ..)
theorem zqa:LoopOne J fnTab 60 3 zhu:=lpK z66 z65 (fi:=fi60) (by kernel_rfl) (by kernel_rfl) (q:=fun hs=>(z75 (hN hs 0) (hN hs 1) (hI hs 2) (hLn hs 3) (hLn hs 4) (hLn hs 5) (hLn hs 6) (hLn hs 7) (hN hs 8) (hN hs 9) (hN hs 10) (hN hs 11) (hI hs 12) (hN hs 13) (hN hs 14))) (fun hs=>by kernel_rfl) fun hs h1=>Eq.trans (zur (hN hs 0) (hLn hs 3) (hLn hs 4) (hLn hs 5) (hLn hs 6) (hLn hs 7) (hN hs 8) (hN hs 9) (hN hs 10) (hN hs 11) (hI hs 12) (hN hs 13) (hN hs 14) big (hN hs 1) (hI hs 2)) (zup (hN hs 0) (hLn hs 3) (hLn hs 4) (hLn hs 5) (hLn hs 6) (hLn hs 7) (hN hs 8) (hN hs 9) (hN hs 10) (hN hs 11) (hI hs 12) (hN hs 13) (hN hs 14) _ h1)
def zeo:St:=(.mk [(x0P 0 4 7),(x0V 1 5 a0 1),(x0F 5 a1),(x0I 6 c2)] [(x0L g3),(x0L g4),(x0L g5),(x0L g6),(x0R false 0 1 2 3 a7 a8 a9 a10 c11 a12 a13),(x0L g14)])
def zi9:St:=(.mk [(x0P 0 4 7),(x0V 1 5 a0 1),(x0F 5 a13),(x0I 6 c14),(x0B 12 e15)] [(x0L g1),(x0L g2),(x0L g3),(x0L g4),(x0R false 0 1 2 3 a5 a6 a7 a8 c9 a10 a11),(x0L g12)])
def zkt:Option ((Nat×Int×Bool))→Option (Ex×St)
 | none=>none
 | some r=>some ((.exit 0),(zi9 a0 g1 g2 g3 g4 a5 a6 a7 a8 c9 a10 a11 g12 r.1 r.2.1 r.2.2))
def zr1 (x:Option ((Nat×Int×Bool))):LO:=(.one (.exit 0) (zi9 a0 g1 g2 g3 g4 a5 a6 a7 a8 c9 a10 a11 g12 (x.getD default).1 (x.getD default).2.1 (x.getD default).2.2))
def y3t:Bool×LO:=sL (zr1 a0 g3 g4 g5 g6 a7 a8 a9 a10 c11 a12 a13 g14) (z0x a0 g6 a10 g14 big a1 c2)
def zty:Nat→St→Option (Bool×LO):=lpT 6 (pSt [(x1P 0 4 7),(x1V 1 5 1),(x1F 5),(x1I 6)] [x1L,x1L,x1L,x1L,(x1R false 0 1 2 3),x1L]) (fun hs=>y3t (hN hs 0) (hN hs 1) (hI hs 2) (hLn hs 3) (hLn hs 4) (hLn hs 5) (hLn hs 6) (hN hs 7) (hN hs 8) (hN hs 9) (hN hs 10) (hI hs 11) (hN hs 12) (hN hs 13) (hLn hs 14))
theorem y6x:∀ x:Option ((Nat×Int×Bool)),x.isSome=true→(zkt a0 g1 g2 g3 g4 a5 a6 a7 a8 c9 a10 a11 g12) x=some (pick (zr1 a0 g1 g2 g3 g4 a5 a6 a7 a8 c9 a10 a11 g12 x))
 | none,h=>by cases h
 | some r,_=>rfl
theorem y88 (K:Ex→St→Option (Ex×St)):ev9 Γ1 73 3 6 fi73 (zeo a0 a1 c2 g3 g4 g5 g6 a7 a8 a9 a10 c11 a12 a13 g14) K=z3m a0 g6 a10 g14 a1 c2 (fun sum' i'=>K .normal (zeo a0 sum' i' g3 g4 g5 g6 a7 a8 a9 a10 c11 a12 a13 g14)) (fun c0_ c1_ c2_=>K (.exit 0) (zi9 a0 g3 g4 g5 g6 a7 a8 a9 a10 c11 a12 a13 g14 c0_ c1_ c2_)):=by kernel_rfl
theorem y7k:∀ (n sum:Nat) (i:Int),iter 73 3 6 (ev9 Γ1 73 3 6 fi73) n (zeo a0 sum i g1 g2 g3 g4 a5 a6 a7 a8 c9 a10 a11 g12) (fun e st=>some (e,st))=(zkt a0 g1 g2 g3 g4 a5 a6 a7 a8 c9 a10 a11 g12) (z0x a0 g4 a8 g12 n sum i):=by
 intro n
 induction n with
 | zero=>intros;rfl
 | succ n ih=>
  intro sum i
  refine Eq.trans (iter_succ ..) (Eq.trans (y88 ..) (Eq.trans ?_ (y0c a0 g4 a8 g12 sum i (zkt a0 g1 g2 g3 g4 a5 a6 a7 a8 c9 a10 a11 g12) rfl (fun sum' i'=>z0x a0 g4 a8 g12 n sum' i') (fun c0_ c1_ c2_=>some (c0_,c1_,c2_)))))
  exact congrArg (fun kn_=>z3m a0 g4 a8 g12 sum i kn_ _) (funext fun sum'=>funext fun i'=>ih ..)
theorem y16:LoopOne J fnTab 73 3 zty:=lpK z66 z65 (fi:=fi73) (by kernel_rfl) (by kernel_rfl) (q:=fun hs=>(zeo (hN hs 0) (hN hs 1) (hI hs 2) (hLn hs 3) (hLn hs 4) (hLn hs 5) (hLn hs 6) (hN hs 7) (hN hs 8) (hN hs 9) (hN hs 10) (hI hs 11) (hN hs 12) (hN hs 13) (hLn hs 14))) (fun hs=>by kernel_rfl) fun hs h1=>Eq.trans (y7k (hN hs 0) (hLn hs 3) (hLn hs 4) (hLn hs 5) (hLn hs 6) (hN hs 7) (hN hs 8) (hN hs 9) (hN hs 10) (hI hs 11) (hN hs 12) (hN hs 13) (hLn hs 14) big (hN hs 1) (hI hs 2)) (y6x (hN hs 0) (hLn hs 3) (hLn hs 4) (hLn hs 5) (hLn hs 6) (hN hs 7) (hN hs 8) (hN hs 9) (hN hs 10) (hI hs 11) (hN hs 12) (hN hs 13) (hLn hs 14) _ h1)
def z4y:St:=(.mk [(x0V 0 0 a0 1),(x0B 1 e1),(x0I 7 c2),(x0I 8 c3)] [(.mk false (.bl m4))])
def z71(sn:Nat)(v:Bool)(t7:Int)(b0:List Bool)(c0_:Int):St:=(.mk [(x0I 4 c0_)] [(.mk false (.bl b0))])
def z70:St:=(.mk [(x0V 0 0 a0 1),(x0B 1 e1),(x0I 7 c2),(x0I 8 c4),(x0B 9 e5)] [(.mk false (.bl m3))])
def z7e:Option ((Int)⊕(Int×Bool))→Option (Ex×St)
 | none=>none
 | some (Sum.inl r)=>some (.ret,(z71 a0 e1 c2 m3 r))
 | some (Sum.inr r)=>some ((.exit 0),(z70 a0 e1 c2 m3 r.1 r.2))
def zbt (x:Option ((Int)⊕(Int×Bool))):LO:=(.two (oL x) (.one .ret (z71 a0 e1 c2 m3 ((tL x).getD default))) (.one (.exit 0) (z70 a0 e1 c2 m3 ((tR x).getD default).1 ((tR x).getD default).2)))
def zlu:Bool×LO:=sL (zbt a0 e1 c2 m4) (z04 a0 e1 c2 m4 big c3)
def zcy:Nat→St→Option (Bool×LO):=lpT 1 (pSt [(x1V 0 0 1),(x1B 1),(x1I 7),(x1I 8)] [(pBlk false pBl)]) (fun hs=>zlu (hN hs 0) (hB hs 1) (hI hs 2) (hI hs 3) (hLb hs 4))
theorem zom:∀ x:Option ((Int)⊕(Int×Bool)),x.isSome=true→(z7e a0 e1 c2 m3) x=some (pick (zbt a0 e1 c2 m3 x))
 | none,h=>by cases h
 | some (Sum.inl r),_=>rfl
 | some (Sum.inr r),_=>rfl
theorem zp9 (K:Ex→St→Option (Ex×St)):ev9 Γ1 113 2 1 fi113 (z4y a0 e1 c2 c3 m4) K=z0u a0 e1 c2 m4 c3 (fun t8'=>K .normal (z4y a0 e1 c2 t8' m4)) (fun c0_=>K .ret (z71 a0 e1 c2 m4 c0_)) (fun c0_ c1_=>K (.exit 0) (z70 a0 e1 c2 m4 c0_ c1_)):=by kernel_rfl
theorem zo6:∀ (n:Nat) (t8:Int),iter 113 2 1 (ev9 Γ1 113 2 1 fi113) n (z4y a0 e1 c2 t8 m3) (fun e st=>some (e,st))=(z7e a0 e1 c2 m3) (z04 a0 e1 c2 m3 n t8):=by
 intro n
 induction n with
 | zero=>intros;rfl
 | succ n ih=>
  intro t8
  refine Eq.trans (iter_succ ..) (Eq.trans (zp9 ..) (Eq.trans ?_ (zke a0 e1 c2 m3 t8 (z7e a0 e1 c2 m3) rfl (fun t8'=>z04 a0 e1 c2 m3 n t8') (fun c0_=>some (Sum.inl c0_)) (fun c0_ c1_=>some (Sum.inr (c0_,c1_))))))
  exact congrArg (fun kn_=>z0u a0 e1 c2 m3 t8 kn_ _ _) (funext fun t8'=>ih ..)
theorem zlo:LoopOne J fnTab 113 2 zcy:=lpK z66 z65 (fi:=fi113) (by kernel_rfl) (by kernel_rfl) (q:=fun hs=>(z4y (hN hs 0) (hB hs 1) (hI hs 2) (hI hs 3) (hLb hs 4))) (fun hs=>by kernel_rfl) fun hs h1=>Eq.trans (zo6 (hN hs 0) (hB hs 1) (hI hs 2) (hLb hs 4) big (hI hs 3)) (zom (hN hs 0) (hB hs 1) (hI hs 2) (hLb hs 4) _ h1)
def tb2:List (Nat×(List PT→Option (Bool×AV×List Blk))):=(59,zp8)::(70,zjs)::(72,zl1)::(83,zn9)::(90,zoe)::(115,zdx)::(119,zk4)::(121,zme)::(128,znb)::(131,zqe)::(153,zgw)::(155,zbf)::(156,zqt)::(159,zqi)::tb1
def lt2:List ((Nat×Nat)×(Nat→St→Option (Bool×LO))):=((45,3),zm0)::((60,3),zhu)::((73,3),zty)::((113,2),zcy)::lt1
def Γ2:Ctx:=⟨tyTab,fnTab,tblSum tb2,tblLp lt2⟩
theorem zfe:SumL J tb2:=SumL.cons y52 (SumL.cons y1i (SumL.cons y2a (SumL.cons y3x (SumL.cons y5t (SumL.cons zuj (SumL.cons y14 (SumL.cons y3m (SumL.cons y2t (SumL.cons y8b (SumL.cons zxk (SumL.cons zs9 (SumL.cons y81 (SumL.cons y6y (z66))))))))))))))
theorem zfb:LpL J fnTab lt2:=LpL.cons zug (LpL.cons zqa (LpL.cons y16 (LpL.cons zlo (z65))))
def zo9  : Option (Int)→Option (AV×List Blk)
 | some r=>some ((.v (.one (.int .i64 r))),[])
 | none=>none
def zoh:List PT→Option (Bool×AV×List Blk)
 | [.agg [.row 1 q0y (.fl .f32 q1b),.row 1 q14 (.fl .f32 q1f),.row 1 q13 (.fl .f32 q1g),.row 3 q1p (.fl .f32 q1v),.s (.int .i64 q27),.s (.flt .f32 q2c),.s (.flt .f32 q2d)],.one (.s (.int .i64 q2j))]=>sF zo9 (z7i q0y q1b q14 q1f q13 q1g q1p q1v q27 q2c q2d q2j)
 | _=>none
theorem yaw:ev8 Γ2 32 [.agg [.row 1 a0 (.fl .f32 g1),.row 1 a2 (.fl .f32 g3),.row 1 a4 (.fl .f32 g5),.row 3 a6 (.fl .f32 g7),.s (.int .i64 c8),.s (.flt .f32 a9),.s (.flt .f32 a10)],.one (.s (.int .i64 c11))]=zo9 (z7i a0 g1 a2 g3 a4 g5 a6 g7 c8 a9 a10 c11):=tr2 (y47 a0 g1 a2 g3 a4 g5 a6 g7 c8 a9 a10 c11 zo9 rfl (fun c0_=>some c0_)) (by kernel_rfl)
theorem y6i:SumOne J 32 zoh:=mkT zfe zfb fun pts v news hp=>by
 unfold zoh at hp
 split at hp
 ·exact fin3 (yaw ..) hp
 ·cases hp
def zi7  : Option (Nat×(List Nat))→Option (AV×List Blk)
 | some r=>some ((.v (.one (.sl 0 0 r.1 1))),[(.mk true (.fl .f32 r.2))])
 | none=>none
def ziu:List PT→Option (Bool×AV×List Blk)
 | [.one (.row 1 a_n (.fl .f32 a))]=>sF zi7 (z3z a_n a)
 | _=>none
theorem y5v:ev8 Γ2 45 [.one (.row 1 a0 (.fl .f32 g1))]=zi7 (z3z a0 g1):=tr2 (zyg a0 g1 zi7 rfl (fun c0_ c1_=>some (c0_,c1_))) (by kernel_rfl)
theorem y0h:SumOne J 45 ziu:=mkT zfe zfb fun pts v news hp=>by
 unfold ziu at hp
 split at hp
 ·exact fin3 (y5v ..) hp
 ·cases hp
def zf1  : Option (Nat)→Option (AV×List Blk)
 | some r=>some ((.v (.one (.flt .f32 r))),[])
 | none=>none
def zeh:List PT→Option (Bool×AV×List Blk)
 | [.agg [.row 1 q00 (.fl .f32 q03),.row 1 q02 (.fl .f32 q04),.row 1 q01 (.fl .f32 q05),.row 3 q06 (.fl .f32 q07),.s (.int .i64 q0b),.s (.flt .f32 q0j),.s (.flt .f32 q0i)],.one (.row 1 q1t (.fl .f32 q26))]=>sF zf1 (z3o q00 q03 q02 q04 q01 q05 q06 q07 q0b q0j q0i q1t q26)
 | _=>none
theorem zyr:ev8 Γ2 60 [.agg [.row 1 a0 (.fl .f32 g1),.row 1 a2 (.fl .f32 g3),.row 1 a4 (.fl .f32 g5),.row 3 a6 (.fl .f32 g7),.s (.int .i64 c8),.s (.flt .f32 a9),.s (.flt .f32 a10)],.one (.row 1 a11 (.fl .f32 g12))]=zf1 (z3o a0 g1 a2 g3 a4 g5 a6 g7 c8 a9 a10 a11 g12):=tr2 (zt0 a0 g1 a2 g3 a4 g5 a6 g7 c8 a9 a10 a11 g12 zf1 rfl (fun c0_=>some c0_)) (by kernel_rfl)
theorem zuf:SumOne J 60 zeh:=mkT zfe zfb fun pts v news hp=>by
 unfold zeh at hp
 split at hp
 ·exact fin3 (zyr ..) hp
 ·cases hp
def zq8  : Option (Nat)→Option (AV×List Blk)
 | some r=>some ((.v (.one (.flt .f32 r))),[])
 | none=>none
def zqp:List PT→Option (Bool×AV×List Blk)
 | [.ptr [.row 1 q00 (.fl .f32 q03),.row 1 q02 (.fl .f32 q04),.row 1 q01 (.fl .f32 q05),.row 3 q06 (.fl .f32 q07),.s (.int .i64 q0b),.s (.flt .f32 q0j),.s (.flt .f32 q0i)],.one (.row 1 q1t (.fl .f32 q26))]=>sF zq8 (z8i q00 q03 q02 q04 q01 q05 q06 q07 q0b q0j q0i q1t q26)
 | _=>none
theorem ybt:ev8 Γ2 73 [.ptr [.row 1 a0 (.fl .f32 g1),.row 1 a2 (.fl .f32 g3),.row 1 a4 (.fl .f32 g5),.row 3 a6 (.fl .f32 g7),.s (.int .i64 c8),.s (.flt .f32 a9),.s (.flt .f32 a10)],.one (.row 1 a11 (.fl .f32 g12))]=zq8 (z8i a0 g1 a2 g3 a4 g5 a6 g7 c8 a9 a10 a11 g12):=tr2 (y5l a0 g1 a2 g3 a4 g5 a6 g7 c8 a9 a10 a11 g12 zq8 rfl (fun c0_=>some c0_)) (by kernel_rfl)
theorem y6w:SumOne J 73 zqp:=mkT zfe zfb fun pts v news hp=>by
 unfold zqp at hp
 split at hp
 ·exact fin3 (ybt ..) hp
 ·cases hp
def z8o  : Option (Int)→Option (AV×List Blk)
 | some r=>some ((.v (.one (.int .i64 r))),[])
 | none=>none
def z92:List PT→Option (Bool×AV×List Blk)
 | [.one (.row 1 s_n (.bl s)),.one (.s (.bool v))]=>sF z8o (z1y s_n s v)
 | _=>none
theorem zrx:ev8 Γ2 113 [.one (.row 1 a0 (.bl m1)),.one (.s (.bool e2))]=z8o (z1y a0 m1 e2):=tr2 (znn a0 m1 e2 z8o rfl (fun c0_=>some c0_)) (by kernel_rfl)
theorem zoa:SumOne J 113 z92:=mkT zfe zfb fun pts v news hp=>by
 unfold z92 at hp
 split at hp
 ·exact fin3 (zrx ..) hp
 ·cases hp
def zin  : Option (Bool)→Option (AV×List Blk)
 | some r=>some ((.v (.one (.bool r))),[])
 | none=>none
def zii:List PT→Option (Bool×AV×List Blk)
 | [.one (.s (.flt .f32 x))]=>sF zin (z51 x)
 | _=>none
theorem y5u:ev8 Γ2 154 [.one (.s (.flt .f32 a0))]=zin (z51 a0):=tr2 (zx3 a0 zin rfl (fun c0_=>some c0_)) (by kernel_rfl)
theorem zzb:SumOne J 154 zii:=mkT zfe zfb fun pts v news hp=>by
 unfold zii at hp
 split at hp
 ·exact fin3 (y5u ..) hp
 ·cases hp
def zso  : Option (Nat)→Option (AV×List Blk)
 | some r=>some ((.v (.one (.flt .f64 r))),[])
 | none=>none
def zsg:List PT→Option (Bool×AV×List Blk)
 | [.one (.s (.flt .f64 x))]=>sF zso (z9i x)
 | _=>none
theorem yc7:ev8 Γ2 174 [.one (.s (.flt .f64 a0))]=zso (z9i a0):=tr2 (y6u a0 zso rfl (fun c0_=>some c0_)) (by kernel_rfl)
theorem y8z:SumOne J 174 zsg:=mkT zfe zfb fun pts v news hp=>by
 unfold zsg at hp
 split at hp
 ·exact fin3 (yc7 ..) hp
 ·cases hp
def z8p:St:=(.mk [(x0V 0 0 a0 1),(x0V 1 1 a1 1),(x0I 5 c2)] [(x0L g3),(x0L g4)])
def zcz(an bn:Nat)(b0 b1:List Nat):St:=(.mk [(x0B 4 false)] [(x0L b0),(x0L b1)])
def zd1:St:=(.mk [(x0V 0 0 a0 1),(x0V 1 1 a1 1),(x0I 5 c4),(x0B 14 e5)] [(x0L g2),(x0L g3)])
def zei:Option ((Unit)⊕(Int×Bool))→Option (Ex×St)
 | none=>none
 | some (Sum.inl r)=>some (.ret,(zcz a0 a1 g2 g3))
 | some (Sum.inr r)=>some ((.exit 0),(zd1 a0 a1 g2 g3 r.1 r.2))
def zlg (x:Option ((Unit)⊕(Int×Bool))):LO:=(.two (oL x) (.one .ret (zcz a0 a1 g2 g3)) (.one (.exit 0) (zd1 a0 a1 g2 g3 ((tR x).getD default).1 ((tR x).getD default).2)))
def zwa:Bool×LO:=sL (zlg a0 a1 g3 g4) (z14 a0 a1 g3 g4 big c2)
def zmf:Nat→St→Option (Bool×LO):=lpT 2 (pSt [(x1V 0 0 1),(x1V 1 1 1),(x1I 5)] [x1L,x1L]) (fun hs=>zwa (hN hs 0) (hN hs 1) (hI hs 2) (hLn hs 3) (hLn hs 4))
theorem zz0:∀ x:Option ((Unit)⊕(Int×Bool)),x.isSome=true→(zei a0 a1 g2 g3) x=some (pick (zlg a0 a1 g2 g3 x))
 | none,h=>by cases h
 | some (Sum.inl r),_=>rfl
 | some (Sum.inr r),_=>rfl
theorem zyz (K:Ex→St→Option (Ex×St)):ev9 Γ2 37 4 2 fi37 (z8p a0 a1 c2 g3 g4) K=z21 a0 a1 g3 g4 c2 (fun i'=>K .normal (z8p a0 a1 i' g3 g4)) (fun _=>K .ret (zcz a0 a1 g3 g4)) (fun c0_ c1_=>K (.exit 0) (zd1 a0 a1 g3 g4 c0_ c1_)):=by kernel_rfl
theorem zzm:∀ (n:Nat) (i:Int),iter 37 4 2 (ev9 Γ2 37 4 2 fi37) n (z8p a0 a1 i g2 g3) (fun e st=>some (e,st))=(zei a0 a1 g2 g3) (z14 a0 a1 g2 g3 n i):=by
 intro n
 induction n with
 | zero=>intros;rfl
 | succ n ih=>
  intro i
  refine Eq.trans (iter_succ ..) (Eq.trans (zyz ..) (Eq.trans ?_ (ztj a0 a1 g2 g3 i (zei a0 a1 g2 g3) rfl (fun i'=>z14 a0 a1 g2 g3 n i') (fun _=>some (Sum.inl ())) (fun c0_ c1_=>some (Sum.inr (c0_,c1_))))))
  exact congrArg (fun kn_=>z21 a0 a1 g2 g3 i kn_ _ _) (funext fun i'=>ih ..)
theorem zv2:LoopOne J fnTab 37 4 zmf:=lpK zfe zfb (fi:=fi37) (by kernel_rfl) (by kernel_rfl) (q:=fun hs=>(z8p (hN hs 0) (hN hs 1) (hI hs 2) (hLn hs 3) (hLn hs 4))) (fun hs=>by kernel_rfl) fun hs h1=>Eq.trans (zzm (hN hs 0) (hN hs 1) (hLn hs 3) (hLn hs 4) big (hI hs 2)) (zz0 (hN hs 0) (hN hs 1) (hLn hs 3) (hLn hs 4) _ h1)
def z8t:St:=(.mk [(x0V 0 0 a0 3),(x0S 3 1 a1 3),(x0I 4 c2)] [(x0L g3),(x0T g4)])
def zcq:St:=(.mk [(x0V 0 0 a0 3),(x0S 3 1 a1 3),(x0I 4 c3),(x0B 11 e4)] [(x0L g2),(x0T g5)])
def zdz:Option ((Int×Bool×(List Nat)))→Option (Ex×St)
 | none=>none
 | some r=>some ((.exit 0),(zcq a0 a1 g2 r.1 r.2.1 r.2.2))
def zl8 (x:Option ((Int×Bool×(List Nat)))):LO:=(.one (.exit 0) (zcq a0 a1 g2 (x.getD default).1 (x.getD default).2.1 (x.getD default).2.2))
def zvu:Bool×LO:=sL (zl8 a0 a1 g3) (z0m a0 a1 g3 big c2 g4)
def zlt:Nat→St→Option (Bool×LO):=lpT 1 (pSt [(x1V 0 0 3),(x1S 3 1 3),(x1I 4)] [x1L,x1T]) (fun hs=>zvu (hN hs 0) (hN hs 1) (hI hs 2) (hLn hs 3) (hLn hs 4))
theorem zz1:∀ x:Option ((Int×Bool×(List Nat))),x.isSome=true→(zdz a0 a1 g2) x=some (pick (zl8 a0 a1 g2 x))
 | none,h=>by cases h
 | some r,_=>rfl
theorem zzv (K:Ex→St→Option (Ex×St)):ev9 Γ2 75 3 1 fi75 (z8t a0 a1 c2 g3 g4) K=z22 a0 a1 g3 c2 g4 (fun i' b1'=>K .normal (z8t a0 a1 i' g3 b1')) (fun c0_ c1_ c2_=>K (.exit 0) (zcq a0 a1 g3 c0_ c1_ c2_)):=by kernel_rfl
theorem zzs:∀ (n:Nat) (i:Int) (b1:List Nat),iter 75 3 1 (ev9 Γ2 75 3 1 fi75) n (z8t a0 a1 i g2 b1) (fun e st=>some (e,st))=(zdz a0 a1 g2) (z0m a0 a1 g2 n i b1):=by
 intro n
 induction n with
 | zero=>intros;rfl
 | succ n ih=>
  intro i b1
  refine Eq.trans (iter_succ ..) (Eq.trans (zzv ..) (Eq.trans ?_ (zsn a0 a1 g2 i b1 (zdz a0 a1 g2) rfl (fun i' b1'=>z0m a0 a1 g2 n i' b1') (fun c0_ c1_ c2_=>some (c0_,c1_,c2_)))))
  exact congrArg (fun kn_=>z22 a0 a1 g2 i b1 kn_ _) (funext fun i'=>funext fun b1'=>ih ..)
theorem zuv:LoopOne J fnTab 75 3 zlt:=lpK zfe zfb (fi:=fi75) (by kernel_rfl) (by kernel_rfl) (q:=fun hs=>(z8t (hN hs 0) (hN hs 1) (hI hs 2) (hLn hs 3) (hLn hs 4))) (fun hs=>by kernel_rfl) fun hs h1=>Eq.trans (zzs (hN hs 0) (hN hs 1) (hLn hs 3) big (hI hs 2) (hLn hs 4)) (zz1 (hN hs 0) (hN hs 1) (hLn hs 3) _ h1)
def z7q:St:=(.mk [(x0B 4 e0),(5,(.v (.one (.flt .f64 a1)))),(6,(.v (.one (.flt .f64 a2)))),(7,(.v (.one (.flt .f64 a3)))),(x0I 8 c4)] [])
def za6:St:=(.mk [(x0B 4 e0),(5,(.v (.one (.flt .f64 a1)))),(6,(.v (.one (.flt .f64 a2)))),(7,(.v (.one (.flt .f64 a3)))),(x0I 8 c4),(x0B 44 e5)] [])
def zbs:Option ((Nat×Int×Bool))→Option (Ex×St)
 | none=>none
 | some r=>some ((.exit 0),(za6 e0 a1 a2 r.1 r.2.1 r.2.2))
def zhs (x:Option ((Nat×Int×Bool))):LO:=(.one (.exit 0) (za6 e0 a1 a2 (x.getD default).1 (x.getD default).2.1 (x.getD default).2.2))
def ztt:Bool×LO:=sL (zhs e0 a1 a2) (z0j a2 big a3 c4)
def zjc:Nat→St→Option (Bool×LO):=lpT 0 (pSt [(x1B 4),(pTm 5 (pV (pOne (pFlt .f64)))),(pTm 6 (pV (pOne (pFlt .f64)))),(pTm 7 (pV (pOne (pFlt .f64)))),(x1I 8)] []) (fun hs=>ztt (hB hs 0) (hN hs 1) (hN hs 2) (hN hs 3) (hI hs 4))
theorem zwb:∀ x:Option ((Nat×Int×Bool)),x.isSome=true→(zbs e0 a1 a2) x=some (pick (zhs e0 a1 a2 x))
 | none,h=>by cases h
 | some r,_=>rfl
theorem zwj (K:Ex→St→Option (Ex×St)):ev9 Γ2 164 17 0 fi164 (z7q e0 a1 a2 a3 c4) K=z1k a2 a3 c4 (fun t7' t8'=>K .normal (z7q e0 a1 a2 t7' t8')) (fun c0_ c1_ c2_=>K (.exit 0) (za6 e0 a1 a2 c0_ c1_ c2_)):=by kernel_rfl
theorem zvw:∀ (n t7:Nat) (t8:Int),iter 164 17 0 (ev9 Γ2 164 17 0 fi164) n (z7q e0 a1 a2 t7 t8) (fun e st=>some (e,st))=(zbs e0 a1 a2) (z0j a2 n t7 t8):=by
 intro n
 induction n with
 | zero=>intros;rfl
 | succ n ih=>
  intro t7 t8
  refine Eq.trans (iter_succ ..) (Eq.trans (zwj ..) (Eq.trans ?_ (zqv a2 t7 t8 (zbs e0 a1 a2) rfl (fun t7' t8'=>z0j a2 n t7' t8') (fun c0_ c1_ c2_=>some (c0_,c1_,c2_)))))
  exact congrArg (fun kn_=>z1k a2 t7 t8 kn_ _) (funext fun t7'=>funext fun t8'=>ih ..)
theorem zs4:LoopOne J fnTab 164 17 zjc:=lpK zfe zfb (fi:=fi164) (by kernel_rfl) (by kernel_rfl) (q:=fun hs=>(z7q (hB hs 0) (hN hs 1) (hN hs 2) (hN hs 3) (hI hs 4))) (fun hs=>by kernel_rfl) fun hs h1=>Eq.trans (zvw (hB hs 0) (hN hs 1) (hN hs 2) big (hN hs 3) (hI hs 4)) (zwb (hB hs 0) (hN hs 1) (hN hs 2) _ h1)
def tb3:List (Nat×(List PT→Option (Bool×AV×List Blk))):=(32,zoh)::(45,ziu)::(60,zeh)::(73,zqp)::(113,z92)::(154,zii)::(174,zsg)::tb2
def lt3:List ((Nat×Nat)×(Nat→St→Option (Bool×LO))):=((37,4),zmf)::((75,3),zlt)::((164,17),zjc)::lt2
def Γ3:Ctx:=⟨tyTab,fnTab,tblSum tb3,tblLp lt3⟩
theorem zfc:SumL J tb3:=SumL.cons y6i (SumL.cons y0h (SumL.cons zuf (SumL.cons y6w (SumL.cons zoa (SumL.cons zzb (SumL.cons y8z (zfe)))))))
theorem zf8:LpL J fnTab lt3:=LpL.cons zv2 (LpL.cons zuv (LpL.cons zs4 (zfb)))
def zi4  : Option (Bool)→Option (AV×List Blk)
 | some r=>some ((.v (.one (.bool r))),[])
 | none=>none
def zik:List PT→Option (Bool×AV×List Blk)
 | [.one (.row 1 a_n (.fl .f32 a)),.one (.row 1 b_n (.fl .f32 b))]=>sF zi4 (z5a a_n a b_n b)
 | _=>none
theorem y50:ev8 Γ3 37 [.one (.row 1 a0 (.fl .f32 g1)),.one (.row 1 a2 (.fl .f32 g3))]=zi4 (z5a a0 g1 a2 g3):=tr2 (zwy a0 g1 a2 g3 zi4 rfl (fun c0_=>some c0_)) (by kernel_rfl)
theorem zzu:SumOne J 37 zik:=mkT zfc zf8 fun pts v news hp=>by
 unfold zik at hp
 split at hp
 ·exact fin3 (y50 ..) hp
 ·cases hp
def z7j  : Option (Bool)→Option (AV×List Blk)
 | some r=>some ((.v (.one (.bool r))),[])
 | none=>none
def z7b:List PT→Option (Bool×AV×List Blk)
 | [.one (.row 1 s_n (.bl s)),.one (.s (.bool v))]=>sF z7j (z1c s_n s v)
 | _=>none
theorem zoi:ev8 Γ3 58 [.one (.row 1 a0 (.bl m1)),.one (.s (.bool e2))]=z7j (z1c a0 m1 e2):=tr2 (zky a0 m1 e2 z7j rfl (fun c0_=>some c0_)) (by kernel_rfl)
theorem zln:SumOne J 58 z7b:=mkT zfc zf8 fun pts v news hp=>by
 unfold z7b at hp
 split at hp
 ·exact fin3 (zoi ..) hp
 ·cases hp
def zl2  : Option (Nat×Nat×Nat×(List Nat)×(List Nat)×(List Nat))→Option (AV×List Blk)
 | some r=>some ((.v (.agg [(.sl 0 0 r.1 1),(.sl 1 0 r.2.1 1),(.sl 2 0 r.2.2.1 1)])),[(.mk true (.fl .f32 r.2.2.2.1)),(.mk true (.fl .f32 r.2.2.2.2.1)),(.mk true (.fl .f32 r.2.2.2.2.2))])
 | none=>none
def zkq:List PT→Option (Bool×AV×List Blk)
 | [.agg [.row 1 q1s (.fl .f32 q25),.row 1 q1y (.fl .f32 q28),.row 1 q1z (.fl .f32 q29)]]=>sF zl2 (z1t q1s q25 q1y q28 q1z q29)
 | _=>none
theorem y8d:ev8 Γ3 74 [.agg [.row 1 a0 (.fl .f32 g1),.row 1 a2 (.fl .f32 g3),.row 1 a4 (.fl .f32 g5)]]=zl2 (z1t a0 g1 a2 g3 a4 g5):=tr2 (y01 a0 g1 a2 g3 a4 g5 zl2 rfl (fun c0_ c1_ c2_ c3_ c4_ c5_=>some (c0_,c1_,c2_,c3_,c4_,c5_))) (by kernel_rfl)
theorem y1c:SumOne J 74 zkq:=mkT zfc zf8 fun pts v news hp=>by
 unfold zkq at hp
 split at hp
 ·exact fin3 (y8d ..) hp
 ·cases hp
def ziv  : Option (Nat×(List Nat))→Option (AV×List Blk)
 | some r=>some ((.v (.one (.sl 0 0 r.1 3))),[(.mk true (.fl .f32 r.2))])
 | none=>none
def zic:List PT→Option (Bool×AV×List Blk)
 | [.one (.row 3 a_n (.fl .f32 a))]=>sF ziv (z41 a_n a)
 | _=>none
theorem y6b:ev8 Γ3 75 [.one (.row 3 a0 (.fl .f32 g1))]=ziv (z41 a0 g1):=tr2 (zwx a0 g1 ziv rfl (fun c0_ c1_=>some (c0_,c1_))) (by kernel_rfl)
theorem zzg:SumOne J 75 zic:=mkT zfc zf8 fun pts v news hp=>by
 unfold zic at hp
 split at hp
 ·exact fin3 (y6b ..) hp
 ·cases hp
def zgq  : Option (Nat)→Option (AV×List Blk)
 | some r=>some ((.v (.one (.flt .f64 r))),[])
 | none=>none
def zgn:List PT→Option (Bool×AV×List Blk)
 | [.one (.s (.flt .f64 q1n))]=>sF zgq (z23 q1n)
 | _=>none
theorem y2y:ev8 Γ3 164 [.one (.s (.flt .f64 a0))]=zgq (z23 a0):=tr2 (zvp a0 zgq rfl (fun c0_=>some c0_)) (by kernel_rfl)
theorem zxn:SumOne J 164 zgn:=mkT zfc zf8 fun pts v news hp=>by
 unfold zgn at hp
 split at hp
 ·exact fin3 (y2y ..) hp
 ·cases hp
def zhy  : Option (Nat)→Option (AV×List Blk)
 | some r=>some ((.v (.one (.flt .f64 r))),[])
 | none=>none
def zj1:List PT→Option (Bool×AV×List Blk)
 | [.one (.s (.flt .f64 q2k))]=>sF zhy (z57 q2k)
 | _=>none
theorem y5n:ev8 Γ3 169 [.one (.s (.flt .f64 a0))]=zhy (z57 a0):=tr2 (zws a0 zhy rfl (fun c0_=>some c0_)) (by kernel_rfl)
theorem zz4:SumOne J 169 zj1:=mkT zfc zf8 fun pts v news hp=>by
 unfold zj1 at hp
 split at hp
 ·exact fin3 (y5n ..) hp
 ·cases hp
def z8x:St:=(.mk [(x0V 0 0 a0 3),(x0V 1 1 a1 3),(x0I 5 c2)] [(x0L g3),(x0L g4)])
def zdh(an bn:Nat)(b0 b1:List Nat):St:=(.mk [(x0B 4 false)] [(x0L b0),(x0L b1)])
def zd2:St:=(.mk [(x0V 0 0 a0 3),(x0V 1 1 a1 3),(x0I 5 c4),(x0B 14 e5)] [(x0L g2),(x0L g3)])
def ze3:Option ((Unit)⊕(Int×Bool))→Option (Ex×St)
 | none=>none
 | some (Sum.inl r)=>some (.ret,(zdh a0 a1 g2 g3))
 | some (Sum.inr r)=>some ((.exit 0),(zd2 a0 a1 g2 g3 r.1 r.2))
def zl9 (x:Option ((Unit)⊕(Int×Bool))):LO:=(.two (oL x) (.one .ret (zdh a0 a1 g2 g3)) (.one (.exit 0) (zd2 a0 a1 g2 g3 ((tR x).getD default).1 ((tR x).getD default).2)))
def zwi:Bool×LO:=sL (zl9 a0 a1 g3 g4) (z11 a0 a1 g3 g4 big c2)
def zne:Nat→St→Option (Bool×LO):=lpT 2 (pSt [(x1V 0 0 3),(x1V 1 1 3),(x1I 5)] [x1L,x1L]) (fun hs=>zwi (hN hs 0) (hN hs 1) (hI hs 2) (hLn hs 3) (hLn hs 4))
theorem zzj:∀ x:Option ((Unit)⊕(Int×Bool)),x.isSome=true→(ze3 a0 a1 g2 g3) x=some (pick (zl9 a0 a1 g2 g3 x))
 | none,h=>by cases h
 | some (Sum.inl r),_=>rfl
 | some (Sum.inr r),_=>rfl
theorem zz7 (K:Ex→St→Option (Ex×St)):ev9 Γ3 77 4 2 fi77 (z8x a0 a1 c2 g3 g4) K=z1z a0 a1 g3 g4 c2 (fun i'=>K .normal (z8x a0 a1 i' g3 g4)) (fun _=>K .ret (zdh a0 a1 g3 g4)) (fun c0_ c1_=>K (.exit 0) (zd2 a0 a1 g3 g4 c0_ c1_)):=by kernel_rfl
theorem zys:∀ (n:Nat) (i:Int),iter 77 4 2 (ev9 Γ3 77 4 2 fi77) n (z8x a0 a1 i g2 g3) (fun e st=>some (e,st))=(ze3 a0 a1 g2 g3) (z11 a0 a1 g2 g3 n i):=by
 intro n
 induction n with
 | zero=>intros;rfl
 | succ n ih=>
  intro i
  refine Eq.trans (iter_succ ..) (Eq.trans (zz7 ..) (Eq.trans ?_ (zt6 a0 a1 g2 g3 i (ze3 a0 a1 g2 g3) rfl (fun i'=>z11 a0 a1 g2 g3 n i') (fun _=>some (Sum.inl ())) (fun c0_ c1_=>some (Sum.inr (c0_,c1_))))))
  exact congrArg (fun kn_=>z1z a0 a1 g2 g3 i kn_ _ _) (funext fun i'=>ih ..)
theorem zut:LoopOne J fnTab 77 4 zne:=lpK zfc zf8 (fi:=fi77) (by kernel_rfl) (by kernel_rfl) (q:=fun hs=>(z8x (hN hs 0) (hN hs 1) (hI hs 2) (hLn hs 3) (hLn hs 4))) (fun hs=>by kernel_rfl) fun hs h1=>Eq.trans (zys (hN hs 0) (hN hs 1) (hLn hs 3) (hLn hs 4) big (hI hs 2)) (zzj (hN hs 0) (hN hs 1) (hLn hs 3) (hLn hs 4) _ h1)
def zg9:St:=(.mk [(x0P 0 3 3),(x0I 3 c0),(x0I 4 c1)] [(x0L g2),(x0L g3),(x0L g4),(.mk false (.cells [(.vw 0 0 a5 1),(.vw 1 0 a6 1),(.vw 2 0 a7 1)]))])
def zk5(t3:Int)(b0 b1 b2:List Nat)(q1r q24 q23:Nat):St:=(.mk [(x0B 2 false)] [(x0L b0),(x0L b1),(x0L b2),(.mk false (.cells [(.vw 0 0 q1r 1),(.vw 1 0 q24 1),(.vw 2 0 q23 1)]))])
def zjz:St:=(.mk [(x0P 0 3 3),(x0I 3 c0),(x0I 4 c7),(x0B 36 e8)] [(x0L g1),(x0L g2),(x0L g3),(.mk false (.cells [(.vw 0 0 a4 1),(.vw 1 0 a5 1),(.vw 2 0 a6 1)]))])
def zn0:Option ((Unit)⊕(Int×Bool))→Option (Ex×St)
 | none=>none
 | some (Sum.inl r)=>some (.ret,(zk5 c0 g1 g2 g3 a4 a5 a6))
 | some (Sum.inr r)=>some ((.exit 0),(zjz c0 g1 g2 g3 a4 a5 a6 r.1 r.2))
def zt4 (x:Option ((Unit)⊕(Int×Bool))):LO:=(.two (oL x) (.one .ret (zk5 c0 g1 g2 g3 a4 a5 a6)) (.one (.exit 0) (zjz c0 g1 g2 g3 a4 a5 a6 ((tR x).getD default).1 ((tR x).getD default).2)))
def y6e:Bool×LO:=sL (zt4 c0 g2 g3 g4 a5 a6 a7) (z1p c0 g2 g3 g4 a5 a6 a7 big c1)
def zv8:Nat→St→Option (Bool×LO):=lpT 4 (pSt [(x1P 0 3 3),(x1I 3),(x1I 4)] [x1L,x1L,x1L,(pBlk false (pCells [(pVw 0 (liN 0) 1),(pVw 1 (liN 0) 1),(pVw 2 (liN 0) 1)]))]) (fun hs=>y6e (hI hs 0) (hI hs 1) (hLn hs 2) (hLn hs 3) (hLn hs 4) (hN hs 5) (hN hs 6) (hN hs 7))
theorem y9c:∀ x:Option ((Unit)⊕(Int×Bool)),x.isSome=true→(zn0 c0 g1 g2 g3 a4 a5 a6) x=some (pick (zt4 c0 g1 g2 g3 a4 a5 a6 x))
 | none,h=>by cases h
 | some (Sum.inl r),_=>rfl
 | some (Sum.inr r),_=>rfl
theorem y9g (K:Ex→St→Option (Ex×St)):ev9 Γ3 120 5 4 fi120 (zg9 c0 c1 g2 g3 g4 a5 a6 a7) K=z48 c0 g2 g3 g4 a5 a6 a7 c1 (fun t4'=>K .normal (zg9 c0 t4' g2 g3 g4 a5 a6 a7)) (fun _=>K .ret (zk5 c0 g2 g3 g4 a5 a6 a7)) (fun c0_ c1_=>K (.exit 0) (zjz c0 g2 g3 g4 a5 a6 a7 c0_ c1_)):=by kernel_rfl
theorem y96:∀ (n:Nat) (t4:Int),iter 120 5 4 (ev9 Γ3 120 5 4 fi120) n (zg9 c0 t4 g1 g2 g3 a4 a5 a6) (fun e st=>some (e,st))=(zn0 c0 g1 g2 g3 a4 a5 a6) (z1p c0 g1 g2 g3 a4 a5 a6 n t4):=by
 intro n
 induction n with
 | zero=>intros;rfl
 | succ n ih=>
  intro t4
  refine Eq.trans (iter_succ ..) (Eq.trans (y9g ..) (Eq.trans ?_ (y28 c0 g1 g2 g3 a4 a5 a6 t4 (zn0 c0 g1 g2 g3 a4 a5 a6) rfl (fun t4'=>z1p c0 g1 g2 g3 a4 a5 a6 n t4') (fun _=>some (Sum.inl ())) (fun c0_ c1_=>some (Sum.inr (c0_,c1_))))))
  exact congrArg (fun kn_=>z48 c0 g1 g2 g3 a4 a5 a6 t4 kn_ _ _) (funext fun t4'=>ih ..)
theorem y3q:LoopOne J fnTab 120 5 zv8:=lpK zfc zf8 (fi:=fi120) (by kernel_rfl) (by kernel_rfl) (q:=fun hs=>(zg9 (hI hs 0) (hI hs 1) (hLn hs 2) (hLn hs 3) (hLn hs 4) (hN hs 5) (hN hs 6) (hN hs 7))) (fun hs=>by kernel_rfl) fun hs h1=>Eq.trans (y96 (hI hs 0) (hLn hs 2) (hLn hs 3) (hLn hs 4) (hN hs 5) (hN hs 6) (hN hs 7) big (hI hs 1)) (y9c (hI hs 0) (hLn hs 2) (hLn hs 3) (hLn hs 4) (hN hs 5) (hN hs 6) (hN hs 7) _ h1)
def z1j:St:=(.mk [(x0V 0 0 a0 1),(1,(.v (.one (.fn 115 [])))),(x0I 7 c1),(x0I 8 c2)] [(x0L g3)])
def z2p(sn:Nat)(t7:Int)(b0:List Nat)(c0_:Int):St:=(.mk [(x0I 4 c0_)] [(x0L b0)])
def z2j:St:=(.mk [(x0V 0 0 a0 1),(1,(.v (.one (.fn 115 [])))),(x0I 7 c1),(x0I 8 c3),(x0B 9 e4)] [(x0L g2)])
def z2r:Option ((Int)⊕(Int×Bool))→Option (Ex×St)
 | none=>none
 | some (Sum.inl r)=>some (.ret,(z2p a0 c1 g2 r))
 | some (Sum.inr r)=>some ((.exit 0),(z2j a0 c1 g2 r.1 r.2))
def z5c (x:Option ((Int)⊕(Int×Bool))):LO:=(.two (oL x) (.one .ret (z2p a0 c1 g2 ((tL x).getD default))) (.one (.exit 0) (z2j a0 c1 g2 ((tR x).getD default).1 ((tR x).getD default).2)))
def zae:Bool×LO:=sL (z5c a0 c1 g3) (z01 a0 c1 g3 big c2)
def z5n:Nat→St→Option (Bool×LO):=lpT 1 (pSt [(x1V 0 0 1),(pTm 1 (pV (pOne (pFn 115 [])))),(x1I 7),(x1I 8)] [x1L]) (fun hs=>zae (hN hs 0) (hI hs 1) (hI hs 2) (hLn hs 3))
theorem zb6:∀ x:Option ((Int)⊕(Int×Bool)),x.isSome=true→(z2r a0 c1 g2) x=some (pick (z5c a0 c1 g2 x))
 | none,h=>by cases h
 | some (Sum.inl r),_=>rfl
 | some (Sum.inr r),_=>rfl
theorem zb8 (K:Ex→St→Option (Ex×St)):ev9 Γ3 146 2 1 fi146 (z1j a0 c1 c2 g3) K=z0a a0 c1 g3 c2 (fun t8'=>K .normal (z1j a0 c1 t8' g3)) (fun c0_=>K .ret (z2p a0 c1 g3 c0_)) (fun c0_ c1_=>K (.exit 0) (z2j a0 c1 g3 c0_ c1_)):=by kernel_rfl
theorem zbe:∀ (n:Nat) (t8:Int),iter 146 2 1 (ev9 Γ3 146 2 1 fi146) n (z1j a0 c1 t8 g2) (fun e st=>some (e,st))=(z2r a0 c1 g2) (z01 a0 c1 g2 n t8):=by
 intro n
 induction n with
 | zero=>intros;rfl
 | succ n ih=>
  intro t8
  refine Eq.trans (iter_succ ..) (Eq.trans (zb8 ..) (Eq.trans ?_ (z9c a0 c1 g2 t8 (z2r a0 c1 g2) rfl (fun t8'=>z01 a0 c1 g2 n t8') (fun c0_=>some (Sum.inl c0_)) (fun c0_ c1_=>some (Sum.inr (c0_,c1_))))))
  exact congrArg (fun kn_=>z0a a0 c1 g2 t8 kn_ _ _) (funext fun t8'=>ih ..)
theorem za1:LoopOne J fnTab 146 2 z5n:=lpK zfc zf8 (fi:=fi146) (by kernel_rfl) (by kernel_rfl) (q:=fun hs=>(z1j (hN hs 0) (hI hs 1) (hI hs 2) (hLn hs 3))) (fun hs=>by kernel_rfl) fun hs h1=>Eq.trans (zbe (hN hs 0) (hI hs 1) (hLn hs 3) big (hI hs 2)) (zb6 (hN hs 0) (hI hs 1) (hLn hs 3) _ h1)
def z1n:St:=(.mk [(x0V 0 0 a0 1),(1,(.v (.one (.fn 153 [])))),(x0I 7 c1),(x0I 8 c2)] [(x0L g3)])
def z2v(sn:Nat)(t7:Int)(b0:List Nat)(c0_:Int):St:=(.mk [(x0I 4 c0_)] [(x0L b0)])
def z2w:St:=(.mk [(x0V 0 0 a0 1),(1,(.v (.one (.fn 153 [])))),(x0I 7 c1),(x0I 8 c3),(x0B 9 e4)] [(x0L g2)])
def z36:Option ((Int)⊕(Int×Bool))→Option (Ex×St)
 | none=>none
 | some (Sum.inl r)=>some (.ret,(z2v a0 c1 g2 r))
 | some (Sum.inr r)=>some ((.exit 0),(z2w a0 c1 g2 r.1 r.2))
def z5q (x:Option ((Int)⊕(Int×Bool))):LO:=(.two (oL x) (.one .ret (z2v a0 c1 g2 ((tL x).getD default))) (.one (.exit 0) (z2w a0 c1 g2 ((tR x).getD default).1 ((tR x).getD default).2)))
def zbc:Bool×LO:=sL (z5q a0 c1 g3) (z02 a0 c1 g3 big c2)
def z6f:Nat→St→Option (Bool×LO):=lpT 1 (pSt [(x1V 0 0 1),(pTm 1 (pV (pOne (pFn 153 [])))),(x1I 7),(x1I 8)] [x1L]) (fun hs=>zbc (hN hs 0) (hI hs 1) (hI hs 2) (hLn hs 3))
theorem zdf:∀ x:Option ((Int)⊕(Int×Bool)),x.isSome=true→(z36 a0 c1 g2) x=some (pick (z5q a0 c1 g2 x))
 | none,h=>by cases h
 | some (Sum.inl r),_=>rfl
 | some (Sum.inr r),_=>rfl
theorem zdc (K:Ex→St→Option (Ex×St)):ev9 Γ3 146 2 1 fi146 (z1n a0 c1 c2 g3) K=z0b a0 c1 g3 c2 (fun t8'=>K .normal (z1n a0 c1 t8' g3)) (fun c0_=>K .ret (z2v a0 c1 g3 c0_)) (fun c0_ c1_=>K (.exit 0) (z2w a0 c1 g3 c0_ c1_)):=by kernel_rfl
theorem zcw:∀ (n:Nat) (t8:Int),iter 146 2 1 (ev9 Γ3 146 2 1 fi146) n (z1n a0 c1 t8 g2) (fun e st=>some (e,st))=(z36 a0 c1 g2) (z02 a0 c1 g2 n t8):=by
 intro n
 induction n with
 | zero=>intros;rfl
 | succ n ih=>
  intro t8
  refine Eq.trans (iter_succ ..) (Eq.trans (zdc ..) (Eq.trans ?_ (zaa a0 c1 g2 t8 (z36 a0 c1 g2) rfl (fun t8'=>z02 a0 c1 g2 n t8') (fun c0_=>some (Sum.inl c0_)) (fun c0_ c1_=>some (Sum.inr (c0_,c1_))))))
  exact congrArg (fun kn_=>z0b a0 c1 g2 t8 kn_ _ _) (funext fun t8'=>ih ..)
theorem zau:LoopOne J fnTab 146 2 z6f:=lpK zfc zf8 (fi:=fi146) (by kernel_rfl) (by kernel_rfl) (q:=fun hs=>(z1n (hN hs 0) (hI hs 1) (hI hs 2) (hLn hs 3))) (fun hs=>by kernel_rfl) fun hs h1=>Eq.trans (zcw (hN hs 0) (hI hs 1) (hLn hs 3) big (hI hs 2)) (zdf (hN hs 0) (hI hs 1) (hLn hs 3) _ h1)
def tb4:List (Nat×(List PT→Option (Bool×AV×List Blk))):=(37,zik)::(58,z7b)::(74,zkq)::(75,zic)::(164,zgn)::(169,zj1)::tb3
def lt4:List ((Nat×Nat)×(Nat→St→Option (Bool×LO))):=((77,4),zne)::((120,5),zv8)::((146,2),z5n)::((146,2),z6f)::lt3
def Γ4:Ctx:=⟨tyTab,fnTab,tblSum tb4,tblLp lt4⟩
theorem zj8:SumL J tb4:=SumL.cons zzu (SumL.cons zln (SumL.cons y1c (SumL.cons zzg (SumL.cons zxn (SumL.cons zz4 (zfc))))))
theorem zjb:LpL J fnTab lt4:=LpL.cons zut (LpL.cons y3q (LpL.cons za1 (LpL.cons zau (zf8))))
def zol:Option (Nat×Nat×Nat×Nat×(List Nat)×(List Nat)×(List Nat)×(List Nat))→Option (AV×List Blk)
 | some r=>some ((.v (.agg [(.sl 0 0 r.1 1),(.sl 1 0 r.2.1 1),(.sl 2 0 r.2.2.1 1),(.sl 3 0 r.2.2.2.1 3),(.int .i64 c0),(.flt .f32 a1),(.flt .f32 a2)])),[(.mk true (.fl .f32 r.2.2.2.2.1)),(.mk true (.fl .f32 r.2.2.2.2.2.1)),(.mk true (.fl .f32 r.2.2.2.2.2.2.1)),(.mk true (.fl .f32 r.2.2.2.2.2.2.2))])
 | none=>none
def zpd:List PT→Option (Bool×AV×List Blk)
 | [.agg [.row 1 q0y (.fl .f32 q1b),.row 1 q14 (.fl .f32 q1f),.row 1 q13 (.fl .f32 q1g),.row 3 q1p (.fl .f32 q1v),.s (.int .i64 q27),.s (.flt .f32 q2c),.s (.flt .f32 q2d)]]=>sF (zol q27 q2c q2d) (z1r q0y q1b q14 q1f q13 q1g q1p q1v q27 q2c q2d)
 | _=>none
theorem y9v:ev8 Γ4 34 [.agg [.row 1 a0 (.fl .f32 g1),.row 1 a2 (.fl .f32 g3),.row 1 a4 (.fl .f32 g5),.row 3 a6 (.fl .f32 g7),.s (.int .i64 c8),.s (.flt .f32 a9),.s (.flt .f32 a10)]]=(zol c8 a9 a10) (z1r a0 g1 a2 g3 a4 g5 a6 g7 c8 a9 a10):=tr2 (y41 a0 g1 a2 g3 a4 g5 a6 g7 c8 a9 a10 (zol c8 a9 a10) rfl (fun c0_ c1_ c2_ c3_ c4_ c5_ c6_ c7_=>some (c0_,c1_,c2_,c3_,c4_,c5_,c6_,c7_))) (by kernel_rfl)
theorem y67:SumOne J 34 zpd:=mkT zj8 zjb fun pts v news hp=>by
 unfold zpd at hp
 split at hp
 ·exact fin3 (y9v ..) hp
 ·cases hp
def zjp  : Option (Bool)→Option (AV×List Blk)
 | some r=>some ((.v (.one (.bool r))),[])
 | none=>none
def zk7:List PT→Option (Bool×AV×List Blk)
 | [.agg [.row 1 q1s (.fl .f32 q25),.row 1 q1y (.fl .f32 q28),.row 1 q1z (.fl .f32 q29)],.agg [.row 1 q2z (.fl .f32 q36),.row 1 q33 (.fl .f32 q39),.row 1 q32 (.fl .f32 q3c)]]=>sF zjp (z5t q1s q25 q1y q28 q1z q29 q2z q36 q33 q39 q32 q3c)
 | _=>none
theorem y87:ev8 Γ4 76 [.agg [.row 1 a0 (.fl .f32 g1),.row 1 a2 (.fl .f32 g3),.row 1 a4 (.fl .f32 g5)],.agg [.row 1 a6 (.fl .f32 g7),.row 1 a8 (.fl .f32 g9),.row 1 a10 (.fl .f32 g11)]]=zjp (z5t a0 g1 a2 g3 a4 g5 a6 g7 a8 g9 a10 g11):=tr2 (zyv a0 g1 a2 g3 a4 g5 a6 g7 a8 g9 a10 g11 zjp rfl (fun c0_=>some c0_)) (by kernel_rfl)
theorem y24:SumOne J 76 zk7:=mkT zj8 zjb fun pts v news hp=>by
 unfold zk7 at hp
 split at hp
 ·exact fin3 (y87 ..) hp
 ·cases hp
def zia  : Option (Bool)→Option (AV×List Blk)
 | some r=>some ((.v (.one (.bool r))),[])
 | none=>none
def zih:List PT→Option (Bool×AV×List Blk)
 | [.one (.row 3 a_n (.fl .f32 a)),.one (.row 3 b_n (.fl .f32 b))]=>sF zia (z56 a_n a b_n b)
 | _=>none
theorem y68:ev8 Γ4 77 [.one (.row 3 a0 (.fl .f32 g1)),.one (.row 3 a2 (.fl .f32 g3))]=zia (z56 a0 g1 a2 g3):=tr2 (zy0 a0 g1 a2 g3 zia rfl (fun c0_=>some c0_)) (by kernel_rfl)
theorem y0e:SumOne J 77 zih:=mkT zj8 zjb fun pts v news hp=>by
 unfold zih at hp
 split at hp
 ·exact fin3 (y68 ..) hp
 ·cases hp
def zu8  : Option (Bool)→Option (AV×List Blk)
 | some r=>some ((.v (.one (.bool r))),[])
 | none=>none
def zu6:List PT→Option (Bool×AV×List Blk)
 | [.ptr [.row 1 q0c (.fl .f32 q0h),.row 1 q1a (.fl .f32 q1l),.row 1 q19 (.fl .f32 q1m)]]=>sF zu8 (z9n q0c q0h q1a q1l q19 q1m)
 | _=>none
theorem yc5:ev8 Γ4 120 [.ptr [.row 1 a0 (.fl .f32 g1),.row 1 a2 (.fl .f32 g3),.row 1 a4 (.fl .f32 g5)]]=zu8 (z9n a0 g1 a2 g3 a4 g5):=tr2 (y76 a0 g1 a2 g3 a4 g5 zu8 rfl (fun c0_=>some c0_)) (by kernel_rfl)
theorem y8m:SumOne J 120 zu6:=mkT zj8 zjb fun pts v news hp=>by
 unfold zu6 at hp
 split at hp
 ·exact fin3 (yc5 ..) hp
 ·cases hp
def z3d  : Option (Int)→Option (AV×List Blk)
 | some r=>some ((.v (.one (.int .i64 r))),[])
 | none=>none
def z3i:List PT→Option (Bool×AV×List Blk)
 | [.one (.row 1 s_n (.fl .f32 s)),.fn 115 []]=>sF z3d (z0k s_n s)
 | _=>none
theorem zdl:ev8 Γ4 146 [.one (.row 1 a0 (.fl .f32 g1)),.fn 115 []]=z3d (z0k a0 g1):=tr2 (zb5 a0 g1 z3d rfl (fun c0_=>some c0_)) (by kernel_rfl)
theorem zbr:SumOne J 146 z3i:=mkT zj8 zjb fun pts v news hp=>by
 unfold z3i at hp
 split at hp
 ·exact fin3 (zdl ..) hp
 ·cases hp
def z3s  : Option (Int)→Option (AV×List Blk)
 | some r=>some ((.v (.one (.int .i64 r))),[])
 | none=>none
def z3t:List PT→Option (Bool×AV×List Blk)
 | [.one (.row 1 s_n (.fl .f32 s)),.fn 153 []]=>sF z3s (z0o s_n s)
 | _=>none
theorem zf7:ev8 Γ4 146 [.one (.row 1 a0 (.fl .f32 g1)),.fn 153 []]=z3s (z0o a0 g1):=tr2 (zbv a0 g1 z3s rfl (fun c0_=>some c0_)) (by kernel_rfl)
theorem zcs:SumOne J 146 z3t:=mkT zj8 zjb fun pts v news hp=>by
 unfold z3t at hp
 split at hp
 ·exact fin3 (zf7 ..) hp
 ·cases hp
def zp5  : Option (Nat)→Option (AV×List Blk)
 | some r=>some ((.v (.one (.flt .f32 r))),[])
 | none=>none
def zoj:List PT→Option (Bool×AV×List Blk)
 | [.one (.s (.flt .f32 x))]=>sF zp5 (z67 x)
 | _=>none
theorem y9n:ev8 Γ4 148 [.one (.s (.flt .f32 a0))]=zp5 (z67 a0):=tr2 (y3d a0 zp5 rfl (fun c0_=>some c0_)) (by kernel_rfl)
theorem y5p:SumOne J 148 zoj:=mkT zj8 zjb fun pts v news hp=>by
 unfold zoj at hp
 split at hp
 ·exact fin3 (y9n ..) hp
 ·cases hp
def z1v:St:=(.mk [(x0V 0 0 a0 1),(1,(.v (.one (.fn 154 [])))),(x0I 7 c1),(x0I 8 c2)] [(x0L g3)])
def z3b(sn:Nat)(t7:Int)(b0:List Nat)(c0_:Int):St:=(.mk [(x0I 4 c0_)] [(x0L b0)])
def z3c:St:=(.mk [(x0V 0 0 a0 1),(1,(.v (.one (.fn 154 [])))),(x0I 7 c1),(x0I 8 c3),(x0B 9 e4)] [(x0L g2)])
def z3h:Option ((Int)⊕(Int×Bool))→Option (Ex×St)
 | none=>none
 | some (Sum.inl r)=>some (.ret,(z3b a0 c1 g2 r))
 | some (Sum.inr r)=>some ((.exit 0),(z3c a0 c1 g2 r.1 r.2))
def z63 (x:Option ((Int)⊕(Int×Bool))):LO:=(.two (oL x) (.one .ret (z3b a0 c1 g2 ((tL x).getD default))) (.one (.exit 0) (z3c a0 c1 g2 ((tR x).getD default).1 ((tR x).getD default).2)))
def zbw:Bool×LO:=sL (z63 a0 c1 g3) (z03 a0 c1 g3 big c2)
def z6i:Nat→St→Option (Bool×LO):=lpT 1 (pSt [(x1V 0 0 1),(pTm 1 (pV (pOne (pFn 154 [])))),(x1I 7),(x1I 8)] [x1L]) (fun hs=>zbw (hN hs 0) (hI hs 1) (hI hs 2) (hLn hs 3))
theorem zdk:∀ x:Option ((Int)⊕(Int×Bool)),x.isSome=true→(z3h a0 c1 g2) x=some (pick (z63 a0 c1 g2 x))
 | none,h=>by cases h
 | some (Sum.inl r),_=>rfl
 | some (Sum.inr r),_=>rfl
theorem zdn (K:Ex→St→Option (Ex×St)):ev9 Γ4 146 2 1 fi146 (z1v a0 c1 c2 g3) K=z0c a0 c1 g3 c2 (fun t8'=>K .normal (z1v a0 c1 t8' g3)) (fun c0_=>K .ret (z3b a0 c1 g3 c0_)) (fun c0_ c1_=>K (.exit 0) (z3c a0 c1 g3 c0_ c1_)):=by kernel_rfl
theorem zdm:∀ (n:Nat) (t8:Int),iter 146 2 1 (ev9 Γ4 146 2 1 fi146) n (z1v a0 c1 t8 g2) (fun e st=>some (e,st))=(z3h a0 c1 g2) (z03 a0 c1 g2 n t8):=by
 intro n
 induction n with
 | zero=>intros;rfl
 | succ n ih=>
  intro t8
  refine Eq.trans (iter_succ ..) (Eq.trans (zdn ..) (Eq.trans ?_ (zaw a0 c1 g2 t8 (z3h a0 c1 g2) rfl (fun t8'=>z03 a0 c1 g2 n t8') (fun c0_=>some (Sum.inl c0_)) (fun c0_ c1_=>some (Sum.inr (c0_,c1_))))))
  exact congrArg (fun kn_=>z0c a0 c1 g2 t8 kn_ _ _) (funext fun t8'=>ih ..)
theorem zbo:LoopOne J fnTab 146 2 z6i:=lpK zj8 zjb (fi:=fi146) (by kernel_rfl) (by kernel_rfl) (q:=fun hs=>(z1v (hN hs 0) (hI hs 1) (hI hs 2) (hLn hs 3))) (fun hs=>by kernel_rfl) fun hs h1=>Eq.trans (zdm (hN hs 0) (hI hs 1) (hLn hs 3) big (hI hs 2)) (zdk (hN hs 0) (hI hs 1) (hLn hs 3) _ h1)
def tb5:List (Nat×(List PT→Option (Bool×AV×List Blk))):=(34,zpd)::(76,zk7)::(77,zih)::(120,zu6)::(146,z3i)::(146,z3t)::(148,zoj)::tb4
def lt5:List ((Nat×Nat)×(Nat→St→Option (Bool×LO))):=((146,2),z6i)::lt4
def Γ5:Ctx:=⟨tyTab,fnTab,tblSum tb5,tblLp lt5⟩
theorem zyk:SumL J tb5:=SumL.cons y67 (SumL.cons y24 (SumL.cons y0e (SumL.cons y8m (SumL.cons zbr (SumL.cons zcs (SumL.cons y5p (zj8)))))))
theorem zy4:LpL J fnTab lt5:=LpL.cons zbo (zjb)
def zoc  : Option (Bool)→Option (AV×List Blk)
 | some r=>some ((.v (.one (.bool r))),[])
 | none=>none
def zow:List PT→Option (Bool×AV×List Blk)
 | [.agg [.row 1 q0y (.fl .f32 q1b),.row 1 q14 (.fl .f32 q1f),.row 1 q13 (.fl .f32 q1g),.row 3 q1p (.fl .f32 q1v),.s (.int .i64 q27),.s (.flt .f32 q2c),.s (.flt .f32 q2d)],.agg [.row 1 q2f (.fl .f32 q2l),.row 1 q2g (.fl .f32 q2o),.row 1 q2h (.fl .f32 q2n),.row 3 q2q (.fl .f32 q31),.s (.int .i64 q3d),.s (.flt .f32 q3h),.s (.flt .f32 q3i)]]=>sF zoc (z7n q0y q1b q14 q1f q13 q1g q1p q1v q27 q2c q2d q2f q2l q2g q2o q2h q2n q2q q31 q3d q3h q3i)
 | _=>none
theorem y9y:ev8 Γ5 36 [.agg [.row 1 a0 (.fl .f32 g1),.row 1 a2 (.fl .f32 g3),.row 1 a4 (.fl .f32 g5),.row 3 a6 (.fl .f32 g7),.s (.int .i64 c8),.s (.flt .f32 a9),.s (.flt .f32 a10)],.agg [.row 1 a11 (.fl .f32 g12),.row 1 a13 (.fl .f32 g14),.row 1 a15 (.fl .f32 g16),.row 3 a17 (.fl .f32 g18),.s (.int .i64 c19),.s (.flt .f32 a20),.s (.flt .f32 a21)]]=zoc (z7n a0 g1 a2 g3 a4 g5 a6 g7 c8 a9 a10 a11 g12 a13 g14 a15 g16 a17 g18 c19 a20 a21):=tr2 (y3l a0 g1 a2 g3 a4 g5 a6 g7 c8 a9 a10 a11 g12 a13 g14 a15 g16 a17 g18 c19 a20 a21 zoc rfl (fun c0_=>some c0_)) (by kernel_rfl)
theorem y6l:SumOne J 36 zow:=mkT zyk zy4 fun pts v news hp=>by
 unfold zow at hp
 split at hp
 ·exact fin3 (y9y ..) hp
 ·cases hp
def z43  : Option (Int)→Option (AV×List Blk)
 | some r=>some ((.v (.one (.int .i64 r))),[])
 | none=>none
def z45:List PT→Option (Bool×AV×List Blk)
 | [.one (.row 1 s_n (.fl .f32 s)),.fn 154 []]=>sF z43 (z0q s_n s)
 | _=>none
theorem zfj:ev8 Γ5 146 [.one (.row 1 a0 (.fl .f32 g1)),.fn 154 []]=z43 (z0q a0 g1):=tr2 (zcv a0 g1 z43 rfl (fun c0_=>some c0_)) (by kernel_rfl)
theorem zdj:SumOne J 146 z45:=mkT zyk zy4 fun pts v news hp=>by
 unfold z45 at hp
 split at hp
 ·exact fin3 (zfj ..) hp
 ·cases hp
def zss  : Option (Nat)→Option (AV×List Blk)
 | some r=>some ((.v (.one (.flt .f64 r))),[])
 | none=>none
def zu3:List PT→Option (Bool×AV×List Blk)
 | [.one (.s (.flt .f64 x))]=>sF zss (z9f x)
 | _=>none
theorem yce:ev8 Γ5 175 [.one (.s (.flt .f64 a0))]=zss (z9f a0):=tr2 (y70 a0 zss rfl (fun c0_=>some c0_)) (by kernel_rfl)
theorem y8r:SumOne J 175 zu3:=mkT zyk zy4 fun pts v news hp=>by
 unfold zu3 at hp
 split at hp
 ·exact fin3 (yce ..) hp
 ·cases hp
def zho:St:=(.mk [(x0B 4 e0),(5,(.v (.one (.flt .f64 a1)))),(6,(.v (.one (.flt .f64 a2)))),(7,(.v (.one (.flt .f64 a3)))),(8,(.v (.one (.flt .f64 a4))))] [])
def zms:St:=(.mk [(x0B 4 e0),(5,(.v (.one (.flt .f64 a1)))),(6,(.v (.one (.flt .f64 a2)))),(7,(.v (.one (.flt .f64 a3)))),(8,(.v (.one (.flt .f64 a4)))),(x0B 25 e5)] [])
def zok:Option ((Nat×Nat×Bool))→Option (Ex×St)
 | none=>none
 | some r=>some ((.exit 0),(zms e0 a1 a2 r.1 r.2.1 r.2.2))
def zv6 (x:Option ((Nat×Nat×Bool))):LO:=(.one (.exit 0) (zms e0 a1 a2 (x.getD default).1 (x.getD default).2.1 (x.getD default).2.2))
def y86:Bool×LO:=sL (zv6 e0 a1 a2) (z1q a2 big a3 a4)
def zx2:Nat→St→Option (Bool×LO):=lpT 0 (pSt [(x1B 4),(pTm 5 (pV (pOne (pFlt .f64)))),(pTm 6 (pV (pOne (pFlt .f64)))),(pTm 7 (pV (pOne (pFlt .f64)))),(pTm 8 (pV (pOne (pFlt .f64))))] []) (fun hs=>y86 (hB hs 0) (hN hs 1) (hN hs 2) (hN hs 3) (hN hs 4))
theorem yat:∀ x:Option ((Nat×Nat×Bool)),x.isSome=true→(zok e0 a1 a2) x=some (pick (zv6 e0 a1 a2 x))
 | none,h=>by cases h
 | some r,_=>rfl
theorem y9r (K:Ex→St→Option (Ex×St)):ev9 Γ5 160 9 0 fi160 (zho e0 a1 a2 a3 a4) K=z4s a2 a3 a4 (fun p' k'=>K .normal (zho e0 a1 a2 p' k')) (fun c0_ c1_ c2_=>K (.exit 0) (zms e0 a1 a2 c0_ c1_ c2_)):=by kernel_rfl
theorem yb2:∀ (n p k:Nat),iter 160 9 0 (ev9 Γ5 160 9 0 fi160) n (zho e0 a1 a2 p k) (fun e st=>some (e,st))=(zok e0 a1 a2) (z1q a2 n p k):=by
 intro n
 induction n with
 | zero=>intros;rfl
 | succ n ih=>
  intro p k
  refine Eq.trans (iter_succ ..) (Eq.trans (y9r ..) (Eq.trans ?_ (y3j a2 p k (zok e0 a1 a2) rfl (fun p' k'=>z1q a2 n p' k') (fun c0_ c1_ c2_=>some (c0_,c1_,c2_)))))
  exact congrArg (fun kn_=>z4s a2 p k kn_ _) (funext fun p'=>funext fun k'=>ih ..)
theorem y65:LoopOne J fnTab 160 9 zx2:=lpK zyk zy4 (fi:=fi160) (by kernel_rfl) (by kernel_rfl) (q:=fun hs=>(zho (hB hs 0) (hN hs 1) (hN hs 2) (hN hs 3) (hN hs 4))) (fun hs=>by kernel_rfl) fun hs h1=>Eq.trans (yb2 (hB hs 0) (hN hs 1) (hN hs 2) big (hN hs 3) (hN hs 4)) (yat (hB hs 0) (hN hs 1) (hN hs 2) _ h1)
def tb6:List (Nat×(List PT→Option (Bool×AV×List Blk))):=(36,zow)::(146,z45)::(175,zu3)::tb5
def lt6:List ((Nat×Nat)×(Nat→St→Option (Bool×LO))):=((160,9),zx2)::lt5
def Γ6:Ctx:=⟨tyTab,fnTab,tblSum tb6,tblLp lt6⟩
theorem zlz:SumL J tb6:=SumL.cons y6l (SumL.cons zdj (SumL.cons y8r (zyk)))
theorem zlx:LpL J fnTab lt6:=LpL.cons y65 (zy4)
def z2u  : Option (Bool)→Option (AV×List Blk)
 | some r=>some ((.v (.one (.bool r))),[])
 | none=>none
def z2t:List PT→Option (Bool×AV×List Blk)
 | [.one (.row 1 s_n (.fl .f32 s)),.fn 115 []]=>sF z2u (z0g s_n s)
 | _=>none
theorem zbk:ev8 Γ6 114 [.one (.row 1 a0 (.fl .f32 g1)),.fn 115 []]=z2u (z0g a0 g1):=tr2 (z9l a0 g1 z2u rfl (fun c0_=>some c0_)) (by kernel_rfl)
theorem za2:SumOne J 114 z2t:=mkT zlz zlx fun pts v news hp=>by
 unfold z2t at hp
 split at hp
 ·exact fin3 (zbk ..) hp
 ·cases hp
def z38  : Option (Bool)→Option (AV×List Blk)
 | some r=>some ((.v (.one (.bool r))),[])
 | none=>none
def z34:List PT→Option (Bool×AV×List Blk)
 | [.one (.row 1 s_n (.fl .f32 s)),.fn 153 []]=>sF z38 (z0i s_n s)
 | _=>none
theorem zd8:ev8 Γ6 114 [.one (.row 1 a0 (.fl .f32 g1)),.fn 153 []]=z38 (z0i a0 g1):=tr2 (zad a0 g1 z38 rfl (fun c0_=>some c0_)) (by kernel_rfl)
theorem zb2:SumOne J 114 z34:=mkT zlz zlx fun pts v news hp=>by
 unfold z34 at hp
 split at hp
 ·exact fin3 (zd8 ..) hp
 ·cases hp
def z3f  : Option (Bool)→Option (AV×List Blk)
 | some r=>some ((.v (.one (.bool r))),[])
 | none=>none
def z3e:List PT→Option (Bool×AV×List Blk)
 | [.one (.row 1 s_n (.fl .f32 s)),.fn 154 []]=>sF z3f (z0l s_n s)
 | _=>none
theorem zdi:ev8 Γ6 114 [.one (.row 1 a0 (.fl .f32 g1)),.fn 154 []]=z3f (z0l a0 g1):=tr2 (zaq a0 g1 z3f rfl (fun c0_=>some c0_)) (by kernel_rfl)
theorem zbl:SumOne J 114 z3e:=mkT zlz zlx fun pts v news hp=>by
 unfold z3e at hp
 split at hp
 ·exact fin3 (zdi ..) hp
 ·cases hp
def zwn  : Option (Nat)→Option (AV×List Blk)
 | some r=>some ((.v (.one (.flt .f64 r))),[])
 | none=>none
def zvy:List PT→Option (Bool×AV×List Blk)
 | [.one (.s (.flt .f64 q2k))]=>sF zwn (zba q2k)
 | _=>none
theorem ycj:ev8 Γ6 160 [.one (.s (.flt .f64 a0))]=zwn (zba a0):=tr2 (y91 a0 zwn rfl (fun c0_=>some c0_)) (by kernel_rfl)
theorem yb3:SumOne J 160 zvy:=mkT zlz zlx fun pts v news hp=>by
 unfold zvy at hp
 split at hp
 ·exact fin3 (ycj ..) hp
 ·cases hp
def zku  : Option (Nat)→Option (AV×List Blk)
 | some r=>some ((.v (.one (.flt .f32 r))),[])
 | none=>none
def zk3:List PT→Option (Bool×AV×List Blk)
 | [.one (.s (.flt .f32 x))]=>sF zku (z5w x)
 | _=>none
theorem y7x:ev8 Γ6 170 [.one (.s (.flt .f32 a0))]=zku (z5w a0):=tr2 (zza a0 zku rfl (fun c0_=>some c0_)) (by kernel_rfl)
theorem y2b:SumOne J 170 zk3:=mkT zlz zlx fun pts v news hp=>by
 unfold zk3 at hp
 split at hp
 ·exact fin3 (y7x ..) hp
 ·cases hp
def zoo  : Option (Nat)→Option (AV×List Blk)
 | some r=>some ((.v (.one (.flt .f32 r))),[])
 | none=>none
def zp7:List PT→Option (Bool×AV×List Blk)
 | [.one (.s (.flt .f32 x))]=>sF zoo (z7d x)
 | _=>none
theorem ya7:ev8 Γ6 181 [.one (.s (.flt .f32 a0))]=zoo (z7d a0):=tr2 (y2u a0 zoo rfl (fun c0_=>some c0_)) (by kernel_rfl)
theorem y69:SumOne J 181 zp7:=mkT zlz zlx fun pts v news hp=>by
 unfold zp7 at hp
 split at hp
 ·exact fin3 (ya7 ..) hp
 ·cases hp
def zg1:St:=(.mk [(x0P 0 4 7),(x0F 4 a0),(x0I 57 c1),(x0I 58 c2)] [(x0L g3),(x0L g4),(x0L g5),(x0L g6),(x0R false 0 1 2 3 a7 a8 a9 a10 c11 a12 a13)])
def zk1(t57:Int)(b0 b1 b2 b3:List Nat)(q17 q15 q16 q0r:Nat)(q1k:Int)(q1j q18:Nat):St:=(.mk [(x0B 2 false)] [(x0L b0),(x0L b1),(x0L b2),(x0L b3),(x0R false 0 1 2 3 q17 q15 q16 q0r q1k q1j q18)])
def zl5:St:=(.mk [(x0P 0 4 7),(x0F 4 a12),(x0I 57 c0),(x0I 58 c13),(x0B 59 e14)] [(x0L g1),(x0L g2),(x0L g3),(x0L g4),(x0R false 0 1 2 3 a5 a6 a7 a8 c9 a10 a11)])
def zmc:Option ((Unit)⊕(Nat×Int×Bool))→Option (Ex×St)
 | none=>none
 | some (Sum.inl r)=>some (.ret,(zk1 c0 g1 g2 g3 g4 a5 a6 a7 a8 c9 a10 a11))
 | some (Sum.inr r)=>some ((.exit 0),(zl5 c0 g1 g2 g3 g4 a5 a6 a7 a8 c9 a10 a11 r.1 r.2.1 r.2.2))
def ztg (x:Option ((Unit)⊕(Nat×Int×Bool))):LO:=(.two (oL x) (.one .ret (zk1 c0 g1 g2 g3 g4 a5 a6 a7 a8 c9 a10 a11)) (.one (.exit 0) (zl5 c0 g1 g2 g3 g4 a5 a6 a7 a8 c9 a10 a11 ((tR x).getD default).1 ((tR x).getD default).2.1 ((tR x).getD default).2.2)))
def y5z:Bool×LO:=sL (ztg c1 g3 g4 g5 g6 a7 a8 a9 a10 c11 a12 a13) (z0z c1 g6 a10 a13 big a0 c2)
def zvb:Nat→St→Option (Bool×LO):=lpT 5 (pSt [(x1P 0 4 7),(x1F 4),(x1I 57),(x1I 58)] [x1L,x1L,x1L,x1L,(x1R false 0 1 2 3)]) (fun hs=>y5z (hN hs 0) (hI hs 1) (hI hs 2) (hLn hs 3) (hLn hs 4) (hLn hs 5) (hLn hs 6) (hN hs 7) (hN hs 8) (hN hs 9) (hN hs 10) (hI hs 11) (hN hs 12) (hN hs 13))
theorem y98:∀ x:Option ((Unit)⊕(Nat×Int×Bool)),x.isSome=true→(zmc c0 g1 g2 g3 g4 a5 a6 a7 a8 c9 a10 a11) x=some (pick (ztg c0 g1 g2 g3 g4 a5 a6 a7 a8 c9 a10 a11 x))
 | none,h=>by cases h
 | some (Sum.inl r),_=>rfl
 | some (Sum.inr r),_=>rfl
theorem y9a (K:Ex→St→Option (Ex×St)):ev9 Γ6 82 6 5 fi82 (zg1 a0 c1 c2 g3 g4 g5 g6 a7 a8 a9 a10 c11 a12 a13) K=z49 c1 g6 a10 a13 a0 c2 (fun t4' t58'=>K .normal (zg1 t4' c1 t58' g3 g4 g5 g6 a7 a8 a9 a10 c11 a12 a13)) (fun _=>K .ret (zk1 c1 g3 g4 g5 g6 a7 a8 a9 a10 c11 a12 a13)) (fun c0_ c1_ c2_=>K (.exit 0) (zl5 c1 g3 g4 g5 g6 a7 a8 a9 a10 c11 a12 a13 c0_ c1_ c2_)):=by kernel_rfl
theorem y8x:∀ (n t4:Nat) (t58:Int),iter 82 6 5 (ev9 Γ6 82 6 5 fi82) n (zg1 t4 c0 t58 g1 g2 g3 g4 a5 a6 a7 a8 c9 a10 a11) (fun e st=>some (e,st))=(zmc c0 g1 g2 g3 g4 a5 a6 a7 a8 c9 a10 a11) (z0z c0 g4 a8 a11 n t4 t58):=by
 intro n
 induction n with
 | zero=>intros;rfl
 | succ n ih=>
  intro t4 t58
  refine Eq.trans (iter_succ ..) (Eq.trans (y9a ..) (Eq.trans ?_ (y2e c0 g4 a8 a11 t4 t58 (zmc c0 g1 g2 g3 g4 a5 a6 a7 a8 c9 a10 a11) rfl (fun t4' t58'=>z0z c0 g4 a8 a11 n t4' t58') (fun _=>some (Sum.inl ())) (fun c0_ c1_ c2_=>some (Sum.inr (c0_,c1_,c2_))))))
  exact congrArg (fun kn_=>z49 c0 g4 a8 a11 t4 t58 kn_ _ _) (funext fun t4'=>funext fun t58'=>ih ..)
theorem y4c:LoopOne J fnTab 82 6 zvb:=lpK zlz zlx (fi:=fi82) (by kernel_rfl) (by kernel_rfl) (q:=fun hs=>(zg1 (hN hs 0) (hI hs 1) (hI hs 2) (hLn hs 3) (hLn hs 4) (hLn hs 5) (hLn hs 6) (hN hs 7) (hN hs 8) (hN hs 9) (hN hs 10) (hI hs 11) (hN hs 12) (hN hs 13))) (fun hs=>by kernel_rfl) fun hs h1=>Eq.trans (y8x (hI hs 1) (hLn hs 3) (hLn hs 4) (hLn hs 5) (hLn hs 6) (hN hs 7) (hN hs 8) (hN hs 9) (hN hs 10) (hI hs 11) (hN hs 12) (hN hs 13) big (hN hs 0) (hI hs 2)) (y98 (hI hs 1) (hLn hs 3) (hLn hs 4) (hLn hs 5) (hLn hs 6) (hN hs 7) (hN hs 8) (hN hs 9) (hN hs 10) (hI hs 11) (hN hs 12) (hN hs 13) _ h1)
def tb7:List (Nat×(List PT→Option (Bool×AV×List Blk))):=(114,z2t)::(114,z34)::(114,z3e)::(160,zvy)::(170,zk3)::(181,zp7)::tb6
def lt7:List ((Nat×Nat)×(Nat→St→Option (Bool×LO))):=((82,6),zvb)::lt6
def Γ7:Ctx:=⟨tyTab,fnTab,tblSum tb7,tblLp lt7⟩
theorem zsp:SumL J tb7:=SumL.cons za2 (SumL.cons zb2 (SumL.cons zbl (SumL.cons yb3 (SumL.cons y2b (SumL.cons y69 (zlz))))))
theorem zts:LpL J fnTab lt7:=LpL.cons y4c (zlx)
def zgp  : Option (Bool)→Option (AV×List Blk)
 | some r=>some ((.v (.one (.bool r))),[])
 | none=>none
def zgo:List PT→Option (Bool×AV×List Blk)
 | [.one (.row 1 q1t (.fl .f32 q26))]=>sF zgp (z1m q1t q26)
 | _=>none
theorem y36:ev8 Γ7 64 [.one (.row 1 a0 (.fl .f32 g1))]=zgp (z1m a0 g1):=tr2 (zvt a0 g1 zgp rfl (fun c0_=>some c0_)) (by kernel_rfl)
theorem zxh:SumOne J 64 zgo:=mkT zsp zts fun pts v news hp=>by
 unfold zgo at hp
 split at hp
 ·exact fin3 (y36 ..) hp
 ·cases hp
def ztb  : Option (Bool)→Option (AV×List Blk)
 | some r=>some ((.v (.one (.bool r))),[])
 | none=>none
def zt3:List PT→Option (Bool×AV×List Blk)
 | [.ptr [.row 1 q08 (.fl .f32 q0d),.row 1 q09 (.fl .f32 q0e),.row 1 q0a (.fl .f32 q0f),.row 3 q0g (.fl .f32 q0l),.s (.int .i64 q0n),.s (.flt .f32 q0u),.s (.flt .f32 q0t)]]=>sF ztb (z9g q08 q0d q09 q0e q0a q0f q0g q0l q0n q0u q0t)
 | _=>none
theorem ycd:ev8 Γ7 82 [.ptr [.row 1 a0 (.fl .f32 g1),.row 1 a2 (.fl .f32 g3),.row 1 a4 (.fl .f32 g5),.row 3 a6 (.fl .f32 g7),.s (.int .i64 c8),.s (.flt .f32 a9),.s (.flt .f32 a10)]]=ztb (z9g a0 g1 a2 g3 a4 g5 a6 g7 c8 a9 a10):=tr2 (y84 a0 g1 a2 g3 a4 g5 a6 g7 c8 a9 a10 ztb rfl (fun c0_=>some c0_)) (by kernel_rfl)
theorem y97:SumOne J 82 zt3:=mkT zsp zts fun pts v news hp=>by
 unfold zt3 at hp
 split at hp
 ·exact fin3 (ycd ..) hp
 ·cases hp
def zjv  : Option (Bool)→Option (AV×List Blk)
 | some r=>some ((.v (.one (.bool r))),[])
 | none=>none
def zkp:List PT→Option (Bool×AV×List Blk)
 | [.one (.row 1 q1t (.fl .f32 q26))]=>sF zjv (z4d q1t q26)
 | _=>none
theorem y7y:ev8 Γ7 132 [.one (.row 1 a0 (.fl .f32 g1))]=zjv (z4d a0 g1):=tr2 (zzq a0 g1 zjv rfl (fun c0_=>some c0_)) (by kernel_rfl)
theorem y2m:SumOne J 132 zkp:=mkT zsp zts fun pts v news hp=>by
 unfold zkp at hp
 split at hp
 ·exact fin3 (y7y ..) hp
 ·cases hp
def zmr  : Option (Bool)→Option (AV×List Blk)
 | some r=>some ((.v (.one (.bool r))),[])
 | none=>none
def zls:List PT→Option (Bool×AV×List Blk)
 | [.one (.row 1 q1t (.fl .f32 q26))]=>sF zmr (z6n q1t q26)
 | _=>none
theorem y8l:ev8 Γ7 133 [.one (.row 1 a0 (.fl .f32 g1))]=zmr (z6n a0 g1):=tr2 (y15 a0 g1 zmr rfl (fun c0_=>some c0_)) (by kernel_rfl)
theorem y2q:SumOne J 133 zls:=mkT zsp zts fun pts v news hp=>by
 unfold zls at hp
 split at hp
 ·exact fin3 (y8l ..) hp
 ·cases hp
def zjt  : Option (Nat)→Option (AV×List Blk)
 | some r=>some ((.v (.one (.flt .f32 r))),[])
 | none=>none
def zk9:List PT→Option (Bool×AV×List Blk)
 | [.one (.s (.flt .f32 x))]=>sF zjt (z5s x)
 | _=>none
theorem y7b:ev8 Γ7 141 [.one (.s (.flt .f32 a0))]=zjt (z5s a0):=tr2 (zyw a0 zjt rfl (fun c0_=>some c0_)) (by kernel_rfl)
theorem y2j:SumOne J 141 zk9:=mkT zsp zts fun pts v news hp=>by
 unfold zk9 at hp
 split at hp
 ·exact fin3 (y7b ..) hp
 ·cases hp
def tb8:List (Nat×(List PT→Option (Bool×AV×List Blk))):=(64,zgo)::(82,zt3)::(132,zkp)::(133,zls)::(141,zk9)::tb7
def lt8:List ((Nat×Nat)×(Nat→St→Option (Bool×LO))):=lt7
def Γ8:Ctx:=⟨tyTab,fnTab,tblSum tb8,tblLp lt8⟩
theorem zsd:SumL J tb8:=SumL.cons zxh (SumL.cons y97 (SumL.cons y2m (SumL.cons y2q (SumL.cons y2j (zsp)))))
theorem zti:LpL J fnTab lt8:=zts
def zhz  : Option (Nat×Nat×Bool)→Option (AV×List Blk)
 | some r=>some ((.tup [(.one (.flt .f32 r.1)),(.one (.flt .f32 r.2.1)),(.one (.bool r.2.2))]),[])
 | none=>none
def zi6:List PT→Option (Bool×AV×List Blk)
 | [.one (.s (.flt .f32 x)),.one (.s (.flt .f32 y))]=>sF zhz (z2z x y)
 | _=>none
theorem y6d:ev8 Γ8 107 [.one (.s (.flt .f32 a0)),.one (.s (.flt .f32 a1))]=zhz (z2z a0 a1):=tr2 (zxw a0 a1 zhz rfl (fun c0_ c1_ c2_=>some (c0_,c1_,c2_))) (by kernel_rfl)
theorem zyo:SumOne J 107 zi6:=mkT zsd zti fun pts v news hp=>by
 unfold zi6 at hp
 split at hp
 ·exact fin3 (y6d ..) hp
 ·cases hp
def zi2  : Option (Bool)→Option (AV×List Blk)
 | some r=>some ((.v (.one (.bool r))),[])
 | none=>none
def zie:List PT→Option (Bool×AV×List Blk)
 | [.ptr [.row 1 q00 (.fl .f32 q03),.row 1 q02 (.fl .f32 q04),.row 1 q01 (.fl .f32 q05),.row 3 q06 (.fl .f32 q07),.s (.int .i64 q0b),.s (.flt .f32 q0j),.s (.flt .f32 q0i)],.one (.s (.int .i64 i))]=>sF zi2 (z5b q00 q03 q02 q04 q01 q05 q06 q07 q0b q0j q0i i)
 | _=>none
theorem y64:ev8 Γ8 127 [.ptr [.row 1 a0 (.fl .f32 g1),.row 1 a2 (.fl .f32 g3),.row 1 a4 (.fl .f32 g5),.row 3 a6 (.fl .f32 g7),.s (.int .i64 c8),.s (.flt .f32 a9),.s (.flt .f32 a10)],.one (.s (.int .i64 c11))]=zi2 (z5b a0 g1 a2 g3 a4 g5 a6 g7 c8 a9 a10 c11):=tr2 (zyh a0 g1 a2 g3 a4 g5 a6 g7 c8 a9 a10 c11 zi2 rfl (fun c0_=>some c0_)) (by kernel_rfl)
theorem y06:SumOne J 127 zie:=mkT zsd zti fun pts v news hp=>by
 unfold zie at hp
 split at hp
 ·exact fin3 (y64 ..) hp
 ·cases hp
def zd4  : Option (Nat)→Option (AV×List Blk)
 | some r=>some ((.v (.one (.flt .f32 r))),[])
 | none=>none
def zdg:List PT→Option (Bool×AV×List Blk)
 | [.agg [.row 1 q00 (.fl .f32 q03),.row 1 q02 (.fl .f32 q04),.row 1 q01 (.fl .f32 q05),.row 3 q06 (.fl .f32 q07),.s (.int .i64 q0b),.s (.flt .f32 q0j),.s (.flt .f32 q0i)],.one (.s (.int .i64 i)),.one (.s (.flt .f32 q1q))]=>sF zd4 (z32 q00 q03 q02 q04 q01 q05 q06 q07 q0b q0j q0i i q1q)
 | _=>none
theorem zx1:ev8 Γ8 143 [.agg [.row 1 a0 (.fl .f32 g1),.row 1 a2 (.fl .f32 g3),.row 1 a4 (.fl .f32 g5),.row 3 a6 (.fl .f32 g7),.s (.int .i64 c8),.s (.flt .f32 a9),.s (.flt .f32 a10)],.one (.s (.int .i64 c11)),.one (.s (.flt .f32 a12))]=zd4 (z32 a0 g1 a2 g3 a4 g5 a6 g7 c8 a9 a10 c11 a12):=tr2 (zs3 a0 g1 a2 g3 a4 g5 a6 g7 c8 a9 a10 c11 a12 zd4 rfl (fun c0_=>some c0_)) (by kernel_rfl)
theorem zsm:SumOne J 143 zdg:=mkT zsd zti fun pts v news hp=>by
 unfold zdg at hp
 split at hp
 ·exact fin3 (zx1 ..) hp
 ·cases hp
def z1b:St:=(.mk [(x0V 0 0 a0 1),(1,(.v (.one (.fn 171 [(.ptr 4 0 1)])))),(x0I 7 c1),(x0I 8 c2)] [(x0L g3),(x0L g4),(x0L g5),(.mk true (.cells [(.vw 0 0 a6 1),(.vw 1 0 a7 1),(.vw 2 0 a8 1)])),(.mk true (.cells [(.flt .f32 a9)]))])
def z2d(sn:Nat)(t7:Int)(b0 b1 b2:List Nat)(q1r q24 q23 b4:Nat)(c0_:Int):St:=(.mk [(x0I 4 c0_)] [(x0L b0),(x0L b1),(x0L b2),(.mk true (.cells [(.vw 0 0 q1r 1),(.vw 1 0 q24 1),(.vw 2 0 q23 1)])),(.mk true (.cells [(.flt .f32 b4)]))])
def z2e:St:=(.mk [(x0V 0 0 a0 1),(1,(.v (.one (.fn 171 [(.ptr 4 0 1)])))),(x0I 7 c1),(x0I 8 c9),(x0B 9 e10)] [(x0L g2),(x0L g3),(x0L g4),(.mk true (.cells [(.vw 0 0 a5 1),(.vw 1 0 a6 1),(.vw 2 0 a7 1)])),(.mk true (.cells [(.flt .f32 a8)]))])
def z2l:Option ((Int)⊕(Int×Bool))→Option (Ex×St)
 | none=>none
 | some (Sum.inl r)=>some (.ret,(z2d a0 c1 g2 g3 g4 a5 a6 a7 a8 r))
 | some (Sum.inr r)=>some ((.exit 0),(z2e a0 c1 g2 g3 g4 a5 a6 a7 a8 r.1 r.2))
def z4z (x:Option ((Int)⊕(Int×Bool))):LO:=(.two (oL x) (.one .ret (z2d a0 c1 g2 g3 g4 a5 a6 a7 a8 ((tL x).getD default))) (.one (.exit 0) (z2e a0 c1 g2 g3 g4 a5 a6 a7 a8 ((tR x).getD default).1 ((tR x).getD default).2)))
def za0:Bool×LO:=sL (z4z a0 c1 g3 g4 g5 a6 a7 a8 a9) (z00 a0 c1 g3 a9 big c2)
def z5f:Nat→St→Option (Bool×LO):=lpT 5 (pSt [(x1V 0 0 1),(pTm 1 (pV (pOne (pFn 171 [(pPtr 4 (liN 0) 1)])))),(x1I 7),(x1I 8)] [x1L,x1L,x1L,(pBlk true (pCells [(pVw 0 (liN 0) 1),(pVw 1 (liN 0) 1),(pVw 2 (liN 0) 1)])),(pBlk true (pCells [(pFlt .f32)]))]) (fun hs=>za0 (hN hs 0) (hI hs 1) (hI hs 2) (hLn hs 3) (hLn hs 4) (hLn hs 5) (hN hs 6) (hN hs 7) (hN hs 8) (hN hs 9))
theorem zap:∀ x:Option ((Int)⊕(Int×Bool)),x.isSome=true→(z2l a0 c1 g2 g3 g4 a5 a6 a7 a8) x=some (pick (z4z a0 c1 g2 g3 g4 a5 a6 a7 a8 x))
 | none,h=>by cases h
 | some (Sum.inl r),_=>rfl
 | some (Sum.inr r),_=>rfl
theorem zax (K:Ex→St→Option (Ex×St)):ev9 Γ8 146 2 5 fi146 (z1b a0 c1 c2 g3 g4 g5 a6 a7 a8 a9) K=z09 a0 c1 g3 a9 c2 (fun t8'=>K .normal (z1b a0 c1 t8' g3 g4 g5 a6 a7 a8 a9)) (fun c0_=>K .ret (z2d a0 c1 g3 g4 g5 a6 a7 a8 a9 c0_)) (fun c0_ c1_=>K (.exit 0) (z2e a0 c1 g3 g4 g5 a6 a7 a8 a9 c0_ c1_)):=by kernel_rfl
theorem zav:∀ (n:Nat) (t8:Int),iter 146 2 5 (ev9 Γ8 146 2 5 fi146) n (z1b a0 c1 t8 g2 g3 g4 a5 a6 a7 a8) (fun e st=>some (e,st))=(z2l a0 c1 g2 g3 g4 a5 a6 a7 a8) (z00 a0 c1 g2 a8 n t8):=by
 intro n
 induction n with
 | zero=>intros;rfl
 | succ n ih=>
  intro t8
  refine Eq.trans (iter_succ ..) (Eq.trans (zax ..) (Eq.trans ?_ (z97 a0 c1 g2 a8 t8 (z2l a0 c1 g2 g3 g4 a5 a6 a7 a8) rfl (fun t8'=>z00 a0 c1 g2 a8 n t8') (fun c0_=>some (Sum.inl c0_)) (fun c0_ c1_=>some (Sum.inr (c0_,c1_))))))
  exact congrArg (fun kn_=>z09 a0 c1 g2 a8 t8 kn_ _ _) (funext fun t8'=>ih ..)
theorem z9h:LoopOne J fnTab 146 2 z5f:=lpK zsd zti (fi:=fi146) (by kernel_rfl) (by kernel_rfl) (q:=fun hs=>(z1b (hN hs 0) (hI hs 1) (hI hs 2) (hLn hs 3) (hLn hs 4) (hLn hs 5) (hN hs 6) (hN hs 7) (hN hs 8) (hN hs 9))) (fun hs=>by kernel_rfl) fun hs h1=>Eq.trans (zav (hN hs 0) (hI hs 1) (hLn hs 3) (hLn hs 4) (hLn hs 5) (hN hs 6) (hN hs 7) (hN hs 8) (hN hs 9) big (hI hs 2)) (zap (hN hs 0) (hI hs 1) (hLn hs 3) (hLn hs 4) (hLn hs 5) (hN hs 6) (hN hs 7) (hN hs 8) (hN hs 9) _ h1)
def zcn:St:=(.mk [(x0P 0 3 3),(x0F 8 a0),(x0I 9 c1),(x0I 10 c2)] [(x0L g3),(x0L g4),(x0L g5),(.mk false (.cells [(.vw 0 0 a6 1),(.vw 1 0 a7 1),(.vw 2 0 a8 1)]))])
def zgu:St:=(.mk [(x0P 0 3 3),(x0F 8 a0),(x0I 9 c1),(x0I 10 c8),(x0B 36 e9)] [(x0L g2),(x0L g3),(x0L g4),(.mk false (.cells [(.vw 0 0 a5 1),(.vw 1 0 a6 1),(.vw 2 0 a7 1)]))])
def zip:Option ((Int×Bool))→Option (Ex×St)
 | none=>none
 | some r=>some ((.exit 0),(zgu a0 c1 g2 g3 g4 a5 a6 a7 r.1 r.2))
def zpo (x:Option ((Int×Bool))):LO:=(.one (.exit 0) (zgu a0 c1 g2 g3 g4 a5 a6 a7 (x.getD default).1 (x.getD default).2))
def y26:Bool×LO:=sL (zpo a0 c1 g3 g4 g5 a6 a7 a8) (z1f a0 g3 a6 big c2)
def zr8:Nat→St→Option (Bool×LO):=lpT 4 (pSt [(x1P 0 3 3),(x1F 8),(x1I 9),(x1I 10)] [x1L,x1L,x1L,(pBlk false (pCells [(pVw 0 (liN 0) 1),(pVw 1 (liN 0) 1),(pVw 2 (liN 0) 1)]))]) (fun hs=>y26 (hN hs 0) (hI hs 1) (hI hs 2) (hLn hs 3) (hLn hs 4) (hLn hs 5) (hN hs 6) (hN hs 7) (hN hs 8))
theorem y5y:∀ x:Option ((Int×Bool)),x.isSome=true→(zip a0 c1 g2 g3 g4 a5 a6 a7) x=some (pick (zpo a0 c1 g2 g3 g4 a5 a6 a7 x))
 | none,h=>by cases h
 | some r,_=>rfl
theorem y60 (K:Ex→St→Option (Ex×St)):ev9 Γ8 176 4 4 fi176 (zcn a0 c1 c2 g3 g4 g5 a6 a7 a8) K=z30 a0 g3 a6 c2 (fun t10'=>K .normal (zcn a0 c1 t10' g3 g4 g5 a6 a7 a8)) (fun c0_ c1_=>K (.exit 0) (zgu a0 c1 g3 g4 g5 a6 a7 a8 c0_ c1_)):=by kernel_rfl
theorem y59:∀ (n:Nat) (t10:Int),iter 176 4 4 (ev9 Γ8 176 4 4 fi176) n (zcn a0 c1 t10 g2 g3 g4 a5 a6 a7) (fun e st=>some (e,st))=(zip a0 c1 g2 g3 g4 a5 a6 a7) (z1f a0 g2 a5 n t10):=by
 intro n
 induction n with
 | zero=>intros;rfl
 | succ n ih=>
  intro t10
  refine Eq.trans (iter_succ ..) (Eq.trans (y60 ..) (Eq.trans ?_ (zy7 a0 g2 a5 t10 (zip a0 c1 g2 g3 g4 a5 a6 a7) rfl (fun t10'=>z1f a0 g2 a5 n t10') (fun c0_ c1_=>some (c0_,c1_)))))
  exact congrArg (fun kn_=>z30 a0 g2 a5 t10 kn_ _) (funext fun t10'=>ih ..)
theorem y0i:LoopOne J fnTab 176 4 zr8:=lpK zsd zti (fi:=fi176) (by kernel_rfl) (by kernel_rfl) (q:=fun hs=>(zcn (hN hs 0) (hI hs 1) (hI hs 2) (hLn hs 3) (hLn hs 4) (hLn hs 5) (hN hs 6) (hN hs 7) (hN hs 8))) (fun hs=>by kernel_rfl) fun hs h1=>Eq.trans (y59 (hN hs 0) (hI hs 1) (hLn hs 3) (hLn hs 4) (hLn hs 5) (hN hs 6) (hN hs 7) (hN hs 8) big (hI hs 2)) (y5y (hN hs 0) (hI hs 1) (hLn hs 3) (hLn hs 4) (hLn hs 5) (hN hs 6) (hN hs 7) (hN hs 8) _ h1)
def tb9:List (Nat×(List PT→Option (Bool×AV×List Blk))):=(107,zi6)::(127,zie)::(143,zdg)::tb8
def lt9:List ((Nat×Nat)×(Nat→St→Option (Bool×LO))):=((146,2),z5f)::((176,4),zr8)::lt8
def Γ9:Ctx:=⟨tyTab,fnTab,tblSum tb9,tblLp lt9⟩
theorem zxj:SumL J tb9:=SumL.cons zyo (SumL.cons y06 (SumL.cons zsm (zsd)))
theorem zyl:LpL J fnTab lt9:=LpL.cons z9h (LpL.cons y0i (zti))
def zqj  : Option (Bool)→Option (AV×List Blk)
 | some r=>some ((.v (.one (.bool r))),[])
 | none=>none
def zq5:List PT→Option (Bool×AV×List Blk)
 | [.ptr [.row 1 q00 (.fl .f32 q03),.row 1 q02 (.fl .f32 q04),.row 1 q01 (.fl .f32 q05),.row 3 q06 (.fl .f32 q07),.s (.int .i64 q0b),.s (.flt .f32 q0j),.s (.flt .f32 q0i)],.one (.s (.int .i64 i)),.one (.s (.flt .f32 q0x)),.one (.s (.flt .f32 q0q)),.one (.s (.flt .f32 q0k))]=>sF zqj (z8f q00 q03 q02 q04 q01 q05 q06 q07 q0b q0j q0i i q0x q0q q0k)
 | _=>none
theorem ybn:ev8 Γ9 87 [.ptr [.row 1 a0 (.fl .f32 g1),.row 1 a2 (.fl .f32 g3),.row 1 a4 (.fl .f32 g5),.row 3 a6 (.fl .f32 g7),.s (.int .i64 c8),.s (.flt .f32 a9),.s (.flt .f32 a10)],.one (.s (.int .i64 c11)),.one (.s (.flt .f32 a12)),.one (.s (.flt .f32 a13)),.one (.s (.flt .f32 a14))]=zqj (z8f a0 g1 a2 g3 a4 g5 a6 g7 c8 a9 a10 c11 a12 a13 a14):=tr2 (y5j a0 g1 a2 g3 a4 g5 a6 g7 c8 a9 a10 c11 a12 a13 a14 zqj rfl (fun c0_=>some c0_)) (by kernel_rfl)
theorem y73:SumOne J 87 zq5:=mkT zxj zyl fun pts v news hp=>by
 unfold zq5 at hp
 split at hp
 ·exact fin3 (ybn ..) hp
 ·cases hp
def zbd  : Option (Int×Int×Nat×Nat×Nat)→Option (AV×List Blk)
 | some r=>some ((.tup [(.one (.int .i64 r.1)),(.one (.int .i64 r.2.1)),(.one (.flt .f32 r.2.2.1)),(.one (.flt .f32 r.2.2.2.1)),(.one (.flt .f32 r.2.2.2.2))]),[])
 | none=>none
def zbp:List PT→Option (Bool×AV×List Blk)
 | [.agg [.row 1 q0c (.fl .f32 q0h),.row 1 q1a (.fl .f32 q1l),.row 1 q19 (.fl .f32 q1m)],.one (.s (.flt .f32 x1))]=>sF zbd (z0t q0c q0h q1a q1l q19 q1m x1)
 | _=>none
theorem zwm:ev8 Γ9 161 [.agg [.row 1 a0 (.fl .f32 g1),.row 1 a2 (.fl .f32 g3),.row 1 a4 (.fl .f32 g5)],.one (.s (.flt .f32 a6))]=zbd (z0t a0 g1 a2 g3 a4 g5 a6):=tr2 (zqo a0 g1 a2 g3 a4 g5 a6 zbd rfl (fun c0_ c1_ c2_ c3_ c4_=>some (c0_,c1_,c2_,c3_,c4_))) (by kernel_rfl)
theorem zs5:SumOne J 161 zbp:=mkT zxj zyl fun pts v news hp=>by
 unfold zbp at hp
 split at hp
 ·exact fin3 (zwm ..) hp
 ·cases hp
def zo8  : Option (Int×Int×Nat×Nat)→Option (AV×List Blk)
 | some r=>some ((.tup [(.one (.int .i64 r.1)),(.one (.int .i64 r.2.1)),(.one (.flt .f32 r.2.2.1)),(.one (.flt .f32 r.2.2.2))]),[])
 | none=>none
def zp3:List PT→Option (Bool×AV×List Blk)
 | [.ptr [.row 1 q0c (.fl .f32 q0h),.row 1 q1a (.fl .f32 q1l),.row 1 q19 (.fl .f32 q1m)],.one (.s (.flt .f32 x1))]=>sF zo8 (z37 q0c q0h q1a q1l q19 q1m x1)
 | _=>none
theorem yad:ev8 Γ9 176 [.ptr [.row 1 a0 (.fl .f32 g1),.row 1 a2 (.fl .f32 g3),.row 1 a4 (.fl .f32 g5)],.one (.s (.flt .f32 a6))]=zo8 (z37 a0 g1 a2 g3 a4 g5 a6):=tr2 (y4g a0 g1 a2 g3 a4 g5 a6 zo8 rfl (fun c0_ c1_ c2_ c3_=>some (c0_,c1_,c2_,c3_))) (by kernel_rfl)
theorem y6c:SumOne J 176 zp3:=mkT zxj zyl fun pts v news hp=>by
 unfold zp3 at hp
 split at hp
 ·exact fin3 (yad ..) hp
 ·cases hp
def z7s:St:=(.mk [(x0P 1 3 3),(x0V 42 0 a0 1),(x0I 43 c1),(x0I 44 c2)] [(x0L g3),(x0L g4),(x0L g5),(.mk true (.cells [(.vw 0 0 a6 1),(.vw 1 0 a7 1),(.vw 2 0 a8 1)]))])
def zab(q2y:Nat)(t43:Int)(b0 b1 b2:List Nat)(q1r q24 q23:Nat):St:=(.mk [(x0B 2 false)] [(x0L b0),(x0L b1),(x0L b2)])
def za5:St:=(.mk [(x0P 1 3 3),(x0V 42 0 a0 1),(x0I 43 c1),(x0I 44 c8),(x0B 45 e9)] [(x0L g2),(x0L g3),(x0L g4),(.mk true (.cells [(.vw 0 0 a5 1),(.vw 1 0 a6 1),(.vw 2 0 a7 1)]))])
def zb7:Option ((Unit)⊕(Int×Bool))→Option (Ex×St)
 | none=>none
 | some (Sum.inl r)=>some (.ret,(zab a0 c1 g2 g3 g4 a5 a6 a7))
 | some (Sum.inr r)=>some ((.exit 0),(za5 a0 c1 g2 g3 g4 a5 a6 a7 r.1 r.2))
def zhv (x:Option ((Unit)⊕(Int×Bool))):LO:=(.two (oL x) (.one .ret (zab a0 c1 g2 g3 g4 a5 a6 a7)) (.one (.exit 0) (za5 a0 c1 g2 g3 g4 a5 a6 a7 ((tR x).getD default).1 ((tR x).getD default).2)))
def zth:Bool×LO:=sL (zhv a0 c1 g3 g4 g5 a6 a7 a8) (z0p a0 c1 g3 a6 big c2)
def zj9:Nat→St→Option (Bool×LO):=lpT 3 (pSt [(x1P 1 3 3),(x1V 42 0 1),(x1I 43),(x1I 44)] [x1L,x1L,x1L,(pBlk true (pCells [(pVw 0 (liN 0) 1),(pVw 1 (liN 0) 1),(pVw 2 (liN 0) 1)]))]) (fun hs=>zth (hN hs 0) (hI hs 1) (hI hs 2) (hLn hs 3) (hLn hs 4) (hLn hs 5) (hN hs 6) (hN hs 7) (hN hs 8))
theorem zvl:∀ x:Option ((Unit)⊕(Int×Bool)),x.isSome=true→(zb7 a0 c1 g2 g3 g4 a5 a6 a7) x=some (pick (zhv a0 c1 g2 g3 g4 a5 a6 a7 x))
 | none,h=>by cases h
 | some (Sum.inl r),_=>rfl
 | some (Sum.inr r),_=>rfl
theorem zw1 (K:Ex→St→Option (Ex×St)):ev9 Γ9 89 5 3 fi89 (z7s a0 c1 c2 g3 g4 g5 a6 a7 a8) K=z1i a0 c1 g3 a6 c2 (fun t44'=>K .normal (z7s a0 c1 t44' g3 g4 g5 a6 a7 a8)) (fun _=>K .ret (zab a0 c1 g3 g4 g5 a6 a7 a8)) (fun c0_ c1_=>K (.exit 0) (za5 a0 c1 g3 g4 g5 a6 a7 a8 c0_ c1_)):=by kernel_rfl
theorem zwl:∀ (n:Nat) (t44:Int),iter 89 5 3 (ev9 Γ9 89 5 3 fi89) n (z7s a0 c1 t44 g2 g3 g4 a5 a6 a7) (fun e st=>some (e,st))=(zb7 a0 c1 g2 g3 g4 a5 a6 a7) (z0p a0 c1 g2 a5 n t44):=by
 intro n
 induction n with
 | zero=>intros;rfl
 | succ n ih=>
  intro t44
  refine Eq.trans (iter_succ ..) (Eq.trans (zw1 ..) (Eq.trans ?_ (zq9 a0 c1 g2 a5 t44 (zb7 a0 c1 g2 g3 g4 a5 a6 a7) rfl (fun t44'=>z0p a0 c1 g2 a5 n t44') (fun _=>some (Sum.inl ())) (fun c0_ c1_=>some (Sum.inr (c0_,c1_))))))
  exact congrArg (fun kn_=>z1i a0 c1 g2 a5 t44 kn_ _ _) (funext fun t44'=>ih ..)
theorem zs7:LoopOne J fnTab 89 5 zj9:=lpK zxj zyl (fi:=fi89) (by kernel_rfl) (by kernel_rfl) (q:=fun hs=>(z7s (hN hs 0) (hI hs 1) (hI hs 2) (hLn hs 3) (hLn hs 4) (hLn hs 5) (hN hs 6) (hN hs 7) (hN hs 8))) (fun hs=>by kernel_rfl) fun hs h1=>Eq.trans (zwl (hN hs 0) (hI hs 1) (hLn hs 3) (hLn hs 4) (hLn hs 5) (hN hs 6) (hN hs 7) (hN hs 8) big (hI hs 2)) (zvl (hN hs 0) (hI hs 1) (hLn hs 3) (hLn hs 4) (hLn hs 5) (hN hs 6) (hN hs 7) (hN hs 8) _ h1)
def tb10:List (Nat×(List PT→Option (Bool×AV×List Blk))):=(87,zq5)::(161,zbp)::(176,zp3)::tb9
def lt10:List ((Nat×Nat)×(Nat→St→Option (Bool×LO))):=((89,5),zj9)::lt9
def Γ10:Ctx:=⟨tyTab,fnTab,tblSum tb10,tblLp lt10⟩
theorem zxg:SumL J tb10:=SumL.cons y73 (SumL.cons zs5 (SumL.cons y6c (zxj)))
theorem zxx:LpL J fnTab lt10:=LpL.cons zs7 (zyl)
def zfh  : Option (Bool)→Option (AV×List Blk)
 | some r=>some ((.v (.one (.bool r))),[])
 | none=>none
def zfs:List PT→Option (Bool×AV×List Blk)
 | [.agg [.row 1 q0c (.fl .f32 q0h),.row 1 q1a (.fl .f32 q1l),.row 1 q19 (.fl .f32 q1m)]]=>sF zfh (z44 q0c q0h q1a q1l q19 q1m)
 | _=>none
theorem y25:ev8 Γ10 89 [.agg [.row 1 a0 (.fl .f32 g1),.row 1 a2 (.fl .f32 g3),.row 1 a4 (.fl .f32 g5)]]=zfh (z44 a0 g1 a2 g3 a4 g5):=tr2 (zua a0 g1 a2 g3 a4 g5 zfh rfl (fun c0_=>some c0_)) (by kernel_rfl)
theorem zw0:SumOne J 89 zfs:=mkT zxg zxx fun pts v news hp=>by
 unfold zfs at hp
 split at hp
 ·exact fin3 (y25 ..) hp
 ·cases hp
def zj5  : Option (Nat)→Option (AV×List Blk)
 | some r=>some ((.v (.one (.flt .f32 r))),[])
 | none=>none
def zj4:List PT→Option (Bool×AV×List Blk)
 | [.agg [.row 1 q1c (.fl .f32 q1u),.row 1 q1i (.fl .f32 q21),.row 1 q1h (.fl .f32 q20)],.one (.row 1 q1t (.fl .f32 q26)),.one (.s (.flt .f32 q2b))]=>sF zj5 (z52 q1c q1u q1i q21 q1h q20 q1t q26 q2b)
 | _=>none
theorem y5k:ev8 Γ10 144 [.agg [.row 1 a0 (.fl .f32 g1),.row 1 a2 (.fl .f32 g3),.row 1 a4 (.fl .f32 g5)],.one (.row 1 a6 (.fl .f32 g7)),.one (.s (.flt .f32 a8))]=zj5 (z52 a0 g1 a2 g3 a4 g5 a6 g7 a8):=tr2 (zyf a0 g1 a2 g3 a4 g5 a6 g7 a8 zj5 rfl (fun c0_=>some c0_)) (by kernel_rfl)
theorem zzy:SumOne J 144 zj4:=mkT zxg zxx fun pts v news hp=>by
 unfold zj4 at hp
 split at hp
 ·exact fin3 (y5k ..) hp
 ·cases hp
def ztw  : Option (Nat)→Option (AV×List Blk)
 | some r=>some ((.v (.one (.flt .f32 r))),[])
 | none=>none
def ztq:List PT→Option (Bool×AV×List Blk)
 | [.ptr [.row 1 q1c (.fl .f32 q1u),.row 1 q1i (.fl .f32 q21),.row 1 q1h (.fl .f32 q20)],.one (.row 1 q1t (.fl .f32 q26)),.one (.s (.flt .f32 q2b))]=>sF ztw (z9j q1c q1u q1i q21 q1h q20 q1t q26 q2b)
 | _=>none
theorem ycb:ev8 Γ10 172 [.ptr [.row 1 a0 (.fl .f32 g1),.row 1 a2 (.fl .f32 g3),.row 1 a4 (.fl .f32 g5)],.one (.row 1 a6 (.fl .f32 g7)),.one (.s (.flt .f32 a8))]=ztw (z9j a0 g1 a2 g3 a4 g5 a6 g7 a8):=tr2 (y7s a0 g1 a2 g3 a4 g5 a6 g7 a8 ztw rfl (fun c0_=>some c0_)) (by kernel_rfl)
theorem y8h:SumOne J 172 ztq:=mkT zxg zxx fun pts v news hp=>by
 unfold ztq at hp
 split at hp
 ·exact fin3 (ycb ..) hp
 ·cases hp
def tb11:List (Nat×(List PT→Option (Bool×AV×List Blk))):=(89,zfs)::(144,zj4)::(172,ztq)::tb10
def lt11:List ((Nat×Nat)×(Nat→St→Option (Bool×LO))):=lt10
def Γ11:Ctx:=⟨tyTab,fnTab,tblSum tb11,tblLp lt11⟩
theorem zxy:SumL J tb11:=SumL.cons zw0 (SumL.cons zzy (SumL.cons y8h (zxg)))
theorem zwu:LpL J fnTab lt11:=zxx
def zfq  : Option (Nat×Nat)→Option (AV×List Blk)
 | some r=>some ((.tup [(.one (.flt .f32 r.1)),(.one (.flt .f32 r.2))]),[])
 | none=>none
def zfm:List PT→Option (Bool×AV×List Blk)
 | [.agg [.row 1 q00 (.fl .f32 q03),.row 1 q02 (.fl .f32 q04),.row 1 q01 (.fl .f32 q05),.row 3 q06 (.fl .f32 q07),.s (.int .i64 q0b),.s (.flt .f32 q0j),.s (.flt .f32 q0i)],.one (.s (.int .i64 i)),.one (.s (.flt .f32 q1q)),.one (.s (.flt .f32 q0k))]=>sF zfq (z2b q00 q03 q02 q04 q01 q05 q06 q07 q0b q0j q0i i q1q q0k)
 | _=>none
theorem y2o:ev8 Γ11 106 [.agg [.row 1 a0 (.fl .f32 g1),.row 1 a2 (.fl .f32 g3),.row 1 a4 (.fl .f32 g5),.row 3 a6 (.fl .f32 g7),.s (.int .i64 c8),.s (.flt .f32 a9),.s (.flt .f32 a10)],.one (.s (.int .i64 c11)),.one (.s (.flt .f32 a12)),.one (.s (.flt .f32 a13))]=zfq (z2b a0 g1 a2 g3 a4 g5 a6 g7 c8 a9 a10 c11 a12 a13):=tr2 (zun a0 g1 a2 g3 a4 g5 a6 g7 c8 a9 a10 c11 a12 a13 zfq rfl (fun c0_ c1_=>some (c0_,c1_))) (by kernel_rfl)
theorem zwf:SumOne J 106 zfm:=mkT zxy zwu fun pts v news hp=>by
 unfold zfm at hp
 split at hp
 ·exact fin3 (y2o ..) hp
 ·cases hp
def zor  : Option (Nat)→Option (AV×List Blk)
 | some r=>some ((.v (.one (.flt .f32 r))),[])
 | none=>none
def zoy:List PT→Option (Bool×AV×List Blk)
 | [.ptr [.row 1 q1c (.fl .f32 q1u),.row 1 q1i (.fl .f32 q21),.row 1 q1h (.fl .f32 q20)],.one (.s (.flt .f32 q2b))]=>sF zor (z7k q1c q1u q1i q21 q1h q20 q2b)
 | _=>none
theorem yav:ev8 Γ11 165 [.ptr [.row 1 a0 (.fl .f32 g1),.row 1 a2 (.fl .f32 g3),.row 1 a4 (.fl .f32 g5)],.one (.s (.flt .f32 a6))]=zor (z7k a0 g1 a2 g3 a4 g5 a6):=tr2 (y43 a0 g1 a2 g3 a4 g5 a6 zor rfl (fun c0_=>some c0_)) (by kernel_rfl)
theorem y6a:SumOne J 165 zoy:=mkT zxy zwu fun pts v news hp=>by
 unfold zoy at hp
 split at hp
 ·exact fin3 (yav ..) hp
 ·cases hp
def zpb  : Option (Nat)→Option (AV×List Blk)
 | some r=>some ((.v (.one (.flt .f32 r))),[])
 | none=>none
def zob:List PT→Option (Bool×AV×List Blk)
 | [.ptr [.row 1 q1c (.fl .f32 q1u),.row 1 q1i (.fl .f32 q21),.row 1 q1h (.fl .f32 q20)],.one (.s (.flt .f32 q2b))]=>sF zpb (z7h q1c q1u q1i q21 q1h q20 q2b)
 | _=>none
theorem yae:ev8 Γ11 166 [.ptr [.row 1 a0 (.fl .f32 g1),.row 1 a2 (.fl .f32 g3),.row 1 a4 (.fl .f32 g5)],.one (.s (.flt .f32 a6))]=zpb (z7h a0 g1 a2 g3 a4 g5 a6):=tr2 (y2s a0 g1 a2 g3 a4 g5 a6 zpb rfl (fun c0_=>some c0_)) (by kernel_rfl)
theorem y5m:SumOne J 166 zob:=mkT zxy zwu fun pts v news hp=>by
 unfold zob at hp
 split at hp
 ·exact fin3 (yae ..) hp
 ·cases hp
def tb12:List (Nat×(List PT→Option (Bool×AV×List Blk))):=(106,zfm)::(165,zoy)::(166,zob)::tb11
def lt12:List ((Nat×Nat)×(Nat→St→Option (Bool×LO))):=lt11
def Γ12:Ctx:=⟨tyTab,fnTab,tblSum tb12,tblLp lt12⟩
theorem zwq:SumL J tb12:=SumL.cons zwf (SumL.cons y6a (SumL.cons y5m (zxy)))
theorem zxi:LpL J fnTab lt12:=zwu
def zfp  : Option (Nat×Nat)→Option (AV×List Blk)
 | some r=>some ((.tup [(.one (.flt .f32 r.1)),(.one (.flt .f32 r.2))]),[])
 | none=>none
def zfk:List PT→Option (Bool×AV×List Blk)
 | [.agg [.row 1 q00 (.fl .f32 q03),.row 1 q02 (.fl .f32 q04),.row 1 q01 (.fl .f32 q05),.row 3 q06 (.fl .f32 q07),.s (.int .i64 q0b),.s (.flt .f32 q0j),.s (.flt .f32 q0i)],.one (.s (.int .i64 i)),.one (.s (.flt .f32 q1q)),.one (.s (.flt .f32 q0k))]=>sF zfp (z2y q00 q03 q02 q04 q01 q05 q06 q07 q0b q0j q0i i q1q q0k)
 | _=>none
theorem y2k:ev8 Γ12 105 [.agg [.row 1 a0 (.fl .f32 g1),.row 1 a2 (.fl .f32 g3),.row 1 a4 (.fl .f32 g5),.row 3 a6 (.fl .f32 g7),.s (.int .i64 c8),.s (.flt .f32 a9),.s (.flt .f32 a10)],.one (.s (.int .i64 c11)),.one (.s (.flt .f32 a12)),.one (.s (.flt .f32 a13))]=zfp (z2y a0 g1 a2 g3 a4 g5 a6 g7 c8 a9 a10 c11 a12 a13):=tr2 (zuy a0 g1 a2 g3 a4 g5 a6 g7 c8 a9 a10 c11 a12 a13 zfp rfl (fun c0_ c1_=>some (c0_,c1_))) (by kernel_rfl)
theorem zvk:SumOne J 105 zfk:=mkT zwq zxi fun pts v news hp=>by
 unfold zfk at hp
 split at hp
 ·exact fin3 (y2k ..) hp
 ·cases hp
def zjx  : Option (Nat×Nat)→Option (AV×List Blk)
 | some r=>some ((.tup [(.one (.flt .f32 r.1)),(.one (.flt .f32 r.2))]),[])
 | none=>none
def zko:List PT→Option (Bool×AV×List Blk)
 | [.ptr [.row 1 q00 (.fl .f32 q03),.row 1 q02 (.fl .f32 q04),.row 1 q01 (.fl .f32 q05),.row 3 q06 (.fl .f32 q07),.s (.int .i64 q0b),.s (.flt .f32 q0j),.s (.flt .f32 q0i)],.one (.s (.int .i64 i)),.one (.s (.flt .f32 q1q)),.one (.s (.flt .f32 q0k))]=>sF zjx (z4k q00 q03 q02 q04 q01 q05 q06 q07 q0b q0j q0i i q1q q0k)
 | _=>none
theorem y80:ev8 Γ12 150 [.ptr [.row 1 a0 (.fl .f32 g1),.row 1 a2 (.fl .f32 g3),.row 1 a4 (.fl .f32 g5),.row 3 a6 (.fl .f32 g7),.s (.int .i64 c8),.s (.flt .f32 a9),.s (.flt .f32 a10)],.one (.s (.int .i64 c11)),.one (.s (.flt .f32 a12)),.one (.s (.flt .f32 a13))]=zjx (z4k a0 g1 a2 g3 a4 g5 a6 g7 c8 a9 a10 c11 a12 a13):=tr2 (zzr a0 g1 a2 g3 a4 g5 a6 g7 c8 a9 a10 c11 a12 a13 zjx rfl (fun c0_ c1_=>some (c0_,c1_))) (by kernel_rfl)
theorem y1p:SumOne J 150 zko:=mkT zwq zxi fun pts v news hp=>by
 unfold zko at hp
 split at hp
 ·exact fin3 (y80 ..) hp
 ·cases hp
def z8s:St:=(.mk [(x0P 1 4 7),(x0F 4 a0),(x0V 43 3 a1 3),(x0I 44 c2),(x0I 45 c3)] [(x0L g4),(x0L g5),(x0L g6),(x0L g7),(x0R true 0 1 2 3 a8 a9 a10 a11 c12 a13 a14)])
def zda(q2w:Nat)(t44:Int)(b0 b1 b2 b3:List Nat)(q17 q15 q16 q0r:Nat)(q1k:Int)(q1j q18:Nat):St:=(.mk [(x0B 2 false)] [(x0L b0),(x0L b1),(x0L b2),(x0L b3)])
def zdd:St:=(.mk [(x0P 1 4 7),(x0F 4 a13),(x0V 43 3 a0 3),(x0I 44 c1),(x0I 45 c14),(x0B 46 e15)] [(x0L g2),(x0L g3),(x0L g4),(x0L g5),(x0R true 0 1 2 3 a6 a7 a8 a9 c10 a11 a12)])
def zdv:Option ((Unit)⊕(Nat×Int×Bool))→Option (Ex×St)
 | none=>none
 | some (Sum.inl r)=>some (.ret,(zda a0 c1 g2 g3 g4 g5 a6 a7 a8 a9 c10 a11 a12))
 | some (Sum.inr r)=>some ((.exit 0),(zdd a0 c1 g2 g3 g4 g5 a6 a7 a8 a9 c10 a11 a12 r.1 r.2.1 r.2.2))
def zlk (x:Option ((Unit)⊕(Nat×Int×Bool))):LO:=(.two (oL x) (.one .ret (zda a0 c1 g2 g3 g4 g5 a6 a7 a8 a9 c10 a11 a12)) (.one (.exit 0) (zdd a0 c1 g2 g3 g4 g5 a6 a7 a8 a9 c10 a11 a12 ((tR x).getD default).1 ((tR x).getD default).2.1 ((tR x).getD default).2.2)))
def zvn:Bool×LO:=sL (zlk a1 c2 g4 g5 g6 g7 a8 a9 a10 a11 c12 a13 a14) (z0f a1 c2 g7 a14 big a0 c3)
def zn1:Nat→St→Option (Bool×LO):=lpT 4 (pSt [(x1P 1 4 7),(x1F 4),(x1V 43 3 3),(x1I 44),(x1I 45)] [x1L,x1L,x1L,x1L,(x1R true 0 1 2 3)]) (fun hs=>zvn (hN hs 0) (hN hs 1) (hI hs 2) (hI hs 3) (hLn hs 4) (hLn hs 5) (hLn hs 6) (hLn hs 7) (hN hs 8) (hN hs 9) (hN hs 10) (hN hs 11) (hI hs 12) (hN hs 13) (hN hs 14))
theorem zzd:∀ x:Option ((Unit)⊕(Nat×Int×Bool)),x.isSome=true→(zdv a0 c1 g2 g3 g4 g5 a6 a7 a8 a9 c10 a11 a12) x=some (pick (zlk a0 c1 g2 g3 g4 g5 a6 a7 a8 a9 c10 a11 a12 x))
 | none,h=>by cases h
 | some (Sum.inl r),_=>rfl
 | some (Sum.inr r),_=>rfl
theorem zyy (K:Ex→St→Option (Ex×St)):ev9 Γ12 51 6 4 fi51 (z8s a0 a1 c2 c3 g4 g5 g6 g7 a8 a9 a10 a11 c12 a13 a14) K=z20 a1 c2 g7 a14 a0 c3 (fun t4' t45'=>K .normal (z8s t4' a1 c2 t45' g4 g5 g6 g7 a8 a9 a10 a11 c12 a13 a14)) (fun _=>K .ret (zda a1 c2 g4 g5 g6 g7 a8 a9 a10 a11 c12 a13 a14)) (fun c0_ c1_ c2_=>K (.exit 0) (zdd a1 c2 g4 g5 g6 g7 a8 a9 a10 a11 c12 a13 a14 c0_ c1_ c2_)):=by kernel_rfl
theorem y0d:∀ (n t4:Nat) (t45:Int),iter 51 6 4 (ev9 Γ12 51 6 4 fi51) n (z8s t4 a0 c1 t45 g2 g3 g4 g5 a6 a7 a8 a9 c10 a11 a12) (fun e st=>some (e,st))=(zdv a0 c1 g2 g3 g4 g5 a6 a7 a8 a9 c10 a11 a12) (z0f a0 c1 g5 a12 n t4 t45):=by
 intro n
 induction n with
 | zero=>intros;rfl
 | succ n ih=>
  intro t4 t45
  refine Eq.trans (iter_succ ..) (Eq.trans (zyy ..) (Eq.trans ?_ (zto a0 c1 g5 a12 t4 t45 (zdv a0 c1 g2 g3 g4 g5 a6 a7 a8 a9 c10 a11 a12) rfl (fun t4' t45'=>z0f a0 c1 g5 a12 n t4' t45') (fun _=>some (Sum.inl ())) (fun c0_ c1_ c2_=>some (Sum.inr (c0_,c1_,c2_))))))
  exact congrArg (fun kn_=>z20 a0 c1 g5 a12 t4 t45 kn_ _ _) (funext fun t4'=>funext fun t45'=>ih ..)
theorem zui:LoopOne J fnTab 51 6 zn1:=lpK zwq zxi (fi:=fi51) (by kernel_rfl) (by kernel_rfl) (q:=fun hs=>(z8s (hN hs 0) (hN hs 1) (hI hs 2) (hI hs 3) (hLn hs 4) (hLn hs 5) (hLn hs 6) (hLn hs 7) (hN hs 8) (hN hs 9) (hN hs 10) (hN hs 11) (hI hs 12) (hN hs 13) (hN hs 14))) (fun hs=>by kernel_rfl) fun hs h1=>Eq.trans (y0d (hN hs 1) (hI hs 2) (hLn hs 4) (hLn hs 5) (hLn hs 6) (hLn hs 7) (hN hs 8) (hN hs 9) (hN hs 10) (hN hs 11) (hI hs 12) (hN hs 13) (hN hs 14) big (hN hs 0) (hI hs 3)) (zzd (hN hs 1) (hI hs 2) (hLn hs 4) (hLn hs 5) (hLn hs 6) (hLn hs 7) (hN hs 8) (hN hs 9) (hN hs 10) (hN hs 11) (hI hs 12) (hN hs 13) (hN hs 14) _ h1)
def tb13:List (Nat×(List PT→Option (Bool×AV×List Blk))):=(105,zfk)::(150,zko)::tb12
def lt13:List ((Nat×Nat)×(Nat→St→Option (Bool×LO))):=((51,6),zn1)::lt12
def Γ13:Ctx:=⟨tyTab,fnTab,tblSum tb13,tblLp lt13⟩
theorem zxa:SumL J tb13:=SumL.cons zvk (SumL.cons y1p (zwq))
theorem zy2:LpL J fnTab lt13:=LpL.cons zui (zxi)
def zi0  : Option (Bool)→Option (AV×List Blk)
 | some r=>some ((.v (.one (.bool r))),[])
 | none=>none
def zil:List PT→Option (Bool×AV×List Blk)
 | [.agg [.row 1 q08 (.fl .f32 q0d),.row 1 q09 (.fl .f32 q0e),.row 1 q0a (.fl .f32 q0f),.row 3 q0g (.fl .f32 q0l),.s (.int .i64 q0n),.s (.flt .f32 q0u),.s (.flt .f32 q0t)]]=>sF zi0 (z53 q08 q0d q09 q0e q0a q0f q0g q0l q0n q0u q0t)
 | _=>none
theorem y61:ev8 Γ13 51 [.agg [.row 1 a0 (.fl .f32 g1),.row 1 a2 (.fl .f32 g3),.row 1 a4 (.fl .f32 g5),.row 3 a6 (.fl .f32 g7),.s (.int .i64 c8),.s (.flt .f32 a9),.s (.flt .f32 a10)]]=zi0 (z53 a0 g1 a2 g3 a4 g5 a6 g7 c8 a9 a10):=tr2 (zwv a0 g1 a2 g3 a4 g5 a6 g7 c8 a9 a10 zi0 rfl (fun c0_=>some c0_)) (by kernel_rfl)
theorem y0l:SumOne J 51 zil:=mkT zxa zy2 fun pts v news hp=>by
 unfold zil at hp
 split at hp
 ·exact fin3 (y61 ..) hp
 ·cases hp
def zp2  : Option (Nat×Nat×Nat×Nat)→Option (AV×List Blk)
 | some r=>some ((.tup [(.one (.flt .f32 r.1)),(.one (.flt .f32 r.2.1)),(.one (.flt .f32 r.2.2.1)),(.one (.flt .f32 r.2.2.2))]),[])
 | none=>none
def zp1:List PT→Option (Bool×AV×List Blk)
 | [.ptr [.row 1 q00 (.fl .f32 q03),.row 1 q02 (.fl .f32 q04),.row 1 q01 (.fl .f32 q05),.row 3 q06 (.fl .f32 q07),.s (.int .i64 q0b),.s (.flt .f32 q0j),.s (.flt .f32 q0i)],.one (.s (.int .i64 i)),.one (.s (.flt .f32 q1q)),.one (.s (.flt .f32 q0k))]=>sF zp2 (z3u q00 q03 q02 q04 q01 q05 q06 q07 q0b q0j q0i i q1q q0k)
 | _=>none
theorem yah:ev8 Γ13 130 [.ptr [.row 1 a0 (.fl .f32 g1),.row 1 a2 (.fl .f32 g3),.row 1 a4 (.fl .f32 g5),.row 3 a6 (.fl .f32 g7),.s (.int .i64 c8),.s (.flt .f32 a9),.s (.flt .f32 a10)],.one (.s (.int .i64 c11)),.one (.s (.flt .f32 a12)),.one (.s (.flt .f32 a13))]=zp2 (z3u a0 g1 a2 g3 a4 g5 a6 g7 c8 a9 a10 c11 a12 a13):=tr2 (y35 a0 g1 a2 g3 a4 g5 a6 g7 c8 a9 a10 c11 a12 a13 zp2 rfl (fun c0_ c1_ c2_ c3_=>some (c0_,c1_,c2_,c3_))) (by kernel_rfl)
theorem y5a:SumOne J 130 zp1:=mkT zxa zy2 fun pts v news hp=>by
 unfold zp1 at hp
 split at hp
 ·exact fin3 (yah ..) hp
 ·cases hp
def zel  : Option (Nat)→Option (AV×List Blk)
 | some r=>some ((.v (.one (.flt .f32 r))),[])
 | none=>none
def zeu:List PT→Option (Bool×AV×List Blk)
 | [.agg [.row 1 q00 (.fl .f32 q03),.row 1 q02 (.fl .f32 q04),.row 1 q01 (.fl .f32 q05),.row 3 q06 (.fl .f32 q07),.s (.int .i64 q0b),.s (.flt .f32 q0j),.s (.flt .f32 q0i)],.one (.s (.int .i64 i)),.one (.s (.flt .f32 q1q)),.one (.s (.flt .f32 q0x)),.one (.s (.flt .f32 q0q)),.one (.s (.flt .f32 q0k))]=>sF zel (z2m q00 q03 q02 q04 q01 q05 q06 q07 q0b q0j q0i i q1q q0x q0q q0k)
 | _=>none
theorem zz3:ev8 Γ13 157 [.agg [.row 1 a0 (.fl .f32 g1),.row 1 a2 (.fl .f32 g3),.row 1 a4 (.fl .f32 g5),.row 3 a6 (.fl .f32 g7),.s (.int .i64 c8),.s (.flt .f32 a9),.s (.flt .f32 a10)],.one (.s (.int .i64 c11)),.one (.s (.flt .f32 a12)),.one (.s (.flt .f32 a13)),.one (.s (.flt .f32 a14)),.one (.s (.flt .f32 a15))]=zel (z2m a0 g1 a2 g3 a4 g5 a6 g7 c8 a9 a10 c11 a12 a13 a14 a15):=tr2 (zst a0 g1 a2 g3 a4 g5 a6 g7 c8 a9 a10 c11 a12 a13 a14 a15 zel rfl (fun c0_=>some c0_)) (by kernel_rfl)
theorem zus:SumOne J 157 zeu:=mkT zxa zy2 fun pts v news hp=>by
 unfold zeu at hp
 split at hp
 ·exact fin3 (zz3 ..) hp
 ·cases hp
def tb14:List (Nat×(List PT→Option (Bool×AV×List Blk))):=(51,zil)::(130,zp1)::(157,zeu)::tb13
def lt14:List ((Nat×Nat)×(Nat→St→Option (Bool×LO))):=lt13
def Γ14:Ctx:=⟨tyTab,fnTab,tblSum tb14,tblLp lt14⟩
theorem y4k:SumL J tb14:=SumL.cons y0l (SumL.cons y5a (SumL.cons zus (zxa)))
theorem y4r:LpL J fnTab lt14:=zy2
def zof  : Option (Bool)→Option (AV×List Blk)
 | some r=>some ((.v (.one (.bool r))),[])
 | none=>none
def zo5:List PT→Option (Bool×AV×List Blk)
 | [.agg [.row 1 q00 (.fl .f32 q03),.row 1 q02 (.fl .f32 q04),.row 1 q01 (.fl .f32 q05),.row 3 q06 (.fl .f32 q07),.s (.int .i64 q0b),.s (.flt .f32 q0j),.s (.flt .f32 q0i)],.one (.s (.int .i64 i)),.one (.s (.flt .f32 q0x)),.one (.s (.flt .f32 q0q)),.one (.s (.flt .f32 q0k))]=>sF zof (z7o q00 q03 q02 q04 q01 q05 q06 q07 q0b q0j q0i i q0x q0q q0k)
 | _=>none
theorem yao:ev8 Γ14 139 [.agg [.row 1 a0 (.fl .f32 g1),.row 1 a2 (.fl .f32 g3),.row 1 a4 (.fl .f32 g5),.row 3 a6 (.fl .f32 g7),.s (.int .i64 c8),.s (.flt .f32 a9),.s (.flt .f32 a10)],.one (.s (.int .i64 c11)),.one (.s (.flt .f32 a12)),.one (.s (.flt .f32 a13)),.one (.s (.flt .f32 a14))]=zof (z7o a0 g1 a2 g3 a4 g5 a6 g7 c8 a9 a10 c11 a12 a13 a14):=tr2 (y38 a0 g1 a2 g3 a4 g5 a6 g7 c8 a9 a10 c11 a12 a13 a14 zof rfl (fun c0_=>some c0_)) (by kernel_rfl)
theorem y58:SumOne J 139 zo5:=mkT y4k y4r fun pts v news hp=>by
 unfold zo5 at hp
 split at hp
 ·exact fin3 (yao ..) hp
 ·cases hp
def zit  : Option (Nat)→Option (AV×List Blk)
 | some r=>some ((.v (.one (.flt .f32 r))),[])
 | none=>none
def zj0:List PT→Option (Bool×AV×List Blk)
 | [.ptr [.row 1 q00 (.fl .f32 q03),.row 1 q02 (.fl .f32 q04),.row 1 q01 (.fl .f32 q05),.row 3 q06 (.fl .f32 q07),.s (.int .i64 q0b),.s (.flt .f32 q0j),.s (.flt .f32 q0i)],.one (.s (.int .i64 i)),.one (.s (.flt .f32 q1q)),.one (.s (.flt .f32 q0x)),.one (.s (.flt .f32 q0q)),.one (.s (.flt .f32 q0k))]=>sF zit (z31 q00 q03 q02 q04 q01 q05 q06 q07 q0b q0j q0i i q1q q0x q0q q0k)
 | _=>none
theorem y5r:ev8 Γ14 149 [.ptr [.row 1 a0 (.fl .f32 g1),.row 1 a2 (.fl .f32 g3),.row 1 a4 (.fl .f32 g5),.row 3 a6 (.fl .f32 g7),.s (.int .i64 c8),.s (.flt .f32 a9),.s (.flt .f32 a10)],.one (.s (.int .i64 c11)),.one (.s (.flt .f32 a12)),.one (.s (.flt .f32 a13)),.one (.s (.flt .f32 a14)),.one (.s (.flt .f32 a15))]=zit (z31 a0 g1 a2 g3 a4 g5 a6 g7 c8 a9 a10 c11 a12 a13 a14 a15):=tr2 (zwt a0 g1 a2 g3 a4 g5 a6 g7 c8 a9 a10 c11 a12 a13 a14 a15 zit rfl (fun c0_=>some c0_)) (by kernel_rfl)
theorem zz9:SumOne J 149 zj0:=mkT y4k y4r fun pts v news hp=>by
 unfold zj0 at hp
 split at hp
 ·exact fin3 (y5r ..) hp
 ·cases hp
def tb15:List (Nat×(List PT→Option (Bool×AV×List Blk))):=(139,zo5)::(149,zj0)::tb14
def lt15:List ((Nat×Nat)×(Nat→St→Option (Bool×LO))):=lt14
def Γ15:Ctx:=⟨tyTab,fnTab,tblSum tb15,tblLp lt15⟩
theorem yb4:SumL J tb15:=SumL.cons y58 (SumL.cons zz9 (y4k))
theorem y9o:LpL J fnTab lt15:=y4r
def zkx  : Option (Nat×Bool)→Option (AV×List Blk)
 | some r=>some ((.tup [(.one (.flt .f32 r.1)),(.one (.bool r.2))]),[])
 | none=>none
def zkk:List PT→Option (Bool×AV×List Blk)
 | [.agg [.row 1 q00 (.fl .f32 q03),.row 1 q02 (.fl .f32 q04),.row 1 q01 (.fl .f32 q05),.row 3 q06 (.fl .f32 q07),.s (.int .i64 q0b),.s (.flt .f32 q0j),.s (.flt .f32 q0i)],.one (.s (.int .i64 i)),.one (.s (.flt .f32 q1q)),.one (.s (.flt .f32 q0x)),.one (.s (.flt .f32 q0q)),.one (.s (.flt .f32 q0k))]=>sF zkx (z4h q00 q03 q02 q04 q01 q05 q06 q07 q0b q0j q0i i q1q q0x q0q q0k)
 | _=>none
theorem y7j:ev8 Γ15 140 [.agg [.row 1 a0 (.fl .f32 g1),.row 1 a2 (.fl .f32 g3),.row 1 a4 (.fl .f32 g5),.row 3 a6 (.fl .f32 g7),.s (.int .i64 c8),.s (.flt .f32 a9),.s (.flt .f32 a10)],.one (.s (.int .i64 c11)),.one (.s (.flt .f32 a12)),.one (.s (.flt .f32 a13)),.one (.s (.flt .f32 a14)),.one (.s (.flt .f32 a15))]=zkx (z4h a0 g1 a2 g3 a4 g5 a6 g7 c8 a9 a10 c11 a12 a13 a14 a15):=tr2 (zzt a0 g1 a2 g3 a4 g5 a6 g7 c8 a9 a10 c11 a12 a13 a14 a15 zkx rfl (fun c0_ c1_=>some (c0_,c1_))) (by kernel_rfl)
theorem y1d:SumOne J 140 zkk:=mkT yb4 y9o fun pts v news hp=>by
 unfold zkk at hp
 split at hp
 ·exact fin3 (y7j ..) hp
 ·cases hp
def tb16:List (Nat×(List PT→Option (Bool×AV×List Blk))):=(140,zkk)::tb15
def lt16:List ((Nat×Nat)×(Nat→St→Option (Bool×LO))):=lt15
def Γ16:Ctx:=⟨tyTab,fnTab,tblSum tb16,tblLp lt16⟩
theorem y9w:SumL J tb16:=SumL.cons y1d (yb4)
theorem y9m:LpL J fnTab lt16:=y9o
def z9t:St:=(.mk [(x0P 0 4 7),(x0I 1 c0),(x0F 2 a1),(x0F 3 a2),(x0F 4 a3),(x0F 12 a4),(x0F 13 a5),(x0I 14 c6)] [(x0L g7),(x0L g8),(x0L g9),(x0L g10),(x0R false 0 1 2 3 a11 a12 a13 a14 c15 a16 a17)])
def ze4(i:Int)(q0x q0q q0k:Nat)(b0 b1 b2 b3:List Nat)(q17 q15 q16 q0r:Nat)(q1k:Int)(q1j q18:Nat):St:=(.mk [(x0F 10 0),(x0B 11 false)] [(x0L b0),(x0L b1),(x0L b2),(x0L b3),(x0R false 0 1 2 3 q17 q15 q16 q0r q1k q1j q18)])
def zep:St:=(.mk [(x0P 0 4 7),(x0I 1 c0),(x0F 2 a1),(x0F 3 a2),(x0F 4 a3),(x0F 12 a15),(x0F 13 a16),(x0I 14 c17),(x0B 18 e18)] [(x0L g4),(x0L g5),(x0L g6),(x0L g7),(x0R false 0 1 2 3 a8 a9 a10 a11 c12 a13 a14)])
def zfo:Option ((Unit)⊕(Nat×Nat×Int×Bool))→Option (Ex×St)
 | none=>none
 | some (Sum.inl r)=>some (.ret,(ze4 c0 a1 a2 a3 g4 g5 g6 g7 a8 a9 a10 a11 c12 a13 a14))
 | some (Sum.inr r)=>some ((.exit 0),(zep c0 a1 a2 a3 g4 g5 g6 g7 a8 a9 a10 a11 c12 a13 a14 r.1 r.2.1 r.2.2.1 r.2.2.2))
def zna (x:Option ((Unit)⊕(Nat×Nat×Int×Bool))):LO:=(.two (oL x) (.one .ret (ze4 c0 a1 a2 a3 g4 g5 g6 g7 a8 a9 a10 a11 c12 a13 a14)) (.one (.exit 0) (zep c0 a1 a2 a3 g4 g5 g6 g7 a8 a9 a10 a11 c12 a13 a14 ((tR x).getD default).1 ((tR x).getD default).2.1 ((tR x).getD default).2.2.1 ((tR x).getD default).2.2.2)))
def zy5:Bool×LO:=sL (zna c0 a1 a2 a3 g7 g8 g9 g10 a11 a12 a13 a14 c15 a16 a17) (z0h c0 a1 a2 a3 g7 g8 g9 g10 a11 a12 a13 a14 c15 a16 a17 big a4 a5 c6)
def znr:Nat→St→Option (Bool×LO):=lpT 5 (pSt [(x1P 0 4 7),(x1I 1),(x1F 2),(x1F 3),(x1F 4),(x1F 12),(x1F 13),(x1I 14)] [x1L,x1L,x1L,x1L,(x1R false 0 1 2 3)]) (fun hs=>zy5 (hI hs 0) (hN hs 1) (hN hs 2) (hN hs 3) (hN hs 4) (hN hs 5) (hI hs 6) (hLn hs 7) (hLn hs 8) (hLn hs 9) (hLn hs 10) (hN hs 11) (hN hs 12) (hN hs 13) (hN hs 14) (hI hs 15) (hN hs 16) (hN hs 17))
theorem y19:∀ x:Option ((Unit)⊕(Nat×Nat×Int×Bool)),x.isSome=true→(zfo c0 a1 a2 a3 g4 g5 g6 g7 a8 a9 a10 a11 c12 a13 a14) x=some (pick (zna c0 a1 a2 a3 g4 g5 g6 g7 a8 a9 a10 a11 c12 a13 a14 x))
 | none,h=>by cases h
 | some (Sum.inl r),_=>rfl
 | some (Sum.inr r),_=>rfl
theorem y2g (K:Ex→St→Option (Ex×St)):ev9 Γ16 129 4 5 fi129 (z9t c0 a1 a2 a3 a4 a5 c6 g7 g8 g9 g10 a11 a12 a13 a14 c15 a16 a17) K=z29 c0 a1 a2 a3 g7 g8 g9 g10 a11 a12 a13 a14 c15 a16 a17 a4 a5 c6 (fun low' q22' k'=>K .normal (z9t c0 a1 a2 a3 low' q22' k' g7 g8 g9 g10 a11 a12 a13 a14 c15 a16 a17)) (fun _=>K .ret (ze4 c0 a1 a2 a3 g7 g8 g9 g10 a11 a12 a13 a14 c15 a16 a17)) (fun c0_ c1_ c2_ c3_=>K (.exit 0) (zep c0 a1 a2 a3 g7 g8 g9 g10 a11 a12 a13 a14 c15 a16 a17 c0_ c1_ c2_ c3_)):=by kernel_rfl
theorem y2d:∀ (n low q22:Nat) (k:Int),iter 129 4 5 (ev9 Γ16 129 4 5 fi129) n (z9t c0 a1 a2 a3 low q22 k g4 g5 g6 g7 a8 a9 a10 a11 c12 a13 a14) (fun e st=>some (e,st))=(zfo c0 a1 a2 a3 g4 g5 g6 g7 a8 a9 a10 a11 c12 a13 a14) (z0h c0 a1 a2 a3 g4 g5 g6 g7 a8 a9 a10 a11 c12 a13 a14 n low q22 k):=by
 intro n
 induction n with
 | zero=>intros;rfl
 | succ n ih=>
  intro low q22 k
  refine Eq.trans (iter_succ ..) (Eq.trans (y2g ..) (Eq.trans ?_ (zv3 c0 a1 a2 a3 g4 g5 g6 g7 a8 a9 a10 a11 c12 a13 a14 low q22 k (zfo c0 a1 a2 a3 g4 g5 g6 g7 a8 a9 a10 a11 c12 a13 a14) rfl (fun low' q22' k'=>z0h c0 a1 a2 a3 g4 g5 g6 g7 a8 a9 a10 a11 c12 a13 a14 n low' q22' k') (fun _=>some (Sum.inl ())) (fun c0_ c1_ c2_ c3_=>some (Sum.inr (c0_,c1_,c2_,c3_))))))
  exact congrArg (fun kn_=>z29 c0 a1 a2 a3 g4 g5 g6 g7 a8 a9 a10 a11 c12 a13 a14 low q22 k kn_ _ _) (funext fun low'=>funext fun q22'=>funext fun k'=>ih ..)
theorem zvj:LoopOne J fnTab 129 4 znr:=lpK y9w y9m (fi:=fi129) (by kernel_rfl) (by kernel_rfl) (q:=fun hs=>(z9t (hI hs 0) (hN hs 1) (hN hs 2) (hN hs 3) (hN hs 4) (hN hs 5) (hI hs 6) (hLn hs 7) (hLn hs 8) (hLn hs 9) (hLn hs 10) (hN hs 11) (hN hs 12) (hN hs 13) (hN hs 14) (hI hs 15) (hN hs 16) (hN hs 17))) (fun hs=>by kernel_rfl) fun hs h1=>Eq.trans (y2d (hI hs 0) (hN hs 1) (hN hs 2) (hN hs 3) (hLn hs 7) (hLn hs 8) (hLn hs 9) (hLn hs 10) (hN hs 11) (hN hs 12) (hN hs 13) (hN hs 14) (hI hs 15) (hN hs 16) (hN hs 17) big (hN hs 4) (hN hs 5) (hI hs 6)) (y19 (hI hs 0) (hN hs 1) (hN hs 2) (hN hs 3) (hLn hs 7) (hLn hs 8) (hLn hs 9) (hLn hs 10) (hN hs 11) (hN hs 12) (hN hs 13) (hN hs 14) (hI hs 15) (hN hs 16) (hN hs 17) _ h1)
def tb17:List (Nat×(List PT→Option (Bool×AV×List Blk))):=tb16
def lt17:List ((Nat×Nat)×(Nat→St→Option (Bool×LO))):=((129,4),znr)::lt16
def Γ17:Ctx:=⟨tyTab,fnTab,tblSum tb17,tblLp lt17⟩
theorem y4o:SumL J tb17:=y9w
theorem y4p:LpL J fnTab lt17:=LpL.cons zvj (y9m)
def zjr  : Option (Nat×Bool)→Option (AV×List Blk)
 | some r=>some ((.tup [(.one (.flt .f32 r.1)),(.one (.bool r.2))]),[])
 | none=>none
def zkh:List PT→Option (Bool×AV×List Blk)
 | [.ptr [.row 1 q00 (.fl .f32 q03),.row 1 q02 (.fl .f32 q04),.row 1 q01 (.fl .f32 q05),.row 3 q06 (.fl .f32 q07),.s (.int .i64 q0b),.s (.flt .f32 q0j),.s (.flt .f32 q0i)],.one (.s (.int .i64 i)),.one (.s (.flt .f32 q0x)),.one (.s (.flt .f32 q0q)),.one (.s (.flt .f32 q0k))]=>sF zjr (z4o q00 q03 q02 q04 q01 q05 q06 q07 q0b q0j q0i i q0x q0q q0k)
 | _=>none
theorem y7c:ev8 Γ17 129 [.ptr [.row 1 a0 (.fl .f32 g1),.row 1 a2 (.fl .f32 g3),.row 1 a4 (.fl .f32 g5),.row 3 a6 (.fl .f32 g7),.s (.int .i64 c8),.s (.flt .f32 a9),.s (.flt .f32 a10)],.one (.s (.int .i64 c11)),.one (.s (.flt .f32 a12)),.one (.s (.flt .f32 a13)),.one (.s (.flt .f32 a14))]=zjr (z4o a0 g1 a2 g3 a4 g5 a6 g7 c8 a9 a10 c11 a12 a13 a14):=tr2 (zz2 a0 g1 a2 g3 a4 g5 a6 g7 c8 a9 a10 c11 a12 a13 a14 zjr rfl (fun c0_ c1_=>some (c0_,c1_))) (by kernel_rfl)
theorem y1u:SumOne J 129 zkh:=mkT y4o y4p fun pts v news hp=>by
 unfold zkh at hp
 split at hp
 ·exact fin3 (y7c ..) hp
 ·cases hp
def zej:St:=(.mk [(x0I 1 c0),(x0F 2 a1),(x0F 3 a2),(x0F 4 a3),(x0P 5 4 7),(x0F 12 a4),(x0F 13 a5),(x0I 24 c6)] [(x0L g7),(x0L g8),(x0L g9),(x0L g10),(x0R true 0 1 2 3 a11 a12 a13 a14 c15 a16 a17)])
def zib(i:Int)(q0x q0q q0k:Nat)(b0 b1 b2 b3:List Nat)(q17 q15 q16 q0r:Nat)(q1k:Int)(q1j q18:Nat):St:=(.mk [(x0F 10 0),(x0B 11 false)] [(x0L b0),(x0L b1),(x0L b2),(x0L b3)])
def zj2:St:=(.mk [(x0I 1 c0),(x0F 2 a1),(x0F 3 a2),(x0F 4 a3),(x0P 5 4 7),(x0F 12 a15),(x0F 13 a16),(x0I 24 c17),(x0B 25 e18)] [(x0L g4),(x0L g5),(x0L g6),(x0L g7),(x0R true 0 1 2 3 a8 a9 a10 a11 c12 a13 a14)])
def zjo:Option ((Unit)⊕(Nat×Nat×Int×Bool))→Option (Ex×St)
 | none=>none
 | some (Sum.inl r)=>some (.ret,(zib c0 a1 a2 a3 g4 g5 g6 g7 a8 a9 a10 a11 c12 a13 a14))
 | some (Sum.inr r)=>some ((.exit 0),(zj2 c0 a1 a2 a3 g4 g5 g6 g7 a8 a9 a10 a11 c12 a13 a14 r.1 r.2.1 r.2.2.1 r.2.2.2))
def zro (x:Option ((Unit)⊕(Nat×Nat×Int×Bool))):LO:=(.two (oL x) (.one .ret (zib c0 a1 a2 a3 g4 g5 g6 g7 a8 a9 a10 a11 c12 a13 a14)) (.one (.exit 0) (zj2 c0 a1 a2 a3 g4 g5 g6 g7 a8 a9 a10 a11 c12 a13 a14 ((tR x).getD default).1 ((tR x).getD default).2.1 ((tR x).getD default).2.2.1 ((tR x).getD default).2.2.2)))
def y3y:Bool×LO:=sL (zro c0 a1 a2 a3 g7 g8 g9 g10 a11 a12 a13 a14 c15 a16 a17) (z0s c0 a1 a2 a3 g7 g8 g9 g10 a11 a12 a13 a14 c15 a16 a17 big a4 a5 c6)
def zu1:Nat→St→Option (Bool×LO):=lpT 4 (pSt [(x1I 1),(x1F 2),(x1F 3),(x1F 4),(x1P 5 4 7),(x1F 12),(x1F 13),(x1I 24)] [x1L,x1L,x1L,x1L,(x1R true 0 1 2 3)]) (fun hs=>y3y (hI hs 0) (hN hs 1) (hN hs 2) (hN hs 3) (hN hs 4) (hN hs 5) (hI hs 6) (hLn hs 7) (hLn hs 8) (hLn hs 9) (hLn hs 10) (hN hs 11) (hN hs 12) (hN hs 13) (hN hs 14) (hI hs 15) (hN hs 16) (hN hs 17))
theorem y7u:∀ x:Option ((Unit)⊕(Nat×Nat×Int×Bool)),x.isSome=true→(zjo c0 a1 a2 a3 g4 g5 g6 g7 a8 a9 a10 a11 c12 a13 a14) x=some (pick (zro c0 a1 a2 a3 g4 g5 g6 g7 a8 a9 a10 a11 c12 a13 a14 x))
 | none,h=>by cases h
 | some (Sum.inl r),_=>rfl
 | some (Sum.inr r),_=>rfl
theorem y6v (K:Ex→St→Option (Ex×St)):ev9 Γ17 104 5 4 fi104 (zej c0 a1 a2 a3 a4 a5 c6 g7 g8 g9 g10 a11 a12 a13 a14 c15 a16 a17) K=z3p c0 a1 a2 a3 g7 g8 g9 g10 a11 a12 a13 a14 c15 a16 a17 a4 a5 c6 (fun low' q22' t24'=>K .normal (zej c0 a1 a2 a3 low' q22' t24' g7 g8 g9 g10 a11 a12 a13 a14 c15 a16 a17)) (fun _=>K .ret (zib c0 a1 a2 a3 g7 g8 g9 g10 a11 a12 a13 a14 c15 a16 a17)) (fun c0_ c1_ c2_ c3_=>K (.exit 0) (zj2 c0 a1 a2 a3 g7 g8 g9 g10 a11 a12 a13 a14 c15 a16 a17 c0_ c1_ c2_ c3_)):=by kernel_rfl
theorem y8a:∀ (n low q22:Nat) (t24:Int),iter 104 5 4 (ev9 Γ17 104 5 4 fi104) n (zej c0 a1 a2 a3 low q22 t24 g4 g5 g6 g7 a8 a9 a10 a11 c12 a13 a14) (fun e st=>some (e,st))=(zjo c0 a1 a2 a3 g4 g5 g6 g7 a8 a9 a10 a11 c12 a13 a14) (z0s c0 a1 a2 a3 g4 g5 g6 g7 a8 a9 a10 a11 c12 a13 a14 n low q22 t24):=by
 intro n
 induction n with
 | zero=>intros;rfl
 | succ n ih=>
  intro low q22 t24
  refine Eq.trans (iter_succ ..) (Eq.trans (y6v ..) (Eq.trans ?_ (zze c0 a1 a2 a3 g4 g5 g6 g7 a8 a9 a10 a11 c12 a13 a14 low q22 t24 (zjo c0 a1 a2 a3 g4 g5 g6 g7 a8 a9 a10 a11 c12 a13 a14) rfl (fun low' q22' t24'=>z0s c0 a1 a2 a3 g4 g5 g6 g7 a8 a9 a10 a11 c12 a13 a14 n low' q22' t24') (fun _=>some (Sum.inl ())) (fun c0_ c1_ c2_ c3_=>some (Sum.inr (c0_,c1_,c2_,c3_))))))
  exact congrArg (fun kn_=>z3p c0 a1 a2 a3 g4 g5 g6 g7 a8 a9 a10 a11 c12 a13 a14 low q22 t24 kn_ _ _) (funext fun low'=>funext fun q22'=>funext fun t24'=>ih ..)
theorem y1q:LoopOne J fnTab 104 5 zu1:=lpK y4o y4p (fi:=fi104) (by kernel_rfl) (by kernel_rfl) (q:=fun hs=>(zej (hI hs 0) (hN hs 1) (hN hs 2) (hN hs 3) (hN hs 4) (hN hs 5) (hI hs 6) (hLn hs 7) (hLn hs 8) (hLn hs 9) (hLn hs 10) (hN hs 11) (hN hs 12) (hN hs 13) (hN hs 14) (hI hs 15) (hN hs 16) (hN hs 17))) (fun hs=>by kernel_rfl) fun hs h1=>Eq.trans (y8a (hI hs 0) (hN hs 1) (hN hs 2) (hN hs 3) (hLn hs 7) (hLn hs 8) (hLn hs 9) (hLn hs 10) (hN hs 11) (hN hs 12) (hN hs 13) (hN hs 14) (hI hs 15) (hN hs 16) (hN hs 17) big (hN hs 4) (hN hs 5) (hI hs 6)) (y7u (hI hs 0) (hN hs 1) (hN hs 2) (hN hs 3) (hLn hs 7) (hLn hs 8) (hLn hs 9) (hLn hs 10) (hN hs 11) (hN hs 12) (hN hs 13) (hN hs 14) (hI hs 15) (hN hs 16) (hN hs 17) _ h1)
def tb18:List (Nat×(List PT→Option (Bool×AV×List Blk))):=(129,zkh)::tb17
def lt18:List ((Nat×Nat)×(Nat→St→Option (Bool×LO))):=((104,5),zu1)::lt17
def Γ18:Ctx:=⟨tyTab,fnTab,tblSum tb18,tblLp lt18⟩
theorem y4l:SumL J tb18:=SumL.cons y1u (y4o)
theorem y4s:LpL J fnTab lt18:=LpL.cons y1q (y4p)
def zkd  : Option (Nat×Nat×Bool)→Option (AV×List Blk)
 | some r=>some ((.tup [(.one (.flt .f32 r.1)),(.one (.flt .f32 r.2.1)),(.one (.bool r.2.2))]),[])
 | none=>none
def zkn:List PT→Option (Bool×AV×List Blk)
 | [.ptr [.row 1 q08 (.fl .f32 q0d),.row 1 q09 (.fl .f32 q0e),.row 1 q0a (.fl .f32 q0f),.row 3 q0g (.fl .f32 q0l),.s (.int .i64 q0n),.s (.flt .f32 q0u),.s (.flt .f32 q0t)],.one (.s (.int .i64 x1)),.one (.s (.flt .f32 x2)),.one (.s (.flt .f32 x3)),.one (.s (.flt .f32 x4)),.one (.s (.flt .f32 x5))]=>sF zkd (z1s q08 q0d q09 q0e q0a q0f q0g q0l q0n q0u q0t x1 x2 x3 x4 x5)
 | _=>none
theorem y7h:ev8 Γ18 88 [.ptr [.row 1 a0 (.fl .f32 g1),.row 1 a2 (.fl .f32 g3),.row 1 a4 (.fl .f32 g5),.row 3 a6 (.fl .f32 g7),.s (.int .i64 c8),.s (.flt .f32 a9),.s (.flt .f32 a10)],.one (.s (.int .i64 c11)),.one (.s (.flt .f32 a12)),.one (.s (.flt .f32 a13)),.one (.s (.flt .f32 a14)),.one (.s (.flt .f32 a15))]=zkd (z1s a0 g1 a2 g3 a4 g5 a6 g7 c8 a9 a10 c11 a12 a13 a14 a15):=tr2 (zyn a0 g1 a2 g3 a4 g5 a6 g7 c8 a9 a10 c11 a12 a13 a14 a15 zkd rfl (fun c0_ c1_ c2_=>some (c0_,c1_,c2_))) (by kernel_rfl)
theorem y29:SumOne J 88 zkn:=mkT y4l y4s fun pts v news hp=>by
 unfold zkn at hp
 split at hp
 ·exact fin3 (y7h ..) hp
 ·cases hp
def zqs  : Option (Nat×Bool)→Option (AV×List Blk)
 | some r=>some ((.tup [(.one (.flt .f32 r.1)),(.one (.bool r.2))]),[])
 | none=>none
def zqb:List PT→Option (Bool×AV×List Blk)
 | [.agg [.row 1 q00 (.fl .f32 q03),.row 1 q02 (.fl .f32 q04),.row 1 q01 (.fl .f32 q05),.row 3 q06 (.fl .f32 q07),.s (.int .i64 q0b),.s (.flt .f32 q0j),.s (.flt .f32 q0i)],.one (.s (.int .i64 i)),.one (.s (.flt .f32 q0x)),.one (.s (.flt .f32 q0q)),.one (.s (.flt .f32 q0k))]=>sF zqs (z6y q00 q03 q02 q04 q01 q05 q06 q07 q0b q0j q0i i q0x q0q q0k)
 | _=>none
theorem ybh:ev8 Γ18 104 [.agg [.row 1 a0 (.fl .f32 g1),.row 1 a2 (.fl .f32 g3),.row 1 a4 (.fl .f32 g5),.row 3 a6 (.fl .f32 g7),.s (.int .i64 c8),.s (.flt .f32 a9),.s (.flt .f32 a10)],.one (.s (.int .i64 c11)),.one (.s (.flt .f32 a12)),.one (.s (.flt .f32 a13)),.one (.s (.flt .f32 a14))]=zqs (z6y a0 g1 a2 g3 a4 g5 a6 g7 c8 a9 a10 c11 a12 a13 a14):=tr2 (y4u a0 g1 a2 g3 a4 g5 a6 g7 c8 a9 a10 c11 a12 a13 a14 zqs rfl (fun c0_ c1_=>some (c0_,c1_))) (by kernel_rfl)
theorem y7i:SumOne J 104 zqb:=mkT y4l y4s fun pts v news hp=>by
 unfold zqb at hp
 split at hp
 ·exact fin3 (ybh ..) hp
 ·cases hp
def tb19:List (Nat×(List PT→Option (Bool×AV×List Blk))):=(88,zkn)::(104,zqb)::tb18
def lt19:List ((Nat×Nat)×(Nat→St→Option (Bool×LO))):=lt18
def Γ19:Ctx:=⟨tyTab,fnTab,tblSum tb19,tblLp lt19⟩
theorem yar:SumL J tb19:=SumL.cons y29 (SumL.cons y7i (y4l))
theorem yak:LpL J fnTab lt19:=y4s
def ze1  : Option (Nat×Nat×Bool)→Option (AV×List Blk)
 | some r=>some ((.tup [(.one (.flt .f32 r.1)),(.one (.flt .f32 r.2.1)),(.one (.bool r.2.2))]),[])
 | none=>none
def z8z:List PT→Option (Bool×AV×List Blk)
 | [.agg [.row 1 q08 (.fl .f32 q0d),.row 1 q09 (.fl .f32 q0e),.row 1 q0a (.fl .f32 q0f),.row 3 q0g (.fl .f32 q0l),.s (.int .i64 q0n),.s (.flt .f32 q0u),.s (.flt .f32 q0t)],.one (.s (.int .i64 x1)),.one (.s (.flt .f32 x2)),.one (.s (.flt .f32 x3)),.one (.s (.flt .f32 x4)),.one (.s (.flt .f32 x5))]=>sF ze1 (z1l q08 q0d q09 q0e q0a q0f q0g q0l q0n q0u q0t x1 x2 x3 x4 x5)
 | _=>none
theorem zzx:ev8 Γ19 56 [.agg [.row 1 a0 (.fl .f32 g1),.row 1 a2 (.fl .f32 g3),.row 1 a4 (.fl .f32 g5),.row 3 a6 (.fl .f32 g7),.s (.int .i64 c8),.s (.flt .f32 a9),.s (.flt .f32 a10)],.one (.s (.int .i64 c11)),.one (.s (.flt .f32 a12)),.one (.s (.flt .f32 a13)),.one (.s (.flt .f32 a14)),.one (.s (.flt .f32 a15))]=ze1 (z1l a0 g1 a2 g3 a4 g5 a6 g7 c8 a9 a10 c11 a12 a13 a14 a15):=tr2 (zt9 a0 g1 a2 g3 a4 g5 a6 g7 c8 a9 a10 c11 a12 a13 a14 a15 ze1 rfl (fun c0_ c1_ c2_=>some (c0_,c1_,c2_))) (by kernel_rfl)
theorem zhq:SumOne J 56 z8z:=mkT yar yak fun pts v news hp=>by
 unfold z8z at hp
 split at hp
 ·exact fin3 (zzx ..) hp
 ·cases hp
def tb20:List (Nat×(List PT→Option (Bool×AV×List Blk))):=(56,z8z)::tb19
def lt20:List ((Nat×Nat)×(Nat→St→Option (Bool×LO))):=lt19
def Γ20:Ctx:=⟨tyTab,fnTab,tblSum tb20,tblLp lt20⟩
theorem zsa:SumL J tb20:=SumL.cons zhq (yar)
theorem y4q:LpL J fnTab lt20:=yak
def zex:St:=(.mk [(x0P 0 4 7),(x0F 1 a0),(x0F 2 a1),(x0F 3 a2),(x0F 4 a3),(x0S 13 5 a4 1),(x0S 14 6 a5 1),(x0I 15 c6)] [(x0L g7),(x0L g8),(x0L g9),(x0L g10),(x0R false 0 1 2 3 a11 a12 a13 a14 c15 a16 a17),(x0T g18),(x0T g19)])
def zhw(t1 t2 t3 t4:Nat)(b0 b1 b2 b3:List Nat)(q17 q15 q16 q0r:Nat)(q1k:Int)(q1j q18:Nat):St:=(.mk [(10,(.v (.one .nilsl))),(11,(.v (.one .nilsl))),(x0B 12 false)] [(x0L b0),(x0L b1),(x0L b2),(x0L b3),(x0R false 0 1 2 3 q17 q15 q16 q0r q1k q1j q18)])
def ziy:St:=(.mk [(x0P 0 4 7),(x0F 1 a0),(x0F 2 a1),(x0F 3 a2),(x0F 4 a3),(x0S 13 5 a15 1),(x0S 14 6 a16 1),(x0I 15 c17),(x0B 35 e18)] [(x0L g4),(x0L g5),(x0L g6),(x0L g7),(x0R false 0 1 2 3 a8 a9 a10 a11 c12 a13 a14),(x0T g19),(x0T g20)])
def zl6:Option ((Unit)⊕(Nat×Nat×Int×Bool×(List Nat)×(List Nat)))→Option (Ex×St)
 | none=>none
 | some (Sum.inl r)=>some (.ret,(zhw a0 a1 a2 a3 g4 g5 g6 g7 a8 a9 a10 a11 c12 a13 a14))
 | some (Sum.inr r)=>some ((.exit 0),(ziy a0 a1 a2 a3 g4 g5 g6 g7 a8 a9 a10 a11 c12 a13 a14 r.1 r.2.1 r.2.2.1 r.2.2.2.1 r.2.2.2.2.1 r.2.2.2.2.2))
def zrl (x:Option ((Unit)⊕(Nat×Nat×Int×Bool×(List Nat)×(List Nat)))):LO:=(.two (oL x) (.one .ret (zhw a0 a1 a2 a3 g4 g5 g6 g7 a8 a9 a10 a11 c12 a13 a14)) (.one (.exit 0) (ziy a0 a1 a2 a3 g4 g5 g6 g7 a8 a9 a10 a11 c12 a13 a14 ((tR x).getD default).1 ((tR x).getD default).2.1 ((tR x).getD default).2.2.1 ((tR x).getD default).2.2.2.1 ((tR x).getD default).2.2.2.2.1 ((tR x).getD default).2.2.2.2.2)))
def y3f:Bool×LO:=sL (zrl a0 a1 a2 a3 g7 g8 g9 g10 a11 a12 a13 a14 c15 a16 a17) (z0e a0 a1 a2 a3 g7 g8 g9 g10 a11 a12 a13 a14 c15 a16 a17 big a4 a5 c6 g18 g19)
def zsk:Nat→St→Option (Bool×LO):=lpT 5 (pSt [(x1P 0 4 7),(x1F 1),(x1F 2),(x1F 3),(x1F 4),(x1S 13 5 1),(x1S 14 6 1),(x1I 15)] [x1L,x1L,x1L,x1L,(x1R false 0 1 2 3),x1T,x1T]) (fun hs=>y3f (hN hs 0) (hN hs 1) (hN hs 2) (hN hs 3) (hN hs 4) (hN hs 5) (hI hs 6) (hLn hs 7) (hLn hs 8) (hLn hs 9) (hLn hs 10) (hN hs 11) (hN hs 12) (hN hs 13) (hN hs 14) (hI hs 15) (hN hs 16) (hN hs 17) (hLn hs 18) (hLn hs 19))
theorem y72:∀ x:Option ((Unit)⊕(Nat×Nat×Int×Bool×(List Nat)×(List Nat))),x.isSome=true→(zl6 a0 a1 a2 a3 g4 g5 g6 g7 a8 a9 a10 a11 c12 a13 a14) x=some (pick (zrl a0 a1 a2 a3 g4 g5 g6 g7 a8 a9 a10 a11 c12 a13 a14 x))
 | none,h=>by cases h
 | some (Sum.inl r),_=>rfl
 | some (Sum.inr r),_=>rfl
theorem y7l (K:Ex→St→Option (Ex×St)):ev9 Γ20 50 6 5 fi50 (zex a0 a1 a2 a3 a4 a5 c6 g7 g8 g9 g10 a11 a12 a13 a14 c15 a16 a17 g18 g19) K=z3q a0 a1 a2 a3 g7 g8 g9 g10 a11 a12 a13 a14 c15 a16 a17 a4 a5 c6 g18 g19 (fun q2u' q2v' t15' b5' b6'=>K .normal (zex a0 a1 a2 a3 q2u' q2v' t15' g7 g8 g9 g10 a11 a12 a13 a14 c15 a16 a17 b5' b6')) (fun _=>K .ret (zhw a0 a1 a2 a3 g7 g8 g9 g10 a11 a12 a13 a14 c15 a16 a17)) (fun c0_ c1_ c2_ c3_ c4_ c5_=>K (.exit 0) (ziy a0 a1 a2 a3 g7 g8 g9 g10 a11 a12 a13 a14 c15 a16 a17 c0_ c1_ c2_ c3_ c4_ c5_)):=by kernel_rfl
theorem y7p:∀ (n q2u q2v:Nat) (t15:Int) (b5 b6:List Nat),iter 50 6 5 (ev9 Γ20 50 6 5 fi50) n (zex a0 a1 a2 a3 q2u q2v t15 g4 g5 g6 g7 a8 a9 a10 a11 c12 a13 a14 b5 b6) (fun e st=>some (e,st))=(zl6 a0 a1 a2 a3 g4 g5 g6 g7 a8 a9 a10 a11 c12 a13 a14) (z0e a0 a1 a2 a3 g4 g5 g6 g7 a8 a9 a10 a11 c12 a13 a14 n q2u q2v t15 b5 b6):=by
 intro n
 induction n with
 | zero=>intros;rfl
 | succ n ih=>
  intro q2u q2v t15 b5 b6
  refine Eq.trans (iter_succ ..) (Eq.trans (y7l ..) (Eq.trans ?_ (zzf a0 a1 a2 a3 g4 g5 g6 g7 a8 a9 a10 a11 c12 a13 a14 q2u q2v t15 b5 b6 (zl6 a0 a1 a2 a3 g4 g5 g6 g7 a8 a9 a10 a11 c12 a13 a14) rfl (fun q2u' q2v' t15' b5' b6'=>z0e a0 a1 a2 a3 g4 g5 g6 g7 a8 a9 a10 a11 c12 a13 a14 n q2u' q2v' t15' b5' b6') (fun _=>some (Sum.inl ())) (fun c0_ c1_ c2_ c3_ c4_ c5_=>some (Sum.inr (c0_,c1_,c2_,c3_,c4_,c5_))))))
  exact congrArg (fun kn_=>z3q a0 a1 a2 a3 g4 g5 g6 g7 a8 a9 a10 a11 c12 a13 a14 q2u q2v t15 b5 b6 kn_ _ _) (funext fun q2u'=>funext fun q2v'=>funext fun t15'=>funext fun b5'=>funext fun b6'=>ih ..)
theorem y27:LoopOne J fnTab 50 6 zsk:=lpK zsa y4q (fi:=fi50) (by kernel_rfl) (by kernel_rfl) (q:=fun hs=>(zex (hN hs 0) (hN hs 1) (hN hs 2) (hN hs 3) (hN hs 4) (hN hs 5) (hI hs 6) (hLn hs 7) (hLn hs 8) (hLn hs 9) (hLn hs 10) (hN hs 11) (hN hs 12) (hN hs 13) (hN hs 14) (hI hs 15) (hN hs 16) (hN hs 17) (hLn hs 18) (hLn hs 19))) (fun hs=>by kernel_rfl) fun hs h1=>Eq.trans (y7p (hN hs 0) (hN hs 1) (hN hs 2) (hN hs 3) (hLn hs 7) (hLn hs 8) (hLn hs 9) (hLn hs 10) (hN hs 11) (hN hs 12) (hN hs 13) (hN hs 14) (hI hs 15) (hN hs 16) (hN hs 17) big (hN hs 4) (hN hs 5) (hI hs 6) (hLn hs 18) (hLn hs 19)) (y72 (hN hs 0) (hN hs 1) (hN hs 2) (hN hs 3) (hLn hs 7) (hLn hs 8) (hLn hs 9) (hLn hs 10) (hN hs 11) (hN hs 12) (hN hs 13) (hN hs 14) (hI hs 15) (hN hs 16) (hN hs 17) _ h1)
def tb21:List (Nat×(List PT→Option (Bool×AV×List Blk))):=tb20
def lt21:List ((Nat×Nat)×(Nat→St→Option (Bool×LO))):=((50,6),zsk)::lt20
def Γ21:Ctx:=⟨tyTab,fnTab,tblSum tb21,tblLp lt21⟩
theorem yap:SumL J tb21:=zsa
theorem yb1:LpL J fnTab lt21:=LpL.cons y27 (y4q)
def zq4  : Option (Nat×Nat×Bool×(List Nat)×(List Nat))→Option (AV×List Blk)
 | some r=>some ((.tup [(.one (.sl 0 0 r.1 1)),(.one (.sl 1 0 r.2.1 1)),(.one (.bool r.2.2.1))]),[(.mk true (.fl .f32 r.2.2.2.1)),(.mk true (.fl .f32 r.2.2.2.2))])
 | none=>none
def zqm:List PT→Option (Bool×AV×List Blk)
 | [.ptr [.row 1 q08 (.fl .f32 q0d),.row 1 q09 (.fl .f32 q0e),.row 1 q0a (.fl .f32 q0f),.row 3 q0g (.fl .f32 q0l),.s (.int .i64 q0n),.s (.flt .f32 q0u),.s (.flt .f32 q0t)],.one (.s (.flt .f32 x1)),.one (.s (.flt .f32 x2)),.one (.s (.flt .f32 x3)),.one (.s (.flt .f32 x4))]=>sF zq4 (z3r q08 q0d q09 q0e q0a q0f q0g q0l q0n q0u q0t x1 x2 x3 x4)
 | _=>none
theorem ybd:ev8 Γ21 50 [.ptr [.row 1 a0 (.fl .f32 g1),.row 1 a2 (.fl .f32 g3),.row 1 a4 (.fl .f32 g5),.row 3 a6 (.fl .f32 g7),.s (.int .i64 c8),.s (.flt .f32 a9),.s (.flt .f32 a10)],.one (.s (.flt .f32 a11)),.one (.s (.flt .f32 a12)),.one (.s (.flt .f32 a13)),.one (.s (.flt .f32 a14))]=zq4 (z3r a0 g1 a2 g3 a4 g5 a6 g7 c8 a9 a10 a11 a12 a13 a14):=tr2 (y4x a0 g1 a2 g3 a4 g5 a6 g7 c8 a9 a10 a11 a12 a13 a14 zq4 rfl (fun c0_ c1_ c2_ c3_ c4_=>some (c0_,c1_,c2_,c3_,c4_))) (by kernel_rfl)
theorem y8c:SumOne J 50 zqm:=mkT yap yb1 fun pts v news hp=>by
 unfold zqm at hp
 split at hp
 ·exact fin3 (ybd ..) hp
 ·cases hp
def tb23:List (Nat×(List PT→Option (Bool×AV×List Blk))):=(50,zqm)::tb21
def lt23:List ((Nat×Nat)×(Nat→St→Option (Bool×LO))):=lt21
def Γ23:Ctx:=⟨tyTab,fnTab,tblSum tb23,tblLp lt23⟩
theorem yax:SumL J tb23:=SumL.cons y8c (yap)
theorem yam:LpL J fnTab lt23:=yb1
def z9s:St:=(.mk [(x0P 0 4 7),(x0S 13 5 a0 1),(x0I 29 c1),(x0I 30 c2)] [(x0L g3),(x0L g4),(x0L g5),(x0L g6),(x0R false 0 1 2 3 a7 a8 a9 a10 c11 a12 a13),(x0T g14)])
def zdq:St:=(.mk [(x0P 0 4 7),(x0S 13 5 a0 1),(x0I 29 c1),(x0I 30 c13),(x0B 31 e14)] [(x0L g2),(x0L g3),(x0L g4),(x0L g5),(x0R false 0 1 2 3 a6 a7 a8 a9 c10 a11 a12),(x0T g15)])
def zfx:Option ((Int×Bool×(List Nat)))→Option (Ex×St)
 | none=>none
 | some r=>some ((.exit 0),(zdq a0 c1 g2 g3 g4 g5 a6 a7 a8 a9 c10 a11 a12 r.1 r.2.1 r.2.2))
def znh (x:Option ((Int×Bool×(List Nat)))):LO:=(.one (.exit 0) (zdq a0 c1 g2 g3 g4 g5 a6 a7 a8 a9 c10 a11 a12 (x.getD default).1 (x.getD default).2.1 (x.getD default).2.2))
def zx6:Bool×LO:=sL (znh a0 c1 g3 g4 g5 g6 a7 a8 a9 a10 c11 a12 a13) (z10 a0 c1 g6 a10 big c2 g14)
end
end Go.Proofs.YtijjhfailnmeoaaGreat
