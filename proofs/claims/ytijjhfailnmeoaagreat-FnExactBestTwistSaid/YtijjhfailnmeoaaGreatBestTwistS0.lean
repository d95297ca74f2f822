import Derived.Test.YtijjhfailnmeoaaGreatBestTwistC
set_option linter.unusedVariables false
set_option linter.unusedSimpArgs false
set_option linter.unusedSectionVars false
set_option maxRecDepth 100000
set_option maxHeartbeats 4000000
namespace Go.Proofs.YtijjhfailnmeoaaGreat
open Go Go.Rf
variable {J:Jd Tryz.prog}
abbrev x0F(d x:Nat):Nat×AV:=(d,.v (.one (.flt .f32 x)))
abbrev x0I(d:Nat)(x:Int):Nat×AV:=(d,.v (.one (.int .i64 x)))
abbrev x0B(d:Nat)(x:Bool):Nat×AV:=(d,.v (.one (.bool x)))
abbrev x0P(d b n:Nat):Nat×AV:=(d,.v (.one (.ptr b 0 n)))
abbrev x0S(d b n s:Nat):Nat×AV:=(d,.v (.one (.sl b 0 n s)))
abbrev x0V(d b n s:Nat):Nat×AV:=(d,.v (.one (.vw b 0 n s)))
abbrev x0L(x:List Nat):Blk:=.mk false (.fl .f32 x)
abbrev x0T(x:List Nat):Blk:=.mk true (.fl .f32 x)
abbrev x0R(o:Bool)(b c d e k l m n:Nat)(i:Int)(x y:Nat):Blk:=.mk o (.cells [.vw b 0 k 1,.vw c 0 l 1,.vw d 0 m 1,.vw e 0 n 3,.int .i64 i,.flt .f32 x,.flt .f32 y])
abbrev x1R(o:Bool)(b c d e:Nat):=pBlk o (pCells [pVw b (liN 0) 1,pVw c (liN 0) 1,pVw d (liN 0) 1,pVw e (liN 0) 3,pInt .i64,pFlt .f32,pFlt .f32])
abbrev x1F(d:Nat):=pTm d (pV (pOne (pFlt .f32)))
abbrev x1I(d:Nat):=pTm d (pV (pOne (pInt .i64)))
abbrev x1B(d:Nat):=pTm d (pV (pOne pBool))
abbrev x1P(d b n:Nat):=pTm d (pV (pOne (pPtr b (liN 0) n)))
abbrev x1S(d b s:Nat):=pTm d (pV (pOne (pSl b (liN 0) s)))
abbrev x1V(d b s:Nat):=pTm d (pV (pOne (pVw b (liN 0) s)))
abbrev x1L:=pBlk false (pFl .f32)
abbrev x1T:=pBlk true (pFl .f32)
noncomputable section
variable (a0:Nat) (c0:Int) (e0:Bool) (a1:Nat) (c1:Int) (e1:Bool) (g1:List Nat) (m1:List Bool) (a2:Nat) (c2:Int) (e2:Bool) (g2:List Nat) (a3:Nat) (c3:Int) (g3:List Nat) (m3:List Bool) (a4:Nat) (c4:Int) (e4:Bool) (g4:List Nat) (m4:List Bool) (a5:Nat) (e5:Bool) (g5:List Nat) (a6:Nat) (c6:Int) (g6:List Nat) (a7:Nat) (c7:Int) (g7:List Nat) (a8:Nat) (c8:Int) (e8:Bool) (g8:List Nat) (a9:Nat) (c9:Int) (e9:Bool) (g9:List Nat) (a10:Nat) (c10:Int) (e10:Bool) (g10:List Nat) (a11:Nat) (c11:Int) (g11:List Nat) (a12:Nat) (c12:Int) (g12:List Nat) (a13:Nat) (c13:Int) (a14:Nat) (c14:Int) (e14:Bool) (g14:List Nat) (a15:Nat) (c15:Int) (e15:Bool) (a16:Nat) (g16:List Nat) (a17:Nat) (c17:Int) (e18:Bool) (g18:List Nat) (c19:Int) (g19:List Nat) (a20:Nat) (g20:List Nat) (a21:Nat)
def zhk:List PT→Option (Bool×AV×List Blk)
 | [.one (.s (.flt .f32 x))]=>some (bnot (nanQ .f32 x),A1 (.int .u32 x),[])
 | _=>none
theorem y03:SumOne J 147 zhk:=by
 intro pts v news hp w vals hv
 unfold zhk at hp
 split at hp
 ·rename_i x
  injection hp with hp
  injection hp with h1 hp
  injection hp with h2 h3
  subst h2
  subst h3
  obtain⟨l,hl⟩:∃ l,l=vals.toList:=⟨_,rfl⟩
  rw[← hl] at hv
  cases hv with
  | cons a1 a2=>
   cases a2
   obtain⟨b,hb1,hb2,hb3⟩:=a1
   subst hb1
   rename_i hx
   have hvals:vals=#[.float .f32 b]:=by rw[← Array.toList_inj,← hl]
   subst hvals
   have hn:nanB .f32 b=false:=by rw[← u4k,hb3];simpa [bnot,nanQ] using h1
   rw[u03 hn] at hb3
   subst hb3
   refine⟨nat_tame Tryz.func147 (Eq.mpr (by kernel_rfl:_=(Mute (.extern 147)∧True)) ⟨.inr ⟨_,rfl⟩,trivial⟩),.inl ⟨_,w,by (simp only[callFunc,Sem.run_bind,run_program,Result.andThen_ok,Tryz.func147];rfl),NoB,⟨⟨(fun t b' h=>by cases t<;>cases h),(fun t t' b1 b2 x x' _ h=>by cases t<;>cases h)⟩,(fun t x h=>by cases h),Fr.refl _ w⟩,rfl⟩⟩
 ·cases hp
def zc4:List PT→Option (Bool×AV×List Blk)
 | [.one (.s (.int .u64 x))]=>some (okU .f64 x,A1 (.flt .f64 (cnI .f64 x)),[])
 | _=>none
theorem ztc:SumOne J 167 zc4:=by
 intro pts v news hp w vals hv
 unfold zc4 at hp
 split at hp
 ·rename_i x
  injection hp with hp
  injection hp with h1 hp
  injection hp with h2 h3
  subst h2
  subst h3
  obtain⟨l,hl⟩:∃ l,l=vals.toList:=⟨_,rfl⟩
  rw[← hl] at hv
  cases hv with
  | cons a1 a2=>
   cases a2
   have hb1:_=Value.int .u64 x:=a1
   subst hb1
   rename_i hx
   have hvals:vals=#[.int .u64 x]:=by rw[← Array.toList_inj,← hl]
   subst hvals
   have hw:=okU_lt h1
   refine⟨nat_tame Tryz.func167 (Eq.mpr (by kernel_rfl:_=(Mute (.extern 167)∧True)) ⟨.inr ⟨_,rfl⟩,trivial⟩),.inl ⟨_,w,by (simp only[callFunc,Sem.run_bind,run_program,Result.andThen_ok,Tryz.func167];rfl),NoB,⟨⟨(fun t b' h=>by cases t<;>cases h),(fun t t' b1 b2 x x' _ h=>by cases t<;>cases h)⟩,(fun t x h=>by cases h),Fr.refl _ w⟩,⟨_,rfl,hw,rfl⟩⟩⟩
 ·cases hp
def zhy:List PT→Option (Bool×AV×List Blk)
 | [.one (.s (.flt .f64 x))]=>some (bnot (nanQ .f64 x),A1 (.int .u64 x),[])
 | _=>none
theorem zzd:SumOne J 173 zhy:=by
 intro pts v news hp w vals hv
 unfold zhy at hp
 split at hp
 ·rename_i x
  injection hp with hp
  injection hp with h1 hp
  injection hp with h2 h3
  subst h2
  subst h3
  obtain⟨l,hl⟩:∃ l,l=vals.toList:=⟨_,rfl⟩
  rw[← hl] at hv
  cases hv with
  | cons a1 a2=>
   cases a2
   obtain⟨b,hb1,hb2,hb3⟩:=a1
   subst hb1
   rename_i hx
   have hvals:vals=#[.float .f64 b]:=by rw[← Array.toList_inj,← hl]
   subst hvals
   have hn:nanB .f64 b=false:=by rw[← u4k,hb3];simpa [bnot,nanQ] using h1
   rw[u03 hn] at hb3
   subst hb3
   refine⟨nat_tame Tryz.func173 (Eq.mpr (by kernel_rfl:_=(Mute (.extern 173)∧True)) ⟨.inr ⟨_,rfl⟩,trivial⟩),.inl ⟨_,w,by (simp only[callFunc,Sem.run_bind,run_program,Result.andThen_ok,Tryz.func173];rfl),NoB,⟨⟨(fun t b' h=>by cases t<;>cases h),(fun t t' b1 b2 x x' _ h=>by cases t<;>cases h)⟩,(fun t x h=>by cases h),Fr.refl _ w⟩,rfl⟩⟩
 ·cases hp
def zl3:List PT→Option (Bool×AV×List Blk)
 | [.one (.s (.flt .f64 x))]=>some (bnot (nanQ .f64 x),A1 (.flt .f64 (fint .zero x)),[])
 | _=>none
theorem y42:SumOne J 177 zl3:=by
 intro pts v news hp w vals hv
 unfold zl3 at hp
 split at hp
 ·rename_i x
  injection hp with hp
  injection hp with h1 hp
  injection hp with h2 h3
  subst h2
  subst h3
  obtain⟨l,hl⟩:∃ l,l=vals.toList:=⟨_,rfl⟩
  rw[← hl] at hv
  cases hv with
  | cons a1 a2=>
   cases a2
   obtain⟨b,hb1,hb2,hb3⟩:=a1
   subst hb1
   rename_i hx
   have hvals:vals=#[.float .f64 b]:=by rw[← Array.toList_inj,← hl]
   subst hvals
   have hn:nanB .f64 b=false:=by rw[← u4k,hb3];simpa [bnot,nanQ] using h1
   rw[u03 hn] at hb3
   subst hb3
   refine⟨nat_tame Tryz.func177 (Eq.mpr (by kernel_rfl:_=(Mute (.extern 177)∧Tame Tryz.prog (do let v ← Extern.MathFloor.toIntegral "math.archTrunc" .zero #[.float .f64 b];pure (.value v):Sem Next))) ⟨.inr ⟨_,rfl⟩,tv (t_integral _ _ _)⟩),.inl ⟨_,w,by (simp only[callFunc,Sem.run_bind,run_program,Result.andThen_ok,Tryz.func177];change (do let v ← Extern.MathFloor.toIntegral "math.archTrunc" .zero #[.float .f64 b];pure (.value v):Sem Next).run Tryz.prog w=_;rw[Sem.run_bind,run_fint hn];rfl),NoB,⟨⟨(fun t b' h=>by cases t<;>cases h),(fun t t' b1 b2 x x' _ h=>by cases t<;>cases h)⟩,(fun t x h=>by cases h),Fr.refl _ w⟩,fint_rel hn⟩⟩
 ·cases hp
def zl0:List PT→Option (Bool×AV×List Blk)
 | [.one (.s (.flt .f64 x))]=>some (bnot (nanQ .f64 x),A1 (.flt .f64 (fint .down x)),[])
 | _=>none
theorem y4g:SumOne J 179 zl0:=by
 intro pts v news hp w vals hv
 unfold zl0 at hp
 split at hp
 ·rename_i x
  injection hp with hp
  injection hp with h1 hp
  injection hp with h2 h3
  subst h2
  subst h3
  obtain⟨l,hl⟩:∃ l,l=vals.toList:=⟨_,rfl⟩
  rw[← hl] at hv
  cases hv with
  | cons a1 a2=>
   cases a2
   obtain⟨b,hb1,hb2,hb3⟩:=a1
   subst hb1
   rename_i hx
   have hvals:vals=#[.float .f64 b]:=by rw[← Array.toList_inj,← hl]
   subst hvals
   have hn:nanB .f64 b=false:=by rw[← u4k,hb3];simpa [bnot,nanQ] using h1
   rw[u03 hn] at hb3
   subst hb3
   refine⟨nat_tame Tryz.func179 (Eq.mpr (by kernel_rfl:_=(Mute (.extern 179)∧Tame Tryz.prog (do let v ← Extern.MathFloor.toIntegral "math.archFloor" .down #[.float .f64 b];pure (.value v):Sem Next))) ⟨.inr ⟨_,rfl⟩,tv (t_integral _ _ _)⟩),.inl ⟨_,w,by (simp only[callFunc,Sem.run_bind,run_program,Result.andThen_ok,Tryz.func179];change (do let v ← Extern.MathFloor.toIntegral "math.archFloor" .down #[.float .f64 b];pure (.value v):Sem Next).run Tryz.prog w=_;rw[Sem.run_bind,run_fint hn];rfl),NoB,⟨⟨(fun t b' h=>by cases t<;>cases h),(fun t t' b1 b2 x x' _ h=>by cases t<;>cases h)⟩,(fun t x h=>by cases h),Fr.refl _ w⟩,fint_rel hn⟩⟩
 ·cases hp
def sF{α:Type}[Inhabited α] (o:Option α→Option (AV×List Blk)) (x:Option α):Option (Bool×AV×List Blk):=sP x.isSome o (x.getD default)
theorem fin3{α:Type}[Inhabited α] {a:Option (AV×List Blk)} {o:Option α→Option (AV×List Blk)} {x:Option α} {v:AV} {news:List Blk} (h:a=o x) (hp:sF o x=some (true,v,news)):a=some (v,news):=fin2 h hp
def sL{α:Type}(lo:Option α→LO)(x:Option α):Bool×LO:=(x.isSome,lo x)
theorem mkT {tb:List (Nat×(List PT→Option (Bool×AV×List Blk)))} {lt:List ((Nat×Nat)×(Nat→St→Option (Bool×LO)))} {J:Jd Tryz.prog} (h1:SumL J tb) (h2:LpL J fnTab lt) {g:FuncId} {F:List PT→Option (Bool×AV×List Blk)} (h:∀ pts v news,F pts=some (true,v,news)→ev8 ⟨tyTab,fnTab,tblSum tb,tblLp lt⟩ g pts=some (v,news)):SumOne J g F:=
 sum_of (Γ:=⟨tyTab,fnTab,tblSum tb,tblLp lt⟩) (fuel:=8) (d:=8) tyTab_ok (FnL.ok fnTab_ok _ _) (LpL.ok h2) (SumL.ok h1 _) mixed fun pts v news hp _=>h pts v news hp
theorem lpK {tb:List (Nat×(List PT→Option (Bool×AV×List Blk)))} {lt:List ((Nat×Nat)×(Nat→St→Option (Bool×LO)))} {J:Jd Tryz.prog} (h1:SumL J tb) (h2:LpL J fnTab lt) {f id lo0:Nat} {fi:FnI} (hfi:Rf.look fnTab f=some fi) (hu:noTwo (lids (loopsIn fi.code))=true) {p:Pz St} {F:List Hv→Bool×LO} {q:List Hv→St}
  (hq:∀ hs,p.fil hs 0=q hs) (h:∀ hs,(F hs).1=true→iter f id lo0 (ev9 ⟨tyTab,fnTab,tblSum tb,tblLp lt⟩ f id lo0 fi) big (q hs) (fun e st=>some (e,st))=some (pick (F hs).2)) (hb:Nat.beq id bodyId=false:=by rfl):LoopOne J fnTab f id (lpT lo0 p F):=
 lp9 (Γ:=⟨tyTab,fnTab,tblSum tb,tblLp lt⟩) tyTab_ok (FnL.ok fnTab_ok _ _) (LpL.ok h2) (SumL.ok h1 _) mixed hfi hu hq h hb
def tb0:List (Nat×(List PT→Option (Bool×AV×List Blk))):=[(147,zhk),(167,zc4),(173,zhy),(177,zl3),(179,zl0)]
def lt0:List ((Nat×Nat)×(Nat→St→Option (Bool×LO))):=[]
def Γ0:Ctx:=⟨tyTab,fnTab,tblSum tb0,tblLp lt0⟩
theorem z7n:SumL J tb0:=SumL.cons y03 (SumL.cons ztc (SumL.cons zzd (SumL.cons y42 (SumL.cons y4g (SumL.nil)))))
theorem z7j:LpL J fnTab lt0:=LpL.nil
def zla  : Option (Bool)→Option (AV×List Blk)
 | some r=>some ((.v (.one (.bool r))),[])
 | none=>none
def zlz:List PT→Option (Bool×AV×List Blk)
 | [.one (.s (.flt .f64 a)),.one (.s (.flt .f64 b))]=>sF zla (z66 a b)
 | _=>none
theorem y9z:ev8 Γ0 35 [.one (.s (.flt .f64 a0)),.one (.s (.flt .f64 a1))]=zla (z66 a0 a1):=tr2 (y10 a0 a1 zla rfl (fun c0_=>some c0_)) (by kernel_rfl)
theorem y3c:SumOne J 35 zlz:=mkT z7n z7j fun pts v news hp=>by
 unfold zlz at hp
 split at hp
 ·exact fin3 (y9z ..) hp
 ·cases hp
def zrs  : Option (Bool)→Option (AV×List Blk)
 | some r=>some ((.v (.one (.bool r))),[])
 | none=>none
def zru:List PT→Option (Bool×AV×List Blk)
 | [.one (.s (.int .i64 n_)),.one (.s (.int .i64 low)),.one (.s (.int .i64 q1w))]=>sF zrs (z8z n_ low q1w)
 | _=>none
theorem yea:ev8 Γ0 52 [.one (.s (.int .i64 c0)),.one (.s (.int .i64 c1)),.one (.s (.int .i64 c2))]=zrs (z8z c0 c1 c2):=tr2 (y7s c0 c1 c2 zrs rfl (fun c0_=>some c0_)) (by kernel_rfl)
theorem y95:SumOne J 52 zru:=mkT z7n z7j fun pts v news hp=>by
 unfold zru at hp
 split at hp
 ·exact fin3 (yea ..) hp
 ·cases hp
def zoq  : Option (Bool)→Option (AV×List Blk)
 | some r=>some ((.v (.one (.bool r))),[])
 | none=>none
def zn5:List PT→Option (Bool×AV×List Blk)
 | [.one (.s (.flt .f32 x))]=>sF zoq (z8t x)
 | _=>none
theorem ybh:ev8 Γ0 65 [.one (.s (.flt .f32 a0))]=zoq (z8t a0):=tr2 (y3l a0 zoq rfl (fun c0_=>some c0_)) (by kernel_rfl)
theorem y59:SumOne J 65 zn5:=mkT z7n z7j fun pts v news hp=>by
 unfold zn5 at hp
 split at hp
 ·exact fin3 (ybh ..) hp
 ·cases hp
def zvh  : Option (Bool)→Option (AV×List Blk)
 | some r=>some ((.v (.one (.bool r))),[])
 | none=>none
def zvo:List PT→Option (Bool×AV×List Blk)
 | [.one (.s (.int .i64 n_)),.one (.s (.int .i64 low)),.one (.s (.int .i64 q1w))]=>sF zvh (za5 n_ low q1w)
 | _=>none
theorem yeo:ev8 Γ0 68 [.one (.s (.int .i64 c0)),.one (.s (.int .i64 c1)),.one (.s (.int .i64 c2))]=zvh (za5 c0 c1 c2):=tr2 (y9r c0 c1 c2 zvh rfl (fun c0_=>some c0_)) (by kernel_rfl)
theorem ybf:SumOne J 68 zvo:=mkT z7n z7j fun pts v news hp=>by
 unfold zvo at hp
 split at hp
 ·exact fin3 (yeo ..) hp
 ·cases hp
def zja  : Option (Int)→Option (AV×List Blk)
 | some r=>some ((.v (.one (.int .i64 r))),[])
 | none=>none
def zjr:List PT→Option (Bool×AV×List Blk)
 | [.one (.row 3 a_n (.fl .f32 a)),.one (.s (.int .i64 q2j))]=>sF zja (z5e a_n a q2j)
 | _=>none
theorem y8c:ev8 Γ0 71 [.one (.row 3 a0 (.fl .f32 g1)),.one (.s (.int .i64 c2))]=zja (z5e a0 g1 c2):=tr2 (zz0 a0 g1 c2 zja rfl (fun c0_=>some c0_)) (by kernel_rfl)
theorem y0t:SumOne J 71 zjr:=mkT z7n z7j fun pts v news hp=>by
 unfold zjr at hp
 split at hp
 ·exact fin3 (y8c ..) hp
 ·cases hp
def zli  : Option (Bool)→Option (AV×List Blk)
 | some r=>some ((.v (.one (.bool r))),[])
 | none=>none
def zks:List PT→Option (Bool×AV×List Blk)
 | [.one (.s (.flt .f32 x))]=>sF zli (z7t x)
 | _=>none
theorem y94:ev8 Γ0 84 [.one (.s (.flt .f32 a0))]=zli (z7t a0):=tr2 (y18 a0 zli rfl (fun c0_=>some c0_)) (by kernel_rfl)
theorem y4s:SumOne J 84 zks:=mkT z7n z7j fun pts v news hp=>by
 unfold zks at hp
 split at hp
 ·exact fin3 (y94 ..) hp
 ·cases hp
def zj8  : Option (Int)→Option (AV×List Blk)
 | some r=>some ((.v (.one (.int .i64 r))),[])
 | none=>none
def zj6:List PT→Option (Bool×AV×List Blk)
 | [.one (.row 1 a_n (.fl .f32 a)),.one (.s (.int .i64 q2j))]=>sF zj8 (z5d a_n a q2j)
 | _=>none
theorem y8o:ev8 Γ0 117 [.one (.row 1 a0 (.fl .f32 g1)),.one (.s (.int .i64 c2))]=zj8 (z5d a0 g1 c2):=tr2 (zzv a0 g1 c2 zj8 rfl (fun c0_=>some c0_)) (by kernel_rfl)
theorem y2g:SumOne J 117 zj6:=mkT z7n z7j fun pts v news hp=>by
 unfold zj6 at hp
 split at hp
 ·exact fin3 (y8o ..) hp
 ·cases hp
def zkx:Option (Unit)→Option (AV×List Blk)
 | some r=>some ((.v (.agg [(.flt .f32 a0),(.flt .f32 a1),(.flt .f32 a2)])),[])
 | none=>none
def zl5:List PT→Option (Bool×AV×List Blk)
 | [.agg [.s (.flt .f32 q2p),.s (.flt .f32 q2t),.s (.flt .f32 q2s)]]=>sF (zkx q2p q2t q2s) (zl8 q2p q2t q2s)
 | _=>none
theorem yab:ev8 Γ0 118 [.agg [.s (.flt .f32 a0),.s (.flt .f32 a1),.s (.flt .f32 a2)]]=(zkx a0 a1 a2) (zl8 a0 a1 a2):=tr2 (y21 a0 a1 a2 (zkx a0 a1 a2) rfl (fun _=>some ())) (by kernel_rfl)
theorem y39:SumOne J 118 zl5:=mkT z7n z7j fun pts v news hp=>by
 unfold zl5 at hp
 split at hp
 ·exact fin3 (yab ..) hp
 ·cases hp
def znd  : Option (Bool)→Option (AV×List Blk)
 | some r=>some ((.v (.one (.bool r))),[])
 | none=>none
def zol:List PT→Option (Bool×AV×List Blk)
 | [.one (.s (.flt .f32 x)),.one (.s (.flt .f32 low)),.one (.s (.flt .f32 q1w))]=>sF znd (z6y x low q1w)
 | _=>none
theorem yax:ev8 Γ0 134 [.one (.s (.flt .f32 a0)),.one (.s (.flt .f32 a1)),.one (.s (.flt .f32 a2))]=znd (z6y a0 a1 a2):=tr2 (y3j a0 a1 a2 znd rfl (fun c0_=>some c0_)) (by kernel_rfl)
theorem y5a:SumOne J 134 zol:=mkT z7n z7j fun pts v news hp=>by
 unfold zol at hp
 split at hp
 ·exact fin3 (yax ..) hp
 ·cases hp
def zdy  : Option (Nat)→Option (AV×List Blk)
 | some r=>some ((.v (.one (.flt .f32 r))),[])
 | none=>none
def ze3:List PT→Option (Bool×AV×List Blk)
 | [.agg [.row 1 q00 (.fl .f32 q03),.row 1 q02 (.fl .f32 q05),.row 1 q01 (.fl .f32 q04),.row 3 q06 (.fl .f32 q0b),.s (.int .i64 q0g),.s (.flt .f32 q0n),.s (.flt .f32 q0m)],.one (.s (.int .i64 i))]=>sF zdy (z3g q00 q03 q02 q05 q01 q04 q06 q0b q0g q0n q0m i)
 | _=>none
theorem zyl:ev8 Γ0 142 [.agg [.row 1 a0 (.fl .f32 g1),.row 1 a2 (.fl .f32 g3),.row 1 a4 (.fl .f32 g5),.row 3 a6 (.fl .f32 g7),.s (.int .i64 c8),.s (.flt .f32 a9),.s (.flt .f32 a10)],.one (.s (.int .i64 c11))]=zdy (z3g a0 g1 a2 g3 a4 g5 a6 g7 c8 a9 a10 c11):=tr2 (zth a0 g1 a2 g3 a4 g5 a6 g7 c8 a9 a10 c11 zdy rfl (fun c0_=>some c0_)) (by kernel_rfl)
theorem zva:SumOne J 142 ze3:=mkT z7n z7j fun pts v news hp=>by
 unfold ze3 at hp
 split at hp
 ·exact fin3 (zyl ..) hp
 ·cases hp
def zrz  : Option (Nat)→Option (AV×List Blk)
 | some r=>some ((.v (.one (.flt .f32 r))),[])
 | none=>none
def zrf:List PT→Option (Bool×AV×List Blk)
 | [.ptr [.row 1 q00 (.fl .f32 q03),.row 1 q02 (.fl .f32 q05),.row 1 q01 (.fl .f32 q04),.row 3 q06 (.fl .f32 q0b),.s (.int .i64 q0g),.s (.flt .f32 q0n),.s (.flt .f32 q0m)],.one (.s (.int .i64 i)),.one (.s (.flt .f32 q3g))]=>sF zrz (z90 q00 q03 q02 q05 q01 q04 q06 q0b q0g q0n q0m i q3g)
 | _=>none
theorem ydz:ev8 Γ0 151 [.ptr [.row 1 a0 (.fl .f32 g1),.row 1 a2 (.fl .f32 g3),.row 1 a4 (.fl .f32 g5),.row 3 a6 (.fl .f32 g7),.s (.int .i64 c8),.s (.flt .f32 a9),.s (.flt .f32 a10)],.one (.s (.int .i64 c11)),.one (.s (.flt .f32 a12))]=zrz (z90 a0 g1 a2 g3 a4 g5 a6 g7 c8 a9 a10 c11 a12):=tr2 (y74 a0 g1 a2 g3 a4 g5 a6 g7 c8 a9 a10 c11 a12 zrz rfl (fun c0_=>some c0_)) (by kernel_rfl)
theorem y90:SumOne J 151 zrf:=mkT z7n z7j fun pts v news hp=>by
 unfold zrf at hp
 split at hp
 ·exact fin3 (ydz ..) hp
 ·cases hp
def zhv  : Option (Nat)→Option (AV×List Blk)
 | some r=>some ((.v (.one (.flt .f32 r))),[])
 | none=>none
def zi0:List PT→Option (Bool×AV×List Blk)
 | [.ptr [.row 1 q00 (.fl .f32 q03),.row 1 q02 (.fl .f32 q05),.row 1 q01 (.fl .f32 q04),.row 3 q06 (.fl .f32 q0b),.s (.int .i64 q0g),.s (.flt .f32 q0n),.s (.flt .f32 q0m)],.one (.s (.int .i64 i))]=>sF zhv (z4x q00 q03 q02 q05 q01 q04 q06 q0b q0g q0n q0m i)
 | _=>none
theorem y56:ev8 Γ0 152 [.ptr [.row 1 a0 (.fl .f32 g1),.row 1 a2 (.fl .f32 g3),.row 1 a4 (.fl .f32 g5),.row 3 a6 (.fl .f32 g7),.s (.int .i64 c8),.s (.flt .f32 a9),.s (.flt .f32 a10)],.one (.s (.int .i64 c11))]=zhv (z4x a0 g1 a2 g3 a4 g5 a6 g7 c8 a9 a10 c11):=tr2 (zxk a0 g1 a2 g3 a4 g5 a6 g7 c8 a9 a10 c11 zhv rfl (fun c0_=>some c0_)) (by kernel_rfl)
theorem zzi:SumOne J 152 zi0:=mkT z7n z7j fun pts v news hp=>by
 unfold zi0 at hp
 split at hp
 ·exact fin3 (y56 ..) hp
 ·cases hp
def y0p  : Option (Nat)→Option (AV×List Blk)
 | some r=>some ((.v (.one (.flt .f64 r))),[])
 | none=>none
def y2f:List PT→Option (Bool×AV×List Blk)
 | []=>sF y0p zet
 | _=>none
theorem yfj  : ev8 Γ0 158 []=y0p (zet):=tr2 (ych  y0p rfl (fun c0_=>some c0_)) (by kernel_rfl)
theorem ye1:SumOne J 158 y2f:=mkT z7n z7j fun pts v news hp=>by
 unfold y2f at hp
 split at hp
 ·exact fin3 yfj hp
 ·cases hp
def zv8  : Option (Nat)→Option (AV×List Blk)
 | some r=>some ((.v (.one (.flt .f32 r))),[])
 | none=>none
def zu9:List PT→Option (Bool×AV×List Blk)
 | [.one (.s (.flt .f32 a)),.one (.s (.flt .f32 b)),.one (.s (.flt .f32 q3e))]=>sF zv8 (zdm a b q3e)
 | _=>none
theorem yem:ev8 Γ0 162 [.one (.s (.flt .f32 a0)),.one (.s (.flt .f32 a1)),.one (.s (.flt .f32 a2))]=zv8 (zdm a0 a1 a2):=tr2 (y9c a0 a1 a2 zv8 rfl (fun c0_=>some c0_)) (by kernel_rfl)
theorem yaq:SumOne J 162 zu9:=mkT z7n z7j fun pts v news hp=>by
 unfold zu9 at hp
 split at hp
 ·exact fin3 (yem ..) hp
 ·cases hp
def zld  : Option (Nat)→Option (AV×List Blk)
 | some r=>some ((.v (.one (.flt .f32 r))),[])
 | none=>none
def zlr:List PT→Option (Bool×AV×List Blk)
 | [.one (.s (.flt .f64 x))]=>sF zld (z6f x)
 | _=>none
theorem ya0:ev8 Γ0 163 [.one (.s (.flt .f64 a0))]=zld (z6f a0):=tr2 (y0h a0 zld rfl (fun c0_=>some c0_)) (by kernel_rfl)
theorem y48:SumOne J 163 zlr:=mkT z7n z7j fun pts v news hp=>by
 unfold zlr at hp
 split at hp
 ·exact fin3 (ya0 ..) hp
 ·cases hp
def y0g  : Option (Nat)→Option (AV×List Blk)
 | some r=>some ((.v (.one (.flt .f64 r))),[])
 | none=>none
def y1o:List PT→Option (Bool×AV×List Blk)
 | [.one (.s (.flt .f64 x))]=>sF y0g (zfq x)
 | _=>none
theorem yfm:ev8 Γ0 168 [.one (.s (.flt .f64 a0))]=y0g (zfq a0):=tr2 (yc7 a0 y0g rfl (fun c0_=>some c0_)) (by kernel_rfl)
theorem ydy:SumOne J 168 y1o:=mkT z7n z7j fun pts v news hp=>by
 unfold y1o at hp
 split at hp
 ·exact fin3 (yfm ..) hp
 ·cases hp
def tb1:List (Nat×(List PT→Option (Bool×AV×List Blk))):=(35,zlz)::(52,zru)::(65,zn5)::(68,zvo)::(71,zjr)::(84,zks)::(117,zj6)::(118,zl5)::(134,zol)::(142,ze3)::(151,zrf)::(152,zi0)::(158,y2f)::(162,zu9)::(163,zlr)::(168,y1o)::tb0
def lt1:List ((Nat×Nat)×(Nat→St→Option (Bool×LO))):=lt0
def Γ1:Ctx:=⟨tyTab,fnTab,tblSum tb1,tblLp lt1⟩
theorem z5v:SumL J tb1:=SumL.cons y3c (SumL.cons y95 (SumL.cons y59 (SumL.cons ybf (SumL.cons y0t (SumL.cons y4s (SumL.cons y2g (SumL.cons y39 (SumL.cons y5a (SumL.cons zva (SumL.cons y90 (SumL.cons zzi (SumL.cons ye1 (SumL.cons yaq (SumL.cons y48 (SumL.cons ydy (z7n))))))))))))))))
theorem z5z:LpL J fnTab lt1:=z7j
def zqi  : Option (Nat×Bool)→Option (AV×List Blk)
 | some r=>some ((.tup [(.one (.flt .f32 r.1)),(.one (.bool r.2))]),[])
 | none=>none
def zpl:List PT→Option (Bool×AV×List Blk)
 | [.one (.s (.flt .f32 x))]=>sF zqi (z6q x)
 | _=>none
theorem yc0:ev8 Γ1 59 [.one (.s (.flt .f32 a0))]=zqi (z6q a0):=tr2 (y6l a0 zqi rfl (fun c0_ c1_=>some (c0_,c1_))) (by kernel_rfl)
theorem y7o:SumOne J 59 zpl:=mkT z5v z5z fun pts v news hp=>by
 unfold zpl at hp
 split at hp
 ·exact fin3 (yc0 ..) hp
 ·cases hp
def zm0  : Option (Int)→Option (AV×List Blk)
 | some r=>some ((.v (.one (.int .i64 r))),[])
 | none=>none
def zl7:List PT→Option (Bool×AV×List Blk)
 | [.agg [.row 1 q1m (.fl .f32 q21),.row 1 q1s (.fl .f32 q26),.row 1 q1t (.fl .f32 q27)],.one (.s (.int .i64 q2j))]=>sF zm0 (z67 q1m q21 q1s q26 q1t q27 q2j)
 | _=>none
theorem y9e:ev8 Γ1 70 [.agg [.row 1 a0 (.fl .f32 g1),.row 1 a2 (.fl .f32 g3),.row 1 a4 (.fl .f32 g5)],.one (.s (.int .i64 c6))]=zm0 (z67 a0 g1 a2 g3 a4 g5 c6):=tr2 (y0y a0 g1 a2 g3 a4 g5 c6 zm0 rfl (fun c0_=>some c0_)) (by kernel_rfl)
theorem y4b:SumOne J 70 zl7:=mkT z5v z5z fun pts v news hp=>by
 unfold zl7 at hp
 split at hp
 ·exact fin3 (y9e ..) hp
 ·cases hp
def zm5  : Option (Nat×Bool)→Option (AV×List Blk)
 | some r=>some ((.tup [(.one (.flt .f32 r.1)),(.one (.bool r.2))]),[])
 | none=>none
def zkt:List PT→Option (Bool×AV×List Blk)
 | [.one (.s (.flt .f32 x))]=>sF zm5 (z4v x)
 | _=>none
theorem yah:ev8 Γ1 72 [.one (.s (.flt .f32 a0))]=zm5 (z4v a0):=tr2 (y1i a0 zm5 rfl (fun c0_ c1_=>some (c0_,c1_))) (by kernel_rfl)
theorem y41:SumOne J 72 zkt:=mkT z5v z5z fun pts v news hp=>by
 unfold zkt at hp
 split at hp
 ·exact fin3 (yah ..) hp
 ·cases hp
def znb  : Option (Bool)→Option (AV×List Blk)
 | some r=>some ((.v (.one (.bool r))),[])
 | none=>none
def zom:List PT→Option (Bool×AV×List Blk)
 | [.one (.s (.flt .f32 x))]=>sF znb (z6x x)
 | _=>none
theorem ybk:ev8 Γ1 83 [.one (.s (.flt .f32 a0))]=znb (z6x a0):=tr2 (y3e a0 znb rfl (fun c0_=>some c0_)) (by kernel_rfl)
theorem y5s:SumOne J 83 zom:=mkT z5v z5z fun pts v news hp=>by
 unfold zom at hp
 split at hp
 ·exact fin3 (ybk ..) hp
 ·cases hp
def zq1  : Option (Bool)→Option (AV×List Blk)
 | some r=>some ((.v (.one (.bool r))),[])
 | none=>none
def zq3:List PT→Option (Bool×AV×List Blk)
 | [.one (.s (.flt .f32 x))]=>sF zq1 (z7s x)
 | _=>none
theorem ybv:ev8 Γ1 90 [.one (.s (.flt .f32 a0))]=zq1 (z7s a0):=tr2 (y6e a0 zq1 rfl (fun c0_=>some c0_)) (by kernel_rfl)
theorem y7b:SumOne J 90 zq3:=mkT z5v z5z fun pts v news hp=>by
 unfold zq3 at hp
 split at hp
 ·exact fin3 (ybv ..) hp
 ·cases hp
def zel  : Option (Bool)→Option (AV×List Blk)
 | some r=>some ((.v (.one (.bool r))),[])
 | none=>none
def zfd:List PT→Option (Bool×AV×List Blk)
 | [.one (.s (.flt .f32 x))]=>sF zel (z3z x)
 | _=>none
theorem y1a:ev8 Γ1 115 [.one (.s (.flt .f32 a0))]=zel (z3z a0):=tr2 (zua a0 zel rfl (fun c0_=>some c0_)) (by kernel_rfl)
theorem zvz:SumOne J 115 zfd:=mkT z5v z5z fun pts v news hp=>by
 unfold zfd at hp
 split at hp
 ·exact fin3 (y1a ..) hp
 ·cases hp
def zl9  : Option (Bool)→Option (AV×List Blk)
 | some r=>some ((.v (.one (.bool r))),[])
 | none=>none
def zm2:List PT→Option (Bool×AV×List Blk)
 | [.agg [.s (.flt .f32 q2p),.s (.flt .f32 q2t),.s (.flt .f32 q2s)],.agg [.s (.flt .f32 q35),.s (.flt .f32 q39),.s (.flt .f32 q3a)]]=>sF zl9 (z6e q2p q2t q2s q35 q39 q3a)
 | _=>none
theorem y96:ev8 Γ1 119 [.agg [.s (.flt .f32 a0),.s (.flt .f32 a1),.s (.flt .f32 a2)],.agg [.s (.flt .f32 a3),.s (.flt .f32 a4),.s (.flt .f32 a5)]]=zl9 (z6e a0 a1 a2 a3 a4 a5):=tr2 (y16 a0 a1 a2 a3 a4 a5 zl9 rfl (fun c0_=>some c0_)) (by kernel_rfl)
theorem y3t:SumOne J 119 zm2:=mkT z5v z5z fun pts v news hp=>by
 unfold zm2 at hp
 split at hp
 ·exact fin3 (y96 ..) hp
 ·cases hp
def znf  : Option (Bool)→Option (AV×List Blk)
 | some r=>some ((.v (.one (.bool r))),[])
 | none=>none
def zng:List PT→Option (Bool×AV×List Blk)
 | [.one (.s (.flt .f32 x))]=>sF znf (z6z x)
 | _=>none
theorem ybc:ev8 Γ1 121 [.one (.s (.flt .f32 a0))]=znf (z6z a0):=tr2 (y4q a0 znf rfl (fun c0_=>some c0_)) (by kernel_rfl)
theorem y5o:SumOne J 121 zng:=mkT z5v z5z fun pts v news hp=>by
 unfold zng at hp
 split at hp
 ·exact fin3 (ybc ..) hp
 ·cases hp
def zmt  : Option (Bool)→Option (AV×List Blk)
 | some r=>some ((.v (.one (.bool r))),[])
 | none=>none
def zo2:List PT→Option (Bool×AV×List Blk)
 | [.ptr [.row 1 q00 (.fl .f32 q03),.row 1 q02 (.fl .f32 q05),.row 1 q01 (.fl .f32 q04),.row 3 q06 (.fl .f32 q0b),.s (.int .i64 q0g),.s (.flt .f32 q0n),.s (.flt .f32 q0m)],.one (.s (.int .i64 i)),.one (.s (.flt .f32 q0o))]=>sF zmt (z70 q00 q03 q02 q05 q01 q04 q06 q0b q0g q0n q0m i q0o)
 | _=>none
theorem ybd:ev8 Γ1 128 [.ptr [.row 1 a0 (.fl .f32 g1),.row 1 a2 (.fl .f32 g3),.row 1 a4 (.fl .f32 g5),.row 3 a6 (.fl .f32 g7),.s (.int .i64 c8),.s (.flt .f32 a9),.s (.flt .f32 a10)],.one (.s (.int .i64 c11)),.one (.s (.flt .f32 a12))]=zmt (z70 a0 g1 a2 g3 a4 g5 a6 g7 c8 a9 a10 c11 a12):=tr2 (y4o a0 g1 a2 g3 a4 g5 a6 g7 c8 a9 a10 c11 a12 zmt rfl (fun c0_=>some c0_)) (by kernel_rfl)
theorem y5f:SumOne J 128 zo2:=mkT z5v z5z fun pts v news hp=>by
 unfold zo2 at hp
 split at hp
 ·exact fin3 (ybd ..) hp
 ·cases hp
def zrp  : Option (Nat×Nat×Bool)→Option (AV×List Blk)
 | some r=>some ((.tup [(.one (.flt .f32 r.1)),(.one (.flt .f32 r.2.1)),(.one (.bool r.2.2))]),[])
 | none=>none
def zrw:List PT→Option (Bool×AV×List Blk)
 | [.one (.s (.flt .f32 x)),.one (.s (.flt .f32 y))]=>sF zrp (z61 x y)
 | _=>none
theorem ye7:ev8 Γ1 131 [.one (.s (.flt .f32 a0)),.one (.s (.flt .f32 a1))]=zrp (z61 a0 a1):=tr2 (y8k a0 a1 zrp rfl (fun c0_ c1_ c2_=>some (c0_,c1_,c2_))) (by kernel_rfl)
theorem yal:SumOne J 131 zrw:=mkT z5v z5z fun pts v news hp=>by
 unfold zrw at hp
 split at hp
 ·exact fin3 (ye7 ..) hp
 ·cases hp
def zhm  : Option (Bool)→Option (AV×List Blk)
 | some r=>some ((.v (.one (.bool r))),[])
 | none=>none
def zi2:List PT→Option (Bool×AV×List Blk)
 | [.one (.s (.flt .f32 x))]=>sF zhm (z4m x)
 | _=>none
theorem y5z:ev8 Γ1 153 [.one (.s (.flt .f32 a0))]=zhm (z4m a0):=tr2 (zxp a0 zhm rfl (fun c0_=>some c0_)) (by kernel_rfl)
theorem zzq:SumOne J 153 zi2:=mkT z5v z5z fun pts v news hp=>by
 unfold zi2 at hp
 split at hp
 ·exact fin3 (y5z ..) hp
 ·cases hp
def zch  : Option (Bool)→Option (AV×List Blk)
 | some r=>some ((.v (.one (.bool r))),[])
 | none=>none
def zcm:List PT→Option (Bool×AV×List Blk)
 | [.agg [.row 1 q00 (.fl .f32 q03),.row 1 q02 (.fl .f32 q05),.row 1 q01 (.fl .f32 q04),.row 3 q06 (.fl .f32 q0b),.s (.int .i64 q0g),.s (.flt .f32 q0n),.s (.flt .f32 q0m)],.one (.s (.int .i64 i))]=>sF zch (z2z q00 q03 q02 q05 q01 q04 q06 q0b q0g q0n q0m i)
 | _=>none
theorem zya:ev8 Γ1 155 [.agg [.row 1 a0 (.fl .f32 g1),.row 1 a2 (.fl .f32 g3),.row 1 a4 (.fl .f32 g5),.row 3 a6 (.fl .f32 g7),.s (.int .i64 c8),.s (.flt .f32 a9),.s (.flt .f32 a10)],.one (.s (.int .i64 c11))]=zch (z2z a0 g1 a2 g3 a4 g5 a6 g7 c8 a9 a10 c11):=tr2 (zrm a0 g1 a2 g3 a4 g5 a6 g7 c8 a9 a10 c11 zch rfl (fun c0_=>some c0_)) (by kernel_rfl)
theorem ztl:SumOne J 155 zcm:=mkT z5v z5z fun pts v news hp=>by
 unfold zcm at hp
 split at hp
 ·exact fin3 (zya ..) hp
 ·cases hp
def zrk  : Option (Bool)→Option (AV×List Blk)
 | some r=>some ((.v (.one (.bool r))),[])
 | none=>none
def zrx:List PT→Option (Bool×AV×List Blk)
 | [.one (.s (.flt .f32 q1j))]=>sF zrk (z94 q1j)
 | _=>none
theorem ye2:ev8 Γ1 156 [.one (.s (.flt .f32 a0))]=zrk (z94 a0):=tr2 (y7t a0 zrk rfl (fun c0_=>some c0_)) (by kernel_rfl)
theorem y9a:SumOne J 156 zrx:=mkT z5v z5z fun pts v news hp=>by
 unfold zrx at hp
 split at hp
 ·exact fin3 (ye2 ..) hp
 ·cases hp
def zrt  : Option (Bool)→Option (AV×List Blk)
 | some r=>some ((.v (.one (.bool r))),[])
 | none=>none
def zs5:List PT→Option (Bool×AV×List Blk)
 | [.one (.s (.flt .f64 x))]=>sF zrt (z96 x)
 | _=>none
theorem yec:ev8 Γ1 159 [.one (.s (.flt .f64 a0))]=zrt (z96 a0):=tr2 (y7r a0 zrt rfl (fun c0_=>some c0_)) (by kernel_rfl)
theorem y92:SumOne J 159 zs5:=mkT z5v z5z fun pts v news hp=>by
 unfold zs5 at hp
 split at hp
 ·exact fin3 (yec ..) hp
 ·cases hp
def z9o:St:=(.mk [(x0V 0 0 a0 1),(x0S 3 1 a1 1),(x0I 4 c2)] [(x0L g3),(x0T g4)])
def ze7:St:=(.mk [(x0V 0 0 a0 1),(x0S 3 1 a1 1),(x0I 4 c3),(x0B 11 e4)] [(x0L g2),(x0T g5)])
def zf8:Option ((Int×Bool×(List Nat)))→Option (Ex×St)
 | none=>none
 | some r=>some ((.exit 0),(ze7 a0 a1 g2 r.1 r.2.1 r.2.2))
def zm6 (x:Option ((Int×Bool×(List Nat)))):LO:=(.one (.exit 0) (ze7 a0 a1 g2 (x.getD default).1 (x.getD default).2.1 (x.getD default).2.2))
def zx4:Bool×LO:=sL (zm6 a0 a1 g3) (z19 a0 a1 g3 big c2 g4)
def zo7:Nat→St→Option (Bool×LO):=lpT 1 (pSt [(x1V 0 0 1),(x1S 3 1 1),(x1I 4)] [x1L,x1T]) (fun hs=>zx4 (hN hs 0) (hN hs 1) (hI hs 2) (hLn hs 3) (hLn hs 4))
theorem y1j:∀ x:Option ((Int×Bool×(List Nat))),x.isSome=true→(zf8 a0 a1 g2) x=some (pick (zm6 a0 a1 g2 x))
 | none,h=>by cases h
 | some r,_=>rfl
theorem y0z (K:Ex→St→Option (Ex×St)):ev9 Γ1 45 3 1 fi45 (z9o a0 a1 c2 g3 g4) K=z28 a0 a1 g3 c2 g4 (fun i' b1'=>K .normal (z9o a0 a1 i' g3 b1')) (fun c0_ c1_ c2_=>K (.exit 0) (ze7 a0 a1 g3 c0_ c1_ c2_)):=by kernel_rfl
theorem y1f:∀ (n:Nat) (i:Int) (b1:List Nat),iter 45 3 1 (ev9 Γ1 45 3 1 fi45) n (z9o a0 a1 i g2 b1) (fun e st=>some (e,st))=(zf8 a0 a1 g2) (z19 a0 a1 g2 n i b1):=by
 intro n
 induction n with
 | zero=>intros;rfl
 | succ n ih=>
  intro i b1
  refine Eq.trans (iter_succ ..) (Eq.trans (y0z ..) (Eq.trans ?_ (zuo a0 a1 g2 i b1 (zf8 a0 a1 g2) rfl (fun i' b1'=>z19 a0 a1 g2 n i' b1') (fun c0_ c1_ c2_=>some (c0_,c1_,c2_)))))
  exact congrArg (fun kn_=>z28 a0 a1 g2 i b1 kn_ _) (funext fun i'=>funext fun b1'=>ih ..)
theorem zw1:LoopOne J fnTab 45 3 zo7:=lpK z5v z5z (fi:=fi45) (by kernel_rfl) (by kernel_rfl) (q:=fun hs=>(z9o (hN hs 0) (hN hs 1) (hI hs 2) (hLn hs 3) (hLn hs 4))) (fun hs=>by kernel_rfl) fun hs h1=>Eq.trans (y1f (hN hs 0) (hN hs 1) (hLn hs 3) big (hI hs 2) (hLn hs 4)) (y1j (hN hs 0) (hN hs 1) (hLn hs 3) _ h1)
def z7h:St:=(.mk [(x0V 1 4 a0 1),(x0P 2 5 7),(x0F 5 a1),(x0I 6 c2)] [(x0L g3),(x0L g4),(x0L g5),(x0L g6),(x0L g7),(x0R true 0 1 2 3 a8 a9 a10 a11 c12 a13 a14)])
def za4:St:=(.mk [(x0V 1 4 a0 1),(x0P 2 5 7),(x0F 5 a13),(x0I 6 c14),(x0B 11 e15)] [(x0L g1),(x0L g2),(x0L g3),(x0L g4),(x0L g5),(x0R true 0 1 2 3 a6 a7 a8 a9 c10 a11 a12)])
def zav:Option ((Nat×Int×Bool))→Option (Ex×St)
 | none=>none
 | some r=>some ((.exit 0),(za4 a0 g1 g2 g3 g4 g5 a6 a7 a8 a9 c10 a11 a12 r.1 r.2.1 r.2.2))
def zhe (x:Option ((Nat×Int×Bool))):LO:=(.one (.exit 0) (za4 a0 g1 g2 g3 g4 g5 a6 a7 a8 a9 c10 a11 a12 (x.getD default).1 (x.getD default).2.1 (x.getD default).2.2))
def ztp:Bool×LO:=sL (zhe a0 g3 g4 g5 g6 g7 a8 a9 a10 a11 c12 a13 a14) (z0f a0 g6 g7 a11 big a1 c2)
def zio:Nat→St→Option (Bool×LO):=lpT 5 (pSt [(x1V 1 4 1),(x1P 2 5 7),(x1F 5),(x1I 6)] [x1L,x1L,x1L,x1L,x1L,(x1R true 0 1 2 3)]) (fun hs=>ztp (hN hs 0) (hN hs 1) (hI hs 2) (hLn hs 3) (hLn hs 4) (hLn hs 5) (hLn hs 6) (hLn hs 7) (hN hs 8) (hN hs 9) (hN hs 10) (hN hs 11) (hI hs 12) (hN hs 13) (hN hs 14))
theorem zw3:∀ x:Option ((Nat×Int×Bool)),x.isSome=true→(zav a0 g1 g2 g3 g4 g5 a6 a7 a8 a9 c10 a11 a12) x=some (pick (zhe a0 g1 g2 g3 g4 g5 a6 a7 a8 a9 c10 a11 a12 x))
 | none,h=>by cases h
 | some r,_=>rfl
theorem zwd (K:Ex→St→Option (Ex×St)):ev9 Γ1 60 3 5 fi60 (z7h a0 a1 c2 g3 g4 g5 g6 g7 a8 a9 a10 a11 c12 a13 a14) K=z1f a0 g6 g7 a11 a1 c2 (fun all' i'=>K .normal (z7h a0 all' i' g3 g4 g5 g6 g7 a8 a9 a10 a11 c12 a13 a14)) (fun c0_ c1_ c2_=>K (.exit 0) (za4 a0 g3 g4 g5 g6 g7 a8 a9 a10 a11 c12 a13 a14 c0_ c1_ c2_)):=by kernel_rfl
theorem zvw:∀ (n all:Nat) (i:Int),iter 60 3 5 (ev9 Γ1 60 3 5 fi60) n (z7h a0 all i g1 g2 g3 g4 g5 a6 a7 a8 a9 c10 a11 a12) (fun e st=>some (e,st))=(zav a0 g1 g2 g3 g4 g5 a6 a7 a8 a9 c10 a11 a12) (z0f a0 g4 g5 a9 n all i):=by
 intro n
 induction n with
 | zero=>intros;rfl
 | succ n ih=>
  intro all i
  refine Eq.trans (iter_succ ..) (Eq.trans (zwd ..) (Eq.trans ?_ (zqx a0 g4 g5 a9 all i (zav a0 g1 g2 g3 g4 g5 a6 a7 a8 a9 c10 a11 a12) rfl (fun all' i'=>z0f a0 g4 g5 a9 n all' i') (fun c0_ c1_ c2_=>some (c0_,c1_,c2_)))))
  exact congrArg (fun kn_=>z1f a0 g4 g5 a9 all i kn_ _) (funext fun all'=>funext fun i'=>ih ..)
theorem zrb:LoopOne J fnTab 60 3 zio:=lpK z5v z5z (fi:=fi60) (by kernel_rfl) (by kernel_rfl) (q:=fun hs=>(z7h (hN hs 0) (hN hs 1) (hI hs 2) (hLn hs 3) (hLn hs 4) (hLn hs 5) (hLn hs 6) (hLn hs 7) (hN hs 8) (hN hs 9) (hN hs 10) (hN hs 11) (hI hs 12) (hN hs 13) (hN hs 14))) (fun hs=>by kernel_rfl) fun hs h1=>Eq.trans (zvw (hN hs 0) (hLn hs 3) (hLn hs 4) (hLn hs 5) (hLn hs 6) (hLn hs 7) (hN hs 8) (hN hs 9) (hN hs 10) (hN hs 11) (hI hs 12) (hN hs 13) (hN hs 14) big (hN hs 1) (hI hs 2)) (zw3 (hN hs 0) (hLn hs 3) (hLn hs 4) (hLn hs 5) (hLn hs 6) (hLn hs 7) (hN hs 8) (hN hs 9) (hN hs 10) (hN hs 11) (hI hs 12) (hN hs 13) (hN hs 14) _ h1)
def zfh:St:=(.mk [(x0P 0 4 7),(x0V 1 5 a0 1),(x0F 5 a1),(x0I 6 c2)] [(x0L g3),(x0L g4),(x0L g5),(x0L g6),(x0R false 0 1 2 3 a7 a8 a9 a10 c11 a12 a13),(x0L g14)])
def ziz:St:=(.mk [(x0P 0 4 7),(x0V 1 5 a0 1),(x0F 5 a13),(x0I 6 c14),(x0B 12 e15)] [(x0L g1),(x0L g2),(x0L g3),(x0L g4),(x0R false 0 1 2 3 a5 a6 a7 a8 c9 a10 a11),(x0L g12)])
def zlp:Option ((Nat×Int×Bool))→Option (Ex×St)
 | none=>none
 | some r=>some ((.exit 0),(ziz a0 g1 g2 g3 g4 a5 a6 a7 a8 c9 a10 a11 g12 r.1 r.2.1 r.2.2))
def zsu (x:Option ((Nat×Int×Bool))):LO:=(.one (.exit 0) (ziz a0 g1 g2 g3 g4 a5 a6 a7 a8 c9 a10 a11 g12 (x.getD default).1 (x.getD default).2.1 (x.getD default).2.2))
def y60:Bool×LO:=sL (zsu a0 g3 g4 g5 g6 a7 a8 a9 a10 c11 a12 a13 g14) (z13 a0 g6 a10 g14 big a1 c2)
def ztt:Nat→St→Option (Bool×LO):=lpT 6 (pSt [(x1P 0 4 7),(x1V 1 5 1),(x1F 5),(x1I 6)] [x1L,x1L,x1L,x1L,(x1R false 0 1 2 3),x1L]) (fun hs=>y60 (hN hs 0) (hN hs 1) (hI hs 2) (hLn hs 3) (hLn hs 4) (hLn hs 5) (hLn hs 6) (hN hs 7) (hN hs 8) (hN hs 9) (hN hs 10) (hI hs 11) (hN hs 12) (hN hs 13) (hLn hs 14))
theorem y9p:∀ x:Option ((Nat×Int×Bool)),x.isSome=true→(zlp a0 g1 g2 g3 g4 a5 a6 a7 a8 c9 a10 a11 g12) x=some (pick (zsu a0 g1 g2 g3 g4 a5 a6 a7 a8 c9 a10 a11 g12 x))
 | none,h=>by cases h
 | some r,_=>rfl
theorem yam (K:Ex→St→Option (Ex×St)):ev9 Γ1 73 3 6 fi73 (zfh a0 a1 c2 g3 g4 g5 g6 a7 a8 a9 a10 c11 a12 a13 g14) K=z3y a0 g6 a10 g14 a1 c2 (fun sum' i'=>K .normal (zfh a0 sum' i' g3 g4 g5 g6 a7 a8 a9 a10 c11 a12 a13 g14)) (fun c0_ c1_ c2_=>K (.exit 0) (ziz a0 g3 g4 g5 g6 a7 a8 a9 a10 c11 a12 a13 g14 c0_ c1_ c2_)):=by kernel_rfl
theorem y9k:∀ (n sum:Nat) (i:Int),iter 73 3 6 (ev9 Γ1 73 3 6 fi73) n (zfh a0 sum i g1 g2 g3 g4 a5 a6 a7 a8 c9 a10 a11 g12) (fun e st=>some (e,st))=(zlp a0 g1 g2 g3 g4 a5 a6 a7 a8 c9 a10 a11 g12) (z13 a0 g4 a8 g12 n sum i):=by
 intro n
 induction n with
 | zero=>intros;rfl
 | succ n ih=>
  intro sum i
  refine Eq.trans (iter_succ ..) (Eq.trans (yam ..) (Eq.trans ?_ (y11 a0 g4 a8 g12 sum i (zlp a0 g1 g2 g3 g4 a5 a6 a7 a8 c9 a10 a11 g12) rfl (fun sum' i'=>z13 a0 g4 a8 g12 n sum' i') (fun c0_ c1_ c2_=>some (c0_,c1_,c2_)))))
  exact congrArg (fun kn_=>z3y a0 g4 a8 g12 sum i kn_ _) (funext fun sum'=>funext fun i'=>ih ..)
theorem y3g:LoopOne J fnTab 73 3 ztt:=lpK z5v z5z (fi:=fi73) (by kernel_rfl) (by kernel_rfl) (q:=fun hs=>(zfh (hN hs 0) (hN hs 1) (hI hs 2) (hLn hs 3) (hLn hs 4) (hLn hs 5) (hLn hs 6) (hN hs 7) (hN hs 8) (hN hs 9) (hN hs 10) (hI hs 11) (hN hs 12) (hN hs 13) (hLn hs 14))) (fun hs=>by kernel_rfl) fun hs h1=>Eq.trans (y9k (hN hs 0) (hLn hs 3) (hLn hs 4) (hLn hs 5) (hLn hs 6) (hN hs 7) (hN hs 8) (hN hs 9) (hN hs 10) (hI hs 11) (hN hs 12) (hN hs 13) (hLn hs 14) big (hN hs 1) (hI hs 2)) (y9p (hN hs 0) (hLn hs 3) (hLn hs 4) (hLn hs 5) (hLn hs 6) (hN hs 7) (hN hs 8) (hN hs 9) (hN hs 10) (hI hs 11) (hN hs 12) (hN hs 13) (hLn hs 14) _ h1)
def zcy:St:=(.mk [(x0V 0 0 a0 1),(x0I 4 c1),(x0I 7 c2),(x0I 8 c3)] [(x0L g4)])
def zho:St:=(.mk [(x0V 0 0 a0 1),(x0I 4 c3),(x0I 7 c1),(x0I 8 c4),(x0B 9 e5)] [(x0L g2)])
def zj3:Option ((Int×Int×Bool))→Option (Ex×St)
 | none=>none
 | some r=>some ((.exit 0),(zho a0 c1 g2 r.1 r.2.1 r.2.2))
def zqt (x:Option ((Int×Int×Bool))):LO:=(.one (.exit 0) (zho a0 c1 g2 (x.getD default).1 (x.getD default).2.1 (x.getD default).2.2))
def y31:Bool×LO:=sL (zqt a0 c2 g4) (z0u a0 c2 g4 big c1 c3)
def zsl:Nat→St→Option (Bool×LO):=lpT 1 (pSt [(x1V 0 0 1),(x1I 4),(x1I 7),(x1I 8)] [x1L]) (fun hs=>y31 (hN hs 0) (hI hs 1) (hI hs 2) (hI hs 3) (hLn hs 4))
theorem y8j:∀ x:Option ((Int×Int×Bool)),x.isSome=true→(zj3 a0 c1 g2) x=some (pick (zqt a0 c1 g2 x))
 | none,h=>by cases h
 | some r,_=>rfl
theorem y8f (K:Ex→St→Option (Ex×St)):ev9 Γ1 81 3 1 fi81 (zcy a0 c1 c2 c3 g4) K=z37 a0 c2 g4 c1 c3 (fun q2b' t8'=>K .normal (zcy a0 q2b' c2 t8' g4)) (fun c0_ c1_ c2_=>K (.exit 0) (zho a0 c2 g4 c0_ c1_ c2_)):=by kernel_rfl
theorem y8s:∀ (n:Nat) (q2b t8:Int),iter 81 3 1 (ev9 Γ1 81 3 1 fi81) n (zcy a0 q2b c1 t8 g2) (fun e st=>some (e,st))=(zj3 a0 c1 g2) (z0u a0 c1 g2 n q2b t8):=by
 intro n
 induction n with
 | zero=>intros;rfl
 | succ n ih=>
  intro q2b t8
  refine Eq.trans (iter_succ ..) (Eq.trans (y8f ..) (Eq.trans ?_ (zyg a0 c1 g2 q2b t8 (zj3 a0 c1 g2) rfl (fun q2b' t8'=>z0u a0 c1 g2 n q2b' t8') (fun c0_ c1_ c2_=>some (c0_,c1_,c2_)))))
  exact congrArg (fun kn_=>z37 a0 c1 g2 q2b t8 kn_ _) (funext fun q2b'=>funext fun t8'=>ih ..)
theorem y1d:LoopOne J fnTab 81 3 zsl:=lpK z5v z5z (fi:=fi81) (by kernel_rfl) (by kernel_rfl) (q:=fun hs=>(zcy (hN hs 0) (hI hs 1) (hI hs 2) (hI hs 3) (hLn hs 4))) (fun hs=>by kernel_rfl) fun hs h1=>Eq.trans (y8s (hN hs 0) (hI hs 2) (hLn hs 4) big (hI hs 1) (hI hs 3)) (y8j (hN hs 0) (hI hs 2) (hLn hs 4) _ h1)
def z54:St:=(.mk [(x0V 0 0 a0 1),(x0B 1 e1),(x0I 7 c2),(x0I 8 c3)] [(.mk false (.bl m4))])
def z7d(sn:Nat)(v:Bool)(t7:Int)(b0:List Bool)(c0_:Int):St:=(.mk [(x0I 4 c0_)] [(.mk false (.bl b0))])
def z7c:St:=(.mk [(x0V 0 0 a0 1),(x0B 1 e1),(x0I 7 c2),(x0I 8 c4),(x0B 9 e5)] [(.mk false (.bl m3))])
def z7p:Option ((Int)⊕(Int×Bool))→Option (Ex×St)
 | none=>none
 | some (Sum.inl r)=>some (.ret,(z7d a0 e1 c2 m3 r))
 | some (Sum.inr r)=>some ((.exit 0),(z7c a0 e1 c2 m3 r.1 r.2))
def zcn (x:Option ((Int)⊕(Int×Bool))):LO:=(.two (oL x) (.one .ret (z7d a0 e1 c2 m3 ((tL x).getD default))) (.one (.exit 0) (z7c a0 e1 c2 m3 ((tR x).getD default).1 ((tR x).getD default).2)))
def zo3:Bool×LO:=sL (zcn a0 e1 c2 m4) (z05 a0 e1 c2 m4 big c3)
def zds:Nat→St→Option (Bool×LO):=lpT 1 (pSt [(x1V 0 0 1),(x1B 1),(x1I 7),(x1I 8)] [(pBlk false pBl)]) (fun hs=>zo3 (hN hs 0) (hB hs 1) (hI hs 2) (hI hs 3) (hLb hs 4))
theorem zpv:∀ x:Option ((Int)⊕(Int×Bool)),x.isSome=true→(z7p a0 e1 c2 m3) x=some (pick (zcn a0 e1 c2 m3 x))
 | none,h=>by cases h
 | some (Sum.inl r),_=>rfl
 | some (Sum.inr r),_=>rfl
theorem zqg (K:Ex→St→Option (Ex×St)):ev9 Γ1 113 2 1 fi113 (z54 a0 e1 c2 c3 m4) K=z0z a0 e1 c2 m4 c3 (fun t8'=>K .normal (z54 a0 e1 c2 t8' m4)) (fun c0_=>K .ret (z7d a0 e1 c2 m4 c0_)) (fun c0_ c1_=>K (.exit 0) (z7c a0 e1 c2 m4 c0_ c1_)):=by kernel_rfl
theorem zqf:∀ (n:Nat) (t8:Int),iter 113 2 1 (ev9 Γ1 113 2 1 fi113) n (z54 a0 e1 c2 t8 m3) (fun e st=>some (e,st))=(z7p a0 e1 c2 m3) (z05 a0 e1 c2 m3 n t8):=by
 intro n
 induction n with
 | zero=>intros;rfl
 | succ n ih=>
  intro t8
  refine Eq.trans (iter_succ ..) (Eq.trans (zqg ..) (Eq.trans ?_ (zlq a0 e1 c2 m3 t8 (z7p a0 e1 c2 m3) rfl (fun t8'=>z05 a0 e1 c2 m3 n t8') (fun c0_=>some (Sum.inl c0_)) (fun c0_ c1_=>some (Sum.inr (c0_,c1_))))))
  exact congrArg (fun kn_=>z0z a0 e1 c2 m3 t8 kn_ _ _) (funext fun t8'=>ih ..)
theorem zml:LoopOne J fnTab 113 2 zds:=lpK z5v z5z (fi:=fi113) (by kernel_rfl) (by kernel_rfl) (q:=fun hs=>(z54 (hN hs 0) (hB hs 1) (hI hs 2) (hI hs 3) (hLb hs 4))) (fun hs=>by kernel_rfl) fun hs h1=>Eq.trans (zqf (hN hs 0) (hB hs 1) (hI hs 2) (hLb hs 4) big (hI hs 3)) (zpv (hN hs 0) (hB hs 1) (hI hs 2) (hLb hs 4) _ h1)
def tb2:List (Nat×(List PT→Option (Bool×AV×List Blk))):=(59,zpl)::(70,zl7)::(72,zkt)::(83,zom)::(90,zq3)::(115,zfd)::(119,zm2)::(121,zng)::(128,zo2)::(131,zrw)::(153,zi2)::(155,zcm)::(156,zrx)::(159,zs5)::tb1
def lt2:List ((Nat×Nat)×(Nat→St→Option (Bool×LO))):=((45,3),zo7)::((60,3),zio)::((73,3),ztt)::((81,3),zsl)::((113,2),zds)::lt1
def Γ2:Ctx:=⟨tyTab,fnTab,tblSum tb2,tblLp lt2⟩
theorem zdr:SumL J tb2:=SumL.cons y7o (SumL.cons y4b (SumL.cons y41 (SumL.cons y5s (SumL.cons y7b (SumL.cons zvz (SumL.cons y3t (SumL.cons y5o (SumL.cons y5f (SumL.cons yal (SumL.cons zzq (SumL.cons ztl (SumL.cons y9a (SumL.cons y92 (z5v))))))))))))))
theorem zdq:LpL J fnTab lt2:=LpL.cons zw1 (LpL.cons zrb (LpL.cons y3g (LpL.cons y1d (LpL.cons zml (z5z)))))
def zqc  : Option (Int)→Option (AV×List Blk)
 | some r=>some ((.v (.one (.int .i64 r))),[])
 | none=>none
def zq9:List PT→Option (Bool×AV×List Blk)
 | [.agg [.row 1 q0t (.fl .f32 q15),.row 1 q0v (.fl .f32 q17),.row 1 q0u (.fl .f32 q18),.row 3 q1h (.fl .f32 q1r),.s (.int .i64 q25),.s (.flt .f32 q2c),.s (.flt .f32 q2d)],.one (.s (.int .i64 q2j))]=>sF zqc (z7x q0t q15 q0v q17 q0u q18 q1h q1r q25 q2c q2d q2j)
 | _=>none
theorem yd4:ev8 Γ2 32 [.agg [.row 1 a0 (.fl .f32 g1),.row 1 a2 (.fl .f32 g3),.row 1 a4 (.fl .f32 g5),.row 3 a6 (.fl .f32 g7),.s (.int .i64 c8),.s (.flt .f32 a9),.s (.flt .f32 a10)],.one (.s (.int .i64 c11))]=zqc (z7x a0 g1 a2 g3 a4 g5 a6 g7 c8 a9 a10 c11):=tr2 (y64 a0 g1 a2 g3 a4 g5 a6 g7 c8 a9 a10 c11 zqc rfl (fun c0_=>some c0_)) (by kernel_rfl)
theorem y7m:SumOne J 32 zq9:=mkT zdr zdq fun pts v news hp=>by
 unfold zq9 at hp
 split at hp
 ·exact fin3 (yd4 ..) hp
 ·cases hp
def zj0  : Option (Nat×(List Nat))→Option (AV×List Blk)
 | some r=>some ((.v (.one (.sl 0 0 r.1 1))),[(.mk true (.fl .f32 r.2))])
 | none=>none
def zj1:List PT→Option (Bool×AV×List Blk)
 | [.one (.row 1 a_n (.fl .f32 a))]=>sF zj0 (z4a a_n a)
 | _=>none
theorem y79:ev8 Γ2 45 [.one (.row 1 a0 (.fl .f32 g1))]=zj0 (z4a a0 g1):=tr2 (zzp a0 g1 zj0 rfl (fun c0_ c1_=>some (c0_,c1_))) (by kernel_rfl)
theorem y25:SumOne J 45 zj1:=mkT zdr zdq fun pts v news hp=>by
 unfold zj1 at hp
 split at hp
 ·exact fin3 (y79 ..) hp
 ·cases hp
def zf2  : Option (Nat)→Option (AV×List Blk)
 | some r=>some ((.v (.one (.flt .f32 r))),[])
 | none=>none
def zfg:List PT→Option (Bool×AV×List Blk)
 | [.agg [.row 1 q00 (.fl .f32 q03),.row 1 q02 (.fl .f32 q05),.row 1 q01 (.fl .f32 q04),.row 3 q06 (.fl .f32 q0b),.s (.int .i64 q0g),.s (.flt .f32 q0n),.s (.flt .f32 q0m)],.one (.row 1 q1i (.fl .f32 q1y))]=>sF zf2 (z41 q00 q03 q02 q05 q01 q04 q06 q0b q0g q0n q0m q1i q1y)
 | _=>none
theorem y0x:ev8 Γ2 60 [.agg [.row 1 a0 (.fl .f32 g1),.row 1 a2 (.fl .f32 g3),.row 1 a4 (.fl .f32 g5),.row 3 a6 (.fl .f32 g7),.s (.int .i64 c8),.s (.flt .f32 a9),.s (.flt .f32 a10)],.one (.row 1 a11 (.fl .f32 g12))]=zf2 (z41 a0 g1 a2 g3 a4 g5 a6 g7 c8 a9 a10 a11 g12):=tr2 (zv2 a0 g1 a2 g3 a4 g5 a6 g7 c8 a9 a10 a11 g12 zf2 rfl (fun c0_=>some c0_)) (by kernel_rfl)
theorem zwa:SumOne J 60 zfg:=mkT zdr zdq fun pts v news hp=>by
 unfold zfg at hp
 split at hp
 ·exact fin3 (y0x ..) hp
 ·cases hp
def zrv  : Option (Nat)→Option (AV×List Blk)
 | some r=>some ((.v (.one (.flt .f32 r))),[])
 | none=>none
def zrg:List PT→Option (Bool×AV×List Blk)
 | [.ptr [.row 1 q00 (.fl .f32 q03),.row 1 q02 (.fl .f32 q05),.row 1 q01 (.fl .f32 q04),.row 3 q06 (.fl .f32 q0b),.s (.int .i64 q0g),.s (.flt .f32 q0n),.s (.flt .f32 q0m)],.one (.row 1 q1i (.fl .f32 q1y))]=>sF zrv (z95 q00 q03 q02 q05 q01 q04 q06 q0b q0g q0n q0m q1i q1y)
 | _=>none
theorem ye4:ev8 Γ2 73 [.ptr [.row 1 a0 (.fl .f32 g1),.row 1 a2 (.fl .f32 g3),.row 1 a4 (.fl .f32 g5),.row 3 a6 (.fl .f32 g7),.s (.int .i64 c8),.s (.flt .f32 a9),.s (.flt .f32 a10)],.one (.row 1 a11 (.fl .f32 g12))]=zrv (z95 a0 g1 a2 g3 a4 g5 a6 g7 c8 a9 a10 a11 g12):=tr2 (y6z a0 g1 a2 g3 a4 g5 a6 g7 c8 a9 a10 a11 g12 zrv rfl (fun c0_=>some c0_)) (by kernel_rfl)
theorem y93:SumOne J 73 zrg:=mkT zdr zdq fun pts v news hp=>by
 unfold zrg at hp
 split at hp
 ·exact fin3 (ye4 ..) hp
 ·cases hp
def zqe  : Option (Int×Nat)→Option (AV×List Blk)
 | some r=>some ((.tup [(.one (.int .i64 r.1)),(.one (.flt .f32 r.2))]),[])
 | none=>none
def zpq:List PT→Option (Bool×AV×List Blk)
 | [.one (.row 1 q1i (.fl .f32 q1y))]=>sF zqe (z6h q1i q1y)
 | _=>none
theorem ycs:ev8 Γ2 81 [.one (.row 1 a0 (.fl .f32 g1))]=zqe (z6h a0 g1):=tr2 (y6g a0 g1 zqe rfl (fun c0_ c1_=>some (c0_,c1_))) (by kernel_rfl)
theorem y8p:SumOne J 81 zpq:=mkT zdr zdq fun pts v news hp=>by
 unfold zpq at hp
 split at hp
 ·exact fin3 (ycs ..) hp
 ·cases hp
def z9h  : Option (Int)→Option (AV×List Blk)
 | some r=>some ((.v (.one (.int .i64 r))),[])
 | none=>none
def z9e:List PT→Option (Bool×AV×List Blk)
 | [.one (.row 1 s_n (.bl s)),.one (.s (.bool v))]=>sF z9h (z23 s_n s v)
 | _=>none
theorem ztj:ev8 Γ2 113 [.one (.row 1 a0 (.bl m1)),.one (.s (.bool e2))]=z9h (z23 a0 m1 e2):=tr2 (zos a0 m1 e2 z9h rfl (fun c0_=>some c0_)) (by kernel_rfl)
theorem zpk:SumOne J 113 z9e:=mkT zdr zdq fun pts v news hp=>by
 unfold z9e at hp
 split at hp
 ·exact fin3 (ztj ..) hp
 ·cases hp
def zj2  : Option (Bool)→Option (AV×List Blk)
 | some r=>some ((.v (.one (.bool r))),[])
 | none=>none
def ziu:List PT→Option (Bool×AV×List Blk)
 | [.one (.s (.flt .f32 x))]=>sF zj2 (z5c x)
 | _=>none
theorem y7w:ev8 Γ2 154 [.one (.s (.flt .f32 a0))]=zj2 (z5c a0):=tr2 (y0c a0 zj2 rfl (fun c0_=>some c0_)) (by kernel_rfl)
theorem y1p:SumOne J 154 ziu:=mkT zdr zdq fun pts v news hp=>by
 unfold ziu at hp
 split at hp
 ·exact fin3 (y7w ..) hp
 ·cases hp
def zuv  : Option (Nat)→Option (AV×List Blk)
 | some r=>some ((.v (.one (.flt .f64 r))),[])
 | none=>none
def zvm:List PT→Option (Bool×AV×List Blk)
 | [.one (.s (.flt .f64 x))]=>sF zuv (za7 x)
 | _=>none
theorem yef:ev8 Γ2 174 [.one (.s (.flt .f64 a0))]=zuv (za7 a0):=tr2 (y9g a0 zuv rfl (fun c0_=>some c0_)) (by kernel_rfl)
theorem ybr:SumOne J 174 zvm:=mkT zdr zdq fun pts v news hp=>by
 unfold zvm at hp
 split at hp
 ·exact fin3 (yef ..) hp
 ·cases hp
def z9i:St:=(.mk [(x0V 0 0 a0 1),(x0V 1 1 a1 1),(x0I 5 c2)] [(x0L g3),(x0L g4)])
def zdt(an bn:Nat)(b0 b1:List Nat):St:=(.mk [(x0B 4 false)] [(x0L b0),(x0L b1)])
def ze9:St:=(.mk [(x0V 0 0 a0 1),(x0V 1 1 a1 1),(x0I 5 c4),(x0B 14 e5)] [(x0L g2),(x0L g3)])
def zft:Option ((Unit)⊕(Int×Bool))→Option (Ex×St)
 | none=>none
 | some (Sum.inl r)=>some (.ret,(zdt a0 a1 g2 g3))
 | some (Sum.inr r)=>some ((.exit 0),(ze9 a0 a1 g2 g3 r.1 r.2))
def zme (x:Option ((Unit)⊕(Int×Bool))):LO:=(.two (oL x) (.one .ret (zdt a0 a1 g2 g3)) (.one (.exit 0) (ze9 a0 a1 g2 g3 ((tR x).getD default).1 ((tR x).getD default).2)))
def zxl:Bool×LO:=sL (zme a0 a1 g3 g4) (z17 a0 a1 g3 g4 big c2)
def zn7:Nat→St→Option (Bool×LO):=lpT 2 (pSt [(x1V 0 0 1),(x1V 1 1 1),(x1I 5)] [x1L,x1L]) (fun hs=>zxl (hN hs 0) (hN hs 1) (hI hs 2) (hLn hs 3) (hLn hs 4))
theorem y1e:∀ x:Option ((Unit)⊕(Int×Bool)),x.isSome=true→(zft a0 a1 g2 g3) x=some (pick (zme a0 a1 g2 g3 x))
 | none,h=>by cases h
 | some (Sum.inl r),_=>rfl
 | some (Sum.inr r),_=>rfl
theorem y1z (K:Ex→St→Option (Ex×St)):ev9 Γ2 37 4 2 fi37 (z9i a0 a1 c2 g3 g4) K=z26 a0 a1 g3 g4 c2 (fun i'=>K .normal (z9i a0 a1 i' g3 g4)) (fun _=>K .ret (zdt a0 a1 g3 g4)) (fun c0_ c1_=>K (.exit 0) (ze9 a0 a1 g3 g4 c0_ c1_)):=by kernel_rfl
theorem y0o:∀ (n:Nat) (i:Int),iter 37 4 2 (ev9 Γ2 37 4 2 fi37) n (z9i a0 a1 i g2 g3) (fun e st=>some (e,st))=(zft a0 a1 g2 g3) (z17 a0 a1 g2 g3 n i):=by
 intro n
 induction n with
 | zero=>intros;rfl
 | succ n ih=>
  intro i
  refine Eq.trans (iter_succ ..) (Eq.trans (y1z ..) (Eq.trans ?_ (zuh a0 a1 g2 g3 i (zft a0 a1 g2 g3) rfl (fun i'=>z17 a0 a1 g2 g3 n i') (fun _=>some (Sum.inl ())) (fun c0_ c1_=>some (Sum.inr (c0_,c1_))))))
  exact congrArg (fun kn_=>z26 a0 a1 g2 g3 i kn_ _ _) (funext fun i'=>ih ..)
theorem zvu:LoopOne J fnTab 37 4 zn7:=lpK zdr zdq (fi:=fi37) (by kernel_rfl) (by kernel_rfl) (q:=fun hs=>(z9i (hN hs 0) (hN hs 1) (hI hs 2) (hLn hs 3) (hLn hs 4))) (fun hs=>by kernel_rfl) fun hs h1=>Eq.trans (y0o (hN hs 0) (hN hs 1) (hLn hs 3) (hLn hs 4) big (hI hs 2)) (y1e (hN hs 0) (hN hs 1) (hLn hs 3) (hLn hs 4) _ h1)
def z9k:St:=(.mk [(x0V 0 0 a0 3),(x0S 3 1 a1 3),(x0I 4 c2)] [(x0L g3),(x0T g4)])
def zdi:St:=(.mk [(x0V 0 0 a0 3),(x0S 3 1 a1 3),(x0I 4 c3),(x0B 11 e4)] [(x0L g2),(x0T g5)])
def zfy:Option ((Int×Bool×(List Nat)))→Option (Ex×St)
 | none=>none
 | some r=>some ((.exit 0),(zdi a0 a1 g2 r.1 r.2.1 r.2.2))
def zmg (x:Option ((Int×Bool×(List Nat)))):LO:=(.one (.exit 0) (zdi a0 a1 g2 (x.getD default).1 (x.getD default).2.1 (x.getD default).2.2))
def zy7:Bool×LO:=sL (zmg a0 a1 g3) (z0p a0 a1 g3 big c2 g4)
def zn6:Nat→St→Option (Bool×LO):=lpT 1 (pSt [(x1V 0 0 3),(x1S 3 1 3),(x1I 4)] [x1L,x1T]) (fun hs=>zy7 (hN hs 0) (hN hs 1) (hI hs 2) (hLn hs 3) (hLn hs 4))
theorem y1u:∀ x:Option ((Int×Bool×(List Nat))),x.isSome=true→(zfy a0 a1 g2) x=some (pick (zmg a0 a1 g2 x))
 | none,h=>by cases h
 | some r,_=>rfl
theorem y27 (K:Ex→St→Option (Ex×St)):ev9 Γ2 75 3 1 fi75 (z9k a0 a1 c2 g3 g4) K=z27 a0 a1 g3 c2 g4 (fun i' b1'=>K .normal (z9k a0 a1 i' g3 b1')) (fun c0_ c1_ c2_=>K (.exit 0) (zdi a0 a1 g3 c0_ c1_ c2_)):=by kernel_rfl
theorem y1c:∀ (n:Nat) (i:Int) (b1:List Nat),iter 75 3 1 (ev9 Γ2 75 3 1 fi75) n (z9k a0 a1 i g2 b1) (fun e st=>some (e,st))=(zfy a0 a1 g2) (z0p a0 a1 g2 n i b1):=by
 intro n
 induction n with
 | zero=>intros;rfl
 | succ n ih=>
  intro i b1
  refine Eq.trans (iter_succ ..) (Eq.trans (y27 ..) (Eq.trans ?_ (zv0 a0 a1 g2 i b1 (zfy a0 a1 g2) rfl (fun i' b1'=>z0p a0 a1 g2 n i' b1') (fun c0_ c1_ c2_=>some (c0_,c1_,c2_)))))
  exact congrArg (fun kn_=>z27 a0 a1 g2 i b1 kn_ _) (funext fun i'=>funext fun b1'=>ih ..)
theorem zwe:LoopOne J fnTab 75 3 zn6:=lpK zdr zdq (fi:=fi75) (by kernel_rfl) (by kernel_rfl) (q:=fun hs=>(z9k (hN hs 0) (hN hs 1) (hI hs 2) (hLn hs 3) (hLn hs 4))) (fun hs=>by kernel_rfl) fun hs h1=>Eq.trans (y1c (hN hs 0) (hN hs 1) (hLn hs 3) big (hI hs 2) (hLn hs 4)) (y1u (hN hs 0) (hN hs 1) (hLn hs 3) _ h1)
def z89:St:=(.mk [(x0B 4 e0),(5,(.v (.one (.flt .f64 a1)))),(6,(.v (.one (.flt .f64 a2)))),(7,(.v (.one (.flt .f64 a3)))),(x0I 8 c4)] [])
def zb4:St:=(.mk [(x0B 4 e0),(5,(.v (.one (.flt .f64 a1)))),(6,(.v (.one (.flt .f64 a2)))),(7,(.v (.one (.flt .f64 a3)))),(x0I 8 c4),(x0B 44 e5)] [])
def zcl:Option ((Nat×Int×Bool))→Option (Ex×St)
 | none=>none
 | some r=>some ((.exit 0),(zb4 e0 a1 a2 r.1 r.2.1 r.2.2))
def zip (x:Option ((Nat×Int×Bool))):LO:=(.one (.exit 0) (zb4 e0 a1 a2 (x.getD default).1 (x.getD default).2.1 (x.getD default).2.2))
def zvj:Bool×LO:=sL (zip e0 a1 a2) (z0l a2 big a3 c4)
def zk0:Nat→St→Option (Bool×LO):=lpT 0 (pSt [(x1B 4),(pTm 5 (pV (pOne (pFlt .f64)))),(pTm 6 (pV (pOne (pFlt .f64)))),(pTm 7 (pV (pOne (pFlt .f64)))),(x1I 8)] []) (fun hs=>zvj (hB hs 0) (hN hs 1) (hN hs 2) (hN hs 3) (hI hs 4))
theorem zxe:∀ x:Option ((Nat×Int×Bool)),x.isSome=true→(zcl e0 a1 a2) x=some (pick (zip e0 a1 a2 x))
 | none,h=>by cases h
 | some r,_=>rfl
theorem zxq (K:Ex→St→Option (Ex×St)):ev9 Γ2 164 17 0 fi164 (z89 e0 a1 a2 a3 c4) K=z1q a2 a3 c4 (fun t7' t8'=>K .normal (z89 e0 a1 a2 t7' t8')) (fun c0_ c1_ c2_=>K (.exit 0) (zb4 e0 a1 a2 c0_ c1_ c2_)):=by kernel_rfl
theorem zxn:∀ (n t7:Nat) (t8:Int),iter 164 17 0 (ev9 Γ2 164 17 0 fi164) n (z89 e0 a1 a2 t7 t8) (fun e st=>some (e,st))=(zcl e0 a1 a2) (z0l a2 n t7 t8):=by
 intro n
 induction n with
 | zero=>intros;rfl
 | succ n ih=>
  intro t7 t8
  refine Eq.trans (iter_succ ..) (Eq.trans (zxq ..) (Eq.trans ?_ (zro a2 t7 t8 (zcl e0 a1 a2) rfl (fun t7' t8'=>z0l a2 n t7' t8') (fun c0_ c1_ c2_=>some (c0_,c1_,c2_)))))
  exact congrArg (fun kn_=>z1q a2 t7 t8 kn_ _) (funext fun t7'=>funext fun t8'=>ih ..)
theorem zto:LoopOne J fnTab 164 17 zk0:=lpK zdr zdq (fi:=fi164) (by kernel_rfl) (by kernel_rfl) (q:=fun hs=>(z89 (hB hs 0) (hN hs 1) (hN hs 2) (hN hs 3) (hI hs 4))) (fun hs=>by kernel_rfl) fun hs h1=>Eq.trans (zxn (hB hs 0) (hN hs 1) (hN hs 2) big (hN hs 3) (hI hs 4)) (zxe (hB hs 0) (hN hs 1) (hN hs 2) _ h1)
def tb3:List (Nat×(List PT→Option (Bool×AV×List Blk))):=(32,zq9)::(45,zj1)::(60,zfg)::(73,zrg)::(81,zpq)::(113,z9e)::(154,ziu)::(174,zvm)::tb2
def lt3:List ((Nat×Nat)×(Nat→St→Option (Bool×LO))):=((37,4),zn7)::((75,3),zn6)::((164,17),zk0)::lt2
def Γ3:Ctx:=⟨tyTab,fnTab,tblSum tb3,tblLp lt3⟩
theorem zg4:SumL J tb3:=SumL.cons y7m (SumL.cons y25 (SumL.cons zwa (SumL.cons y93 (SumL.cons y8p (SumL.cons zpk (SumL.cons y1p (SumL.cons ybr (zdr))))))))
theorem zga:LpL J fnTab lt3:=LpL.cons zvu (LpL.cons zwe (LpL.cons zto (zdq)))
def zjs  : Option (Bool)→Option (AV×List Blk)
 | some r=>some ((.v (.one (.bool r))),[])
 | none=>none
def zj9:List PT→Option (Bool×AV×List Blk)
 | [.one (.row 1 a_n (.fl .f32 a)),.one (.row 1 b_n (.fl .f32 b))]=>sF zjs (z5g a_n a b_n b)
 | _=>none
theorem y88:ev8 Γ3 37 [.one (.row 1 a0 (.fl .f32 g1)),.one (.row 1 a2 (.fl .f32 g3))]=zjs (z5g a0 g1 a2 g3):=tr2 (y06 a0 g1 a2 g3 zjs rfl (fun c0_=>some c0_)) (by kernel_rfl)
theorem y2e:SumOne J 37 zj9:=mkT zg4 zga fun pts v news hp=>by
 unfold zj9 at hp
 split at hp
 ·exact fin3 (y88 ..) hp
 ·cases hp
def z7o  : Option (Bool)→Option (AV×List Blk)
 | some r=>some ((.v (.one (.bool r))),[])
 | none=>none
def z84:List PT→Option (Bool×AV×List Blk)
 | [.one (.row 1 s_n (.bl s)),.one (.s (.bool v))]=>sF z7o (z1i s_n s v)
 | _=>none
theorem zpy:ev8 Γ3 58 [.one (.row 1 a0 (.bl m1)),.one (.s (.bool e2))]=z7o (z1i a0 m1 e2):=tr2 (zlh a0 m1 e2 z7o rfl (fun c0_=>some c0_)) (by kernel_rfl)
theorem zmm:SumOne J 58 z84:=mkT zg4 zga fun pts v news hp=>by
 unfold z84 at hp
 split at hp
 ·exact fin3 (zpy ..) hp
 ·cases hp
def zkk  : Option (Nat×Nat×Nat×(List Nat)×(List Nat)×(List Nat))→Option (AV×List Blk)
 | some r=>some ((.v (.agg [(.sl 0 0 r.1 1),(.sl 1 0 r.2.1 1),(.sl 2 0 r.2.2.1 1)])),[(.mk true (.fl .f32 r.2.2.2.1)),(.mk true (.fl .f32 r.2.2.2.2.1)),(.mk true (.fl .f32 r.2.2.2.2.2))])
 | none=>none
def zkp:List PT→Option (Bool×AV×List Blk)
 | [.agg [.row 1 q1m (.fl .f32 q21),.row 1 q1s (.fl .f32 q26),.row 1 q1t (.fl .f32 q27)]]=>sF zkk (z1y q1m q21 q1s q26 q1t q27)
 | _=>none
theorem y8z:ev8 Γ3 74 [.agg [.row 1 a0 (.fl .f32 g1),.row 1 a2 (.fl .f32 g3),.row 1 a4 (.fl .f32 g5)]]=zkk (z1y a0 g1 a2 g3 a4 g5):=tr2 (y29 a0 g1 a2 g3 a4 g5 zkk rfl (fun c0_ c1_ c2_ c3_ c4_ c5_=>some (c0_,c1_,c2_,c3_,c4_,c5_))) (by kernel_rfl)
theorem y4t:SumOne J 74 zkp:=mkT zg4 zga fun pts v news hp=>by
 unfold zkp at hp
 split at hp
 ·exact fin3 (y8z ..) hp
 ·cases hp
def ziv  : Option (Nat×(List Nat))→Option (AV×List Blk)
 | some r=>some ((.v (.one (.sl 0 0 r.1 3))),[(.mk true (.fl .f32 r.2))])
 | none=>none
def zjb:List PT→Option (Bool×AV×List Blk)
 | [.one (.row 3 a_n (.fl .f32 a))]=>sF ziv (z48 a_n a)
 | _=>none
theorem y8t:ev8 Γ3 75 [.one (.row 3 a0 (.fl .f32 g1))]=ziv (z48 a0 g1):=tr2 (y01 a0 g1 ziv rfl (fun c0_ c1_=>some (c0_,c1_))) (by kernel_rfl)
theorem y0j:SumOne J 75 zjb:=mkT zg4 zga fun pts v news hp=>by
 unfold zjb at hp
 split at hp
 ·exact fin3 (y8t ..) hp
 ·cases hp
def zhr  : Option (Nat)→Option (AV×List Blk)
 | some r=>some ((.v (.one (.flt .f64 r))),[])
 | none=>none
def zhh:List PT→Option (Bool×AV×List Blk)
 | [.one (.s (.flt .f64 q1f))]=>sF zhr (z29 q1f)
 | _=>none
theorem y6c:ev8 Γ3 164 [.one (.s (.flt .f64 a0))]=zhr (z29 a0):=tr2 (zy3 a0 zhr rfl (fun c0_=>some c0_)) (by kernel_rfl)
theorem y0a:SumOne J 164 zhh:=mkT zg4 zga fun pts v news hp=>by
 unfold zhh at hp
 split at hp
 ·exact fin3 (y6c ..) hp
 ·cases hp
def zjx  : Option (Nat)→Option (AV×List Blk)
 | some r=>some ((.v (.one (.flt .f64 r))),[])
 | none=>none
def zjn:List PT→Option (Bool×AV×List Blk)
 | [.one (.s (.flt .f64 q2k))]=>sF zjx (z5a q2k)
 | _=>none
theorem y6w:ev8 Γ3 169 [.one (.s (.flt .f64 a0))]=zjx (z5a a0):=tr2 (zz1 a0 zjx rfl (fun c0_=>some c0_)) (by kernel_rfl)
theorem y20:SumOne J 169 zjn:=mkT zg4 zga fun pts v news hp=>by
 unfold zjn at hp
 split at hp
 ·exact fin3 (y6w ..) hp
 ·cases hp
def z9t:St:=(.mk [(x0V 0 0 a0 3),(x0V 1 1 a1 3),(x0I 5 c2)] [(x0L g3),(x0L g4)])
def zdn(an bn:Nat)(b0 b1:List Nat):St:=(.mk [(x0B 4 false)] [(x0L b0),(x0L b1)])
def zdk:St:=(.mk [(x0V 0 0 a0 3),(x0V 1 1 a1 3),(x0I 5 c4),(x0B 14 e5)] [(x0L g2),(x0L g3)])
def zev:Option ((Unit)⊕(Int×Bool))→Option (Ex×St)
 | none=>none
 | some (Sum.inl r)=>some (.ret,(zdn a0 a1 g2 g3))
 | some (Sum.inr r)=>some ((.exit 0),(zdk a0 a1 g2 g3 r.1 r.2))
def zmf (x:Option ((Unit)⊕(Int×Bool))):LO:=(.two (oL x) (.one .ret (zdn a0 a1 g2 g3)) (.one (.exit 0) (zdk a0 a1 g2 g3 ((tR x).getD default).1 ((tR x).getD default).2)))
def zye:Bool×LO:=sL (zmf a0 a1 g3 g4) (z18 a0 a1 g3 g4 big c2)
def zn2:Nat→St→Option (Bool×LO):=lpT 2 (pSt [(x1V 0 0 3),(x1V 1 1 3),(x1I 5)] [x1L,x1L]) (fun hs=>zye (hN hs 0) (hN hs 1) (hI hs 2) (hLn hs 3) (hLn hs 4))
theorem y2a:∀ x:Option ((Unit)⊕(Int×Bool)),x.isSome=true→(zev a0 a1 g2 g3) x=some (pick (zmf a0 a1 g2 g3 x))
 | none,h=>by cases h
 | some (Sum.inl r),_=>rfl
 | some (Sum.inr r),_=>rfl
theorem y26 (K:Ex→St→Option (Ex×St)):ev9 Γ3 77 4 2 fi77 (z9t a0 a1 c2 g3 g4) K=z24 a0 a1 g3 g4 c2 (fun i'=>K .normal (z9t a0 a1 i' g3 g4)) (fun _=>K .ret (zdn a0 a1 g3 g4)) (fun c0_ c1_=>K (.exit 0) (zdk a0 a1 g3 g4 c0_ c1_)):=by kernel_rfl
theorem y1m:∀ (n:Nat) (i:Int),iter 77 4 2 (ev9 Γ3 77 4 2 fi77) n (z9t a0 a1 i g2 g3) (fun e st=>some (e,st))=(zev a0 a1 g2 g3) (z18 a0 a1 g2 g3 n i):=by
 intro n
 induction n with
 | zero=>intros;rfl
 | succ n ih=>
  intro i
  refine Eq.trans (iter_succ ..) (Eq.trans (y26 ..) (Eq.trans ?_ (zuz a0 a1 g2 g3 i (zev a0 a1 g2 g3) rfl (fun i'=>z18 a0 a1 g2 g3 n i') (fun _=>some (Sum.inl ())) (fun c0_ c1_=>some (Sum.inr (c0_,c1_))))))
  exact congrArg (fun kn_=>z24 a0 a1 g2 g3 i kn_ _ _) (funext fun i'=>ih ..)
theorem zw8:LoopOne J fnTab 77 4 zn2:=lpK zg4 zga (fi:=fi77) (by kernel_rfl) (by kernel_rfl) (q:=fun hs=>(z9t (hN hs 0) (hN hs 1) (hI hs 2) (hLn hs 3) (hLn hs 4))) (fun hs=>by kernel_rfl) fun hs h1=>Eq.trans (y1m (hN hs 0) (hN hs 1) (hLn hs 3) (hLn hs 4) big (hI hs 2)) (y2a (hN hs 0) (hN hs 1) (hLn hs 3) (hLn hs 4) _ h1)
def zgx:St:=(.mk [(x0P 0 3 3),(x0I 3 c0),(x0I 4 c1)] [(x0L g2),(x0L g3),(x0L g4),(.mk false (.cells [(.vw 0 0 a5 1),(.vw 1 0 a6 1),(.vw 2 0 a7 1)]))])
def zlo(t3:Int)(b0 b1 b2:List Nat)(q1l q20 q1z:Nat):St:=(.mk [(x0B 2 false)] [(x0L b0),(x0L b1),(x0L b2),(.mk false (.cells [(.vw 0 0 q1l 1),(.vw 1 0 q20 1),(.vw 2 0 q1z 1)]))])
def zl4:St:=(.mk [(x0P 0 3 3),(x0I 3 c0),(x0I 4 c7),(x0B 36 e8)] [(x0L g1),(x0L g2),(x0L g3),(.mk false (.cells [(.vw 0 0 a4 1),(.vw 1 0 a5 1),(.vw 2 0 a6 1)]))])
def zo8:Option ((Unit)⊕(Int×Bool))→Option (Ex×St)
 | none=>none
 | some (Sum.inl r)=>some (.ret,(zlo c0 g1 g2 g3 a4 a5 a6))
 | some (Sum.inr r)=>some ((.exit 0),(zl4 c0 g1 g2 g3 a4 a5 a6 r.1 r.2))
def ztz (x:Option ((Unit)⊕(Int×Bool))):LO:=(.two (oL x) (.one .ret (zlo c0 g1 g2 g3 a4 a5 a6)) (.one (.exit 0) (zl4 c0 g1 g2 g3 a4 a5 a6 ((tR x).getD default).1 ((tR x).getD default).2)))
def y8q:Bool×LO:=sL (ztz c0 g2 g3 g4 a5 a6 a7) (z1x c0 g2 g3 g4 a5 a6 a7 big c1)
def zwt:Nat→St→Option (Bool×LO):=lpT 4 (pSt [(x1P 0 3 3),(x1I 3),(x1I 4)] [x1L,x1L,x1L,(pBlk false (pCells [(pVw 0 (liN 0) 1),(pVw 1 (liN 0) 1),(pVw 2 (liN 0) 1)]))]) (fun hs=>y8q (hI hs 0) (hI hs 1) (hLn hs 2) (hLn hs 3) (hLn hs 4) (hN hs 5) (hN hs 6) (hN hs 7))
theorem yas:∀ x:Option ((Unit)⊕(Int×Bool)),x.isSome=true→(zo8 c0 g1 g2 g3 a4 a5 a6) x=some (pick (ztz c0 g1 g2 g3 a4 a5 a6 x))
 | none,h=>by cases h
 | some (Sum.inl r),_=>rfl
 | some (Sum.inr r),_=>rfl
theorem yav (K:Ex→St→Option (Ex×St)):ev9 Γ3 120 5 4 fi120 (zgx c0 c1 g2 g3 g4 a5 a6 a7) K=z4h c0 g2 g3 g4 a5 a6 a7 c1 (fun t4'=>K .normal (zgx c0 t4' g2 g3 g4 a5 a6 a7)) (fun _=>K .ret (zlo c0 g2 g3 g4 a5 a6 a7)) (fun c0_ c1_=>K (.exit 0) (zl4 c0 g2 g3 g4 a5 a6 a7 c0_ c1_)):=by kernel_rfl
theorem yay:∀ (n:Nat) (t4:Int),iter 120 5 4 (ev9 Γ3 120 5 4 fi120) n (zgx c0 t4 g1 g2 g3 a4 a5 a6) (fun e st=>some (e,st))=(zo8 c0 g1 g2 g3 a4 a5 a6) (z1x c0 g1 g2 g3 a4 a5 a6 n t4):=by
 intro n
 induction n with
 | zero=>intros;rfl
 | succ n ih=>
  intro t4
  refine Eq.trans (iter_succ ..) (Eq.trans (yav ..) (Eq.trans ?_ (y4i c0 g1 g2 g3 a4 a5 a6 t4 (zo8 c0 g1 g2 g3 a4 a5 a6) rfl (fun t4'=>z1x c0 g1 g2 g3 a4 a5 a6 n t4') (fun _=>some (Sum.inl ())) (fun c0_ c1_=>some (Sum.inr (c0_,c1_))))))
  exact congrArg (fun kn_=>z4h c0 g1 g2 g3 a4 a5 a6 t4 kn_ _ _) (funext fun t4'=>ih ..)
theorem y5g:LoopOne J fnTab 120 5 zwt:=lpK zg4 zga (fi:=fi120) (by kernel_rfl) (by kernel_rfl) (q:=fun hs=>(zgx (hI hs 0) (hI hs 1) (hLn hs 2) (hLn hs 3) (hLn hs 4) (hN hs 5) (hN hs 6) (hN hs 7))) (fun hs=>by kernel_rfl) fun hs h1=>Eq.trans (yay (hI hs 0) (hLn hs 2) (hLn hs 3) (hLn hs 4) (hN hs 5) (hN hs 6) (hN hs 7) big (hI hs 1)) (yas (hI hs 0) (hLn hs 2) (hLn hs 3) (hLn hs 4) (hN hs 5) (hN hs 6) (hN hs 7) _ h1)
def z1r:St:=(.mk [(x0V 0 0 a0 1),(1,(.v (.one (.fn 115 [])))),(x0I 7 c1),(x0I 8 c2)] [(x0L g3)])
def z2t(sn:Nat)(t7:Int)(b0:List Nat)(c0_:Int):St:=(.mk [(x0I 4 c0_)] [(x0L b0)])
def z2q:St:=(.mk [(x0V 0 0 a0 1),(1,(.v (.one (.fn 115 [])))),(x0I 7 c1),(x0I 8 c3),(x0B 9 e4)] [(x0L g2)])
def z30:Option ((Int)⊕(Int×Bool))→Option (Ex×St)
 | none=>none
 | some (Sum.inl r)=>some (.ret,(z2t a0 c1 g2 r))
 | some (Sum.inr r)=>some ((.exit 0),(z2q a0 c1 g2 r.1 r.2))
def z5t (x:Option ((Int)⊕(Int×Bool))):LO:=(.two (oL x) (.one .ret (z2t a0 c1 g2 ((tL x).getD default))) (.one (.exit 0) (z2q a0 c1 g2 ((tR x).getD default).1 ((tR x).getD default).2)))
def zaz:Bool×LO:=sL (z5t a0 c1 g3) (z01 a0 c1 g3 big c2)
def z60:Nat→St→Option (Bool×LO):=lpT 1 (pSt [(x1V 0 0 1),(pTm 1 (pV (pOne (pFn 115 [])))),(x1I 7),(x1I 8)] [x1L]) (fun hs=>zaz (hN hs 0) (hI hs 1) (hI hs 2) (hLn hs 3))
theorem zcb:∀ x:Option ((Int)⊕(Int×Bool)),x.isSome=true→(z30 a0 c1 g2) x=some (pick (z5t a0 c1 g2 x))
 | none,h=>by cases h
 | some (Sum.inl r),_=>rfl
 | some (Sum.inr r),_=>rfl
theorem zci (K:Ex→St→Option (Ex×St)):ev9 Γ3 146 2 1 fi146 (z1r a0 c1 c2 g3) K=z0b a0 c1 g3 c2 (fun t8'=>K .normal (z1r a0 c1 t8' g3)) (fun c0_=>K .ret (z2t a0 c1 g3 c0_)) (fun c0_ c1_=>K (.exit 0) (z2q a0 c1 g3 c0_ c1_)):=by kernel_rfl
theorem zca:∀ (n:Nat) (t8:Int),iter 146 2 1 (ev9 Γ3 146 2 1 fi146) n (z1r a0 c1 t8 g2) (fun e st=>some (e,st))=(z30 a0 c1 g2) (z01 a0 c1 g2 n t8):=by
 intro n
 induction n with
 | zero=>intros;rfl
 | succ n ih=>
  intro t8
  refine Eq.trans (iter_succ ..) (Eq.trans (zci ..) (Eq.trans ?_ (zaa a0 c1 g2 t8 (z30 a0 c1 g2) rfl (fun t8'=>z01 a0 c1 g2 n t8') (fun c0_=>some (Sum.inl c0_)) (fun c0_ c1_=>some (Sum.inr (c0_,c1_))))))
  exact congrArg (fun kn_=>z0b a0 c1 g2 t8 kn_ _ _) (funext fun t8'=>ih ..)
theorem zao:LoopOne J fnTab 146 2 z60:=lpK zg4 zga (fi:=fi146) (by kernel_rfl) (by kernel_rfl) (q:=fun hs=>(z1r (hN hs 0) (hI hs 1) (hI hs 2) (hLn hs 3))) (fun hs=>by kernel_rfl) fun hs h1=>Eq.trans (zca (hN hs 0) (hI hs 1) (hLn hs 3) big (hI hs 2)) (zcb (hN hs 0) (hI hs 1) (hLn hs 3) _ h1)
def z1v:St:=(.mk [(x0V 0 0 a0 1),(1,(.v (.one (.fn 153 [])))),(x0I 7 c1),(x0I 8 c2)] [(x0L g3)])
def z34(sn:Nat)(t7:Int)(b0:List Nat)(c0_:Int):St:=(.mk [(x0I 4 c0_)] [(x0L b0)])
def z35:St:=(.mk [(x0V 0 0 a0 1),(1,(.v (.one (.fn 153 [])))),(x0I 7 c1),(x0I 8 c3),(x0B 9 e4)] [(x0L g2)])
def z3c:Option ((Int)⊕(Int×Bool))→Option (Ex×St)
 | none=>none
 | some (Sum.inl r)=>some (.ret,(z34 a0 c1 g2 r))
 | some (Sum.inr r)=>some ((.exit 0),(z35 a0 c1 g2 r.1 r.2))
def z63 (x:Option ((Int)⊕(Int×Bool))):LO:=(.two (oL x) (.one .ret (z34 a0 c1 g2 ((tL x).getD default))) (.one (.exit 0) (z35 a0 c1 g2 ((tR x).getD default).1 ((tR x).getD default).2)))
def zc1:Bool×LO:=sL (z63 a0 c1 g3) (z02 a0 c1 g3 big c2)
def z6m:Nat→St→Option (Bool×LO):=lpT 1 (pSt [(x1V 0 0 1),(pTm 1 (pV (pOne (pFn 153 [])))),(x1I 7),(x1I 8)] [x1L]) (fun hs=>zc1 (hN hs 0) (hI hs 1) (hI hs 2) (hLn hs 3))
theorem zdu:∀ x:Option ((Int)⊕(Int×Bool)),x.isSome=true→(z3c a0 c1 g2) x=some (pick (z63 a0 c1 g2 x))
 | none,h=>by cases h
 | some (Sum.inl r),_=>rfl
 | some (Sum.inr r),_=>rfl
theorem ze4 (K:Ex→St→Option (Ex×St)):ev9 Γ3 146 2 1 fi146 (z1v a0 c1 c2 g3) K=z0c a0 c1 g3 c2 (fun t8'=>K .normal (z1v a0 c1 t8' g3)) (fun c0_=>K .ret (z34 a0 c1 g3 c0_)) (fun c0_ c1_=>K (.exit 0) (z35 a0 c1 g3 c0_ c1_)):=by kernel_rfl
theorem zdx:∀ (n:Nat) (t8:Int),iter 146 2 1 (ev9 Γ3 146 2 1 fi146) n (z1v a0 c1 t8 g2) (fun e st=>some (e,st))=(z3c a0 c1 g2) (z02 a0 c1 g2 n t8):=by
 intro n
 induction n with
 | zero=>intros;rfl
 | succ n ih=>
  intro t8
  refine Eq.trans (iter_succ ..) (Eq.trans (ze4 ..) (Eq.trans ?_ (zb2 a0 c1 g2 t8 (z3c a0 c1 g2) rfl (fun t8'=>z02 a0 c1 g2 n t8') (fun c0_=>some (Sum.inl c0_)) (fun c0_ c1_=>some (Sum.inr (c0_,c1_))))))
  exact congrArg (fun kn_=>z0c a0 c1 g2 t8 kn_ _ _) (funext fun t8'=>ih ..)
theorem zbz:LoopOne J fnTab 146 2 z6m:=lpK zg4 zga (fi:=fi146) (by kernel_rfl) (by kernel_rfl) (q:=fun hs=>(z1v (hN hs 0) (hI hs 1) (hI hs 2) (hLn hs 3))) (fun hs=>by kernel_rfl) fun hs h1=>Eq.trans (zdx (hN hs 0) (hI hs 1) (hLn hs 3) big (hI hs 2)) (zdu (hN hs 0) (hI hs 1) (hLn hs 3) _ h1)
def tb4:List (Nat×(List PT→Option (Bool×AV×List Blk))):=(37,zj9)::(58,z84)::(74,zkp)::(75,zjb)::(164,zhh)::(169,zjn)::tb3
def lt4:List ((Nat×Nat)×(Nat→St→Option (Bool×LO))):=((77,4),zn2)::((120,5),zwt)::((146,2),z60)::((146,2),z6m)::lt3
def Γ4:Ctx:=⟨tyTab,fnTab,tblSum tb4,tblLp lt4⟩
theorem zk7:SumL J tb4:=SumL.cons y2e (SumL.cons zmm (SumL.cons y4t (SumL.cons y0j (SumL.cons y0a (SumL.cons y20 (zg4))))))
theorem zk4:LpL J fnTab lt4:=LpL.cons zw8 (LpL.cons y5g (LpL.cons zao (LpL.cons zbz (zga))))
def zq4:Option (Nat×Nat×Nat×Nat×(List Nat)×(List Nat)×(List Nat)×(List Nat))→Option (AV×List Blk)
 | some r=>some ((.v (.agg [(.sl 0 0 r.1 1),(.sl 1 0 r.2.1 1),(.sl 2 0 r.2.2.1 1),(.sl 3 0 r.2.2.2.1 3),(.int .i64 c0),(.flt .f32 a1),(.flt .f32 a2)])),[(.mk true (.fl .f32 r.2.2.2.2.1)),(.mk true (.fl .f32 r.2.2.2.2.2.1)),(.mk true (.fl .f32 r.2.2.2.2.2.2.1)),(.mk true (.fl .f32 r.2.2.2.2.2.2.2))])
 | none=>none
def zpw:List PT→Option (Bool×AV×List Blk)
 | [.agg [.row 1 q0t (.fl .f32 q15),.row 1 q0v (.fl .f32 q17),.row 1 q0u (.fl .f32 q18),.row 3 q1h (.fl .f32 q1r),.s (.int .i64 q25),.s (.flt .f32 q2c),.s (.flt .f32 q2d)]]=>sF (zq4 q25 q2c q2d) (z1w q0t q15 q0v q17 q0u q18 q1h q1r q25 q2c q2d)
 | _=>none
theorem ydk:ev8 Γ4 34 [.agg [.row 1 a0 (.fl .f32 g1),.row 1 a2 (.fl .f32 g3),.row 1 a4 (.fl .f32 g5),.row 3 a6 (.fl .f32 g7),.s (.int .i64 c8),.s (.flt .f32 a9),.s (.flt .f32 a10)]]=(zq4 c8 a9 a10) (z1w a0 g1 a2 g3 a4 g5 a6 g7 c8 a9 a10):=tr2 (y5l a0 g1 a2 g3 a4 g5 a6 g7 c8 a9 a10 (zq4 c8 a9 a10) rfl (fun c0_ c1_ c2_ c3_ c4_ c5_ c6_ c7_=>some (c0_,c1_,c2_,c3_,c4_,c5_,c6_,c7_))) (by kernel_rfl)
theorem y71:SumOne J 34 zpw:=mkT zk7 zk4 fun pts v news hp=>by
 unfold zpw at hp
 split at hp
 ·exact fin3 (ydk ..) hp
 ·cases hp
def zkw  : Option (Bool)→Option (AV×List Blk)
 | some r=>some ((.v (.one (.bool r))),[])
 | none=>none
def zl2:List PT→Option (Bool×AV×List Blk)
 | [.agg [.row 1 q1m (.fl .f32 q21),.row 1 q1s (.fl .f32 q26),.row 1 q1t (.fl .f32 q27)],.agg [.row 1 q30 (.fl .f32 q36),.row 1 q34 (.fl .f32 q38),.row 1 q33 (.fl .f32 q37)]]=>sF zkw (z64 q1m q21 q1s q26 q1t q27 q30 q36 q34 q38 q33 q37)
 | _=>none
theorem y9w:ev8 Γ4 76 [.agg [.row 1 a0 (.fl .f32 g1),.row 1 a2 (.fl .f32 g3),.row 1 a4 (.fl .f32 g5)],.agg [.row 1 a6 (.fl .f32 g7),.row 1 a8 (.fl .f32 g9),.row 1 a10 (.fl .f32 g11)]]=zkw (z64 a0 g1 a2 g3 a4 g5 a6 g7 a8 g9 a10 g11):=tr2 (y2i a0 g1 a2 g3 a4 g5 a6 g7 a8 g9 a10 g11 zkw rfl (fun c0_=>some c0_)) (by kernel_rfl)
theorem y45:SumOne J 76 zl2:=mkT zk7 zk4 fun pts v news hp=>by
 unfold zl2 at hp
 split at hp
 ·exact fin3 (y9w ..) hp
 ·cases hp
def zjw  : Option (Bool)→Option (AV×List Blk)
 | some r=>some ((.v (.one (.bool r))),[])
 | none=>none
def zjf:List PT→Option (Bool×AV×List Blk)
 | [.one (.row 3 a_n (.fl .f32 a)),.one (.row 3 b_n (.fl .f32 b))]=>sF zjw (z5k a_n a b_n b)
 | _=>none
theorem y8e:ev8 Γ4 77 [.one (.row 3 a0 (.fl .f32 g1)),.one (.row 3 a2 (.fl .f32 g3))]=zjw (z5k a0 g1 a2 g3):=tr2 (zyp a0 g1 a2 g3 zjw rfl (fun c0_=>some c0_)) (by kernel_rfl)
theorem y12:SumOne J 77 zjf:=mkT zk7 zk4 fun pts v news hp=>by
 unfold zjf at hp
 split at hp
 ·exact fin3 (y8e ..) hp
 ·cases hp
def zue  : Option (Bool)→Option (AV×List Blk)
 | some r=>some ((.v (.one (.bool r))),[])
 | none=>none
def zuk:List PT→Option (Bool×AV×List Blk)
 | [.ptr [.row 1 q0i (.fl .f32 q0l),.row 1 q13 (.fl .f32 q1d),.row 1 q14 (.fl .f32 q1e)]]=>sF zue (za6 q0i q0l q13 q1d q14 q1e)
 | _=>none
theorem yey:ev8 Γ4 120 [.ptr [.row 1 a0 (.fl .f32 g1),.row 1 a2 (.fl .f32 g3),.row 1 a4 (.fl .f32 g5)]]=zue (za6 a0 g1 a2 g3 a4 g5):=tr2 (ya7 a0 g1 a2 g3 a4 g5 zue rfl (fun c0_=>some c0_)) (by kernel_rfl)
theorem ybp:SumOne J 120 zuk:=mkT zk7 zk4 fun pts v news hp=>by
 unfold zuk at hp
 split at hp
 ·exact fin3 (yey ..) hp
 ·cases hp
def z3q  : Option (Int)→Option (AV×List Blk)
 | some r=>some ((.v (.one (.int .i64 r))),[])
 | none=>none
def z3o:List PT→Option (Bool×AV×List Blk)
 | [.one (.row 1 s_n (.fl .f32 s)),.fn 115 []]=>sF z3q (z0m s_n s)
 | _=>none
theorem zef:ev8 Γ4 146 [.one (.row 1 a0 (.fl .f32 g1)),.fn 115 []]=z3q (z0m a0 g1):=tr2 (zbd a0 g1 z3q rfl (fun c0_=>some c0_)) (by kernel_rfl)
theorem zcd:SumOne J 146 z3o:=mkT zk7 zk4 fun pts v news hp=>by
 unfold z3o at hp
 split at hp
 ·exact fin3 (zef ..) hp
 ·cases hp
def z42  : Option (Int)→Option (AV×List Blk)
 | some r=>some ((.v (.one (.int .i64 r))),[])
 | none=>none
def z44:List PT→Option (Bool×AV×List Blk)
 | [.one (.row 1 s_n (.fl .f32 s)),.fn 153 []]=>sF z42 (z0r s_n s)
 | _=>none
theorem zg5:ev8 Γ4 146 [.one (.row 1 a0 (.fl .f32 g1)),.fn 153 []]=z42 (z0r a0 g1):=tr2 (zcs a0 g1 z42 rfl (fun c0_=>some c0_)) (by kernel_rfl)
theorem zdj:SumOne J 146 z44:=mkT zk7 zk4 fun pts v news hp=>by
 unfold z44 at hp
 split at hp
 ·exact fin3 (zg5 ..) hp
 ·cases hp
def zpf  : Option (Nat)→Option (AV×List Blk)
 | some r=>some ((.v (.one (.flt .f32 r))),[])
 | none=>none
def zpn:List PT→Option (Bool×AV×List Blk)
 | [.one (.s (.flt .f32 x))]=>sF zpf (z6n x)
 | _=>none
theorem yce:ev8 Γ4 148 [.one (.s (.flt .f32 a0))]=zpf (z6n a0):=tr2 (y6b a0 zpf rfl (fun c0_=>some c0_)) (by kernel_rfl)
theorem y73:SumOne J 148 zpn:=mkT zk7 zk4 fun pts v news hp=>by
 unfold zpn at hp
 split at hp
 ·exact fin3 (yce ..) hp
 ·cases hp
def z22:St:=(.mk [(x0V 0 0 a0 1),(1,(.v (.one (.fn 154 [])))),(x0I 7 c1),(x0I 8 c2)] [(x0L g3)])
def z3e(sn:Nat)(t7:Int)(b0:List Nat)(c0_:Int):St:=(.mk [(x0I 4 c0_)] [(x0L b0)])
def z3f:St:=(.mk [(x0V 0 0 a0 1),(1,(.v (.one (.fn 154 [])))),(x0I 7 c1),(x0I 8 c3),(x0B 9 e4)] [(x0L g2)])
def z3p:Option ((Int)⊕(Int×Bool))→Option (Ex×St)
 | none=>none
 | some (Sum.inl r)=>some (.ret,(z3e a0 c1 g2 r))
 | some (Sum.inr r)=>some ((.exit 0),(z3f a0 c1 g2 r.1 r.2))
def z6o (x:Option ((Int)⊕(Int×Bool))):LO:=(.two (oL x) (.one .ret (z3e a0 c1 g2 ((tL x).getD default))) (.one (.exit 0) (z3f a0 c1 g2 ((tR x).getD default).1 ((tR x).getD default).2)))
def zcq:Bool×LO:=sL (z6o a0 c1 g3) (z03 a0 c1 g3 big c2)
def z6v:Nat→St→Option (Bool×LO):=lpT 1 (pSt [(x1V 0 0 1),(pTm 1 (pV (pOne (pFn 154 [])))),(x1I 7),(x1I 8)] [x1L]) (fun hs=>zcq (hN hs 0) (hI hs 1) (hI hs 2) (hLn hs 3))
theorem zec:∀ x:Option ((Int)⊕(Int×Bool)),x.isSome=true→(z3p a0 c1 g2) x=some (pick (z6o a0 c1 g2 x))
 | none,h=>by cases h
 | some (Sum.inl r),_=>rfl
 | some (Sum.inr r),_=>rfl
theorem zeh (K:Ex→St→Option (Ex×St)):ev9 Γ4 146 2 1 fi146 (z22 a0 c1 c2 g3) K=z0d a0 c1 g3 c2 (fun t8'=>K .normal (z22 a0 c1 t8' g3)) (fun c0_=>K .ret (z3e a0 c1 g3 c0_)) (fun c0_ c1_=>K (.exit 0) (z3f a0 c1 g3 c0_ c1_)):=by kernel_rfl
theorem zeg:∀ (n:Nat) (t8:Int),iter 146 2 1 (ev9 Γ4 146 2 1 fi146) n (z22 a0 c1 t8 g2) (fun e st=>some (e,st))=(z3p a0 c1 g2) (z03 a0 c1 g2 n t8):=by
 intro n
 induction n with
 | zero=>intros;rfl
 | succ n ih=>
  intro t8
  refine Eq.trans (iter_succ ..) (Eq.trans (zeh ..) (Eq.trans ?_ (zbf a0 c1 g2 t8 (z3p a0 c1 g2) rfl (fun t8'=>z03 a0 c1 g2 n t8') (fun c0_=>some (Sum.inl c0_)) (fun c0_ c1_=>some (Sum.inr (c0_,c1_))))))
  exact congrArg (fun kn_=>z0d a0 c1 g2 t8 kn_ _ _) (funext fun t8'=>ih ..)
theorem zc7:LoopOne J fnTab 146 2 z6v:=lpK zk7 zk4 (fi:=fi146) (by kernel_rfl) (by kernel_rfl) (q:=fun hs=>(z22 (hN hs 0) (hI hs 1) (hI hs 2) (hLn hs 3))) (fun hs=>by kernel_rfl) fun hs h1=>Eq.trans (zeg (hN hs 0) (hI hs 1) (hLn hs 3) big (hI hs 2)) (zec (hN hs 0) (hI hs 1) (hLn hs 3) _ h1)
def tb5:List (Nat×(List PT→Option (Bool×AV×List Blk))):=(34,zpw)::(76,zl2)::(77,zjf)::(120,zuk)::(146,z3o)::(146,z44)::(148,zpn)::tb4
def lt5:List ((Nat×Nat)×(Nat→St→Option (Bool×LO))):=((146,2),z6v)::lt4
def Γ5:Ctx:=⟨tyTab,fnTab,tblSum tb5,tblLp lt5⟩
theorem zzy:SumL J tb5:=SumL.cons y71 (SumL.cons y45 (SumL.cons y12 (SumL.cons ybp (SumL.cons zcd (SumL.cons zdj (SumL.cons y73 (zk7)))))))
theorem zz9:LpL J fnTab lt5:=LpL.cons zc7 (zk4)
def zpx  : Option (Bool)→Option (AV×List Blk)
 | some r=>some ((.v (.one (.bool r))),[])
 | none=>none
def zpo:List PT→Option (Bool×AV×List Blk)
 | [.agg [.row 1 q0t (.fl .f32 q15),.row 1 q0v (.fl .f32 q17),.row 1 q0u (.fl .f32 q18),.row 3 q1h (.fl .f32 q1r),.s (.int .i64 q25),.s (.flt .f32 q2c),.s (.flt .f32 q2d)],.agg [.row 1 q2f (.fl .f32 q2l),.row 1 q2h (.fl .f32 q2o),.row 1 q2g (.fl .f32 q2n),.row 3 q2r (.fl .f32 q32),.s (.int .i64 q3b),.s (.flt .f32 q3c),.s (.flt .f32 q3d)]]=>sF zpx (z7y q0t q15 q0v q17 q0u q18 q1h q1r q25 q2c q2d q2f q2l q2h q2o q2g q2n q2r q32 q3b q3c q3d)
 | _=>none
theorem ycz:ev8 Γ5 36 [.agg [.row 1 a0 (.fl .f32 g1),.row 1 a2 (.fl .f32 g3),.row 1 a4 (.fl .f32 g5),.row 3 a6 (.fl .f32 g7),.s (.int .i64 c8),.s (.flt .f32 a9),.s (.flt .f32 a10)],.agg [.row 1 a11 (.fl .f32 g12),.row 1 a13 (.fl .f32 g14),.row 1 a15 (.fl .f32 g16),.row 3 a17 (.fl .f32 g18),.s (.int .i64 c19),.s (.flt .f32 a20),.s (.flt .f32 a21)]]=zpx (z7y a0 g1 a2 g3 a4 g5 a6 g7 c8 a9 a10 a11 g12 a13 g14 a15 g16 a17 g18 c19 a20 a21):=tr2 (y5t a0 g1 a2 g3 a4 g5 a6 g7 c8 a9 a10 a11 g12 a13 g14 a15 g16 a17 g18 c19 a20 a21 zpx rfl (fun c0_=>some c0_)) (by kernel_rfl)
theorem y7y:SumOne J 36 zpo:=mkT zzy zz9 fun pts v news hp=>by
 unfold zpo at hp
 split at hp
 ·exact fin3 (ycz ..) hp
 ·cases hp
def z4b  : Option (Int)→Option (AV×List Blk)
 | some r=>some ((.v (.one (.int .i64 r))),[])
 | none=>none
def z4c:List PT→Option (Bool×AV×List Blk)
 | [.one (.row 1 s_n (.fl .f32 s)),.fn 154 []]=>sF z4b (z0t s_n s)
 | _=>none
theorem zgi:ev8 Γ5 146 [.one (.row 1 a0 (.fl .f32 g1)),.fn 154 []]=z4b (z0t a0 g1):=tr2 (zdh a0 g1 z4b rfl (fun c0_=>some c0_)) (by kernel_rfl)
theorem zed:SumOne J 146 z4c:=mkT zzy zz9 fun pts v news hp=>by
 unfold z4c at hp
 split at hp
 ·exact fin3 (zgi ..) hp
 ·cases hp
def zv9  : Option (Nat)→Option (AV×List Blk)
 | some r=>some ((.v (.one (.flt .f64 r))),[])
 | none=>none
def zvg:List PT→Option (Bool×AV×List Blk)
 | [.one (.s (.flt .f64 x))]=>sF zv9 (za2 x)
 | _=>none
theorem yew:ev8 Γ5 175 [.one (.s (.flt .f64 a0))]=zv9 (za2 a0):=tr2 (yai a0 zv9 rfl (fun c0_=>some c0_)) (by kernel_rfl)
theorem yao:SumOne J 175 zvg:=mkT zzy zz9 fun pts v news hp=>by
 unfold zvg at hp
 split at hp
 ·exact fin3 (yew ..) hp
 ·cases hp
def zi6:St:=(.mk [(x0B 4 e0),(5,(.v (.one (.flt .f64 a1)))),(6,(.v (.one (.flt .f64 a2)))),(7,(.v (.one (.flt .f64 a3)))),(8,(.v (.one (.flt .f64 a4))))] [])
def zno:St:=(.mk [(x0B 4 e0),(5,(.v (.one (.flt .f64 a1)))),(6,(.v (.one (.flt .f64 a2)))),(7,(.v (.one (.flt .f64 a3)))),(8,(.v (.one (.flt .f64 a4)))),(x0B 25 e5)] [])
def zq6:Option ((Nat×Nat×Bool))→Option (Ex×St)
 | none=>none
 | some r=>some ((.exit 0),(zno e0 a1 a2 r.1 r.2.1 r.2.2))
def zwx (x:Option ((Nat×Nat×Bool))):LO:=(.one (.exit 0) (zno e0 a1 a2 (x.getD default).1 (x.getD default).2.1 (x.getD default).2.2))
def yan:Bool×LO:=sL (zwx e0 a1 a2) (z1u a2 big a3 a4)
def zzm:Nat→St→Option (Bool×LO):=lpT 0 (pSt [(x1B 4),(pTm 5 (pV (pOne (pFlt .f64)))),(pTm 6 (pV (pOne (pFlt .f64)))),(pTm 7 (pV (pOne (pFlt .f64)))),(pTm 8 (pV (pOne (pFlt .f64))))] []) (fun hs=>yan (hB hs 0) (hN hs 1) (hN hs 2) (hN hs 3) (hN hs 4))
theorem ydl:∀ x:Option ((Nat×Nat×Bool)),x.isSome=true→(zq6 e0 a1 a2) x=some (pick (zwx e0 a1 a2 x))
 | none,h=>by cases h
 | some r,_=>rfl
theorem yct (K:Ex→St→Option (Ex×St)):ev9 Γ5 160 9 0 fi160 (zi6 e0 a1 a2 a3 a4) K=z53 a2 a3 a4 (fun p' k'=>K .normal (zi6 e0 a1 a2 p' k')) (fun c0_ c1_ c2_=>K (.exit 0) (zno e0 a1 a2 c0_ c1_ c2_)):=by kernel_rfl
theorem yci:∀ (n p k:Nat),iter 160 9 0 (ev9 Γ5 160 9 0 fi160) n (zi6 e0 a1 a2 p k) (fun e st=>some (e,st))=(zq6 e0 a1 a2) (z1u a2 n p k):=by
 intro n
 induction n with
 | zero=>intros;rfl
 | succ n ih=>
  intro p k
  refine Eq.trans (iter_succ ..) (Eq.trans (yct ..) (Eq.trans ?_ (y5i a2 p k (zq6 e0 a1 a2) rfl (fun p' k'=>z1u a2 n p' k') (fun c0_ c1_ c2_=>some (c0_,c1_,c2_)))))
  exact congrArg (fun kn_=>z53 a2 p k kn_ _) (funext fun p'=>funext fun k'=>ih ..)
theorem y7k:LoopOne J fnTab 160 9 zzm:=lpK zzy zz9 (fi:=fi160) (by kernel_rfl) (by kernel_rfl) (q:=fun hs=>(zi6 (hB hs 0) (hN hs 1) (hN hs 2) (hN hs 3) (hN hs 4))) (fun hs=>by kernel_rfl) fun hs h1=>Eq.trans (yci (hB hs 0) (hN hs 1) (hN hs 2) big (hN hs 3) (hN hs 4)) (ydl (hB hs 0) (hN hs 1) (hN hs 2) _ h1)
def tb6:List (Nat×(List PT→Option (Bool×AV×List Blk))):=(36,zpo)::(146,z4c)::(175,zvg)::tb5
def lt6:List ((Nat×Nat)×(Nat→St→Option (Bool×LO))):=((160,9),zzm)::lt5
def Γ6:Ctx:=⟨tyTab,fnTab,tblSum tb6,tblLp lt6⟩
theorem zmw:SumL J tb6:=SumL.cons y7y (SumL.cons zed (SumL.cons yao (zzy)))
theorem zmy:LpL J fnTab lt6:=LpL.cons y7k (zz9)
def z32  : Option (Bool)→Option (AV×List Blk)
 | some r=>some ((.v (.one (.bool r))),[])
 | none=>none
def z2x:List PT→Option (Bool×AV×List Blk)
 | [.one (.row 1 s_n (.fl .f32 s)),.fn 115 []]=>sF z32 (z0i s_n s)
 | _=>none
theorem zc2:ev8 Γ6 114 [.one (.row 1 a0 (.fl .f32 g1)),.fn 115 []]=z32 (z0i a0 g1):=tr2 (zaf a0 g1 z32 rfl (fun c0_=>some c0_)) (by kernel_rfl)
theorem zam:SumOne J 114 z2x:=mkT zmw zmy fun pts v news hp=>by
 unfold z2x at hp
 split at hp
 ·exact fin3 (zc2 ..) hp
 ·cases hp
def z3d  : Option (Bool)→Option (AV×List Blk)
 | some r=>some ((.v (.one (.bool r))),[])
 | none=>none
def z3j:List PT→Option (Bool×AV×List Blk)
 | [.one (.row 1 s_n (.fl .f32 s)),.fn 153 []]=>sF z3d (z0k s_n s)
 | _=>none
theorem zdp:ev8 Γ6 114 [.one (.row 1 a0 (.fl .f32 g1)),.fn 153 []]=z3d (z0k a0 g1):=tr2 (zax a0 g1 z3d rfl (fun c0_=>some c0_)) (by kernel_rfl)
theorem zbb:SumOne J 114 z3j:=mkT zmw zmy fun pts v news hp=>by
 unfold z3j at hp
 split at hp
 ·exact fin3 (zdp ..) hp
 ·cases hp
def z3m  : Option (Bool)→Option (AV×List Blk)
 | some r=>some ((.v (.one (.bool r))),[])
 | none=>none
def z3r:List PT→Option (Bool×AV×List Blk)
 | [.one (.row 1 s_n (.fl .f32 s)),.fn 154 []]=>sF z3m (z0n s_n s)
 | _=>none
theorem zee:ev8 Γ6 114 [.one (.row 1 a0 (.fl .f32 g1)),.fn 154 []]=z3m (z0n a0 g1):=tr2 (zbx a0 g1 z3m rfl (fun c0_=>some c0_)) (by kernel_rfl)
theorem zcg:SumOne J 114 z3r:=mkT zmw zmy fun pts v news hp=>by
 unfold z3r at hp
 split at hp
 ·exact fin3 (zee ..) hp
 ·cases hp
def zyd  : Option (Nat)→Option (AV×List Blk)
 | some r=>some ((.v (.one (.flt .f64 r))),[])
 | none=>none
def zx5:List PT→Option (Bool×AV×List Blk)
 | [.one (.s (.flt .f64 q2k))]=>sF zyd (zc5 q2k)
 | _=>none
theorem yez:ev8 Γ6 160 [.one (.s (.flt .f64 a0))]=zyd (zc5 a0):=tr2 (yba a0 zyd rfl (fun c0_=>some c0_)) (by kernel_rfl)
theorem yd3:SumOne J 160 zx5:=mkT zmw zmy fun pts v news hp=>by
 unfold zx5 at hp
 split at hp
 ·exact fin3 (yez ..) hp
 ·cases hp
def zki  : Option (Nat)→Option (AV×List Blk)
 | some r=>some ((.v (.one (.flt .f32 r))),[])
 | none=>none
def zln:List PT→Option (Bool×AV×List Blk)
 | [.one (.s (.flt .f32 x))]=>sF zki (z65 x)
 | _=>none
theorem y9v:ev8 Γ6 170 [.one (.s (.flt .f32 a0))]=zki (z65 a0):=tr2 (y28 a0 zki rfl (fun c0_=>some c0_)) (by kernel_rfl)
theorem y4l:SumOne J 170 zln:=mkT zmw zmy fun pts v news hp=>by
 unfold zln at hp
 split at hp
 ·exact fin3 (y9v ..) hp
 ·cases hp
def zpu  : Option (Nat)→Option (AV×List Blk)
 | some r=>some ((.v (.one (.flt .f32 r))),[])
 | none=>none
def zpt:List PT→Option (Bool×AV×List Blk)
 | [.one (.s (.flt .f32 x))]=>sF zpu (z7v x)
 | _=>none
theorem yca:ev8 Γ6 181 [.one (.s (.flt .f32 a0))]=zpu (z7v a0):=tr2 (y4y a0 zpu rfl (fun c0_=>some c0_)) (by kernel_rfl)
theorem y8i:SumOne J 181 zpt:=mkT zmw zmy fun pts v news hp=>by
 unfold zpt at hp
 split at hp
 ·exact fin3 (yca ..) hp
 ·cases hp
def zh0:St:=(.mk [(x0P 0 4 7),(x0F 4 a0),(x0I 57 c1),(x0I 58 c2)] [(x0L g3),(x0L g4),(x0L g5),(x0L g6),(x0R false 0 1 2 3 a7 a8 a9 a10 c11 a12 a13)])
def zly(t57:Int)(b0 b1 b2 b3:List Nat)(q0w q0x q0y q0r:Nat)(q1b:Int)(q1c q0z:Nat):St:=(.mk [(x0B 2 false)] [(x0L b0),(x0L b1),(x0L b2),(x0L b3),(x0R false 0 1 2 3 q0w q0x q0y q0r q1b q1c q0z)])
def zl6:St:=(.mk [(x0P 0 4 7),(x0F 4 a12),(x0I 57 c0),(x0I 58 c13),(x0B 59 e14)] [(x0L g1),(x0L g2),(x0L g3),(x0L g4),(x0R false 0 1 2 3 a5 a6 a7 a8 c9 a10 a11)])
def zo9:Option ((Unit)⊕(Nat×Int×Bool))→Option (Ex×St)
 | none=>none
 | some (Sum.inl r)=>some (.ret,(zly c0 g1 g2 g3 g4 a5 a6 a7 a8 c9 a10 a11))
 | some (Sum.inr r)=>some ((.exit 0),(zl6 c0 g1 g2 g3 g4 a5 a6 a7 a8 c9 a10 a11 r.1 r.2.1 r.2.2))
def zub (x:Option ((Unit)⊕(Nat×Int×Bool))):LO:=(.two (oL x) (.one .ret (zly c0 g1 g2 g3 g4 a5 a6 a7 a8 c9 a10 a11)) (.one (.exit 0) (zl6 c0 g1 g2 g3 g4 a5 a6 a7 a8 c9 a10 a11 ((tR x).getD default).1 ((tR x).getD default).2.1 ((tR x).getD default).2.2)))
def y6y:Bool×LO:=sL (zub c1 g3 g4 g5 g6 a7 a8 a9 a10 c11 a12 a13) (z14 c1 g6 a10 a13 big a0 c2)
def zwy:Nat→St→Option (Bool×LO):=lpT 5 (pSt [(x1P 0 4 7),(x1F 4),(x1I 57),(x1I 58)] [x1L,x1L,x1L,x1L,(x1R false 0 1 2 3)]) (fun hs=>y6y (hN hs 0) (hI hs 1) (hI hs 2) (hLn hs 3) (hLn hs 4) (hLn hs 5) (hLn hs 6) (hN hs 7) (hN hs 8) (hN hs 9) (hN hs 10) (hI hs 11) (hN hs 12) (hN hs 13))
theorem ybl:∀ x:Option ((Unit)⊕(Nat×Int×Bool)),x.isSome=true→(zo9 c0 g1 g2 g3 g4 a5 a6 a7 a8 c9 a10 a11) x=some (pick (zub c0 g1 g2 g3 g4 a5 a6 a7 a8 c9 a10 a11 x))
 | none,h=>by cases h
 | some (Sum.inl r),_=>rfl
 | some (Sum.inr r),_=>rfl
theorem yb2 (K:Ex→St→Option (Ex×St)):ev9 Γ6 82 6 5 fi82 (zh0 a0 c1 c2 g3 g4 g5 g6 a7 a8 a9 a10 c11 a12 a13) K=z4g c1 g6 a10 a13 a0 c2 (fun t4' t58'=>K .normal (zh0 t4' c1 t58' g3 g4 g5 g6 a7 a8 a9 a10 c11 a12 a13)) (fun _=>K .ret (zly c1 g3 g4 g5 g6 a7 a8 a9 a10 c11 a12 a13)) (fun c0_ c1_ c2_=>K (.exit 0) (zl6 c1 g3 g4 g5 g6 a7 a8 a9 a10 c11 a12 a13 c0_ c1_ c2_)):=by kernel_rfl
theorem yb7:∀ (n t4:Nat) (t58:Int),iter 82 6 5 (ev9 Γ6 82 6 5 fi82) n (zh0 t4 c0 t58 g1 g2 g3 g4 a5 a6 a7 a8 c9 a10 a11) (fun e st=>some (e,st))=(zo9 c0 g1 g2 g3 g4 a5 a6 a7 a8 c9 a10 a11) (z14 c0 g4 a8 a11 n t4 t58):=by
 intro n
 induction n with
 | zero=>intros;rfl
 | succ n ih=>
  intro t4 t58
  refine Eq.trans (iter_succ ..) (Eq.trans (yb2 ..) (Eq.trans ?_ (y3q c0 g4 a8 a11 t4 t58 (zo9 c0 g1 g2 g3 g4 a5 a6 a7 a8 c9 a10 a11) rfl (fun t4' t58'=>z14 c0 g4 a8 a11 n t4' t58') (fun _=>some (Sum.inl ())) (fun c0_ c1_ c2_=>some (Sum.inr (c0_,c1_,c2_))))))
  exact congrArg (fun kn_=>z4g c0 g4 a8 a11 t4 t58 kn_ _ _) (funext fun t4'=>funext fun t58'=>ih ..)
theorem y63:LoopOne J fnTab 82 6 zwy:=lpK zmw zmy (fi:=fi82) (by kernel_rfl) (by kernel_rfl) (q:=fun hs=>(zh0 (hN hs 0) (hI hs 1) (hI hs 2) (hLn hs 3) (hLn hs 4) (hLn hs 5) (hLn hs 6) (hN hs 7) (hN hs 8) (hN hs 9) (hN hs 10) (hI hs 11) (hN hs 12) (hN hs 13))) (fun hs=>by kernel_rfl) fun hs h1=>Eq.trans (yb7 (hI hs 1) (hLn hs 3) (hLn hs 4) (hLn hs 5) (hLn hs 6) (hN hs 7) (hN hs 8) (hN hs 9) (hN hs 10) (hI hs 11) (hN hs 12) (hN hs 13) big (hN hs 0) (hI hs 2)) (ybl (hI hs 1) (hLn hs 3) (hLn hs 4) (hLn hs 5) (hLn hs 6) (hN hs 7) (hN hs 8) (hN hs 9) (hN hs 10) (hI hs 11) (hN hs 12) (hN hs 13) _ h1)
def tb7:List (Nat×(List PT→Option (Bool×AV×List Blk))):=(114,z2x)::(114,z3j)::(114,z3r)::(160,zx5)::(170,zln)::(181,zpt)::tb6
def lt7:List ((Nat×Nat)×(Nat→St→Option (Bool×LO))):=((82,6),zwy)::lt6
def Γ7:Ctx:=⟨tyTab,fnTab,tblSum tb7,tblLp lt7⟩
theorem ztx:SumL J tb7:=SumL.cons zam (SumL.cons zbb (SumL.cons zcg (SumL.cons yd3 (SumL.cons y4l (SumL.cons y8i (zmw))))))
theorem zu3:LpL J fnTab lt7:=LpL.cons y63 (zmy)
def zhs  : Option (Bool)→Option (AV×List Blk)
 | some r=>some ((.v (.one (.bool r))),[])
 | none=>none
def zhp:List PT→Option (Bool×AV×List Blk)
 | [.one (.row 1 q1i (.fl .f32 q1y))]=>sF zhs (z1s q1i q1y)
 | _=>none
theorem y69:ev8 Γ7 64 [.one (.row 1 a0 (.fl .f32 g1))]=zhs (z1s a0 g1):=tr2 (zxw a0 g1 zhs rfl (fun c0_=>some c0_)) (by kernel_rfl)
theorem zyo:SumOne J 64 zhp:=mkT ztx zu3 fun pts v news hp=>by
 unfold zhp at hp
 split at hp
 ·exact fin3 (y69 ..) hp
 ·cases hp
def zv7  : Option (Bool)→Option (AV×List Blk)
 | some r=>some ((.v (.one (.bool r))),[])
 | none=>none
def zui:List PT→Option (Bool×AV×List Blk)
 | [.ptr [.row 1 q07 (.fl .f32 q0a),.row 1 q08 (.fl .f32 q0d),.row 1 q09 (.fl .f32 q0c),.row 3 q0e (.fl .f32 q0f),.s (.int .i64 q0h),.s (.flt .f32 q0j),.s (.flt .f32 q0k)]]=>sF zv7 (zab q07 q0a q08 q0d q09 q0c q0e q0f q0h q0j q0k)
 | _=>none
theorem yen:ev8 Γ7 82 [.ptr [.row 1 a0 (.fl .f32 g1),.row 1 a2 (.fl .f32 g3),.row 1 a4 (.fl .f32 g5),.row 3 a6 (.fl .f32 g7),.s (.int .i64 c8),.s (.flt .f32 a9),.s (.flt .f32 a10)]]=zv7 (zab a0 g1 a2 g3 a4 g5 a6 g7 c8 a9 a10):=tr2 (ya5 a0 g1 a2 g3 a4 g5 a6 g7 c8 a9 a10 zv7 rfl (fun c0_=>some c0_)) (by kernel_rfl)
theorem ybo:SumOne J 82 zui:=mkT ztx zu3 fun pts v news hp=>by
 unfold zui at hp
 split at hp
 ·exact fin3 (yen ..) hp
 ·cases hp
def zlt  : Option (Bool)→Option (AV×List Blk)
 | some r=>some ((.v (.one (.bool r))),[])
 | none=>none
def zlc:List PT→Option (Bool×AV×List Blk)
 | [.one (.row 1 q1i (.fl .f32 q1y))]=>sF zlt (z4u q1i q1y)
 | _=>none
theorem ya6:ev8 Γ7 132 [.one (.row 1 a0 (.fl .f32 g1))]=zlt (z4u a0 g1):=tr2 (y0n a0 g1 zlt rfl (fun c0_=>some c0_)) (by kernel_rfl)
theorem y40:SumOne J 132 zlc:=mkT ztx zu3 fun pts v news hp=>by
 unfold zlc at hp
 split at hp
 ·exact fin3 (ya6 ..) hp
 ·cases hp
def znl  : Option (Bool)→Option (AV×List Blk)
 | some r=>some ((.v (.one (.bool r))),[])
 | none=>none
def znc:List PT→Option (Bool×AV×List Blk)
 | [.one (.row 1 q1i (.fl .f32 q1y))]=>sF znl (z71 q1i q1y)
 | _=>none
theorem yar:ev8 Γ7 133 [.one (.row 1 a0 (.fl .f32 g1))]=znl (z71 a0 g1):=tr2 (y2z a0 g1 znl rfl (fun c0_=>some c0_)) (by kernel_rfl)
theorem y5w:SumOne J 133 znc:=mkT ztx zu3 fun pts v news hp=>by
 unfold znc at hp
 split at hp
 ·exact fin3 (yar ..) hp
 ·cases hp
def zko  : Option (Nat)→Option (AV×List Blk)
 | some r=>some ((.v (.one (.flt .f32 r))),[])
 | none=>none
def zlv:List PT→Option (Bool×AV×List Blk)
 | [.one (.s (.flt .f32 x))]=>sF zko (z68 x)
 | _=>none
theorem ya2:ev8 Γ7 141 [.one (.s (.flt .f32 a0))]=zko (z68 a0):=tr2 (y0m a0 zko rfl (fun c0_=>some c0_)) (by kernel_rfl)
theorem y36:SumOne J 141 zlv:=mkT ztx zu3 fun pts v news hp=>by
 unfold zlv at hp
 split at hp
 ·exact fin3 (ya2 ..) hp
 ·cases hp
def tb8:List (Nat×(List PT→Option (Bool×AV×List Blk))):=(64,zhp)::(82,zui)::(132,zlc)::(133,znc)::(141,zlv)::tb7
def lt8:List ((Nat×Nat)×(Nat→St→Option (Bool×LO))):=lt7
def Γ8:Ctx:=⟨tyTab,fnTab,tblSum tb8,tblLp lt8⟩
theorem zu1:SumL J tb8:=SumL.cons zyo (SumL.cons ybo (SumL.cons y40 (SumL.cons y5w (SumL.cons y36 (ztx)))))
theorem ztw:LpL J fnTab lt8:=zu3
def zjh  : Option (Nat×Nat×Bool)→Option (AV×List Blk)
 | some r=>some ((.tup [(.one (.flt .f32 r.1)),(.one (.flt .f32 r.2.1)),(.one (.bool r.2.2))]),[])
 | none=>none
def zj4:List PT→Option (Bool×AV×List Blk)
 | [.one (.s (.flt .f32 x)),.one (.s (.flt .f32 y))]=>sF zjh (z38 x y)
 | _=>none
theorem y7i:ev8 Γ8 107 [.one (.s (.flt .f32 a0)),.one (.s (.flt .f32 a1))]=zjh (z38 a0 a1):=tr2 (zyt a0 a1 zjh rfl (fun c0_ c1_ c2_=>some (c0_,c1_,c2_))) (by kernel_rfl)
theorem y1t:SumOne J 107 zj4:=mkT zu1 ztw fun pts v news hp=>by
 unfold zj4 at hp
 split at hp
 ·exact fin3 (y7i ..) hp
 ·cases hp
def zjv  : Option (Bool)→Option (AV×List Blk)
 | some r=>some ((.v (.one (.bool r))),[])
 | none=>none
def zj7:List PT→Option (Bool×AV×List Blk)
 | [.ptr [.row 1 q00 (.fl .f32 q03),.row 1 q02 (.fl .f32 q05),.row 1 q01 (.fl .f32 q04),.row 3 q06 (.fl .f32 q0b),.s (.int .i64 q0g),.s (.flt .f32 q0n),.s (.flt .f32 q0m)],.one (.s (.int .i64 i))]=>sF zjv (z5l q00 q03 q02 q05 q01 q04 q06 q0b q0g q0n q0m i)
 | _=>none
theorem y7d:ev8 Γ8 127 [.ptr [.row 1 a0 (.fl .f32 g1),.row 1 a2 (.fl .f32 g3),.row 1 a4 (.fl .f32 g5),.row 3 a6 (.fl .f32 g7),.s (.int .i64 c8),.s (.flt .f32 a9),.s (.flt .f32 a10)],.one (.s (.int .i64 c11))]=zjv (z5l a0 g1 a2 g3 a4 g5 a6 g7 c8 a9 a10 c11):=tr2 (zys a0 g1 a2 g3 a4 g5 a6 g7 c8 a9 a10 c11 zjv rfl (fun c0_=>some c0_)) (by kernel_rfl)
theorem y1x:SumOne J 127 zj7:=mkT zu1 ztw fun pts v news hp=>by
 unfold zj7 at hp
 split at hp
 ·exact fin3 (y7d ..) hp
 ·cases hp
def ze8  : Option (Nat)→Option (AV×List Blk)
 | some r=>some ((.v (.one (.flt .f32 r))),[])
 | none=>none
def ze6:List PT→Option (Bool×AV×List Blk)
 | [.agg [.row 1 q00 (.fl .f32 q03),.row 1 q02 (.fl .f32 q05),.row 1 q01 (.fl .f32 q04),.row 3 q06 (.fl .f32 q0b),.s (.int .i64 q0g),.s (.flt .f32 q0n),.s (.flt .f32 q0m)],.one (.s (.int .i64 i)),.one (.s (.flt .f32 q1j))]=>sF ze8 (z3h q00 q03 q02 q05 q01 q04 q06 q0b q0g q0n q0m i q1j)
 | _=>none
theorem y0d:ev8 Γ8 143 [.agg [.row 1 a0 (.fl .f32 g1),.row 1 a2 (.fl .f32 g3),.row 1 a4 (.fl .f32 g5),.row 3 a6 (.fl .f32 g7),.s (.int .i64 c8),.s (.flt .f32 a9),.s (.flt .f32 a10)],.one (.s (.int .i64 c11)),.one (.s (.flt .f32 a12))]=ze8 (z3h a0 g1 a2 g3 a4 g5 a6 g7 c8 a9 a10 c11 a12):=tr2 (zte a0 g1 a2 g3 a4 g5 a6 g7 c8 a9 a10 c11 a12 ze8 rfl (fun c0_=>some c0_)) (by kernel_rfl)
theorem zur:SumOne J 143 ze6:=mkT zu1 ztw fun pts v news hp=>by
 unfold ze6 at hp
 split at hp
 ·exact fin3 (y0d ..) hp
 ·cases hp
def z1g:St:=(.mk [(x0V 0 0 a0 1),(1,(.v (.one (.fn 171 [(.ptr 4 0 1)])))),(x0I 7 c1),(x0I 8 c2)] [(x0L g3),(x0L g4),(x0L g5),(.mk true (.cells [(.vw 0 0 a6 1),(.vw 1 0 a7 1),(.vw 2 0 a8 1)])),(.mk true (.cells [(.flt .f32 a9)]))])
def z2k(sn:Nat)(t7:Int)(b0 b1 b2:List Nat)(q1l q20 q1z b4:Nat)(c0_:Int):St:=(.mk [(x0I 4 c0_)] [(x0L b0),(x0L b1),(x0L b2),(.mk true (.cells [(.vw 0 0 q1l 1),(.vw 1 0 q20 1),(.vw 2 0 q1z 1)])),(.mk true (.cells [(.flt .f32 b4)]))])
def z2j:St:=(.mk [(x0V 0 0 a0 1),(1,(.v (.one (.fn 171 [(.ptr 4 0 1)])))),(x0I 7 c1),(x0I 8 c9),(x0B 9 e10)] [(x0L g2),(x0L g3),(x0L g4),(.mk true (.cells [(.vw 0 0 a5 1),(.vw 1 0 a6 1),(.vw 2 0 a7 1)])),(.mk true (.cells [(.flt .f32 a8)]))])
def z2v:Option ((Int)⊕(Int×Bool))→Option (Ex×St)
 | none=>none
 | some (Sum.inl r)=>some (.ret,(z2k a0 c1 g2 g3 g4 a5 a6 a7 a8 r))
 | some (Sum.inr r)=>some ((.exit 0),(z2j a0 c1 g2 g3 g4 a5 a6 a7 a8 r.1 r.2))
def z58 (x:Option ((Int)⊕(Int×Bool))):LO:=(.two (oL x) (.one .ret (z2k a0 c1 g2 g3 g4 a5 a6 a7 a8 ((tL x).getD default))) (.one (.exit 0) (z2j a0 c1 g2 g3 g4 a5 a6 a7 a8 ((tR x).getD default).1 ((tR x).getD default).2)))
def zan:Bool×LO:=sL (z58 a0 c1 g3 g4 g5 a6 a7 a8 a9) (z00 a0 c1 g3 a9 big c2)
def z5q:Nat→St→Option (Bool×LO):=lpT 5 (pSt [(x1V 0 0 1),(pTm 1 (pV (pOne (pFn 171 [(pPtr 4 (liN 0) 1)])))),(x1I 7),(x1I 8)] [x1L,x1L,x1L,(pBlk true (pCells [(pVw 0 (liN 0) 1),(pVw 1 (liN 0) 1),(pVw 2 (liN 0) 1)])),(pBlk true (pCells [(pFlt .f32)]))]) (fun hs=>zan (hN hs 0) (hI hs 1) (hI hs 2) (hLn hs 3) (hLn hs 4) (hLn hs 5) (hN hs 6) (hN hs 7) (hN hs 8) (hN hs 9))
theorem zbc:∀ x:Option ((Int)⊕(Int×Bool)),x.isSome=true→(z2v a0 c1 g2 g3 g4 a5 a6 a7 a8) x=some (pick (z58 a0 c1 g2 g3 g4 a5 a6 a7 a8 x))
 | none,h=>by cases h
 | some (Sum.inl r),_=>rfl
 | some (Sum.inr r),_=>rfl
theorem zbt (K:Ex→St→Option (Ex×St)):ev9 Γ8 146 2 5 fi146 (z1g a0 c1 c2 g3 g4 g5 a6 a7 a8 a9) K=z0a a0 c1 g3 a9 c2 (fun t8'=>K .normal (z1g a0 c1 t8' g3 g4 g5 a6 a7 a8 a9)) (fun c0_=>K .ret (z2k a0 c1 g3 g4 g5 a6 a7 a8 a9 c0_)) (fun c0_ c1_=>K (.exit 0) (z2j a0 c1 g3 g4 g5 a6 a7 a8 a9 c0_ c1_)):=by kernel_rfl
theorem zbo:∀ (n:Nat) (t8:Int),iter 146 2 5 (ev9 Γ8 146 2 5 fi146) n (z1g a0 c1 t8 g2 g3 g4 a5 a6 a7 a8) (fun e st=>some (e,st))=(z2v a0 c1 g2 g3 g4 a5 a6 a7 a8) (z00 a0 c1 g2 a8 n t8):=by
 intro n
 induction n with
 | zero=>intros;rfl
 | succ n ih=>
  intro t8
  refine Eq.trans (iter_succ ..) (Eq.trans (zbt ..) (Eq.trans ?_ (z9w a0 c1 g2 a8 t8 (z2v a0 c1 g2 g3 g4 a5 a6 a7 a8) rfl (fun t8'=>z00 a0 c1 g2 a8 n t8') (fun c0_=>some (Sum.inl c0_)) (fun c0_ c1_=>some (Sum.inr (c0_,c1_))))))
  exact congrArg (fun kn_=>z0a a0 c1 g2 a8 t8 kn_ _ _) (funext fun t8'=>ih ..)
theorem za0:LoopOne J fnTab 146 2 z5q:=lpK zu1 ztw (fi:=fi146) (by kernel_rfl) (by kernel_rfl) (q:=fun hs=>(z1g (hN hs 0) (hI hs 1) (hI hs 2) (hLn hs 3) (hLn hs 4) (hLn hs 5) (hN hs 6) (hN hs 7) (hN hs 8) (hN hs 9))) (fun hs=>by kernel_rfl) fun hs h1=>Eq.trans (zbo (hN hs 0) (hI hs 1) (hLn hs 3) (hLn hs 4) (hLn hs 5) (hN hs 6) (hN hs 7) (hN hs 8) (hN hs 9) big (hI hs 2)) (zbc (hN hs 0) (hI hs 1) (hLn hs 3) (hLn hs 4) (hLn hs 5) (hN hs 6) (hN hs 7) (hN hs 8) (hN hs 9) _ h1)
def zd2:St:=(.mk [(x0P 0 3 3),(x0F 8 a0),(x0I 9 c1),(x0I 10 c2)] [(x0L g3),(x0L g4),(x0L g5),(.mk false (.cells [(.vw 0 0 a6 1),(.vw 1 0 a7 1),(.vw 2 0 a8 1)]))])
def zhg:St:=(.mk [(x0P 0 3 3),(x0F 8 a0),(x0I 9 c1),(x0I 10 c8),(x0B 36 e9)] [(x0L g2),(x0L g3),(x0L g4),(.mk false (.cells [(.vw 0 0 a5 1),(.vw 1 0 a6 1),(.vw 2 0 a7 1)]))])
def zj5:Option ((Int×Bool))→Option (Ex×St)
 | none=>none
 | some r=>some ((.exit 0),(zhg a0 c1 g2 g3 g4 a5 a6 a7 r.1 r.2))
def zqv (x:Option ((Int×Bool))):LO:=(.one (.exit 0) (zhg a0 c1 g2 g3 g4 a5 a6 a7 (x.getD default).1 (x.getD default).2))
def y35:Bool×LO:=sL (zqv a0 c1 g3 g4 g5 a6 a7 a8) (z1j a0 g3 a6 big c2)
def zsq:Nat→St→Option (Bool×LO):=lpT 4 (pSt [(x1P 0 3 3),(x1F 8),(x1I 9),(x1I 10)] [x1L,x1L,x1L,(pBlk false (pCells [(pVw 0 (liN 0) 1),(pVw 1 (liN 0) 1),(pVw 2 (liN 0) 1)]))]) (fun hs=>y35 (hN hs 0) (hI hs 1) (hI hs 2) (hLn hs 3) (hLn hs 4) (hLn hs 5) (hN hs 6) (hN hs 7) (hN hs 8))
theorem y7v:∀ x:Option ((Int×Bool)),x.isSome=true→(zj5 a0 c1 g2 g3 g4 a5 a6 a7) x=some (pick (zqv a0 c1 g2 g3 g4 a5 a6 a7 x))
 | none,h=>by cases h
 | some r,_=>rfl
theorem y8d (K:Ex→St→Option (Ex×St)):ev9 Γ8 176 4 4 fi176 (zd2 a0 c1 c2 g3 g4 g5 a6 a7 a8) K=z39 a0 g3 a6 c2 (fun t10'=>K .normal (zd2 a0 c1 t10' g3 g4 g5 a6 a7 a8)) (fun c0_ c1_=>K (.exit 0) (zhg a0 c1 g3 g4 g5 a6 a7 a8 c0_ c1_)):=by kernel_rfl
theorem y7l:∀ (n:Nat) (t10:Int),iter 176 4 4 (ev9 Γ8 176 4 4 fi176) n (zd2 a0 c1 t10 g2 g3 g4 a5 a6 a7) (fun e st=>some (e,st))=(zj5 a0 c1 g2 g3 g4 a5 a6 a7) (z1j a0 g2 a5 n t10):=by
 intro n
 induction n with
 | zero=>intros;rfl
 | succ n ih=>
  intro t10
  refine Eq.trans (iter_succ ..) (Eq.trans (y8d ..) (Eq.trans ?_ (zzh a0 g2 a5 t10 (zj5 a0 c1 g2 g3 g4 a5 a6 a7) rfl (fun t10'=>z1j a0 g2 a5 n t10') (fun c0_ c1_=>some (c0_,c1_)))))
  exact congrArg (fun kn_=>z39 a0 g2 a5 t10 kn_ _) (funext fun t10'=>ih ..)
theorem y1n:LoopOne J fnTab 176 4 zsq:=lpK zu1 ztw (fi:=fi176) (by kernel_rfl) (by kernel_rfl) (q:=fun hs=>(zd2 (hN hs 0) (hI hs 1) (hI hs 2) (hLn hs 3) (hLn hs 4) (hLn hs 5) (hN hs 6) (hN hs 7) (hN hs 8))) (fun hs=>by kernel_rfl) fun hs h1=>Eq.trans (y7l (hN hs 0) (hI hs 1) (hLn hs 3) (hLn hs 4) (hLn hs 5) (hN hs 6) (hN hs 7) (hN hs 8) big (hI hs 2)) (y7v (hN hs 0) (hI hs 1) (hLn hs 3) (hLn hs 4) (hLn hs 5) (hN hs 6) (hN hs 7) (hN hs 8) _ h1)
def tb9:List (Nat×(List PT→Option (Bool×AV×List Blk))):=(107,zj4)::(127,zj7)::(143,ze6)::tb8
def lt9:List ((Nat×Nat)×(Nat→St→Option (Bool×LO))):=((146,2),z5q)::((176,4),zsq)::lt8
def Γ9:Ctx:=⟨tyTab,fnTab,tblSum tb9,tblLp lt9⟩
theorem zyw:SumL J tb9:=SumL.cons y1t (SumL.cons y1x (SumL.cons zur (zu1)))
theorem y07:LpL J fnTab lt9:=LpL.cons za0 (LpL.cons y1n (ztw))
def zs4  : Option (Bool)→Option (AV×List Blk)
 | some r=>some ((.v (.one (.bool r))),[])
 | none=>none
def zrr:List PT→Option (Bool×AV×List Blk)
 | [.ptr [.row 1 q00 (.fl .f32 q03),.row 1 q02 (.fl .f32 q05),.row 1 q01 (.fl .f32 q04),.row 3 q06 (.fl .f32 q0b),.s (.int .i64 q0g),.s (.flt .f32 q0n),.s (.flt .f32 q0m)],.one (.s (.int .i64 i)),.one (.s (.flt .f32 q0q)),.one (.s (.flt .f32 q0p)),.one (.s (.flt .f32 q0o))]=>sF zs4 (z91 q00 q03 q02 q05 q01 q04 q06 q0b q0g q0n q0m i q0q q0p q0o)
 | _=>none
theorem ye0:ev8 Γ9 87 [.ptr [.row 1 a0 (.fl .f32 g1),.row 1 a2 (.fl .f32 g3),.row 1 a4 (.fl .f32 g5),.row 3 a6 (.fl .f32 g7),.s (.int .i64 c8),.s (.flt .f32 a9),.s (.flt .f32 a10)],.one (.s (.int .i64 c11)),.one (.s (.flt .f32 a12)),.one (.s (.flt .f32 a13)),.one (.s (.flt .f32 a14))]=zs4 (z91 a0 g1 a2 g3 a4 g5 a6 g7 c8 a9 a10 c11 a12 a13 a14):=tr2 (y75 a0 g1 a2 g3 a4 g5 a6 g7 c8 a9 a10 c11 a12 a13 a14 zs4 rfl (fun c0_=>some c0_)) (by kernel_rfl)
theorem y9u:SumOne J 87 zrr:=mkT zyw y07 fun pts v news hp=>by
 unfold zrr at hp
 split at hp
 ·exact fin3 (ye0 ..) hp
 ·cases hp
def zcj  : Option (Int×Int×Nat×Nat×Nat)→Option (AV×List Blk)
 | some r=>some ((.tup [(.one (.int .i64 r.1)),(.one (.int .i64 r.2.1)),(.one (.flt .f32 r.2.2.1)),(.one (.flt .f32 r.2.2.2.1)),(.one (.flt .f32 r.2.2.2.2))]),[])
 | none=>none
def zc3:List PT→Option (Bool×AV×List Blk)
 | [.agg [.row 1 q0i (.fl .f32 q0l),.row 1 q13 (.fl .f32 q1d),.row 1 q14 (.fl .f32 q1e)],.one (.s (.flt .f32 x1))]=>sF zcj (z0x q0i q0l q13 q1d q14 q1e x1)
 | _=>none
theorem zxj:ev8 Γ9 161 [.agg [.row 1 a0 (.fl .f32 g1),.row 1 a2 (.fl .f32 g3),.row 1 a4 (.fl .f32 g5)],.one (.s (.flt .f32 a6))]=zcj (z0x a0 g1 a2 g3 a4 g5 a6):=tr2 (zrc a0 g1 a2 g3 a4 g5 a6 zcj rfl (fun c0_ c1_ c2_ c3_ c4_=>some (c0_,c1_,c2_,c3_,c4_))) (by kernel_rfl)
theorem zt9:SumOne J 161 zc3:=mkT zyw y07 fun pts v news hp=>by
 unfold zc3 at hp
 split at hp
 ·exact fin3 (zxj ..) hp
 ·cases hp
def zq0  : Option (Int×Int×Nat×Nat)→Option (AV×List Blk)
 | some r=>some ((.tup [(.one (.int .i64 r.1)),(.one (.int .i64 r.2.1)),(.one (.flt .f32 r.2.2.1)),(.one (.flt .f32 r.2.2.2))]),[])
 | none=>none
def zqh:List PT→Option (Bool×AV×List Blk)
 | [.ptr [.row 1 q0i (.fl .f32 q0l),.row 1 q13 (.fl .f32 q1d),.row 1 q14 (.fl .f32 q1e)],.one (.s (.flt .f32 x1))]=>sF zq0 (z3b q0i q0l q13 q1d q14 q1e x1)
 | _=>none
theorem yd0:ev8 Γ9 176 [.ptr [.row 1 a0 (.fl .f32 g1),.row 1 a2 (.fl .f32 g3),.row 1 a4 (.fl .f32 g5)],.one (.s (.flt .f32 a6))]=zq0 (z3b a0 g1 a2 g3 a4 g5 a6):=tr2 (y51 a0 g1 a2 g3 a4 g5 a6 zq0 rfl (fun c0_ c1_ c2_ c3_=>some (c0_,c1_,c2_,c3_))) (by kernel_rfl)
theorem y8n:SumOne J 176 zqh:=mkT zyw y07 fun pts v news hp=>by
 unfold zqh at hp
 split at hp
 ·exact fin3 (yd0 ..) hp
 ·cases hp
def z87:St:=(.mk [(x0P 1 3 3),(x0V 42 0 a0 1),(x0I 43 c1),(x0I 44 c2)] [(x0L g3),(x0L g4),(x0L g5),(.mk true (.cells [(.vw 0 0 a6 1),(.vw 1 0 a7 1),(.vw 2 0 a8 1)]))])
def zb3(q2z:Nat)(t43:Int)(b0 b1 b2:List Nat)(q1l q20 q1z:Nat):St:=(.mk [(x0B 2 false)] [(x0L b0),(x0L b1),(x0L b2)])
def zau:St:=(.mk [(x0P 1 3 3),(x0V 42 0 a0 1),(x0I 43 c1),(x0I 44 c8),(x0B 45 e9)] [(x0L g2),(x0L g3),(x0L g4),(.mk true (.cells [(.vw 0 0 a5 1),(.vw 1 0 a6 1),(.vw 2 0 a7 1)]))])
def zce:Option ((Unit)⊕(Int×Bool))→Option (Ex×St)
 | none=>none
 | some (Sum.inl r)=>some (.ret,(zb3 a0 c1 g2 g3 g4 a5 a6 a7))
 | some (Sum.inr r)=>some ((.exit 0),(zau a0 c1 g2 g3 g4 a5 a6 a7 r.1 r.2))
def zim (x:Option ((Unit)⊕(Int×Bool))):LO:=(.two (oL x) (.one .ret (zb3 a0 c1 g2 g3 g4 a5 a6 a7)) (.one (.exit 0) (zau a0 c1 g2 g3 g4 a5 a6 a7 ((tR x).getD default).1 ((tR x).getD default).2)))
def zul:Bool×LO:=sL (zim a0 c1 g3 g4 g5 a6 a7 a8) (z0s a0 c1 g3 a6 big c2)
def zk6:Nat→St→Option (Bool×LO):=lpT 3 (pSt [(x1P 1 3 3),(x1V 42 0 1),(x1I 43),(x1I 44)] [x1L,x1L,x1L,(pBlk true (pCells [(pVw 0 (liN 0) 1),(pVw 1 (liN 0) 1),(pVw 2 (liN 0) 1)]))]) (fun hs=>zul (hN hs 0) (hI hs 1) (hI hs 2) (hLn hs 3) (hLn hs 4) (hLn hs 5) (hN hs 6) (hN hs 7) (hN hs 8))
theorem zxy:∀ x:Option ((Unit)⊕(Int×Bool)),x.isSome=true→(zce a0 c1 g2 g3 g4 a5 a6 a7) x=some (pick (zim a0 c1 g2 g3 g4 a5 a6 a7 x))
 | none,h=>by cases h
 | some (Sum.inl r),_=>rfl
 | some (Sum.inr r),_=>rfl
theorem zxg (K:Ex→St→Option (Ex×St)):ev9 Γ9 89 5 3 fi89 (z87 a0 c1 c2 g3 g4 g5 a6 a7 a8) K=z1p a0 c1 g3 a6 c2 (fun t44'=>K .normal (z87 a0 c1 t44' g3 g4 g5 a6 a7 a8)) (fun _=>K .ret (zb3 a0 c1 g3 g4 g5 a6 a7 a8)) (fun c0_ c1_=>K (.exit 0) (zau a0 c1 g3 g4 g5 a6 a7 a8 c0_ c1_)):=by kernel_rfl
theorem zyc:∀ (n:Nat) (t44:Int),iter 89 5 3 (ev9 Γ9 89 5 3 fi89) n (z87 a0 c1 t44 g2 g3 g4 a5 a6 a7) (fun e st=>some (e,st))=(zce a0 c1 g2 g3 g4 a5 a6 a7) (z0s a0 c1 g2 a5 n t44):=by
 intro n
 induction n with
 | zero=>intros;rfl
 | succ n ih=>
  intro t44
  refine Eq.trans (iter_succ ..) (Eq.trans (zxg ..) (Eq.trans ?_ (zs2 a0 c1 g2 a5 t44 (zce a0 c1 g2 g3 g4 a5 a6 a7) rfl (fun t44'=>z0s a0 c1 g2 a5 n t44') (fun _=>some (Sum.inl ())) (fun c0_ c1_=>some (Sum.inr (c0_,c1_))))))
  exact congrArg (fun kn_=>z1p a0 c1 g2 a5 t44 kn_ _ _) (funext fun t44'=>ih ..)
theorem zti:LoopOne J fnTab 89 5 zk6:=lpK zyw y07 (fi:=fi89) (by kernel_rfl) (by kernel_rfl) (q:=fun hs=>(z87 (hN hs 0) (hI hs 1) (hI hs 2) (hLn hs 3) (hLn hs 4) (hLn hs 5) (hN hs 6) (hN hs 7) (hN hs 8))) (fun hs=>by kernel_rfl) fun hs h1=>Eq.trans (zyc (hN hs 0) (hI hs 1) (hLn hs 3) (hLn hs 4) (hLn hs 5) (hN hs 6) (hN hs 7) (hN hs 8) big (hI hs 2)) (zxy (hN hs 0) (hI hs 1) (hLn hs 3) (hLn hs 4) (hLn hs 5) (hN hs 6) (hN hs 7) (hN hs 8) _ h1)
def tb10:List (Nat×(List PT→Option (Bool×AV×List Blk))):=(87,zrr)::(161,zc3)::(176,zqh)::tb9
def lt10:List ((Nat×Nat)×(Nat→St→Option (Bool×LO))):=((89,5),zk6)::lt9
def Γ10:Ctx:=⟨tyTab,fnTab,tblSum tb10,tblLp lt10⟩
theorem zze:SumL J tb10:=SumL.cons y9u (SumL.cons zt9 (SumL.cons y8n (zyw)))
theorem zyk:LpL J fnTab lt10:=LpL.cons zti (y07)
def zge  : Option (Bool)→Option (AV×List Blk)
 | some r=>some ((.v (.one (.bool r))),[])
 | none=>none
def zgg:List PT→Option (Bool×AV×List Blk)
 | [.agg [.row 1 q0i (.fl .f32 q0l),.row 1 q13 (.fl .f32 q1d),.row 1 q14 (.fl .f32 q1e)]]=>sF zge (z4e q0i q0l q13 q1d q14 q1e)
 | _=>none
theorem y4n:ev8 Γ10 89 [.agg [.row 1 a0 (.fl .f32 g1),.row 1 a2 (.fl .f32 g3),.row 1 a4 (.fl .f32 g5)]]=zge (z4e a0 g1 a2 g3 a4 g5):=tr2 (zwj a0 g1 a2 g3 a4 g5 zge rfl (fun c0_=>some c0_)) (by kernel_rfl)
theorem zxs:SumOne J 89 zgg:=mkT zze zyk fun pts v news hp=>by
 unfold zgg at hp
 split at hp
 ·exact fin3 (y4n ..) hp
 ·cases hp
def zjo  : Option (Nat)→Option (AV×List Blk)
 | some r=>some ((.v (.one (.flt .f32 r))),[])
 | none=>none
def zjc:List PT→Option (Bool×AV×List Blk)
 | [.agg [.row 1 q16 (.fl .f32 q1n),.row 1 q1a (.fl .f32 q1v),.row 1 q19 (.fl .f32 q1u)],.one (.row 1 q1i (.fl .f32 q1y)),.one (.s (.flt .f32 q28))]=>sF zjo (z5f q16 q1n q1a q1v q19 q1u q1i q1y q28)
 | _=>none
theorem y7n:ev8 Γ10 144 [.agg [.row 1 a0 (.fl .f32 g1),.row 1 a2 (.fl .f32 g3),.row 1 a4 (.fl .f32 g5)],.one (.row 1 a6 (.fl .f32 g7)),.one (.s (.flt .f32 a8))]=zjo (z5f a0 g1 a2 g3 a4 g5 a6 g7 a8):=tr2 (zyq a0 g1 a2 g3 a4 g5 a6 g7 a8 zjo rfl (fun c0_=>some c0_)) (by kernel_rfl)
theorem y19:SumOne J 144 zjc:=mkT zze zyk fun pts v news hp=>by
 unfold zjc at hp
 split at hp
 ·exact fin3 (y7n ..) hp
 ·cases hp
def zuq  : Option (Nat)→Option (AV×List Blk)
 | some r=>some ((.v (.one (.flt .f32 r))),[])
 | none=>none
def zvc:List PT→Option (Bool×AV×List Blk)
 | [.ptr [.row 1 q16 (.fl .f32 q1n),.row 1 q1a (.fl .f32 q1v),.row 1 q19 (.fl .f32 q1u)],.one (.row 1 q1i (.fl .f32 q1y)),.one (.s (.flt .f32 q28))]=>sF zuq (zae q16 q1n q1a q1v q19 q1u q1i q1y q28)
 | _=>none
theorem yex:ev8 Γ10 172 [.ptr [.row 1 a0 (.fl .f32 g1),.row 1 a2 (.fl .f32 g3),.row 1 a4 (.fl .f32 g5)],.one (.row 1 a6 (.fl .f32 g7)),.one (.s (.flt .f32 a8))]=zuq (zae a0 g1 a2 g3 a4 g5 a6 g7 a8):=tr2 (y9q a0 g1 a2 g3 a4 g5 a6 g7 a8 zuq rfl (fun c0_=>some c0_)) (by kernel_rfl)
theorem yau:SumOne J 172 zvc:=mkT zze zyk fun pts v news hp=>by
 unfold zvc at hp
 split at hp
 ·exact fin3 (yex ..) hp
 ·cases hp
def tb11:List (Nat×(List PT→Option (Bool×AV×List Blk))):=(89,zgg)::(144,zjc)::(172,zvc)::tb10
def lt11:List ((Nat×Nat)×(Nat→St→Option (Bool×LO))):=lt10
def Γ11:Ctx:=⟨tyTab,fnTab,tblSum tb11,tblLp lt11⟩
theorem zzr:SumL J tb11:=SumL.cons zxs (SumL.cons y19 (SumL.cons yau (zze)))
theorem zzz:LpL J fnTab lt11:=zyk
def zgp  : Option (Nat×Nat)→Option (AV×List Blk)
 | some r=>some ((.tup [(.one (.flt .f32 r.1)),(.one (.flt .f32 r.2))]),[])
 | none=>none
def zgo:List PT→Option (Bool×AV×List Blk)
 | [.agg [.row 1 q00 (.fl .f32 q03),.row 1 q02 (.fl .f32 q05),.row 1 q01 (.fl .f32 q04),.row 3 q06 (.fl .f32 q0b),.s (.int .i64 q0g),.s (.flt .f32 q0n),.s (.flt .f32 q0m)],.one (.s (.int .i64 i)),.one (.s (.flt .f32 q1j)),.one (.s (.flt .f32 q0o))]=>sF zgp (z2f q00 q03 q02 q05 q01 q04 q06 q0b q0g q0n q0m i q1j q0o)
 | _=>none
theorem y38:ev8 Γ11 106 [.agg [.row 1 a0 (.fl .f32 g1),.row 1 a2 (.fl .f32 g3),.row 1 a4 (.fl .f32 g5),.row 3 a6 (.fl .f32 g7),.s (.int .i64 c8),.s (.flt .f32 a9),.s (.flt .f32 a10)],.one (.s (.int .i64 c11)),.one (.s (.flt .f32 a12)),.one (.s (.flt .f32 a13))]=zgp (z2f a0 g1 a2 g3 a4 g5 a6 g7 c8 a9 a10 c11 a12 a13):=tr2 (zvx a0 g1 a2 g3 a4 g5 a6 g7 c8 a9 a10 c11 a12 a13 zgp rfl (fun c0_ c1_=>some (c0_,c1_))) (by kernel_rfl)
theorem zy2:SumOne J 106 zgo:=mkT zzr zzz fun pts v news hp=>by
 unfold zgo at hp
 split at hp
 ·exact fin3 (y38 ..) hp
 ·cases hp
def zqa  : Option (Nat)→Option (AV×List Blk)
 | some r=>some ((.v (.one (.flt .f32 r))),[])
 | none=>none
def zqj:List PT→Option (Bool×AV×List Blk)
 | [.ptr [.row 1 q16 (.fl .f32 q1n),.row 1 q1a (.fl .f32 q1v),.row 1 q19 (.fl .f32 q1u)],.one (.s (.flt .f32 q28))]=>sF zqa (z80 q16 q1n q1a q1v q19 q1u q28)
 | _=>none
theorem yd1:ev8 Γ11 165 [.ptr [.row 1 a0 (.fl .f32 g1),.row 1 a2 (.fl .f32 g3),.row 1 a4 (.fl .f32 g5)],.one (.s (.flt .f32 a6))]=zqa (z80 a0 g1 a2 g3 a4 g5 a6):=tr2 (y61 a0 g1 a2 g3 a4 g5 a6 zqa rfl (fun c0_=>some c0_)) (by kernel_rfl)
theorem y7x:SumOne J 165 zqj:=mkT zzr zzz fun pts v news hp=>by
 unfold zqj at hp
 split at hp
 ·exact fin3 (yd1 ..) hp
 ·cases hp
def zpz  : Option (Nat)→Option (AV×List Blk)
 | some r=>some ((.v (.one (.flt .f32 r))),[])
 | none=>none
def zpd:List PT→Option (Bool×AV×List Blk)
 | [.ptr [.row 1 q16 (.fl .f32 q1n),.row 1 q1a (.fl .f32 q1v),.row 1 q19 (.fl .f32 q1u)],.one (.s (.flt .f32 q28))]=>sF zpz (z83 q16 q1n q1a q1v q19 q1u q28)
 | _=>none
theorem yd6:ev8 Γ11 166 [.ptr [.row 1 a0 (.fl .f32 g1),.row 1 a2 (.fl .f32 g3),.row 1 a4 (.fl .f32 g5)],.one (.s (.flt .f32 a6))]=zpz (z83 a0 g1 a2 g3 a4 g5 a6):=tr2 (y55 a0 g1 a2 g3 a4 g5 a6 zpz rfl (fun c0_=>some c0_)) (by kernel_rfl)
theorem y7c:SumOne J 166 zpd:=mkT zzr zzz fun pts v news hp=>by
 unfold zpd at hp
 split at hp
 ·exact fin3 (yd6 ..) hp
 ·cases hp
def tb12:List (Nat×(List PT→Option (Bool×AV×List Blk))):=(106,zgo)::(165,zqj)::(166,zpd)::tb11
def lt12:List ((Nat×Nat)×(Nat→St→Option (Bool×LO))):=lt11
def Γ12:Ctx:=⟨tyTab,fnTab,tblSum tb12,tblLp lt12⟩
theorem zyu:SumL J tb12:=SumL.cons zy2 (SumL.cons y7x (SumL.cons y7c (zzr)))
theorem zyv:LpL J fnTab lt12:=zzz
def zgh  : Option (Nat×Nat)→Option (AV×List Blk)
 | some r=>some ((.tup [(.one (.flt .f32 r.1)),(.one (.flt .f32 r.2))]),[])
 | none=>none
def zgm:List PT→Option (Bool×AV×List Blk)
 | [.agg [.row 1 q00 (.fl .f32 q03),.row 1 q02 (.fl .f32 q05),.row 1 q01 (.fl .f32 q04),.row 3 q06 (.fl .f32 q0b),.s (.int .i64 q0g),.s (.flt .f32 q0n),.s (.flt .f32 q0m)],.one (.s (.int .i64 i)),.one (.s (.flt .f32 q1j)),.one (.s (.flt .f32 q0o))]=>sF zgh (z36 q00 q03 q02 q05 q01 q04 q06 q0b q0g q0n q0m i q1j q0o)
 | _=>none
theorem y47:ev8 Γ12 105 [.agg [.row 1 a0 (.fl .f32 g1),.row 1 a2 (.fl .f32 g3),.row 1 a4 (.fl .f32 g5),.row 3 a6 (.fl .f32 g7),.s (.int .i64 c8),.s (.flt .f32 a9),.s (.flt .f32 a10)],.one (.s (.int .i64 c11)),.one (.s (.flt .f32 a12)),.one (.s (.flt .f32 a13))]=zgh (z36 a0 g1 a2 g3 a4 g5 a6 g7 c8 a9 a10 c11 a12 a13):=tr2 (zw5 a0 g1 a2 g3 a4 g5 a6 g7 c8 a9 a10 c11 a12 a13 zgh rfl (fun c0_ c1_=>some (c0_,c1_))) (by kernel_rfl)
theorem zxc:SumOne J 105 zgm:=mkT zyu zyv fun pts v news hp=>by
 unfold zgm at hp
 split at hp
 ·exact fin3 (y47 ..) hp
 ·cases hp
def zlf  : Option (Nat×Nat)→Option (AV×List Blk)
 | some r=>some ((.tup [(.one (.flt .f32 r.1)),(.one (.flt .f32 r.2))]),[])
 | none=>none
def zlm:List PT→Option (Bool×AV×List Blk)
 | [.ptr [.row 1 q00 (.fl .f32 q03),.row 1 q02 (.fl .f32 q05),.row 1 q01 (.fl .f32 q04),.row 3 q06 (.fl .f32 q0b),.s (.int .i64 q0g),.s (.flt .f32 q0n),.s (.flt .f32 q0m)],.one (.s (.int .i64 i)),.one (.s (.flt .f32 q1j)),.one (.s (.flt .f32 q0o))]=>sF zlf (z4q q00 q03 q02 q05 q01 q04 q06 q0b q0g q0n q0m i q1j q0o)
 | _=>none
theorem y9i:ev8 Γ12 150 [.ptr [.row 1 a0 (.fl .f32 g1),.row 1 a2 (.fl .f32 g3),.row 1 a4 (.fl .f32 g5),.row 3 a6 (.fl .f32 g7),.s (.int .i64 c8),.s (.flt .f32 a9),.s (.flt .f32 a10)],.one (.s (.int .i64 c11)),.one (.s (.flt .f32 a12)),.one (.s (.flt .f32 a13))]=zlf (z4q a0 g1 a2 g3 a4 g5 a6 g7 c8 a9 a10 c11 a12 a13):=tr2 (y17 a0 g1 a2 g3 a4 g5 a6 g7 c8 a9 a10 c11 a12 a13 zlf rfl (fun c0_ c1_=>some (c0_,c1_))) (by kernel_rfl)
theorem y3z:SumOne J 150 zlm:=mkT zyu zyv fun pts v news hp=>by
 unfold zlm at hp
 split at hp
 ·exact fin3 (y9i ..) hp
 ·cases hp
def z9j:St:=(.mk [(x0P 1 4 7),(x0F 4 a0),(x0V 43 3 a1 3),(x0I 44 c2),(x0I 45 c3)] [(x0L g4),(x0L g5),(x0L g6),(x0L g7),(x0R true 0 1 2 3 a8 a9 a10 a11 c12 a13 a14)])
def zdl(q2x:Nat)(t44:Int)(b0 b1 b2 b3:List Nat)(q0w q0x q0y q0r:Nat)(q1b:Int)(q1c q0z:Nat):St:=(.mk [(x0B 2 false)] [(x0L b0),(x0L b1),(x0L b2),(x0L b3)])
def ze1:St:=(.mk [(x0P 1 4 7),(x0F 4 a13),(x0V 43 3 a0 3),(x0I 44 c1),(x0I 45 c14),(x0B 46 e15)] [(x0L g2),(x0L g3),(x0L g4),(x0L g5),(x0R true 0 1 2 3 a6 a7 a8 a9 c10 a11 a12)])
def zfb:Option ((Unit)⊕(Nat×Int×Bool))→Option (Ex×St)
 | none=>none
 | some (Sum.inl r)=>some (.ret,(zdl a0 c1 g2 g3 g4 g5 a6 a7 a8 a9 c10 a11 a12))
 | some (Sum.inr r)=>some ((.exit 0),(ze1 a0 c1 g2 g3 g4 g5 a6 a7 a8 a9 c10 a11 a12 r.1 r.2.1 r.2.2))
def zm7 (x:Option ((Unit)⊕(Nat×Int×Bool))):LO:=(.two (oL x) (.one .ret (zdl a0 c1 g2 g3 g4 g5 a6 a7 a8 a9 c10 a11 a12)) (.one (.exit 0) (ze1 a0 c1 g2 g3 g4 g5 a6 a7 a8 a9 c10 a11 a12 ((tR x).getD default).1 ((tR x).getD default).2.1 ((tR x).getD default).2.2)))
def zyf:Bool×LO:=sL (zm7 a1 c2 g4 g5 g6 g7 a8 a9 a10 a11 c12 a13 a14) (z0h a1 c2 g7 a14 big a0 c3)
def zob:Nat→St→Option (Bool×LO):=lpT 4 (pSt [(x1P 1 4 7),(x1F 4),(x1V 43 3 3),(x1I 44),(x1I 45)] [x1L,x1L,x1L,x1L,(x1R true 0 1 2 3)]) (fun hs=>zyf (hN hs 0) (hN hs 1) (hI hs 2) (hI hs 3) (hLn hs 4) (hLn hs 5) (hLn hs 6) (hLn hs 7) (hN hs 8) (hN hs 9) (hN hs 10) (hN hs 11) (hI hs 12) (hN hs 13) (hN hs 14))
theorem y1h:∀ x:Option ((Unit)⊕(Nat×Int×Bool)),x.isSome=true→(zfb a0 c1 g2 g3 g4 g5 a6 a7 a8 a9 c10 a11 a12) x=some (pick (zm7 a0 c1 g2 g3 g4 g5 a6 a7 a8 a9 c10 a11 a12 x))
 | none,h=>by cases h
 | some (Sum.inl r),_=>rfl
 | some (Sum.inr r),_=>rfl
theorem y2b (K:Ex→St→Option (Ex×St)):ev9 Γ12 51 6 4 fi51 (z9j a0 a1 c2 c3 g4 g5 g6 g7 a8 a9 a10 a11 c12 a13 a14) K=z25 a1 c2 g7 a14 a0 c3 (fun t4' t45'=>K .normal (z9j t4' a1 c2 t45' g4 g5 g6 g7 a8 a9 a10 a11 c12 a13 a14)) (fun _=>K .ret (zdl a1 c2 g4 g5 g6 g7 a8 a9 a10 a11 c12 a13 a14)) (fun c0_ c1_ c2_=>K (.exit 0) (ze1 a1 c2 g4 g5 g6 g7 a8 a9 a10 a11 c12 a13 a14 c0_ c1_ c2_)):=by kernel_rfl
theorem y14:∀ (n t4:Nat) (t45:Int),iter 51 6 4 (ev9 Γ12 51 6 4 fi51) n (z9j t4 a0 c1 t45 g2 g3 g4 g5 a6 a7 a8 a9 c10 a11 a12) (fun e st=>some (e,st))=(zfb a0 c1 g2 g3 g4 g5 a6 a7 a8 a9 c10 a11 a12) (z0h a0 c1 g5 a12 n t4 t45):=by
 intro n
 induction n with
 | zero=>intros;rfl
 | succ n ih=>
  intro t4 t45
  refine Eq.trans (iter_succ ..) (Eq.trans (y2b ..) (Eq.trans ?_ (zvp a0 c1 g5 a12 t4 t45 (zfb a0 c1 g2 g3 g4 g5 a6 a7 a8 a9 c10 a11 a12) rfl (fun t4' t45'=>z0h a0 c1 g5 a12 n t4' t45') (fun _=>some (Sum.inl ())) (fun c0_ c1_ c2_=>some (Sum.inr (c0_,c1_,c2_))))))
  exact congrArg (fun kn_=>z25 a0 c1 g5 a12 t4 t45 kn_ _ _) (funext fun t4'=>funext fun t45'=>ih ..)
theorem zwb:LoopOne J fnTab 51 6 zob:=lpK zyu zyv (fi:=fi51) (by kernel_rfl) (by kernel_rfl) (q:=fun hs=>(z9j (hN hs 0) (hN hs 1) (hI hs 2) (hI hs 3) (hLn hs 4) (hLn hs 5) (hLn hs 6) (hLn hs 7) (hN hs 8) (hN hs 9) (hN hs 10) (hN hs 11) (hI hs 12) (hN hs 13) (hN hs 14))) (fun hs=>by kernel_rfl) fun hs h1=>Eq.trans (y14 (hN hs 1) (hI hs 2) (hLn hs 4) (hLn hs 5) (hLn hs 6) (hLn hs 7) (hN hs 8) (hN hs 9) (hN hs 10) (hN hs 11) (hI hs 12) (hN hs 13) (hN hs 14) big (hN hs 0) (hI hs 3)) (y1h (hN hs 1) (hI hs 2) (hLn hs 4) (hLn hs 5) (hLn hs 6) (hLn hs 7) (hN hs 8) (hN hs 9) (hN hs 10) (hN hs 11) (hI hs 12) (hN hs 13) (hN hs 14) _ h1)
def tb13:List (Nat×(List PT→Option (Bool×AV×List Blk))):=(105,zgm)::(150,zlm)::tb12
def lt13:List ((Nat×Nat)×(Nat→St→Option (Bool×LO))):=((51,6),zob)::lt12
def Γ13:Ctx:=⟨tyTab,fnTab,tblSum tb13,tblLp lt13⟩
theorem zz2:SumL J tb13:=SumL.cons zxc (SumL.cons y3z (zyu))
theorem y0e:LpL J fnTab lt13:=LpL.cons zwb (zyv)
def zjy  : Option (Bool)→Option (AV×List Blk)
 | some r=>some ((.v (.one (.bool r))),[])
 | none=>none
def zix:List PT→Option (Bool×AV×List Blk)
 | [.agg [.row 1 q07 (.fl .f32 q0a),.row 1 q08 (.fl .f32 q0d),.row 1 q09 (.fl .f32 q0c),.row 3 q0e (.fl .f32 q0f),.s (.int .i64 q0h),.s (.flt .f32 q0j),.s (.flt .f32 q0k)]]=>sF zjy (z5j q07 q0a q08 q0d q09 q0c q0e q0f q0h q0j q0k)
 | _=>none
theorem y87:ev8 Γ13 51 [.agg [.row 1 a0 (.fl .f32 g1),.row 1 a2 (.fl .f32 g3),.row 1 a4 (.fl .f32 g5),.row 3 a6 (.fl .f32 g7),.s (.int .i64 c8),.s (.flt .f32 a9),.s (.flt .f32 a10)]]=zjy (z5j a0 g1 a2 g3 a4 g5 a6 g7 c8 a9 a10):=tr2 (zyx a0 g1 a2 g3 a4 g5 a6 g7 c8 a9 a10 zjy rfl (fun c0_=>some c0_)) (by kernel_rfl)
theorem y0i:SumOne J 51 zix:=mkT zz2 y0e fun pts v news hp=>by
 unfold zix at hp
 split at hp
 ·exact fin3 (y87 ..) hp
 ·cases hp
def zql  : Option (Nat×Nat×Nat×Nat)→Option (AV×List Blk)
 | some r=>some ((.tup [(.one (.flt .f32 r.1)),(.one (.flt .f32 r.2.1)),(.one (.flt .f32 r.2.2.1)),(.one (.flt .f32 r.2.2.2))]),[])
 | none=>none
def zpe:List PT→Option (Bool×AV×List Blk)
 | [.ptr [.row 1 q00 (.fl .f32 q03),.row 1 q02 (.fl .f32 q05),.row 1 q01 (.fl .f32 q04),.row 3 q06 (.fl .f32 q0b),.s (.int .i64 q0g),.s (.flt .f32 q0n),.s (.flt .f32 q0m)],.one (.s (.int .i64 i)),.one (.s (.flt .f32 q1j)),.one (.s (.flt .f32 q0o))]=>sF zql (z46 q00 q03 q02 q05 q01 q04 q06 q0b q0g q0n q0m i q1j q0o)
 | _=>none
theorem ycv:ev8 Γ13 130 [.ptr [.row 1 a0 (.fl .f32 g1),.row 1 a2 (.fl .f32 g3),.row 1 a4 (.fl .f32 g5),.row 3 a6 (.fl .f32 g7),.s (.int .i64 c8),.s (.flt .f32 a9),.s (.flt .f32 a10)],.one (.s (.int .i64 c11)),.one (.s (.flt .f32 a12)),.one (.s (.flt .f32 a13))]=zql (z46 a0 g1 a2 g3 a4 g5 a6 g7 c8 a9 a10 c11 a12 a13):=tr2 (y5n a0 g1 a2 g3 a4 g5 a6 g7 c8 a9 a10 c11 a12 a13 zql rfl (fun c0_ c1_ c2_ c3_=>some (c0_,c1_,c2_,c3_))) (by kernel_rfl)
theorem y7f:SumOne J 130 zpe:=mkT zz2 y0e fun pts v news hp=>by
 unfold zpe at hp
 split at hp
 ·exact fin3 (ycv ..) hp
 ·cases hp
def zeq  : Option (Nat)→Option (AV×List Blk)
 | some r=>some ((.v (.one (.flt .f32 r))),[])
 | none=>none
def zfu:List PT→Option (Bool×AV×List Blk)
 | [.agg [.row 1 q00 (.fl .f32 q03),.row 1 q02 (.fl .f32 q05),.row 1 q01 (.fl .f32 q04),.row 3 q06 (.fl .f32 q0b),.s (.int .i64 q0g),.s (.flt .f32 q0n),.s (.flt .f32 q0m)],.one (.s (.int .i64 i)),.one (.s (.flt .f32 q1j)),.one (.s (.flt .f32 q0q)),.one (.s (.flt .f32 q0p)),.one (.s (.flt .f32 q0o))]=>sF zeq (z2r q00 q03 q02 q05 q01 q04 q06 q0b q0g q0n q0m i q1j q0q q0p q0o)
 | _=>none
theorem y23:ev8 Γ13 157 [.agg [.row 1 a0 (.fl .f32 g1),.row 1 a2 (.fl .f32 g3),.row 1 a4 (.fl .f32 g5),.row 3 a6 (.fl .f32 g7),.s (.int .i64 c8),.s (.flt .f32 a9),.s (.flt .f32 a10)],.one (.s (.int .i64 c11)),.one (.s (.flt .f32 a12)),.one (.s (.flt .f32 a13)),.one (.s (.flt .f32 a14)),.one (.s (.flt .f32 a15))]=zeq (z2r a0 g1 a2 g3 a4 g5 a6 g7 c8 a9 a10 c11 a12 a13 a14 a15):=tr2 (zuw a0 g1 a2 g3 a4 g5 a6 g7 c8 a9 a10 c11 a12 a13 a14 a15 zeq rfl (fun c0_=>some c0_)) (by kernel_rfl)
theorem zvr:SumOne J 157 zfu:=mkT zz2 y0e fun pts v news hp=>by
 unfold zfu at hp
 split at hp
 ·exact fin3 (y23 ..) hp
 ·cases hp
def tb14:List (Nat×(List PT→Option (Bool×AV×List Blk))):=(51,zix)::(130,zpe)::(157,zfu)::tb13
def lt14:List ((Nat×Nat)×(Nat→St→Option (Bool×LO))):=lt13
def Γ14:Ctx:=⟨tyTab,fnTab,tblSum tb14,tblLp lt14⟩
theorem y6u:SumL J tb14:=SumL.cons y0i (SumL.cons y7f (SumL.cons zvr (zz2)))
theorem y6q:LpL J fnTab lt14:=y0e
def zph  : Option (Bool)→Option (AV×List Blk)
 | some r=>some ((.v (.one (.bool r))),[])
 | none=>none
def zqd:List PT→Option (Bool×AV×List Blk)
 | [.agg [.row 1 q00 (.fl .f32 q03),.row 1 q02 (.fl .f32 q05),.row 1 q01 (.fl .f32 q04),.row 3 q06 (.fl .f32 q0b),.s (.int .i64 q0g),.s (.flt .f32 q0n),.s (.flt .f32 q0m)],.one (.s (.int .i64 i)),.one (.s (.flt .f32 q0q)),.one (.s (.flt .f32 q0p)),.one (.s (.flt .f32 q0o))]=>sF zph (z7q q00 q03 q02 q05 q01 q04 q06 q0b q0g q0n q0m i q0q q0p q0o)
 | _=>none
theorem yd5:ev8 Γ14 139 [.agg [.row 1 a0 (.fl .f32 g1),.row 1 a2 (.fl .f32 g3),.row 1 a4 (.fl .f32 g5),.row 3 a6 (.fl .f32 g7),.s (.int .i64 c8),.s (.flt .f32 a9),.s (.flt .f32 a10)],.one (.s (.int .i64 c11)),.one (.s (.flt .f32 a12)),.one (.s (.flt .f32 a13)),.one (.s (.flt .f32 a14))]=zph (z7q a0 g1 a2 g3 a4 g5 a6 g7 c8 a9 a10 c11 a12 a13 a14):=tr2 (y54 a0 g1 a2 g3 a4 g5 a6 g7 c8 a9 a10 c11 a12 a13 a14 zph rfl (fun c0_=>some c0_)) (by kernel_rfl)
theorem y7u:SumOne J 139 zqd:=mkT y6u y6q fun pts v news hp=>by
 unfold zqd at hp
 split at hp
 ·exact fin3 (yd5 ..) hp
 ·cases hp
def ziy  : Option (Nat)→Option (AV×List Blk)
 | some r=>some ((.v (.one (.flt .f32 r))),[])
 | none=>none
def zjt:List PT→Option (Bool×AV×List Blk)
 | [.ptr [.row 1 q00 (.fl .f32 q03),.row 1 q02 (.fl .f32 q05),.row 1 q01 (.fl .f32 q04),.row 3 q06 (.fl .f32 q0b),.s (.int .i64 q0g),.s (.flt .f32 q0n),.s (.flt .f32 q0m)],.one (.s (.int .i64 i)),.one (.s (.flt .f32 q1j)),.one (.s (.flt .f32 q0q)),.one (.s (.flt .f32 q0p)),.one (.s (.flt .f32 q0o))]=>sF ziy (z3a q00 q03 q02 q05 q01 q04 q06 q0b q0g q0n q0m i q1j q0q q0p q0o)
 | _=>none
theorem y76:ev8 Γ14 149 [.ptr [.row 1 a0 (.fl .f32 g1),.row 1 a2 (.fl .f32 g3),.row 1 a4 (.fl .f32 g5),.row 3 a6 (.fl .f32 g7),.s (.int .i64 c8),.s (.flt .f32 a9),.s (.flt .f32 a10)],.one (.s (.int .i64 c11)),.one (.s (.flt .f32 a12)),.one (.s (.flt .f32 a13)),.one (.s (.flt .f32 a14)),.one (.s (.flt .f32 a15))]=ziy (z3a a0 g1 a2 g3 a4 g5 a6 g7 c8 a9 a10 c11 a12 a13 a14 a15):=tr2 (zz4 a0 g1 a2 g3 a4 g5 a6 g7 c8 a9 a10 c11 a12 a13 a14 a15 ziy rfl (fun c0_=>some c0_)) (by kernel_rfl)
theorem y0s:SumOne J 149 zjt:=mkT y6u y6q fun pts v news hp=>by
 unfold zjt at hp
 split at hp
 ·exact fin3 (y76 ..) hp
 ·cases hp
def tb15:List (Nat×(List PT→Option (Bool×AV×List Blk))):=(139,zqd)::(149,zjt)::tb14
def lt15:List ((Nat×Nat)×(Nat→St→Option (Bool×LO))):=lt14
def Γ15:Ctx:=⟨tyTab,fnTab,tblSum tb15,tblLp lt15⟩
theorem yd2:SumL J tb15:=SumL.cons y7u (SumL.cons y0s (y6u))
theorem ydj:LpL J fnTab lt15:=y6q
def zkj  : Option (Nat×Bool)→Option (AV×List Blk)
 | some r=>some ((.tup [(.one (.flt .f32 r.1)),(.one (.bool r.2))]),[])
 | none=>none
def zku:List PT→Option (Bool×AV×List Blk)
 | [.agg [.row 1 q00 (.fl .f32 q03),.row 1 q02 (.fl .f32 q05),.row 1 q01 (.fl .f32 q04),.row 3 q06 (.fl .f32 q0b),.s (.int .i64 q0g),.s (.flt .f32 q0n),.s (.flt .f32 q0m)],.one (.s (.int .i64 i)),.one (.s (.flt .f32 q1j)),.one (.s (.flt .f32 q0q)),.one (.s (.flt .f32 q0p)),.one (.s (.flt .f32 q0o))]=>sF zkj (z4r q00 q03 q02 q05 q01 q04 q06 q0b q0g q0n q0m i q1j q0q q0p q0o)
 | _=>none
theorem yaj:ev8 Γ15 140 [.agg [.row 1 a0 (.fl .f32 g1),.row 1 a2 (.fl .f32 g3),.row 1 a4 (.fl .f32 g5),.row 3 a6 (.fl .f32 g7),.s (.int .i64 c8),.s (.flt .f32 a9),.s (.flt .f32 a10)],.one (.s (.int .i64 c11)),.one (.s (.flt .f32 a12)),.one (.s (.flt .f32 a13)),.one (.s (.flt .f32 a14)),.one (.s (.flt .f32 a15))]=zkj (z4r a0 g1 a2 g3 a4 g5 a6 g7 c8 a9 a10 c11 a12 a13 a14 a15):=tr2 (y1r a0 g1 a2 g3 a4 g5 a6 g7 c8 a9 a10 c11 a12 a13 a14 a15 zkj rfl (fun c0_ c1_=>some (c0_,c1_))) (by kernel_rfl)
theorem y44:SumOne J 140 zku:=mkT yd2 ydj fun pts v news hp=>by
 unfold zku at hp
 split at hp
 ·exact fin3 (yaj ..) hp
 ·cases hp
def tb16:List (Nat×(List PT→Option (Bool×AV×List Blk))):=(140,zku)::tb15
def lt16:List ((Nat×Nat)×(Nat→St→Option (Bool×LO))):=lt15
def Γ16:Ctx:=⟨tyTab,fnTab,tblSum tb16,tblLp lt16⟩
theorem yc1:SumL J tb16:=SumL.cons y44 (yd2)
theorem yc8:LpL J fnTab lt16:=ydj
def zag:St:=(.mk [(x0P 0 4 7),(x0I 1 c0),(x0F 2 a1),(x0F 3 a2),(x0F 4 a3),(x0F 12 a4),(x0F 13 a5),(x0I 14 c6)] [(x0L g7),(x0L g8),(x0L g9),(x0L g10),(x0R false 0 1 2 3 a11 a12 a13 a14 c15 a16 a17)])
def zfo(i:Int)(q0q q0p q0o:Nat)(b0 b1 b2 b3:List Nat)(q0w q0x q0y q0r:Nat)(q1b:Int)(q1c q0z:Nat):St:=(.mk [(x0F 10 0),(x0B 11 false)] [(x0L b0),(x0L b1),(x0L b2),(x0L b3),(x0R false 0 1 2 3 q0w q0x q0y q0r q1b q1c q0z)])
def zfi:St:=(.mk [(x0P 0 4 7),(x0I 1 c0),(x0F 2 a1),(x0F 3 a2),(x0F 4 a3),(x0F 12 a15),(x0F 13 a16),(x0I 14 c17),(x0B 18 e18)] [(x0L g4),(x0L g5),(x0L g6),(x0L g7),(x0R false 0 1 2 3 a8 a9 a10 a11 c12 a13 a14)])
def zgq:Option ((Unit)⊕(Nat×Nat×Int×Bool))→Option (Ex×St)
 | none=>none
 | some (Sum.inl r)=>some (.ret,(zfo c0 a1 a2 a3 g4 g5 g6 g7 a8 a9 a10 a11 c12 a13 a14))
 | some (Sum.inr r)=>some ((.exit 0),(zfi c0 a1 a2 a3 g4 g5 g6 g7 a8 a9 a10 a11 c12 a13 a14 r.1 r.2.1 r.2.2.1 r.2.2.2))
def zn8 (x:Option ((Unit)⊕(Nat×Nat×Int×Bool))):LO:=(.two (oL x) (.one .ret (zfo c0 a1 a2 a3 g4 g5 g6 g7 a8 a9 a10 a11 c12 a13 a14)) (.one (.exit 0) (zfi c0 a1 a2 a3 g4 g5 g6 g7 a8 a9 a10 a11 c12 a13 a14 ((tR x).getD default).1 ((tR x).getD default).2.1 ((tR x).getD default).2.2.1 ((tR x).getD default).2.2.2)))
def zzo:Bool×LO:=sL (zn8 c0 a1 a2 a3 g7 g8 g9 g10 a11 a12 a13 a14 c15 a16 a17) (z0j c0 a1 a2 a3 g7 g8 g9 g10 a11 a12 a13 a14 c15 a16 a17 big a4 a5 c6)
def zox:Nat→St→Option (Bool×LO):=lpT 5 (pSt [(x1P 0 4 7),(x1I 1),(x1F 2),(x1F 3),(x1F 4),(x1F 12),(x1F 13),(x1I 14)] [x1L,x1L,x1L,x1L,(x1R false 0 1 2 3)]) (fun hs=>zzo (hI hs 0) (hN hs 1) (hN hs 2) (hN hs 3) (hN hs 4) (hN hs 5) (hI hs 6) (hLn hs 7) (hLn hs 8) (hLn hs 9) (hLn hs 10) (hN hs 11) (hN hs 12) (hN hs 13) (hN hs 14) (hI hs 15) (hN hs 16) (hN hs 17))
theorem y3d:∀ x:Option ((Unit)⊕(Nat×Nat×Int×Bool)),x.isSome=true→(zgq c0 a1 a2 a3 g4 g5 g6 g7 a8 a9 a10 a11 c12 a13 a14) x=some (pick (zn8 c0 a1 a2 a3 g4 g5 g6 g7 a8 a9 a10 a11 c12 a13 a14 x))
 | none,h=>by cases h
 | some (Sum.inl r),_=>rfl
 | some (Sum.inr r),_=>rfl
theorem y43 (K:Ex→St→Option (Ex×St)):ev9 Γ16 129 4 5 fi129 (zag c0 a1 a2 a3 a4 a5 c6 g7 g8 g9 g10 a11 a12 a13 a14 c15 a16 a17) K=z2e c0 a1 a2 a3 g7 g8 g9 g10 a11 a12 a13 a14 c15 a16 a17 a4 a5 c6 (fun low' q1w' k'=>K .normal (zag c0 a1 a2 a3 low' q1w' k' g7 g8 g9 g10 a11 a12 a13 a14 c15 a16 a17)) (fun _=>K .ret (zfo c0 a1 a2 a3 g7 g8 g9 g10 a11 a12 a13 a14 c15 a16 a17)) (fun c0_ c1_ c2_ c3_=>K (.exit 0) (zfi c0 a1 a2 a3 g7 g8 g9 g10 a11 a12 a13 a14 c15 a16 a17 c0_ c1_ c2_ c3_)):=by kernel_rfl
theorem y34:∀ (n low q1w:Nat) (k:Int),iter 129 4 5 (ev9 Γ16 129 4 5 fi129) n (zag c0 a1 a2 a3 low q1w k g4 g5 g6 g7 a8 a9 a10 a11 c12 a13 a14) (fun e st=>some (e,st))=(zgq c0 a1 a2 a3 g4 g5 g6 g7 a8 a9 a10 a11 c12 a13 a14) (z0j c0 a1 a2 a3 g4 g5 g6 g7 a8 a9 a10 a11 c12 a13 a14 n low q1w k):=by
 intro n
 induction n with
 | zero=>intros;rfl
 | succ n ih=>
  intro low q1w k
  refine Eq.trans (iter_succ ..) (Eq.trans (y43 ..) (Eq.trans ?_ (zw4 c0 a1 a2 a3 g4 g5 g6 g7 a8 a9 a10 a11 c12 a13 a14 low q1w k (zgq c0 a1 a2 a3 g4 g5 g6 g7 a8 a9 a10 a11 c12 a13 a14) rfl (fun low' q1w' k'=>z0j c0 a1 a2 a3 g4 g5 g6 g7 a8 a9 a10 a11 c12 a13 a14 n low' q1w' k') (fun _=>some (Sum.inl ())) (fun c0_ c1_ c2_ c3_=>some (Sum.inr (c0_,c1_,c2_,c3_))))))
  exact congrArg (fun kn_=>z2e c0 a1 a2 a3 g4 g5 g6 g7 a8 a9 a10 a11 c12 a13 a14 low q1w k kn_ _ _) (funext fun low'=>funext fun q1w'=>funext fun k'=>ih ..)
theorem zxu:LoopOne J fnTab 129 4 zox:=lpK yc1 yc8 (fi:=fi129) (by kernel_rfl) (by kernel_rfl) (q:=fun hs=>(zag (hI hs 0) (hN hs 1) (hN hs 2) (hN hs 3) (hN hs 4) (hN hs 5) (hI hs 6) (hLn hs 7) (hLn hs 8) (hLn hs 9) (hLn hs 10) (hN hs 11) (hN hs 12) (hN hs 13) (hN hs 14) (hI hs 15) (hN hs 16) (hN hs 17))) (fun hs=>by kernel_rfl) fun hs h1=>Eq.trans (y34 (hI hs 0) (hN hs 1) (hN hs 2) (hN hs 3) (hLn hs 7) (hLn hs 8) (hLn hs 9) (hLn hs 10) (hN hs 11) (hN hs 12) (hN hs 13) (hN hs 14) (hI hs 15) (hN hs 16) (hN hs 17) big (hN hs 4) (hN hs 5) (hI hs 6)) (y3d (hI hs 0) (hN hs 1) (hN hs 2) (hN hs 3) (hLn hs 7) (hLn hs 8) (hLn hs 9) (hLn hs 10) (hN hs 11) (hN hs 12) (hN hs 13) (hN hs 14) (hI hs 15) (hN hs 16) (hN hs 17) _ h1)
def tb17:List (Nat×(List PT→Option (Bool×AV×List Blk))):=tb16
def lt17:List ((Nat×Nat)×(Nat→St→Option (Bool×LO))):=((129,4),zox)::lt16
def Γ17:Ctx:=⟨tyTab,fnTab,tblSum tb17,tblLp lt17⟩
theorem y6r:SumL J tb17:=yc1
theorem y6n:LpL J fnTab lt17:=LpL.cons zxu (yc8)
def zm4  : Option (Nat×Bool)→Option (AV×List Blk)
 | some r=>some ((.tup [(.one (.flt .f32 r.1)),(.one (.bool r.2))]),[])
 | none=>none
def zlx:List PT→Option (Bool×AV×List Blk)
 | [.ptr [.row 1 q00 (.fl .f32 q03),.row 1 q02 (.fl .f32 q05),.row 1 q01 (.fl .f32 q04),.row 3 q06 (.fl .f32 q0b),.s (.int .i64 q0g),.s (.flt .f32 q0n),.s (.flt .f32 q0m)],.one (.s (.int .i64 i)),.one (.s (.flt .f32 q0q)),.one (.s (.flt .f32 q0p)),.one (.s (.flt .f32 q0o))]=>sF zm4 (z4t q00 q03 q02 q05 q01 q04 q06 q0b q0g q0n q0m i q0q q0p q0o)
 | _=>none
theorem y9t:ev8 Γ17 129 [.ptr [.row 1 a0 (.fl .f32 g1),.row 1 a2 (.fl .f32 g3),.row 1 a4 (.fl .f32 g5),.row 3 a6 (.fl .f32 g7),.s (.int .i64 c8),.s (.flt .f32 a9),.s (.flt .f32 a10)],.one (.s (.int .i64 c11)),.one (.s (.flt .f32 a12)),.one (.s (.flt .f32 a13)),.one (.s (.flt .f32 a14))]=zm4 (z4t a0 g1 a2 g3 a4 g5 a6 g7 c8 a9 a10 c11 a12 a13 a14):=tr2 (y1s a0 g1 a2 g3 a4 g5 a6 g7 c8 a9 a10 c11 a12 a13 a14 zm4 rfl (fun c0_ c1_=>some (c0_,c1_))) (by kernel_rfl)
theorem y4r:SumOne J 129 zlx:=mkT y6r y6n fun pts v news hp=>by
 unfold zlx at hp
 split at hp
 ·exact fin3 (y9t ..) hp
 ·cases hp
def zey:St:=(.mk [(x0I 1 c0),(x0F 2 a1),(x0F 3 a2),(x0F 4 a3),(x0P 5 4 7),(x0F 12 a4),(x0F 13 a5),(x0I 24 c6)] [(x0L g7),(x0L g8),(x0L g9),(x0L g10),(x0R true 0 1 2 3 a11 a12 a13 a14 c15 a16 a17)])
def zjj(i:Int)(q0q q0p q0o:Nat)(b0 b1 b2 b3:List Nat)(q0w q0x q0y q0r:Nat)(q1b:Int)(q1c q0z:Nat):St:=(.mk [(x0F 10 0),(x0B 11 false)] [(x0L b0),(x0L b1),(x0L b2),(x0L b3)])
def zje:St:=(.mk [(x0I 1 c0),(x0F 2 a1),(x0F 3 a2),(x0F 4 a3),(x0P 5 4 7),(x0F 12 a15),(x0F 13 a16),(x0I 24 c17),(x0B 25 e18)] [(x0L g4),(x0L g5),(x0L g6),(x0L g7),(x0R true 0 1 2 3 a8 a9 a10 a11 c12 a13 a14)])
def zls:Option ((Unit)⊕(Nat×Nat×Int×Bool))→Option (Ex×St)
 | none=>none
 | some (Sum.inl r)=>some (.ret,(zjj c0 a1 a2 a3 g4 g5 g6 g7 a8 a9 a10 a11 c12 a13 a14))
 | some (Sum.inr r)=>some ((.exit 0),(zje c0 a1 a2 a3 g4 g5 g6 g7 a8 a9 a10 a11 c12 a13 a14 r.1 r.2.1 r.2.2.1 r.2.2.2))
def zsj (x:Option ((Unit)⊕(Nat×Nat×Int×Bool))):LO:=(.two (oL x) (.one .ret (zjj c0 a1 a2 a3 g4 g5 g6 g7 a8 a9 a10 a11 c12 a13 a14)) (.one (.exit 0) (zje c0 a1 a2 a3 g4 g5 g6 g7 a8 a9 a10 a11 c12 a13 a14 ((tR x).getD default).1 ((tR x).getD default).2.1 ((tR x).getD default).2.2.1 ((tR x).getD default).2.2.2)))
def y5x:Bool×LO:=sL (zsj c0 a1 a2 a3 g7 g8 g9 g10 a11 a12 a13 a14 c15 a16 a17) (z0w c0 a1 a2 a3 g7 g8 g9 g10 a11 a12 a13 a14 c15 a16 a17 big a4 a5 c6)
def zv3:Nat→St→Option (Bool×LO):=lpT 4 (pSt [(x1I 1),(x1F 2),(x1F 3),(x1F 4),(x1P 5 4 7),(x1F 12),(x1F 13),(x1I 24)] [x1L,x1L,x1L,x1L,(x1R true 0 1 2 3)]) (fun hs=>y5x (hI hs 0) (hN hs 1) (hN hs 2) (hN hs 3) (hN hs 4) (hN hs 5) (hI hs 6) (hLn hs 7) (hLn hs 8) (hLn hs 9) (hLn hs 10) (hN hs 11) (hN hs 12) (hN hs 13) (hN hs 14) (hI hs 15) (hN hs 16) (hN hs 17))
theorem y9s:∀ x:Option ((Unit)⊕(Nat×Nat×Int×Bool)),x.isSome=true→(zls c0 a1 a2 a3 g4 g5 g6 g7 a8 a9 a10 a11 c12 a13 a14) x=some (pick (zsj c0 a1 a2 a3 g4 g5 g6 g7 a8 a9 a10 a11 c12 a13 a14 x))
 | none,h=>by cases h
 | some (Sum.inl r),_=>rfl
 | some (Sum.inr r),_=>rfl
theorem y98 (K:Ex→St→Option (Ex×St)):ev9 Γ17 104 5 4 fi104 (zey c0 a1 a2 a3 a4 a5 c6 g7 g8 g9 g10 a11 a12 a13 a14 c15 a16 a17) K=z3w c0 a1 a2 a3 g7 g8 g9 g10 a11 a12 a13 a14 c15 a16 a17 a4 a5 c6 (fun low' q1w' t24'=>K .normal (zey c0 a1 a2 a3 low' q1w' t24' g7 g8 g9 g10 a11 a12 a13 a14 c15 a16 a17)) (fun _=>K .ret (zjj c0 a1 a2 a3 g7 g8 g9 g10 a11 a12 a13 a14 c15 a16 a17)) (fun c0_ c1_ c2_ c3_=>K (.exit 0) (zje c0 a1 a2 a3 g7 g8 g9 g10 a11 a12 a13 a14 c15 a16 a17 c0_ c1_ c2_ c3_)):=by kernel_rfl
theorem ya9:∀ (n low q1w:Nat) (t24:Int),iter 104 5 4 (ev9 Γ17 104 5 4 fi104) n (zey c0 a1 a2 a3 low q1w t24 g4 g5 g6 g7 a8 a9 a10 a11 c12 a13 a14) (fun e st=>some (e,st))=(zls c0 a1 a2 a3 g4 g5 g6 g7 a8 a9 a10 a11 c12 a13 a14) (z0w c0 a1 a2 a3 g4 g5 g6 g7 a8 a9 a10 a11 c12 a13 a14 n low q1w t24):=by
 intro n
 induction n with
 | zero=>intros;rfl
 | succ n ih=>
  intro low q1w t24
  refine Eq.trans (iter_succ ..) (Eq.trans (y98 ..) (Eq.trans ?_ (y0f c0 a1 a2 a3 g4 g5 g6 g7 a8 a9 a10 a11 c12 a13 a14 low q1w t24 (zls c0 a1 a2 a3 g4 g5 g6 g7 a8 a9 a10 a11 c12 a13 a14) rfl (fun low' q1w' t24'=>z0w c0 a1 a2 a3 g4 g5 g6 g7 a8 a9 a10 a11 c12 a13 a14 n low' q1w' t24') (fun _=>some (Sum.inl ())) (fun c0_ c1_ c2_ c3_=>some (Sum.inr (c0_,c1_,c2_,c3_))))))
  exact congrArg (fun kn_=>z3w c0 a1 a2 a3 g4 g5 g6 g7 a8 a9 a10 a11 c12 a13 a14 low q1w t24 kn_ _ _) (funext fun low'=>funext fun q1w'=>funext fun t24'=>ih ..)
theorem y4h:LoopOne J fnTab 104 5 zv3:=lpK y6r y6n (fi:=fi104) (by kernel_rfl) (by kernel_rfl) (q:=fun hs=>(zey (hI hs 0) (hN hs 1) (hN hs 2) (hN hs 3) (hN hs 4) (hN hs 5) (hI hs 6) (hLn hs 7) (hLn hs 8) (hLn hs 9) (hLn hs 10) (hN hs 11) (hN hs 12) (hN hs 13) (hN hs 14) (hI hs 15) (hN hs 16) (hN hs 17))) (fun hs=>by kernel_rfl) fun hs h1=>Eq.trans (ya9 (hI hs 0) (hN hs 1) (hN hs 2) (hN hs 3) (hLn hs 7) (hLn hs 8) (hLn hs 9) (hLn hs 10) (hN hs 11) (hN hs 12) (hN hs 13) (hN hs 14) (hI hs 15) (hN hs 16) (hN hs 17) big (hN hs 4) (hN hs 5) (hI hs 6)) (y9s (hI hs 0) (hN hs 1) (hN hs 2) (hN hs 3) (hLn hs 7) (hLn hs 8) (hLn hs 9) (hLn hs 10) (hN hs 11) (hN hs 12) (hN hs 13) (hN hs 14) (hI hs 15) (hN hs 16) (hN hs 17) _ h1)
def tb18:List (Nat×(List PT→Option (Bool×AV×List Blk))):=(129,zlx)::tb17
def lt18:List ((Nat×Nat)×(Nat→St→Option (Bool×LO))):=((104,5),zv3)::lt17
def Γ18:Ctx:=⟨tyTab,fnTab,tblSum tb18,tblLp lt18⟩
theorem y6s:SumL J tb18:=SumL.cons y4r (y6r)
theorem y6o:LpL J fnTab lt18:=LpL.cons y4h (y6n)
def zlk  : Option (Nat×Nat×Bool)→Option (AV×List Blk)
 | some r=>some ((.tup [(.one (.flt .f32 r.1)),(.one (.flt .f32 r.2.1)),(.one (.bool r.2.2))]),[])
 | none=>none
def zm1:List PT→Option (Bool×AV×List Blk)
 | [.ptr [.row 1 q07 (.fl .f32 q0a),.row 1 q08 (.fl .f32 q0d),.row 1 q09 (.fl .f32 q0c),.row 3 q0e (.fl .f32 q0f),.s (.int .i64 q0h),.s (.flt .f32 q0j),.s (.flt .f32 q0k)],.one (.s (.int .i64 x1)),.one (.s (.flt .f32 x2)),.one (.s (.flt .f32 x3)),.one (.s (.flt .f32 x4)),.one (.s (.flt .f32 x5))]=>sF zlk (z1z q07 q0a q08 q0d q09 q0c q0e q0f q0h q0j q0k x1 x2 x3 x4 x5)
 | _=>none
theorem ya3:ev8 Γ18 88 [.ptr [.row 1 a0 (.fl .f32 g1),.row 1 a2 (.fl .f32 g3),.row 1 a4 (.fl .f32 g5),.row 3 a6 (.fl .f32 g7),.s (.int .i64 c8),.s (.flt .f32 a9),.s (.flt .f32 a10)],.one (.s (.int .i64 c11)),.one (.s (.flt .f32 a12)),.one (.s (.flt .f32 a13)),.one (.s (.flt .f32 a14)),.one (.s (.flt .f32 a15))]=zlk (z1z a0 g1 a2 g3 a4 g5 a6 g7 c8 a9 a10 c11 a12 a13 a14 a15):=tr2 (y0v a0 g1 a2 g3 a4 g5 a6 g7 c8 a9 a10 c11 a12 a13 a14 a15 zlk rfl (fun c0_ c1_ c2_=>some (c0_,c1_,c2_))) (by kernel_rfl)
theorem y4p:SumOne J 88 zm1:=mkT y6s y6o fun pts v news hp=>by
 unfold zm1 at hp
 split at hp
 ·exact fin3 (ya3 ..) hp
 ·cases hp
def zrh  : Option (Nat×Bool)→Option (AV×List Blk)
 | some r=>some ((.tup [(.one (.flt .f32 r.1)),(.one (.bool r.2))]),[])
 | none=>none
def zre:List PT→Option (Bool×AV×List Blk)
 | [.agg [.row 1 q00 (.fl .f32 q03),.row 1 q02 (.fl .f32 q05),.row 1 q01 (.fl .f32 q04),.row 3 q06 (.fl .f32 q0b),.s (.int .i64 q0g),.s (.flt .f32 q0n),.s (.flt .f32 q0m)],.one (.s (.int .i64 i)),.one (.s (.flt .f32 q0q)),.one (.s (.flt .f32 q0p)),.one (.s (.flt .f32 q0o))]=>sF zrh (z78 q00 q03 q02 q05 q01 q04 q06 q0b q0g q0n q0m i q0q q0p q0o)
 | _=>none
theorem yeb:ev8 Γ18 104 [.agg [.row 1 a0 (.fl .f32 g1),.row 1 a2 (.fl .f32 g3),.row 1 a4 (.fl .f32 g5),.row 3 a6 (.fl .f32 g7),.s (.int .i64 c8),.s (.flt .f32 a9),.s (.flt .f32 a10)],.one (.s (.int .i64 c11)),.one (.s (.flt .f32 a12)),.one (.s (.flt .f32 a13)),.one (.s (.flt .f32 a14))]=zrh (z78 a0 g1 a2 g3 a4 g5 a6 g7 c8 a9 a10 c11 a12 a13 a14):=tr2 (y82 a0 g1 a2 g3 a4 g5 a6 g7 c8 a9 a10 c11 a12 a13 a14 zrh rfl (fun c0_ c1_=>some (c0_,c1_))) (by kernel_rfl)
theorem yag:SumOne J 104 zre:=mkT y6s y6o fun pts v news hp=>by
 unfold zre at hp
 split at hp
 ·exact fin3 (yeb ..) hp
 ·cases hp
def tb19:List (Nat×(List PT→Option (Bool×AV×List Blk))):=(88,zm1)::(104,zre)::tb18
def lt19:List ((Nat×Nat)×(Nat→St→Option (Bool×LO))):=lt18
def Γ19:Ctx:=⟨tyTab,fnTab,tblSum tb19,tblLp lt19⟩
theorem ycb:SumL J tb19:=SumL.cons y4p (SumL.cons yag (y6s))
theorem ydb:LpL J fnTab lt19:=y6o
def zf3  : Option (Nat×Nat×Bool)→Option (AV×List Blk)
 | some r=>some ((.tup [(.one (.flt .f32 r.1)),(.one (.flt .f32 r.2.1)),(.one (.bool r.2.2))]),[])
 | none=>none
def z9a:List PT→Option (Bool×AV×List Blk)
 | [.agg [.row 1 q07 (.fl .f32 q0a),.row 1 q08 (.fl .f32 q0d),.row 1 q09 (.fl .f32 q0c),.row 3 q0e (.fl .f32 q0f),.s (.int .i64 q0h),.s (.flt .f32 q0j),.s (.flt .f32 q0k)],.one (.s (.int .i64 x1)),.one (.s (.flt .f32 x2)),.one (.s (.flt .f32 x3)),.one (.s (.flt .f32 x4)),.one (.s (.flt .f32 x5))]=>sF zf3 (z1n q07 q0a q08 q0d q09 q0c q0e q0f q0h q0j q0k x1 x2 x3 x4 x5)
 | _=>none
theorem y0w:ev8 Γ19 56 [.agg [.row 1 a0 (.fl .f32 g1),.row 1 a2 (.fl .f32 g3),.row 1 a4 (.fl .f32 g5),.row 3 a6 (.fl .f32 g7),.s (.int .i64 c8),.s (.flt .f32 a9),.s (.flt .f32 a10)],.one (.s (.int .i64 c11)),.one (.s (.flt .f32 a12)),.one (.s (.flt .f32 a13)),.one (.s (.flt .f32 a14)),.one (.s (.flt .f32 a15))]=zf3 (z1n a0 g1 a2 g3 a4 g5 a6 g7 c8 a9 a10 c11 a12 a13 a14 a15):=tr2 (zv5 a0 g1 a2 g3 a4 g5 a6 g7 c8 a9 a10 c11 a12 a13 a14 a15 zf3 rfl (fun c0_ c1_ c2_=>some (c0_,c1_,c2_))) (by kernel_rfl)
theorem ziq:SumOne J 56 z9a:=mkT ycb ydb fun pts v news hp=>by
 unfold z9a at hp
 split at hp
 ·exact fin3 (y0w ..) hp
 ·cases hp
def tb20:List (Nat×(List PT→Option (Bool×AV×List Blk))):=(56,z9a)::tb19
def lt20:List ((Nat×Nat)×(Nat→St→Option (Bool×LO))):=lt19
def Γ20:Ctx:=⟨tyTab,fnTab,tblSum tb20,tblLp lt20⟩
theorem ztr:SumL J tb20:=SumL.cons ziq (ycb)
theorem y6m:LpL J fnTab lt20:=ydb
def zff:St:=(.mk [(x0P 0 4 7),(x0F 1 a0),(x0F 2 a1),(x0F 3 a2),(x0F 4 a3),(x0S 13 5 a4 1),(x0S 14 6 a5 1),(x0I 15 c6)] [(x0L g7),(x0L g8),(x0L g9),(x0L g10),(x0R false 0 1 2 3 a11 a12 a13 a14 c15 a16 a17),(x0T g18),(x0T g19)])
def zju(t1 t2 t3 t4:Nat)(b0 b1 b2 b3:List Nat)(q0w q0x q0y q0r:Nat)(q1b:Int)(q1c q0z:Nat):St:=(.mk [(10,(.v (.one .nilsl))),(11,(.v (.one .nilsl))),(x0B 12 false)] [(x0L b0),(x0L b1),(x0L b2),(x0L b3),(x0R false 0 1 2 3 q0w q0x q0y q0r q1b q1c q0z)])
def zjd:St:=(.mk [(x0P 0 4 7),(x0F 1 a0),(x0F 2 a1),(x0F 3 a2),(x0F 4 a3),(x0S 13 5 a15 1),(x0S 14 6 a16 1),(x0I 15 c17),(x0B 35 e18)] [(x0L g4),(x0L g5),(x0L g6),(x0L g7),(x0R false 0 1 2 3 a8 a9 a10 a11 c12 a13 a14),(x0T g19),(x0T g20)])
def zlu:Option ((Unit)⊕(Nat×Nat×Int×Bool×(List Nat)×(List Nat)))→Option (Ex×St)
 | none=>none
 | some (Sum.inl r)=>some (.ret,(zju a0 a1 a2 a3 g4 g5 g6 g7 a8 a9 a10 a11 c12 a13 a14))
 | some (Sum.inr r)=>some ((.exit 0),(zjd a0 a1 a2 a3 g4 g5 g6 g7 a8 a9 a10 a11 c12 a13 a14 r.1 r.2.1 r.2.2.1 r.2.2.2.1 r.2.2.2.2.1 r.2.2.2.2.2))
def zt2 (x:Option ((Unit)⊕(Nat×Nat×Int×Bool×(List Nat)×(List Nat)))):LO:=(.two (oL x) (.one .ret (zju a0 a1 a2 a3 g4 g5 g6 g7 a8 a9 a10 a11 c12 a13 a14)) (.one (.exit 0) (zjd a0 a1 a2 a3 g4 g5 g6 g7 a8 a9 a10 a11 c12 a13 a14 ((tR x).getD default).1 ((tR x).getD default).2.1 ((tR x).getD default).2.2.1 ((tR x).getD default).2.2.2.1 ((tR x).getD default).2.2.2.2.1 ((tR x).getD default).2.2.2.2.2)))
def y5m:Bool×LO:=sL (zt2 a0 a1 a2 a3 g7 g8 g9 g10 a11 a12 a13 a14 c15 a16 a17) (z0g a0 a1 a2 a3 g7 g8 g9 g10 a11 a12 a13 a14 c15 a16 a17 big a4 a5 c6 g18 g19)
def ztv:Nat→St→Option (Bool×LO):=lpT 5 (pSt [(x1P 0 4 7),(x1F 1),(x1F 2),(x1F 3),(x1F 4),(x1S 13 5 1),(x1S 14 6 1),(x1I 15)] [x1L,x1L,x1L,x1L,(x1R false 0 1 2 3),x1T,x1T]) (fun hs=>y5m (hN hs 0) (hN hs 1) (hN hs 2) (hN hs 3) (hN hs 4) (hN hs 5) (hI hs 6) (hLn hs 7) (hLn hs 8) (hLn hs 9) (hLn hs 10) (hN hs 11) (hN hs 12) (hN hs 13) (hN hs 14) (hI hs 15) (hN hs 16) (hN hs 17) (hLn hs 18) (hLn hs 19))
theorem yad:∀ x:Option ((Unit)⊕(Nat×Nat×Int×Bool×(List Nat)×(List Nat))),x.isSome=true→(zlu a0 a1 a2 a3 g4 g5 g6 g7 a8 a9 a10 a11 c12 a13 a14) x=some (pick (zt2 a0 a1 a2 a3 g4 g5 g6 g7 a8 a9 a10 a11 c12 a13 a14 x))
 | none,h=>by cases h
 | some (Sum.inl r),_=>rfl
 | some (Sum.inr r),_=>rfl
theorem y9d (K:Ex→St→Option (Ex×St)):ev9 Γ20 50 6 5 fi50 (zff a0 a1 a2 a3 a4 a5 c6 g7 g8 g9 g10 a11 a12 a13 a14 c15 a16 a17 g18 g19) K=z3x a0 a1 a2 a3 g7 g8 g9 g10 a11 a12 a13 a14 c15 a16 a17 a4 a5 c6 g18 g19 (fun q2v' q2w' t15' b5' b6'=>K .normal (zff a0 a1 a2 a3 q2v' q2w' t15' g7 g8 g9 g10 a11 a12 a13 a14 c15 a16 a17 b5' b6')) (fun _=>K .ret (zju a0 a1 a2 a3 g7 g8 g9 g10 a11 a12 a13 a14 c15 a16 a17)) (fun c0_ c1_ c2_ c3_ c4_ c5_=>K (.exit 0) (zjd a0 a1 a2 a3 g7 g8 g9 g10 a11 a12 a13 a14 c15 a16 a17 c0_ c1_ c2_ c3_ c4_ c5_)):=by kernel_rfl
theorem ya1:∀ (n q2v q2w:Nat) (t15:Int) (b5 b6:List Nat),iter 50 6 5 (ev9 Γ20 50 6 5 fi50) n (zff a0 a1 a2 a3 q2v q2w t15 g4 g5 g6 g7 a8 a9 a10 a11 c12 a13 a14 b5 b6) (fun e st=>some (e,st))=(zlu a0 a1 a2 a3 g4 g5 g6 g7 a8 a9 a10 a11 c12 a13 a14) (z0g a0 a1 a2 a3 g4 g5 g6 g7 a8 a9 a10 a11 c12 a13 a14 n q2v q2w t15 b5 b6):=by
 intro n
 induction n with
 | zero=>intros;rfl
 | succ n ih=>
  intro q2v q2w t15 b5 b6
  refine Eq.trans (iter_succ ..) (Eq.trans (y9d ..) (Eq.trans ?_ (y0l a0 a1 a2 a3 g4 g5 g6 g7 a8 a9 a10 a11 c12 a13 a14 q2v q2w t15 b5 b6 (zlu a0 a1 a2 a3 g4 g5 g6 g7 a8 a9 a10 a11 c12 a13 a14) rfl (fun q2v' q2w' t15' b5' b6'=>z0g a0 a1 a2 a3 g4 g5 g6 g7 a8 a9 a10 a11 c12 a13 a14 n q2v' q2w' t15' b5' b6') (fun _=>some (Sum.inl ())) (fun c0_ c1_ c2_ c3_ c4_ c5_=>some (Sum.inr (c0_,c1_,c2_,c3_,c4_,c5_))))))
  exact congrArg (fun kn_=>z3x a0 a1 a2 a3 g4 g5 g6 g7 a8 a9 a10 a11 c12 a13 a14 q2v q2w t15 b5 b6 kn_ _ _) (funext fun q2v'=>funext fun q2w'=>funext fun t15'=>funext fun b5'=>funext fun b6'=>ih ..)
theorem y3r:LoopOne J fnTab 50 6 ztv:=lpK ztr y6m (fi:=fi50) (by kernel_rfl) (by kernel_rfl) (q:=fun hs=>(zff (hN hs 0) (hN hs 1) (hN hs 2) (hN hs 3) (hN hs 4) (hN hs 5) (hI hs 6) (hLn hs 7) (hLn hs 8) (hLn hs 9) (hLn hs 10) (hN hs 11) (hN hs 12) (hN hs 13) (hN hs 14) (hI hs 15) (hN hs 16) (hN hs 17) (hLn hs 18) (hLn hs 19))) (fun hs=>by kernel_rfl) fun hs h1=>Eq.trans (ya1 (hN hs 0) (hN hs 1) (hN hs 2) (hN hs 3) (hLn hs 7) (hLn hs 8) (hLn hs 9) (hLn hs 10) (hN hs 11) (hN hs 12) (hN hs 13) (hN hs 14) (hI hs 15) (hN hs 16) (hN hs 17) big (hN hs 4) (hN hs 5) (hI hs 6) (hLn hs 18) (hLn hs 19)) (yad (hN hs 0) (hN hs 1) (hN hs 2) (hN hs 3) (hLn hs 7) (hLn hs 8) (hLn hs 9) (hLn hs 10) (hN hs 11) (hN hs 12) (hN hs 13) (hN hs 14) (hI hs 15) (hN hs 16) (hN hs 17) _ h1)
def tb21:List (Nat×(List PT→Option (Bool×AV×List Blk))):=tb20
def lt21:List ((Nat×Nat)×(Nat→St→Option (Bool×LO))):=((50,6),ztv)::lt20
def Γ21:Ctx:=⟨tyTab,fnTab,tblSum tb21,tblLp lt21⟩
theorem yde:SumL J tb21:=ztr
theorem ycc:LpL J fnTab lt21:=LpL.cons y3r (y6m)
def zs3  : Option (Nat×Nat×Bool×(List Nat)×(List Nat))→Option (AV×List Blk)
 | some r=>some ((.tup [(.one (.sl 0 0 r.1 1)),(.one (.sl 1 0 r.2.1 1)),(.one (.bool r.2.2.1))]),[(.mk true (.fl .f32 r.2.2.2.1)),(.mk true (.fl .f32 r.2.2.2.2))])
 | none=>none
def zrj:List PT→Option (Bool×AV×List Blk)
 | [.ptr [.row 1 q07 (.fl .f32 q0a),.row 1 q08 (.fl .f32 q0d),.row 1 q09 (.fl .f32 q0c),.row 3 q0e (.fl .f32 q0f),.s (.int .i64 q0h),.s (.flt .f32 q0j),.s (.flt .f32 q0k)],.one (.s (.flt .f32 x1)),.one (.s (.flt .f32 x2)),.one (.s (.flt .f32 x3)),.one (.s (.flt .f32 x4))]=>sF zs3 (z43 q07 q0a q08 q0d q09 q0c q0e q0f q0h q0j q0k x1 x2 x3 x4)
 | _=>none
end
end Go.Proofs.YtijjhfailnmeoaaGreat
