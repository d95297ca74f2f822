import Derived.Test.YtijjhfailnmeoaaGreatForcesSharedC
set_option linter.unusedVariables false
set_option linter.unusedSimpArgs false
set_option linter.unusedSectionVars false
set_option maxRecDepth 100000
set_option maxHeartbeats 4000000
namespace Go.Proofs.YtijjhfailnmeoaaGreat
open Go Go.Rf
variable {J:Jd Tryz.prog}
abbrev x0F(d x:Nat):Nat×AV:=(d,.v (.one (.flt .f32 x)))
abbrev x0I(d:Nat)(x:Int):Nat×AV:=(d,.v (.one (.int .i64 x)))
abbrev x0B(d:Nat)(x:Bool):Nat×AV:=(d,.v (.one (.bool x)))
abbrev x0P(d b n:Nat):Nat×AV:=(d,.v (.one (.ptr b 0 n)))
abbrev x0S(d b n s:Nat):Nat×AV:=(d,.v (.one (.sl b 0 n s)))
abbrev x0V(d b n s:Nat):Nat×AV:=(d,.v (.one (.vw b 0 n s)))
abbrev x0L(x:List Nat):Blk:=.mk false (.fl .f32 x)
abbrev x0T(x:List Nat):Blk:=.mk true (.fl .f32 x)
abbrev x0R(o:Bool)(b c d e k l m n:Nat)(i:Int)(x y:Nat):Blk:=.mk o (.cells [.vw b 0 k 1,.vw c 0 l 1,.vw d 0 m 1,.vw e 0 n 3,.int .i64 i,.flt .f32 x,.flt .f32 y])
abbrev x1R(o:Bool)(b c d e:Nat):=pBlk o (pCells [pVw b (liN 0) 1,pVw c (liN 0) 1,pVw d (liN 0) 1,pVw e (liN 0) 3,pInt .i64,pFlt .f32,pFlt .f32])
abbrev x1F(d:Nat):=pTm d (pV (pOne (pFlt .f32)))
abbrev x1I(d:Nat):=pTm d (pV (pOne (pInt .i64)))
abbrev x1B(d:Nat):=pTm d (pV (pOne pBool))
abbrev x1P(d b n:Nat):=pTm d (pV (pOne (pPtr b (liN 0) n)))
abbrev x1S(d b s:Nat):=pTm d (pV (pOne (pSl b (liN 0) s)))
abbrev x1V(d b s:Nat):=pTm d (pV (pOne (pVw b (liN 0) s)))
abbrev x1L:=pBlk false (pFl .f32)
abbrev x1T:=pBlk true (pFl .f32)
noncomputable section
variable (a0:Nat) (c0:Int) (e0:Bool) (a1:Nat) (c1:Int) (e1:Bool) (g1:List Nat) (m1:List Bool) (a2:Nat) (c2:Int) (e2:Bool) (g2:List Nat) (a3:Nat) (c3:Int) (g3:List Nat) (m3:List Bool) (a4:Nat) (c4:Int) (e4:Bool) (g4:List Nat) (m4:List Bool) (a5:Nat) (e5:Bool) (g5:List Nat) (a6:Nat) (c6:Int) (g6:List Nat) (a7:Nat) (c7:Int) (g7:List Nat) (a8:Nat) (c8:Int) (e8:Bool) (g8:List Nat) (a9:Nat) (c9:Int) (e9:Bool) (g9:List Nat) (a10:Nat) (c10:Int) (e10:Bool) (g10:List Nat) (a11:Nat) (c11:Int) (g11:List Nat) (a12:Nat) (c12:Int) (g12:List Nat) (a13:Nat) (c13:Int) (g13:List Nat) (a14:Nat) (c14:Int) (e14:Bool) (g14:List Nat) (a15:Nat) (c15:Int) (e15:Bool) (g15:List Nat) (a16:Nat) (g16:List Nat) (a17:Nat) (c17:Int) (a18:Nat) (c18:Int) (e18:Bool) (g18:List Nat) (a19:Nat) (c19:Int) (g19:List Nat) (a20:Nat) (c20:Int) (g20:List Nat) (a21:Nat) (g21:List Nat) (a22:Nat) (g22:List Nat) (g23:List Nat) (g24:List Nat) (g25:List Nat) (a26:Nat) (g26:List Nat) (a27:Nat) (g27:List Nat) (a28:Nat) (g28:List Nat) (a29:Nat) (a30:Nat) (c30:Int) (a31:Nat) (a32:Nat) (a33:Nat) (c33:Int) (a34:Nat) (a35:Nat) (a36:Nat) (c36:Int) (a37:Nat) (c37:Int) (a38:Nat) (e38:Bool) (g39:List Nat)
def zib:List PT→Option (Bool×AV×List Blk)
 | [.one (.s (.flt .f32 x))]=>some (bnot (nanQ .f32 x),A1 (.int .u32 x),[])
 | _=>none
theorem zyk:SumOne J 147 zib:=by
 intro pts v news hp w vals hv
 unfold zib at hp
 split at hp
 ·rename_i x
  injection hp with hp
  injection hp with h1 hp
  injection hp with h2 h3
  subst h2
  subst h3
  obtain⟨l,hl⟩:∃ l,l=vals.toList:=⟨_,rfl⟩
  rw[← hl] at hv
  cases hv with
  | cons a1 a2=>
   cases a2
   obtain⟨b,hb1,hb2,hb3⟩:=a1
   subst hb1
   rename_i hx
   have hvals:vals=#[.float .f32 b]:=by rw[← Array.toList_inj,← hl]
   subst hvals
   have hn:nanB .f32 b=false:=by rw[← u4k,hb3];simpa [bnot,nanQ] using h1
   rw[u03 hn] at hb3
   subst hb3
   refine⟨nat_tame Tryz.func147 (Eq.mpr (by kernel_rfl:_=(Mute (.extern 147)∧True)) ⟨.inr ⟨_,rfl⟩,trivial⟩),.inl ⟨_,w,by (simp only[callFunc,Sem.run_bind,run_program,Result.andThen_ok,Tryz.func147];rfl),NoB,⟨⟨(fun t b' h=>by cases t<;>cases h),(fun t t' b1 b2 x x' _ h=>by cases t<;>cases h)⟩,(fun t x h=>by cases h),Fr.refl _ w⟩,rfl⟩⟩
 ·cases hp
def zct:List PT→Option (Bool×AV×List Blk)
 | [.one (.s (.int .u64 x))]=>some (okU .f64 x,A1 (.flt .f64 (cnI .f64 x)),[])
 | _=>none
theorem zsd:SumOne J 167 zct:=by
 intro pts v news hp w vals hv
 unfold zct at hp
 split at hp
 ·rename_i x
  injection hp with hp
  injection hp with h1 hp
  injection hp with h2 h3
  subst h2
  subst h3
  obtain⟨l,hl⟩:∃ l,l=vals.toList:=⟨_,rfl⟩
  rw[← hl] at hv
  cases hv with
  | cons a1 a2=>
   cases a2
   have hb1:_=Value.int .u64 x:=a1
   subst hb1
   rename_i hx
   have hvals:vals=#[.int .u64 x]:=by rw[← Array.toList_inj,← hl]
   subst hvals
   have hw:=okU_lt h1
   refine⟨nat_tame Tryz.func167 (Eq.mpr (by kernel_rfl:_=(Mute (.extern 167)∧True)) ⟨.inr ⟨_,rfl⟩,trivial⟩),.inl ⟨_,w,by (simp only[callFunc,Sem.run_bind,run_program,Result.andThen_ok,Tryz.func167];rfl),NoB,⟨⟨(fun t b' h=>by cases t<;>cases h),(fun t t' b1 b2 x x' _ h=>by cases t<;>cases h)⟩,(fun t x h=>by cases h),Fr.refl _ w⟩,⟨_,rfl,hw,rfl⟩⟩⟩
 ·cases hp
def zif:List PT→Option (Bool×AV×List Blk)
 | [.one (.s (.flt .f64 x))]=>some (bnot (nanQ .f64 x),A1 (.int .u64 x),[])
 | _=>none
theorem zxl:SumOne J 173 zif:=by
 intro pts v news hp w vals hv
 unfold zif at hp
 split at hp
 ·rename_i x
  injection hp with hp
  injection hp with h1 hp
  injection hp with h2 h3
  subst h2
  subst h3
  obtain⟨l,hl⟩:∃ l,l=vals.toList:=⟨_,rfl⟩
  rw[← hl] at hv
  cases hv with
  | cons a1 a2=>
   cases a2
   obtain⟨b,hb1,hb2,hb3⟩:=a1
   subst hb1
   rename_i hx
   have hvals:vals=#[.float .f64 b]:=by rw[← Array.toList_inj,← hl]
   subst hvals
   have hn:nanB .f64 b=false:=by rw[← u4k,hb3];simpa [bnot,nanQ] using h1
   rw[u03 hn] at hb3
   subst hb3
   refine⟨nat_tame Tryz.func173 (Eq.mpr (by kernel_rfl:_=(Mute (.extern 173)∧True)) ⟨.inr ⟨_,rfl⟩,trivial⟩),.inl ⟨_,w,by (simp only[callFunc,Sem.run_bind,run_program,Result.andThen_ok,Tryz.func173];rfl),NoB,⟨⟨(fun t b' h=>by cases t<;>cases h),(fun t t' b1 b2 x x' _ h=>by cases t<;>cases h)⟩,(fun t x h=>by cases h),Fr.refl _ w⟩,rfl⟩⟩
 ·cases hp
def zln:List PT→Option (Bool×AV×List Blk)
 | [.one (.s (.flt .f64 x))]=>some (bnot (nanQ .f64 x),A1 (.flt .f64 (fint .zero x)),[])
 | _=>none
theorem y1j:SumOne J 177 zln:=by
 intro pts v news hp w vals hv
 unfold zln at hp
 split at hp
 ·rename_i x
  injection hp with hp
  injection hp with h1 hp
  injection hp with h2 h3
  subst h2
  subst h3
  obtain⟨l,hl⟩:∃ l,l=vals.toList:=⟨_,rfl⟩
  rw[← hl] at hv
  cases hv with
  | cons a1 a2=>
   cases a2
   obtain⟨b,hb1,hb2,hb3⟩:=a1
   subst hb1
   rename_i hx
   have hvals:vals=#[.float .f64 b]:=by rw[← Array.toList_inj,← hl]
   subst hvals
   have hn:nanB .f64 b=false:=by rw[← u4k,hb3];simpa [bnot,nanQ] using h1
   rw[u03 hn] at hb3
   subst hb3
   refine⟨nat_tame Tryz.func177 (Eq.mpr (by kernel_rfl:_=(Mute (.extern 177)∧Tame Tryz.prog (do let v ← Extern.MathFloor.toIntegral "math.archTrunc" .zero #[.float .f64 b];pure (.value v):Sem Next))) ⟨.inr ⟨_,rfl⟩,tv (t_integral _ _ _)⟩),.inl ⟨_,w,by (simp only[callFunc,Sem.run_bind,run_program,Result.andThen_ok,Tryz.func177];change (do let v ← Extern.MathFloor.toIntegral "math.archTrunc" .zero #[.float .f64 b];pure (.value v):Sem Next).run Tryz.prog w=_;rw[Sem.run_bind,run_fint hn];rfl),NoB,⟨⟨(fun t b' h=>by cases t<;>cases h),(fun t t' b1 b2 x x' _ h=>by cases t<;>cases h)⟩,(fun t x h=>by cases h),Fr.refl _ w⟩,fint_rel hn⟩⟩
 ·cases hp
def zla:List PT→Option (Bool×AV×List Blk)
 | [.one (.s (.flt .f64 x))]=>some (bnot (nanQ .f64 x),A1 (.flt .f64 (fint .down x)),[])
 | _=>none
theorem y20:SumOne J 179 zla:=by
 intro pts v news hp w vals hv
 unfold zla at hp
 split at hp
 ·rename_i x
  injection hp with hp
  injection hp with h1 hp
  injection hp with h2 h3
  subst h2
  subst h3
  obtain⟨l,hl⟩:∃ l,l=vals.toList:=⟨_,rfl⟩
  rw[← hl] at hv
  cases hv with
  | cons a1 a2=>
   cases a2
   obtain⟨b,hb1,hb2,hb3⟩:=a1
   subst hb1
   rename_i hx
   have hvals:vals=#[.float .f64 b]:=by rw[← Array.toList_inj,← hl]
   subst hvals
   have hn:nanB .f64 b=false:=by rw[← u4k,hb3];simpa [bnot,nanQ] using h1
   rw[u03 hn] at hb3
   subst hb3
   refine⟨nat_tame Tryz.func179 (Eq.mpr (by kernel_rfl:_=(Mute (.extern 179)∧Tame Tryz.prog (do let v ← Extern.MathFloor.toIntegral "math.archFloor" .down #[.float .f64 b];pure (.value v):Sem Next))) ⟨.inr ⟨_,rfl⟩,tv (t_integral _ _ _)⟩),.inl ⟨_,w,by (simp only[callFunc,Sem.run_bind,run_program,Result.andThen_ok,Tryz.func179];change (do let v ← Extern.MathFloor.toIntegral "math.archFloor" .down #[.float .f64 b];pure (.value v):Sem Next).run Tryz.prog w=_;rw[Sem.run_bind,run_fint hn];rfl),NoB,⟨⟨(fun t b' h=>by cases t<;>cases h),(fun t t' b1 b2 x x' _ h=>by cases t<;>cases h)⟩,(fun t x h=>by cases h),Fr.refl _ w⟩,fint_rel hn⟩⟩
 ·cases hp
def sF{α:Type}[Inhabited α] (o:Option α→Option (AV×List Blk)) (x:Option α):Option (Bool×AV×List Blk):=sP x.isSome o (x.getD default)
theorem fin3{α:Type}[Inhabited α] {a:Option (AV×List Blk)} {o:Option α→Option (AV×List Blk)} {x:Option α} {v:AV} {news:List Blk} (h:a=o x) (hp:sF o x=some (true,v,news)):a=some (v,news):=fin2 h hp
def sL{α:Type}(lo:Option α→LO)(x:Option α):Bool×LO:=(x.isSome,lo x)
theorem mkT {tb:List (Nat×(List PT→Option (Bool×AV×List Blk)))} {lt:List ((Nat×Nat)×(Nat→St→Option (Bool×LO)))} {J:Jd Tryz.prog} (h1:SumL J tb) (h2:LpL J fnTab lt) {g:FuncId} {F:List PT→Option (Bool×AV×List Blk)} (h:∀ pts v news,F pts=some (true,v,news)→ev8 ⟨tyTab,fnTab,tblSum tb,tblLp lt⟩ g pts=some (v,news)):SumOne J g F:=
 sum_of (Γ:=⟨tyTab,fnTab,tblSum tb,tblLp lt⟩) (fuel:=8) (d:=8) tyTab_ok (FnL.ok fnTab_ok _ _) (LpL.ok h2) (SumL.ok h1 _) mixed fun pts v news hp _=>h pts v news hp
theorem lpK {tb:List (Nat×(List PT→Option (Bool×AV×List Blk)))} {lt:List ((Nat×Nat)×(Nat→St→Option (Bool×LO)))} {J:Jd Tryz.prog} (h1:SumL J tb) (h2:LpL J fnTab lt) {f id lo0:Nat} {fi:FnI} (hfi:Rf.look fnTab f=some fi) (hu:noTwo (lids (loopsIn fi.code))=true) {p:Pz St} {F:List Hv→Bool×LO} {q:List Hv→St}
  (hq:∀ hs,p.fil hs 0=q hs) (h:∀ hs,(F hs).1=true→iter f id lo0 (ev9 ⟨tyTab,fnTab,tblSum tb,tblLp lt⟩ f id lo0 fi) big (q hs) (fun e st=>some (e,st))=some (pick (F hs).2)) (hb:Nat.beq id bodyId=false:=by rfl):LoopOne J fnTab f id (lpT lo0 p F):=
 lp9 (Γ:=⟨tyTab,fnTab,tblSum tb,tblLp lt⟩) tyTab_ok (FnL.ok fnTab_ok _ _) (LpL.ok h2) (SumL.ok h1 _) mixed hfi hu hq h hb
def tb0:List (Nat×(List PT→Option (Bool×AV×List Blk))):=[(147,zib),(167,zct),(173,zif),(177,zln),(179,zla)]
def lt0:List ((Nat×Nat)×(Nat→St→Option (Bool×LO))):=[]
def Γ0:Ctx:=⟨tyTab,fnTab,tblSum tb0,tblLp lt0⟩
theorem z7x:SumL J tb0:=SumL.cons zyk (SumL.cons zsd (SumL.cons zxl (SumL.cons y1j (SumL.cons y20 (SumL.nil)))))
theorem z7w:LpL J fnTab lt0:=LpL.nil
def zlk  : Option (Bool)→Option (AV×List Blk)
 | some r=>some ((.v (.one (.bool r))),[])
 | none=>none
def zl7:List PT→Option (Bool×AV×List Blk)
 | [.one (.s (.flt .f64 a)),.one (.s (.flt .f64 b))]=>sF zlk (z6r a b)
 | _=>none
theorem y6q:ev8 Γ0 35 [.one (.s (.flt .f64 a0)),.one (.s (.flt .f64 a1))]=zlk (z6r a0 a1):=tr2 (zzb a0 a1 zlk rfl (fun c0_=>some c0_)) (by kernel_rfl)
theorem y1q:SumOne J 35 zl7:=mkT z7x z7w fun pts v news hp=>by
 unfold zl7 at hp
 split at hp
 ·exact fin3 (y6q ..) hp
 ·cases hp
def zr7  : Option (Bool)→Option (AV×List Blk)
 | some r=>some ((.v (.one (.bool r))),[])
 | none=>none
def zqv:List PT→Option (Bool×AV×List Blk)
 | [.one (.s (.int .i64 n_)),.one (.s (.int .i64 low)),.one (.s (.int .i64 q1p))]=>sF zr7 (z95 n_ low q1p)
 | _=>none
theorem ya1:ev8 Γ0 52 [.one (.s (.int .i64 c0)),.one (.s (.int .i64 c1)),.one (.s (.int .i64 c2))]=zr7 (z95 c0 c1 c2):=tr2 (y5f c0 c1 c2 zr7 rfl (fun c0_=>some c0_)) (by kernel_rfl)
theorem y6k:SumOne J 52 zqv:=mkT z7x z7w fun pts v news hp=>by
 unfold zqv at hp
 split at hp
 ·exact fin3 (ya1 ..) hp
 ·cases hp
def zoc  : Option (Bool)→Option (AV×List Blk)
 | some r=>some ((.v (.one (.bool r))),[])
 | none=>none
def znl:List PT→Option (Bool×AV×List Blk)
 | [.one (.s (.flt .f32 x))]=>sF zoc (z93 x)
 | _=>none
theorem y72:ev8 Γ0 65 [.one (.s (.flt .f32 a0))]=zoc (z93 a0):=tr2 (y13 a0 zoc rfl (fun c0_=>some c0_)) (by kernel_rfl)
theorem y2p:SumOne J 65 znl:=mkT z7x z7w fun pts v news hp=>by
 unfold znl at hp
 split at hp
 ·exact fin3 (y72 ..) hp
 ·cases hp
def zt4  : Option (Bool)→Option (AV×List Blk)
 | some r=>some ((.v (.one (.bool r))),[])
 | none=>none
def zug:List PT→Option (Bool×AV×List Blk)
 | [.one (.s (.int .i64 n_)),.one (.s (.int .i64 low)),.one (.s (.int .i64 q1p))]=>sF zt4 (zac n_ low q1p)
 | _=>none
theorem yae:ev8 Γ0 68 [.one (.s (.int .i64 c0)),.one (.s (.int .i64 c1)),.one (.s (.int .i64 c2))]=zt4 (zac c0 c1 c2):=tr2 (y6n c0 c1 c2 zt4 rfl (fun c0_=>some c0_)) (by kernel_rfl)
theorem y77:SumOne J 68 zug:=mkT z7x z7w fun pts v news hp=>by
 unfold zug at hp
 split at hp
 ·exact fin3 (yae ..) hp
 ·cases hp
def zj9  : Option (Int)→Option (AV×List Blk)
 | some r=>some ((.v (.one (.int .i64 r))),[])
 | none=>none
def zjz:List PT→Option (Bool×AV×List Blk)
 | [.one (.row 3 a_n (.fl .f32 a)),.one (.s (.int .i64 q2j))]=>sF zj9 (z5s a_n a q2j)
 | _=>none
theorem y5b:ev8 Γ0 71 [.one (.row 3 a0 (.fl .f32 g1)),.one (.s (.int .i64 c2))]=zj9 (z5s a0 g1 c2):=tr2 (zyi a0 g1 c2 zj9 rfl (fun c0_=>some c0_)) (by kernel_rfl)
theorem zzu:SumOne J 71 zjz:=mkT z7x z7w fun pts v news hp=>by
 unfold zjz at hp
 split at hp
 ·exact fin3 (y5b ..) hp
 ·cases hp
def zlb  : Option (Bool)→Option (AV×List Blk)
 | some r=>some ((.v (.one (.bool r))),[])
 | none=>none
def zkt:List PT→Option (Bool×AV×List Blk)
 | [.one (.s (.flt .f32 x))]=>sF zlb (z89 x)
 | _=>none
theorem y68:ev8 Γ0 84 [.one (.s (.flt .f32 a0))]=zlb (z89 a0):=tr2 (zyp a0 zlb rfl (fun c0_=>some c0_)) (by kernel_rfl)
theorem y1u:SumOne J 84 zkt:=mkT z7x z7w fun pts v news hp=>by
 unfold zkt at hp
 split at hp
 ·exact fin3 (y68 ..) hp
 ·cases hp
def zje  : Option (Int)→Option (AV×List Blk)
 | some r=>some ((.v (.one (.int .i64 r))),[])
 | none=>none
def zjj:List PT→Option (Bool×AV×List Blk)
 | [.one (.row 1 a_n (.fl .f32 a)),.one (.s (.int .i64 q2j))]=>sF zje (z5q a_n a q2j)
 | _=>none
theorem y48:ev8 Γ0 117 [.one (.row 1 a0 (.fl .f32 g1)),.one (.s (.int .i64 c2))]=zje (z5q a0 g1 c2):=tr2 (zx2 a0 g1 c2 zje rfl (fun c0_=>some c0_)) (by kernel_rfl)
theorem y06:SumOne J 117 zjj:=mkT z7x z7w fun pts v news hp=>by
 unfold zjj at hp
 split at hp
 ·exact fin3 (y48 ..) hp
 ·cases hp
def zm4:Option (Unit)→Option (AV×List Blk)
 | some r=>some ((.v (.agg [(.flt .f32 a0),(.flt .f32 a1),(.flt .f32 a2)])),[])
 | none=>none
def zlp:List PT→Option (Bool×AV×List Blk)
 | [.agg [.s (.flt .f32 q2r),.s (.flt .f32 q2t),.s (.flt .f32 q2u)]]=>sF (zm4 q2r q2t q2u) (zle q2r q2t q2u)
 | _=>none
theorem y6u:ev8 Γ0 118 [.agg [.s (.flt .f32 a0),.s (.flt .f32 a1),.s (.flt .f32 a2)]]=(zm4 a0 a1 a2) (zle a0 a1 a2):=tr2 (y0a a0 a1 a2 (zm4 a0 a1 a2) rfl (fun _=>some ())) (by kernel_rfl)
theorem y1h:SumOne J 118 zlp:=mkT z7x z7w fun pts v news hp=>by
 unfold zlp at hp
 split at hp
 ·exact fin3 (y6u ..) hp
 ·cases hp
def zmw  : Option (Bool)→Option (AV×List Blk)
 | some r=>some ((.v (.one (.bool r))),[])
 | none=>none
def zmq:List PT→Option (Bool×AV×List Blk)
 | [.one (.s (.flt .f32 x)),.one (.s (.flt .f32 low)),.one (.s (.flt .f32 q1p))]=>sF zmw (z7a x low q1p)
 | _=>none
theorem y78:ev8 Γ0 134 [.one (.s (.flt .f32 a0)),.one (.s (.flt .f32 a1)),.one (.s (.flt .f32 a2))]=zmw (z7a a0 a1 a2):=tr2 (y1l a0 a1 a2 zmw rfl (fun c0_=>some c0_)) (by kernel_rfl)
theorem y2a:SumOne J 134 zmq:=mkT z7x z7w fun pts v news hp=>by
 unfold zmq at hp
 split at hp
 ·exact fin3 (y78 ..) hp
 ·cases hp
def zes  : Option (Nat)→Option (AV×List Blk)
 | some r=>some ((.v (.one (.flt .f32 r))),[])
 | none=>none
def zf5:List PT→Option (Bool×AV×List Blk)
 | [.agg [.row 1 q07 (.fl .f32 q0b),.row 1 q09 (.fl .f32 q0c),.row 1 q08 (.fl .f32 q0d),.row 3 q0f (.fl .f32 q0i),.s (.int .i64 q0l),.s (.flt .f32 q0o),.s (.flt .f32 q0n)],.one (.s (.int .i64 i))]=>sF zes (z3z q07 q0b q09 q0c q08 q0d q0f q0i q0l q0o q0n i)
 | _=>none
theorem zxf:ev8 Γ0 142 [.agg [.row 1 a0 (.fl .f32 g1),.row 1 a2 (.fl .f32 g3),.row 1 a4 (.fl .f32 g5),.row 3 a6 (.fl .f32 g7),.s (.int .i64 c8),.s (.flt .f32 a9),.s (.flt .f32 a10)],.one (.s (.int .i64 c11))]=zes (z3z a0 g1 a2 g3 a4 g5 a6 g7 c8 a9 a10 c11):=tr2 (zsj a0 g1 a2 g3 a4 g5 a6 g7 c8 a9 a10 c11 zes rfl (fun c0_=>some c0_)) (by kernel_rfl)
theorem zsx:SumOne J 142 zf5:=mkT z7x z7w fun pts v news hp=>by
 unfold zf5 at hp
 split at hp
 ·exact fin3 (zxf ..) hp
 ·cases hp
def zrd  : Option (Nat)→Option (AV×List Blk)
 | some r=>some ((.v (.one (.flt .f32 r))),[])
 | none=>none
def zr8:List PT→Option (Bool×AV×List Blk)
 | [.ptr [.row 1 q07 (.fl .f32 q0b),.row 1 q09 (.fl .f32 q0c),.row 1 q08 (.fl .f32 q0d),.row 3 q0f (.fl .f32 q0i),.s (.int .i64 q0l),.s (.flt .f32 q0o),.s (.flt .f32 q0n)],.one (.s (.int .i64 i)),.one (.s (.flt .f32 q3g))]=>sF zrd (z9d q07 q0b q09 q0c q08 q0d q0f q0i q0l q0o q0n i q3g)
 | _=>none
theorem ya7:ev8 Γ0 151 [.ptr [.row 1 a0 (.fl .f32 g1),.row 1 a2 (.fl .f32 g3),.row 1 a4 (.fl .f32 g5),.row 3 a6 (.fl .f32 g7),.s (.int .i64 c8),.s (.flt .f32 a9),.s (.flt .f32 a10)],.one (.s (.int .i64 c11)),.one (.s (.flt .f32 a12))]=zrd (z9d a0 g1 a2 g3 a4 g5 a6 g7 c8 a9 a10 c11 a12):=tr2 (y5j a0 g1 a2 g3 a4 g5 a6 g7 c8 a9 a10 c11 a12 zrd rfl (fun c0_=>some c0_)) (by kernel_rfl)
theorem y5v:SumOne J 151 zr8:=mkT z7x z7w fun pts v news hp=>by
 unfold zr8 at hp
 split at hp
 ·exact fin3 (ya7 ..) hp
 ·cases hp
def zij  : Option (Nat)→Option (AV×List Blk)
 | some r=>some ((.v (.one (.flt .f32 r))),[])
 | none=>none
def zic:List PT→Option (Bool×AV×List Blk)
 | [.ptr [.row 1 q07 (.fl .f32 q0b),.row 1 q09 (.fl .f32 q0c),.row 1 q08 (.fl .f32 q0d),.row 3 q0f (.fl .f32 q0i),.s (.int .i64 q0l),.s (.flt .f32 q0o),.s (.flt .f32 q0n)],.one (.s (.int .i64 i))]=>sF zij (z52 q07 q0b q09 q0c q08 q0d q0f q0i q0l q0o q0n i)
 | _=>none
theorem y37:ev8 Γ0 152 [.ptr [.row 1 a0 (.fl .f32 g1),.row 1 a2 (.fl .f32 g3),.row 1 a4 (.fl .f32 g5),.row 3 a6 (.fl .f32 g7),.s (.int .i64 c8),.s (.flt .f32 a9),.s (.flt .f32 a10)],.one (.s (.int .i64 c11))]=zij (z52 a0 g1 a2 g3 a4 g5 a6 g7 c8 a9 a10 c11):=tr2 (zvx a0 g1 a2 g3 a4 g5 a6 g7 c8 a9 a10 c11 zij rfl (fun c0_=>some c0_)) (by kernel_rfl)
theorem zy8:SumOne J 152 zic:=mkT z7x z7w fun pts v news hp=>by
 unfold zic at hp
 split at hp
 ·exact fin3 (y37 ..) hp
 ·cases hp
def zz1  : Option (Nat)→Option (AV×List Blk)
 | some r=>some ((.v (.one (.flt .f64 r))),[])
 | none=>none
def zzf:List PT→Option (Bool×AV×List Blk)
 | []=>sF zz1 zg1
 | _=>none
theorem ybm  : ev8 Γ0 158 []=zz1 (zg1):=tr2 (y9n  zz1 rfl (fun c0_=>some c0_)) (by kernel_rfl)
theorem ya9:SumOne J 158 zzf:=mkT z7x z7w fun pts v news hp=>by
 unfold zzf at hp
 split at hp
 ·exact fin3 ybm hp
 ·cases hp
def ztp  : Option (Nat)→Option (AV×List Blk)
 | some r=>some ((.v (.one (.flt .f32 r))),[])
 | none=>none
def ztx:List PT→Option (Bool×AV×List Blk)
 | [.one (.s (.flt .f32 a)),.one (.s (.flt .f32 b)),.one (.s (.flt .f32 q3e))]=>sF ztp (zew a b q3e)
 | _=>none
theorem yag:ev8 Γ0 162 [.one (.s (.flt .f32 a0)),.one (.s (.flt .f32 a1)),.one (.s (.flt .f32 a2))]=ztp (zew a0 a1 a2):=tr2 (y6z a0 a1 a2 ztp rfl (fun c0_=>some c0_)) (by kernel_rfl)
theorem y7p:SumOne J 162 ztx:=mkT z7x z7w fun pts v news hp=>by
 unfold ztx at hp
 split at hp
 ·exact fin3 (yag ..) hp
 ·cases hp
def zly  : Option (Nat)→Option (AV×List Blk)
 | some r=>some ((.v (.one (.flt .f32 r))),[])
 | none=>none
def zlu:List PT→Option (Bool×AV×List Blk)
 | [.one (.s (.flt .f64 x))]=>sF zly (z6o x)
 | _=>none
theorem y60:ev8 Γ0 163 [.one (.s (.flt .f64 a0))]=zly (z6o a0):=tr2 (zzk a0 zly rfl (fun c0_=>some c0_)) (by kernel_rfl)
theorem y15:SumOne J 163 zlu:=mkT z7x z7w fun pts v news hp=>by
 unfold zlu at hp
 split at hp
 ·exact fin3 (y60 ..) hp
 ·cases hp
def zzw  : Option (Nat)→Option (AV×List Blk)
 | some r=>some ((.v (.one (.flt .f64 r))),[])
 | none=>none
def zzo:List PT→Option (Bool×AV×List Blk)
 | [.one (.s (.flt .f64 x))]=>sF zzw (zfl x)
 | _=>none
theorem ybj:ev8 Γ0 168 [.one (.s (.flt .f64 a0))]=zzw (zfl a0):=tr2 (y88 a0 zzw rfl (fun c0_=>some c0_)) (by kernel_rfl)
theorem y9w:SumOne J 168 zzo:=mkT z7x z7w fun pts v news hp=>by
 unfold zzo at hp
 split at hp
 ·exact fin3 (ybj ..) hp
 ·cases hp
def tb1:List (Nat×(List PT→Option (Bool×AV×List Blk))):=(35,zl7)::(52,zqv)::(65,znl)::(68,zug)::(71,zjz)::(84,zkt)::(117,zjj)::(118,zlp)::(134,zmq)::(142,zf5)::(151,zr8)::(152,zic)::(158,zzf)::(162,ztx)::(163,zlu)::(168,zzo)::tb0
def lt1:List ((Nat×Nat)×(Nat→St→Option (Bool×LO))):=lt0
def Γ1:Ctx:=⟨tyTab,fnTab,tblSum tb1,tblLp lt1⟩
theorem z81:SumL J tb1:=SumL.cons y1q (SumL.cons y6k (SumL.cons y2p (SumL.cons y77 (SumL.cons zzu (SumL.cons y1u (SumL.cons y06 (SumL.cons y1h (SumL.cons y2a (SumL.cons zsx (SumL.cons y5v (SumL.cons zy8 (SumL.cons ya9 (SumL.cons y7p (SumL.cons y15 (SumL.cons y9w (z7x))))))))))))))))
theorem z7y:LpL J fnTab lt1:=z7w
def zpi  : Option (Nat×Bool)→Option (AV×List Blk)
 | some r=>some ((.tup [(.one (.flt .f32 r.1)),(.one (.bool r.2))]),[])
 | none=>none
def zq0:List PT→Option (Bool×AV×List Blk)
 | [.one (.s (.flt .f32 x))]=>sF zpi (z6y x)
 | _=>none
theorem y8a:ev8 Γ1 59 [.one (.s (.flt .f32 a0))]=zpi (z6y a0):=tr2 (y3k a0 zpi rfl (fun c0_ c1_=>some (c0_,c1_))) (by kernel_rfl)
theorem y5c:SumOne J 59 zq0:=mkT z81 z7y fun pts v news hp=>by
 unfold zq0 at hp
 split at hp
 ·exact fin3 (y8a ..) hp
 ·cases hp
def zlj  : Option (Int)→Option (AV×List Blk)
 | some r=>some ((.v (.one (.int .i64 r))),[])
 | none=>none
def zkx:List PT→Option (Bool×AV×List Blk)
 | [.agg [.row 1 q1i (.fl .f32 q1t),.row 1 q1l (.fl .f32 q1v),.row 1 q1m (.fl .f32 q1w)],.one (.s (.int .i64 q2j))]=>sF zlj (z6p q1i q1t q1l q1v q1m q1w q2j)
 | _=>none
theorem y65:ev8 Γ1 70 [.agg [.row 1 a0 (.fl .f32 g1),.row 1 a2 (.fl .f32 g3),.row 1 a4 (.fl .f32 g5)],.one (.s (.int .i64 c6))]=zlj (z6p a0 g1 a2 g3 a4 g5 c6):=tr2 (y02 a0 g1 a2 g3 a4 g5 c6 zlj rfl (fun c0_=>some c0_)) (by kernel_rfl)
theorem y0v:SumOne J 70 zkx:=mkT z81 z7y fun pts v news hp=>by
 unfold zkx at hp
 split at hp
 ·exact fin3 (y65 ..) hp
 ·cases hp
def zn6  : Option (Bool)→Option (AV×List Blk)
 | some r=>some ((.v (.one (.bool r))),[])
 | none=>none
def zof:List PT→Option (Bool×AV×List Blk)
 | [.one (.s (.flt .f32 x))]=>sF zn6 (z7c x)
 | _=>none
theorem y7n:ev8 Γ1 83 [.one (.s (.flt .f32 a0))]=zn6 (z7c a0):=tr2 (y1g a0 zn6 rfl (fun c0_=>some c0_)) (by kernel_rfl)
theorem y3m:SumOne J 83 zof:=mkT z81 z7y fun pts v news hp=>by
 unfold zof at hp
 split at hp
 ·exact fin3 (y7n ..) hp
 ·cases hp
def zpa  : Option (Bool)→Option (AV×List Blk)
 | some r=>some ((.v (.one (.bool r))),[])
 | none=>none
def zp1:List PT→Option (Bool×AV×List Blk)
 | [.one (.s (.flt .f32 x))]=>sF zpa (z8b x)
 | _=>none
theorem y89:ev8 Γ1 90 [.one (.s (.flt .f32 a0))]=zpa (z8b a0):=tr2 (y2b a0 zpa rfl (fun c0_=>some c0_)) (by kernel_rfl)
theorem y5i:SumOne J 90 zp1:=mkT z81 z7y fun pts v news hp=>by
 unfold zp1 at hp
 split at hp
 ·exact fin3 (y89 ..) hp
 ·cases hp
def zft  : Option (Bool)→Option (AV×List Blk)
 | some r=>some ((.v (.one (.bool r))),[])
 | none=>none
def zg8:List PT→Option (Bool×AV×List Blk)
 | [.one (.s (.flt .f32 x))]=>sF zft (z4b x)
 | _=>none
theorem y0e:ev8 Γ1 115 [.one (.s (.flt .f32 a0))]=zft (z4b a0):=tr2 (ztr a0 zft rfl (fun c0_=>some c0_)) (by kernel_rfl)
theorem zv5:SumOne J 115 zg8:=mkT z81 z7y fun pts v news hp=>by
 unfold zg8 at hp
 split at hp
 ·exact fin3 (y0e ..) hp
 ·cases hp
def zld  : Option (Bool)→Option (AV×List Blk)
 | some r=>some ((.v (.one (.bool r))),[])
 | none=>none
def zl8:List PT→Option (Bool×AV×List Blk)
 | [.agg [.s (.flt .f32 q2r),.s (.flt .f32 q2t),.s (.flt .f32 q2u)],.agg [.s (.flt .f32 q35),.s (.flt .f32 q38),.s (.flt .f32 q37)]]=>sF zld (z6l q2r q2t q2u q35 q38 q37)
 | _=>none
theorem y6j:ev8 Γ1 119 [.agg [.s (.flt .f32 a0),.s (.flt .f32 a1),.s (.flt .f32 a2)],.agg [.s (.flt .f32 a3),.s (.flt .f32 a4),.s (.flt .f32 a5)]]=zld (z6l a0 a1 a2 a3 a4 a5):=tr2 (zz2 a0 a1 a2 a3 a4 a5 zld rfl (fun c0_=>some c0_)) (by kernel_rfl)
theorem y1b:SumOne J 119 zl8:=mkT z81 z7y fun pts v news hp=>by
 unfold zl8 at hp
 split at hp
 ·exact fin3 (y6j ..) hp
 ·cases hp
def znm  : Option (Bool)→Option (AV×List Blk)
 | some r=>some ((.v (.one (.bool r))),[])
 | none=>none
def zoi:List PT→Option (Bool×AV×List Blk)
 | [.one (.s (.flt .f32 x))]=>sF znm (z7b x)
 | _=>none
theorem y7x:ev8 Γ1 121 [.one (.s (.flt .f32 a0))]=znm (z7b a0):=tr2 (y19 a0 znm rfl (fun c0_=>some c0_)) (by kernel_rfl)
theorem y3e:SumOne J 121 zoi:=mkT z81 z7y fun pts v news hp=>by
 unfold zoi at hp
 split at hp
 ·exact fin3 (y7x ..) hp
 ·cases hp
def zmy  : Option (Bool)→Option (AV×List Blk)
 | some r=>some ((.v (.one (.bool r))),[])
 | none=>none
def zn9:List PT→Option (Bool×AV×List Blk)
 | [.ptr [.row 1 q07 (.fl .f32 q0b),.row 1 q09 (.fl .f32 q0c),.row 1 q08 (.fl .f32 q0d),.row 3 q0f (.fl .f32 q0i),.s (.int .i64 q0l),.s (.flt .f32 q0o),.s (.flt .f32 q0n)],.one (.s (.int .i64 i)),.one (.s (.flt .f32 q0m))]=>sF zmy (z7d q07 q0b q09 q0c q08 q0d q0f q0i q0l q0o q0n i q0m)
 | _=>none
theorem y7j:ev8 Γ1 128 [.ptr [.row 1 a0 (.fl .f32 g1),.row 1 a2 (.fl .f32 g3),.row 1 a4 (.fl .f32 g5),.row 3 a6 (.fl .f32 g7),.s (.int .i64 c8),.s (.flt .f32 a9),.s (.flt .f32 a10)],.one (.s (.int .i64 c11)),.one (.s (.flt .f32 a12))]=zmy (z7d a0 g1 a2 g3 a4 g5 a6 g7 c8 a9 a10 c11 a12):=tr2 (y1o a0 g1 a2 g3 a4 g5 a6 g7 c8 a9 a10 c11 a12 zmy rfl (fun c0_=>some c0_)) (by kernel_rfl)
theorem y29:SumOne J 128 zn9:=mkT z81 z7y fun pts v news hp=>by
 unfold zn9 at hp
 split at hp
 ·exact fin3 (y7j ..) hp
 ·cases hp
def zqo  : Option (Nat×Nat×Bool)→Option (AV×List Blk)
 | some r=>some ((.tup [(.one (.flt .f32 r.1)),(.one (.flt .f32 r.2.1)),(.one (.bool r.2.2))]),[])
 | none=>none
def zr9:List PT→Option (Bool×AV×List Blk)
 | [.one (.s (.flt .f32 x)),.one (.s (.flt .f32 y))]=>sF zqo (z6c x y)
 | _=>none
theorem ya2:ev8 Γ1 131 [.one (.s (.flt .f32 a0)),.one (.s (.flt .f32 a1))]=zqo (z6c a0 a1):=tr2 (y43 a0 a1 zqo rfl (fun c0_ c1_ c2_=>some (c0_,c1_,c2_))) (by kernel_rfl)
theorem y5r:SumOne J 131 zr9:=mkT z81 z7y fun pts v news hp=>by
 unfold zr9 at hp
 split at hp
 ·exact fin3 (ya2 ..) hp
 ·cases hp
def zi0  : Option (Bool)→Option (AV×List Blk)
 | some r=>some ((.v (.one (.bool r))),[])
 | none=>none
def zi7:List PT→Option (Bool×AV×List Blk)
 | [.one (.s (.flt .f32 x))]=>sF zi0 (z51 x)
 | _=>none
theorem y34:ev8 Γ1 153 [.one (.s (.flt .f32 a0))]=zi0 (z51 a0):=tr2 (zwv a0 zi0 rfl (fun c0_=>some c0_)) (by kernel_rfl)
theorem zyc:SumOne J 153 zi7:=mkT z81 z7y fun pts v news hp=>by
 unfold zi7 at hp
 split at hp
 ·exact fin3 (y34 ..) hp
 ·cases hp
def zcu  : Option (Bool)→Option (AV×List Blk)
 | some r=>some ((.v (.one (.bool r))),[])
 | none=>none
def zd4:List PT→Option (Bool×AV×List Blk)
 | [.agg [.row 1 q07 (.fl .f32 q0b),.row 1 q09 (.fl .f32 q0c),.row 1 q08 (.fl .f32 q0d),.row 3 q0f (.fl .f32 q0i),.s (.int .i64 q0l),.s (.flt .f32 q0o),.s (.flt .f32 q0n)],.one (.s (.int .i64 i))]=>sF zcu (z3e q07 q0b q09 q0c q08 q0d q0f q0i q0l q0o q0n i)
 | _=>none
theorem zwc:ev8 Γ1 155 [.agg [.row 1 a0 (.fl .f32 g1),.row 1 a2 (.fl .f32 g3),.row 1 a4 (.fl .f32 g5),.row 3 a6 (.fl .f32 g7),.s (.int .i64 c8),.s (.flt .f32 a9),.s (.flt .f32 a10)],.one (.s (.int .i64 c11))]=zcu (z3e a0 g1 a2 g3 a4 g5 a6 g7 c8 a9 a10 c11):=tr2 (zr3 a0 g1 a2 g3 a4 g5 a6 g7 c8 a9 a10 c11 zcu rfl (fun c0_=>some c0_)) (by kernel_rfl)
theorem zsf:SumOne J 155 zd4:=mkT z81 z7y fun pts v news hp=>by
 unfold zd4 at hp
 split at hp
 ·exact fin3 (zwc ..) hp
 ·cases hp
def zqy  : Option (Bool)→Option (AV×List Blk)
 | some r=>some ((.v (.one (.bool r))),[])
 | none=>none
def zqw:List PT→Option (Bool×AV×List Blk)
 | [.one (.s (.flt .f32 q1g))]=>sF zqy (z9a q1g)
 | _=>none
theorem ya6:ev8 Γ1 156 [.one (.s (.flt .f32 a0))]=zqy (z9a a0):=tr2 (y42 a0 zqy rfl (fun c0_=>some c0_)) (by kernel_rfl)
theorem y6a:SumOne J 156 zqw:=mkT z81 z7y fun pts v news hp=>by
 unfold zqw at hp
 split at hp
 ·exact fin3 (ya6 ..) hp
 ·cases hp
def zrc  : Option (Bool)→Option (AV×List Blk)
 | some r=>some ((.v (.one (.bool r))),[])
 | none=>none
def zqp:List PT→Option (Bool×AV×List Blk)
 | [.one (.s (.flt .f64 x))]=>sF zrc (z97 x)
 | _=>none
theorem ya3:ev8 Γ1 159 [.one (.s (.flt .f64 a0))]=zrc (z97 a0):=tr2 (y50 a0 zrc rfl (fun c0_=>some c0_)) (by kernel_rfl)
theorem y6e:SumOne J 159 zqp:=mkT z81 z7y fun pts v news hp=>by
 unfold zqp at hp
 split at hp
 ·exact fin3 (ya3 ..) hp
 ·cases hp
def z8h:St:=(.mk [(x0V 0 0 a0 1),(x0I 1 c1),(x0I 5 c2)] [(x0L g3)])
def zbp(an:Nat)(b0:List Nat):St:=(.mk [(4,(.v (.one (.int .i64 (Int.negSucc 0)))))] [(x0L b0)])
def zbf:St:=(.mk [(x0V 0 0 a0 1),(x0I 1 c2),(x0I 5 c3),(x0B 9 e4)] [(x0L g1)])
def zd2:Option ((Unit)⊕(Int×Int×Bool))→Option (Ex×St)
 | none=>none
 | some (Sum.inl r)=>some (.ret,(zbp a0 g1))
 | some (Sum.inr r)=>some ((.exit 0),(zbf a0 g1 r.1 r.2.1 r.2.2))
def zj0 (x:Option ((Unit)⊕(Int×Int×Bool))):LO:=(.two (oL x) (.one .ret (zbp a0 g1)) (.one (.exit 0) (zbf a0 g1 ((tR x).getD default).1 ((tR x).getD default).2.1 ((tR x).getD default).2.2)))
def zsv:Bool×LO:=sL (zj0 a0 g3) (z0k a0 g3 big c1 c2)
def zkd:Nat→St→Option (Bool×LO):=lpT 1 (pSt [(x1V 0 0 1),(x1I 1),(x1I 5)] [x1L]) (fun hs=>zsv (hN hs 0) (hI hs 1) (hI hs 2) (hLn hs 3))
theorem zwo:∀ x:Option ((Unit)⊕(Int×Int×Bool)),x.isSome=true→(zd2 a0 g1) x=some (pick (zj0 a0 g1 x))
 | none,h=>by cases h
 | some (Sum.inl r),_=>rfl
 | some (Sum.inr r),_=>rfl
theorem zw2 (K:Ex→St→Option (Ex×St)):ev9 Γ1 40 2 1 fi40 (z8h a0 c1 c2 g3) K=z1p a0 g3 c1 c2 (fun k' i'=>K .normal (z8h a0 k' i' g3)) (fun _=>K .ret (zbp a0 g3)) (fun c0_ c1_ c2_=>K (.exit 0) (zbf a0 g3 c0_ c1_ c2_)):=by kernel_rfl
theorem zvu:∀ (n:Nat) (k i:Int),iter 40 2 1 (ev9 Γ1 40 2 1 fi40) n (z8h a0 k i g1) (fun e st=>some (e,st))=(zd2 a0 g1) (z0k a0 g1 n k i):=by
 intro n
 induction n with
 | zero=>intros;rfl
 | succ n ih=>
  intro k i
  refine Eq.trans (iter_succ ..) (Eq.trans (zw2 ..) (Eq.trans ?_ (zrb a0 g1 k i (zd2 a0 g1) rfl (fun k' i'=>z0k a0 g1 n k' i') (fun _=>some (Sum.inl ())) (fun c0_ c1_ c2_=>some (Sum.inr (c0_,c1_,c2_))))))
  exact congrArg (fun kn_=>z1p a0 g1 k i kn_ _ _) (funext fun k'=>funext fun i'=>ih ..)
theorem zsp:LoopOne J fnTab 40 2 zkd:=lpK z81 z7y (fi:=fi40) (by kernel_rfl) (by kernel_rfl) (q:=fun hs=>(z8h (hN hs 0) (hI hs 1) (hI hs 2) (hLn hs 3))) (fun hs=>by kernel_rfl) fun hs h1=>Eq.trans (zvu (hN hs 0) (hLn hs 3) big (hI hs 1) (hI hs 2)) (zwo (hN hs 0) (hLn hs 3) _ h1)
def z9k:St:=(.mk [(x0V 0 0 a0 1),(x0S 3 1 a1 1),(x0I 4 c2)] [(x0L g3),(x0T g4)])
def zez:St:=(.mk [(x0V 0 0 a0 1),(x0S 3 1 a1 1),(x0I 4 c3),(x0B 11 e4)] [(x0L g2),(x0T g5)])
def zfo:Option ((Int×Bool×(List Nat)))→Option (Ex×St)
 | none=>none
 | some r=>some ((.exit 0),(zez a0 a1 g2 r.1 r.2.1 r.2.2))
def zm6 (x:Option ((Int×Bool×(List Nat)))):LO:=(.one (.exit 0) (zez a0 a1 g2 (x.getD default).1 (x.getD default).2.1 (x.getD default).2.2))
def zwr:Bool×LO:=sL (zm6 a0 a1 g3) (z19 a0 a1 g3 big c2 g4)
def zn2:Nat→St→Option (Bool×LO):=lpT 1 (pSt [(x1V 0 0 1),(x1S 3 1 1),(x1I 4)] [x1L,x1T]) (fun hs=>zwr (hN hs 0) (hN hs 1) (hI hs 2) (hLn hs 3) (hLn hs 4))
theorem zzn:∀ x:Option ((Int×Bool×(List Nat))),x.isSome=true→(zfo a0 a1 g2) x=some (pick (zm6 a0 a1 g2 x))
 | none,h=>by cases h
 | some r,_=>rfl
theorem zzt (K:Ex→St→Option (Ex×St)):ev9 Γ1 45 3 1 fi45 (z9k a0 a1 c2 g3 g4) K=z2f a0 a1 g3 c2 g4 (fun i' b1'=>K .normal (z9k a0 a1 i' g3 b1')) (fun c0_ c1_ c2_=>K (.exit 0) (zez a0 a1 g3 c0_ c1_ c2_)):=by kernel_rfl
theorem y07:∀ (n:Nat) (i:Int) (b1:List Nat),iter 45 3 1 (ev9 Γ1 45 3 1 fi45) n (z9k a0 a1 i g2 b1) (fun e st=>some (e,st))=(zfo a0 a1 g2) (z19 a0 a1 g2 n i b1):=by
 intro n
 induction n with
 | zero=>intros;rfl
 | succ n ih=>
  intro i b1
  refine Eq.trans (iter_succ ..) (Eq.trans (zzt ..) (Eq.trans ?_ (zua a0 a1 g2 i b1 (zfo a0 a1 g2) rfl (fun i' b1'=>z19 a0 a1 g2 n i' b1') (fun c0_ c1_ c2_=>some (c0_,c1_,c2_)))))
  exact congrArg (fun kn_=>z2f a0 a1 g2 i b1 kn_ _) (funext fun i'=>funext fun b1'=>ih ..)
theorem zv4:LoopOne J fnTab 45 3 zn2:=lpK z81 z7y (fi:=fi45) (by kernel_rfl) (by kernel_rfl) (q:=fun hs=>(z9k (hN hs 0) (hN hs 1) (hI hs 2) (hLn hs 3) (hLn hs 4))) (fun hs=>by kernel_rfl) fun hs h1=>Eq.trans (y07 (hN hs 0) (hN hs 1) (hLn hs 3) big (hI hs 2) (hLn hs 4)) (zzn (hN hs 0) (hN hs 1) (hLn hs 3) _ h1)
def z58:St:=(.mk [(x0V 0 0 a0 1),(x0B 1 e1),(x0I 7 c2),(x0I 8 c3)] [(.mk false (.bl m4))])
def z7r(sn:Nat)(v:Bool)(t7:Int)(b0:List Bool)(c0_:Int):St:=(.mk [(x0I 4 c0_)] [(.mk false (.bl b0))])
def z7s:St:=(.mk [(x0V 0 0 a0 1),(x0B 1 e1),(x0I 7 c2),(x0I 8 c4),(x0B 9 e5)] [(.mk false (.bl m3))])
def z8a:Option ((Int)⊕(Int×Bool))→Option (Ex×St)
 | none=>none
 | some (Sum.inl r)=>some (.ret,(z7r a0 e1 c2 m3 r))
 | some (Sum.inr r)=>some ((.exit 0),(z7s a0 e1 c2 m3 r.1 r.2))
def zdh (x:Option ((Int)⊕(Int×Bool))):LO:=(.two (oL x) (.one .ret (z7r a0 e1 c2 m3 ((tL x).getD default))) (.one (.exit 0) (z7s a0 e1 c2 m3 ((tR x).getD default).1 ((tR x).getD default).2)))
def zo2:Bool×LO:=sL (zdh a0 e1 c2 m4) (z0a a0 e1 c2 m4 big c3)
def zeq:Nat→St→Option (Bool×LO):=lpT 1 (pSt [(x1V 0 0 1),(x1B 1),(x1I 7),(x1I 8)] [(pBlk false pBl)]) (fun hs=>zo2 (hN hs 0) (hB hs 1) (hI hs 2) (hI hs 3) (hLb hs 4))
theorem zpt:∀ x:Option ((Int)⊕(Int×Bool)),x.isSome=true→(z8a a0 e1 c2 m3) x=some (pick (zdh a0 e1 c2 m3 x))
 | none,h=>by cases h
 | some (Sum.inl r),_=>rfl
 | some (Sum.inr r),_=>rfl
theorem zpc (K:Ex→St→Option (Ex×St)):ev9 Γ1 113 2 1 fi113 (z58 a0 e1 c2 c3 m4) K=z14 a0 e1 c2 m4 c3 (fun t8'=>K .normal (z58 a0 e1 c2 t8' m4)) (fun c0_=>K .ret (z7r a0 e1 c2 m4 c0_)) (fun c0_ c1_=>K (.exit 0) (z7s a0 e1 c2 m4 c0_ c1_)):=by kernel_rfl
theorem zq1:∀ (n:Nat) (t8:Int),iter 113 2 1 (ev9 Γ1 113 2 1 fi113) n (z58 a0 e1 c2 t8 m3) (fun e st=>some (e,st))=(z8a a0 e1 c2 m3) (z0a a0 e1 c2 m3 n t8):=by
 intro n
 induction n with
 | zero=>intros;rfl
 | succ n ih=>
  intro t8
  refine Eq.trans (iter_succ ..) (Eq.trans (zpc ..) (Eq.trans ?_ (zky a0 e1 c2 m3 t8 (z8a a0 e1 c2 m3) rfl (fun t8'=>z0a a0 e1 c2 m3 n t8') (fun c0_=>some (Sum.inl c0_)) (fun c0_ c1_=>some (Sum.inr (c0_,c1_))))))
  exact congrArg (fun kn_=>z14 a0 e1 c2 m3 t8 kn_ _ _) (funext fun t8'=>ih ..)
theorem zml:LoopOne J fnTab 113 2 zeq:=lpK z81 z7y (fi:=fi113) (by kernel_rfl) (by kernel_rfl) (q:=fun hs=>(z58 (hN hs 0) (hB hs 1) (hI hs 2) (hI hs 3) (hLb hs 4))) (fun hs=>by kernel_rfl) fun hs h1=>Eq.trans (zq1 (hN hs 0) (hB hs 1) (hI hs 2) (hLb hs 4) big (hI hs 3)) (zpt (hN hs 0) (hB hs 1) (hI hs 2) (hLb hs 4) _ h1)
def tb2:List (Nat×(List PT→Option (Bool×AV×List Blk))):=(59,zq0)::(70,zkx)::(83,zof)::(90,zp1)::(115,zg8)::(119,zl8)::(121,zoi)::(128,zn9)::(131,zr9)::(153,zi7)::(155,zd4)::(156,zqw)::(159,zqp)::tb1
def lt2:List ((Nat×Nat)×(Nat→St→Option (Bool×LO))):=((40,2),zkd)::((45,3),zn2)::((113,2),zeq)::lt1
def Γ2:Ctx:=⟨tyTab,fnTab,tblSum tb2,tblLp lt2⟩
theorem zii:SumL J tb2:=SumL.cons y5c (SumL.cons y0v (SumL.cons y3m (SumL.cons y5i (SumL.cons zv5 (SumL.cons y1b (SumL.cons y3e (SumL.cons y29 (SumL.cons y5r (SumL.cons zyc (SumL.cons zsf (SumL.cons y6a (SumL.cons y6e (z81)))))))))))))
theorem zhv:LpL J fnTab lt2:=LpL.cons zsp (LpL.cons zv4 (LpL.cons zml (z7y)))
def zq4  : Option (Int)→Option (AV×List Blk)
 | some r=>some ((.v (.one (.int .i64 r))),[])
 | none=>none
def zps:List PT→Option (Bool×AV×List Blk)
 | [.agg [.row 1 q0t (.fl .f32 q15),.row 1 q0v (.fl .f32 q18),.row 1 q0w (.fl .f32 q17),.row 3 q1f (.fl .f32 q1k),.s (.int .i64 q1u),.s (.flt .f32 q23),.s (.flt .f32 q24)],.one (.s (.int .i64 q2j))]=>sF zq4 (z87 q0t q15 q0v q18 q0w q17 q1f q1k q1u q23 q24 q2j)
 | _=>none
theorem y8g:ev8 Γ2 32 [.agg [.row 1 a0 (.fl .f32 g1),.row 1 a2 (.fl .f32 g3),.row 1 a4 (.fl .f32 g5),.row 3 a6 (.fl .f32 g7),.s (.int .i64 c8),.s (.flt .f32 a9),.s (.flt .f32 a10)],.one (.s (.int .i64 c11))]=zq4 (z87 a0 g1 a2 g3 a4 g5 a6 g7 c8 a9 a10 c11):=tr2 (y3a a0 g1 a2 g3 a4 g5 a6 g7 c8 a9 a10 c11 zq4 rfl (fun c0_=>some c0_)) (by kernel_rfl)
theorem y41:SumOne J 32 zps:=mkT zii zhv fun pts v news hp=>by
 unfold zps at hp
 split at hp
 ·exact fin3 (y8g ..) hp
 ·cases hp
def zhb  : Option (Int)→Option (AV×List Blk)
 | some r=>some ((.v (.one (.int .i64 r))),[])
 | none=>none
def zhe:List PT→Option (Bool×AV×List Blk)
 | [.one (.row 1 a_n (.fl .f32 a)),.one (.s (.int .i64 k))]=>sF zhb (z4l a_n a k)
 | _=>none
theorem y0u:ev8 Γ2 40 [.one (.row 1 a0 (.fl .f32 g1)),.one (.s (.int .i64 c2))]=zhb (z4l a0 g1 c2):=tr2 (zui a0 g1 c2 zhb rfl (fun c0_=>some c0_)) (by kernel_rfl)
theorem zw5:SumOne J 40 zhe:=mkT zii zhv fun pts v news hp=>by
 unfold zhe at hp
 split at hp
 ·exact fin3 (y0u ..) hp
 ·cases hp
def zk1  : Option (Nat×(List Nat))→Option (AV×List Blk)
 | some r=>some ((.v (.one (.sl 0 0 r.1 1))),[(.mk true (.fl .f32 r.2))])
 | none=>none
def zji:List PT→Option (Bool×AV×List Blk)
 | [.one (.row 1 a_n (.fl .f32 a))]=>sF zk1 (z4i a_n a)
 | _=>none
theorem y4t:ev8 Γ2 45 [.one (.row 1 a0 (.fl .f32 g1))]=zk1 (z4i a0 g1):=tr2 (zxz a0 g1 zk1 rfl (fun c0_ c1_=>some (c0_,c1_))) (by kernel_rfl)
theorem zzz:SumOne J 45 zji:=mkT zii zhv fun pts v news hp=>by
 unfold zji at hp
 split at hp
 ·exact fin3 (y4t ..) hp
 ·cases hp
def z9m  : Option (Int)→Option (AV×List Blk)
 | some r=>some ((.v (.one (.int .i64 r))),[])
 | none=>none
def z9x:List PT→Option (Bool×AV×List Blk)
 | [.one (.row 1 s_n (.bl s)),.one (.s (.bool v))]=>sF z9m (z2g s_n s v)
 | _=>none
theorem zsk:ev8 Γ2 113 [.one (.row 1 a0 (.bl m1)),.one (.s (.bool e2))]=z9m (z2g a0 m1 e2):=tr2 (zol a0 m1 e2 z9m rfl (fun c0_=>some c0_)) (by kernel_rfl)
theorem zq5:SumOne J 113 z9x:=mkT zii zhv fun pts v news hp=>by
 unfold z9x at hp
 split at hp
 ·exact fin3 (zsk ..) hp
 ·cases hp
def zjv  : Option (Bool)→Option (AV×List Blk)
 | some r=>some ((.v (.one (.bool r))),[])
 | none=>none
def zk2:List PT→Option (Bool×AV×List Blk)
 | [.one (.s (.flt .f32 x))]=>sF zjv (z5u x)
 | _=>none
theorem y4y:ev8 Γ2 154 [.one (.s (.flt .f32 a0))]=zjv (z5u a0):=tr2 (zx8 a0 zjv rfl (fun c0_=>some c0_)) (by kernel_rfl)
theorem zz0:SumOne J 154 zk2:=mkT zii zhv fun pts v news hp=>by
 unfold zk2 at hp
 split at hp
 ·exact fin3 (y4y ..) hp
 ·cases hp
def ztf  : Option (Nat)→Option (AV×List Blk)
 | some r=>some ((.v (.one (.flt .f64 r))),[])
 | none=>none
def zsu:List PT→Option (Bool×AV×List Blk)
 | [.one (.s (.flt .f64 x))]=>sF ztf (zap x)
 | _=>none
theorem yau:ev8 Γ2 174 [.one (.s (.flt .f64 a0))]=ztf (zap a0):=tr2 (y6b a0 ztf rfl (fun c0_=>some c0_)) (by kernel_rfl)
theorem y71:SumOne J 174 zsu:=mkT zii zhv fun pts v news hp=>by
 unfold zsu at hp
 split at hp
 ·exact fin3 (yau ..) hp
 ·cases hp
def z9q:St:=(.mk [(x0V 0 0 a0 1),(x0V 1 1 a1 1),(x0I 5 c2)] [(x0L g3),(x0L g4)])
def zex(an bn:Nat)(b0 b1:List Nat):St:=(.mk [(x0B 4 false)] [(x0L b0),(x0L b1)])
def zf4:St:=(.mk [(x0V 0 0 a0 1),(x0V 1 1 a1 1),(x0I 5 c4),(x0B 14 e5)] [(x0L g2),(x0L g3)])
def zgl:Option ((Unit)⊕(Int×Bool))→Option (Ex×St)
 | none=>none
 | some (Sum.inl r)=>some (.ret,(zex a0 a1 g2 g3))
 | some (Sum.inr r)=>some ((.exit 0),(zf4 a0 a1 g2 g3 r.1 r.2))
def zmh (x:Option ((Unit)⊕(Int×Bool))):LO:=(.two (oL x) (.one .ret (zex a0 a1 g2 g3)) (.one (.exit 0) (zf4 a0 a1 g2 g3 ((tR x).getD default).1 ((tR x).getD default).2)))
def zwm:Bool×LO:=sL (zmh a0 a1 g3 g4) (z1b a0 a1 g3 g4 big c2)
def zng:Nat→St→Option (Bool×LO):=lpT 2 (pSt [(x1V 0 0 1),(x1V 1 1 1),(x1I 5)] [x1L,x1L]) (fun hs=>zwm (hN hs 0) (hN hs 1) (hI hs 2) (hLn hs 3) (hLn hs 4))
theorem zz3:∀ x:Option ((Unit)⊕(Int×Bool)),x.isSome=true→(zgl a0 a1 g2 g3) x=some (pick (zmh a0 a1 g2 g3 x))
 | none,h=>by cases h
 | some (Sum.inl r),_=>rfl
 | some (Sum.inr r),_=>rfl
theorem y08 (K:Ex→St→Option (Ex×St)):ev9 Γ2 37 4 2 fi37 (z9q a0 a1 c2 g3 g4) K=z2c a0 a1 g3 g4 c2 (fun i'=>K .normal (z9q a0 a1 i' g3 g4)) (fun _=>K .ret (zex a0 a1 g3 g4)) (fun c0_ c1_=>K (.exit 0) (zf4 a0 a1 g3 g4 c0_ c1_)):=by kernel_rfl
theorem zym:∀ (n:Nat) (i:Int),iter 37 4 2 (ev9 Γ2 37 4 2 fi37) n (z9q a0 a1 i g2 g3) (fun e st=>some (e,st))=(zgl a0 a1 g2 g3) (z1b a0 a1 g2 g3 n i):=by
 intro n
 induction n with
 | zero=>intros;rfl
 | succ n ih=>
  intro i
  refine Eq.trans (iter_succ ..) (Eq.trans (y08 ..) (Eq.trans ?_ (ztq a0 a1 g2 g3 i (zgl a0 a1 g2 g3) rfl (fun i'=>z1b a0 a1 g2 g3 n i') (fun _=>some (Sum.inl ())) (fun c0_ c1_=>some (Sum.inr (c0_,c1_))))))
  exact congrArg (fun kn_=>z2c a0 a1 g2 g3 i kn_ _ _) (funext fun i'=>ih ..)
theorem zur:LoopOne J fnTab 37 4 zng:=lpK zii zhv (fi:=fi37) (by kernel_rfl) (by kernel_rfl) (q:=fun hs=>(z9q (hN hs 0) (hN hs 1) (hI hs 2) (hLn hs 3) (hLn hs 4))) (fun hs=>by kernel_rfl) fun hs h1=>Eq.trans (zym (hN hs 0) (hN hs 1) (hLn hs 3) (hLn hs 4) big (hI hs 2)) (zz3 (hN hs 0) (hN hs 1) (hLn hs 3) (hLn hs 4) _ h1)
def z9w:St:=(.mk [(x0V 0 0 a0 3),(x0S 3 1 a1 3),(x0I 4 c2)] [(x0L g3),(x0T g4)])
def zet:St:=(.mk [(x0V 0 0 a0 3),(x0S 3 1 a1 3),(x0I 4 c3),(x0B 11 e4)] [(x0L g2),(x0T g5)])
def zg2:Option ((Int×Bool×(List Nat)))→Option (Ex×St)
 | none=>none
 | some r=>some ((.exit 0),(zet a0 a1 g2 r.1 r.2.1 r.2.2))
def zmf (x:Option ((Int×Bool×(List Nat)))):LO:=(.one (.exit 0) (zet a0 a1 g2 (x.getD default).1 (x.getD default).2.1 (x.getD default).2.2))
def zwl:Bool×LO:=sL (zmf a0 a1 g3) (z0y a0 a1 g3 big c2 g4)
def znf:Nat→St→Option (Bool×LO):=lpT 1 (pSt [(x1V 0 0 3),(x1S 3 1 3),(x1I 4)] [x1L,x1T]) (fun hs=>zwl (hN hs 0) (hN hs 1) (hI hs 2) (hLn hs 3) (hLn hs 4))
theorem zyo:∀ x:Option ((Int×Bool×(List Nat))),x.isSome=true→(zg2 a0 a1 g2) x=some (pick (zmf a0 a1 g2 x))
 | none,h=>by cases h
 | some r,_=>rfl
theorem zz8 (K:Ex→St→Option (Ex×St)):ev9 Γ2 75 3 1 fi75 (z9w a0 a1 c2 g3 g4) K=z2d a0 a1 g3 c2 g4 (fun i' b1'=>K .normal (z9w a0 a1 i' g3 b1')) (fun c0_ c1_ c2_=>K (.exit 0) (zet a0 a1 g3 c0_ c1_ c2_)):=by kernel_rfl
theorem y0c:∀ (n:Nat) (i:Int) (b1:List Nat),iter 75 3 1 (ev9 Γ2 75 3 1 fi75) n (z9w a0 a1 i g2 b1) (fun e st=>some (e,st))=(zg2 a0 a1 g2) (z0y a0 a1 g2 n i b1):=by
 intro n
 induction n with
 | zero=>intros;rfl
 | succ n ih=>
  intro i b1
  refine Eq.trans (iter_succ ..) (Eq.trans (zz8 ..) (Eq.trans ?_ (ztj a0 a1 g2 i b1 (zg2 a0 a1 g2) rfl (fun i' b1'=>z0y a0 a1 g2 n i' b1') (fun c0_ c1_ c2_=>some (c0_,c1_,c2_)))))
  exact congrArg (fun kn_=>z2d a0 a1 g2 i b1 kn_ _) (funext fun i'=>funext fun b1'=>ih ..)
theorem zv3:LoopOne J fnTab 75 3 znf:=lpK zii zhv (fi:=fi75) (by kernel_rfl) (by kernel_rfl) (q:=fun hs=>(z9w (hN hs 0) (hN hs 1) (hI hs 2) (hLn hs 3) (hLn hs 4))) (fun hs=>by kernel_rfl) fun hs h1=>Eq.trans (y0c (hN hs 0) (hN hs 1) (hLn hs 3) big (hI hs 2) (hLn hs 4)) (zyo (hN hs 0) (hN hs 1) (hLn hs 3) _ h1)
def z8j:St:=(.mk [(x0B 4 e0),(5,(.v (.one (.flt .f64 a1)))),(6,(.v (.one (.flt .f64 a2)))),(7,(.v (.one (.flt .f64 a3)))),(x0I 8 c4)] [])
def zbi:St:=(.mk [(x0B 4 e0),(5,(.v (.one (.flt .f64 a1)))),(6,(.v (.one (.flt .f64 a2)))),(7,(.v (.one (.flt .f64 a3)))),(x0I 8 c4),(x0B 44 e5)] [])
def zdf:Option ((Nat×Int×Bool))→Option (Ex×St)
 | none=>none
 | some r=>some ((.exit 0),(zbi e0 a1 a2 r.1 r.2.1 r.2.2))
def zj4 (x:Option ((Nat×Int×Bool))):LO:=(.one (.exit 0) (zbi e0 a1 a2 (x.getD default).1 (x.getD default).2.1 (x.getD default).2.2))
def zta:Bool×LO:=sL (zj4 e0 a1 a2) (z0v a2 big a3 c4)
def zkf:Nat→St→Option (Bool×LO):=lpT 0 (pSt [(x1B 4),(pTm 5 (pV (pOne (pFlt .f64)))),(pTm 6 (pV (pOne (pFlt .f64)))),(pTm 7 (pV (pOne (pFlt .f64)))),(x1I 8)] []) (fun hs=>zta (hB hs 0) (hN hs 1) (hN hs 2) (hN hs 3) (hI hs 4))
theorem zwe:∀ x:Option ((Nat×Int×Bool)),x.isSome=true→(zdf e0 a1 a2) x=some (pick (zj4 e0 a1 a2 x))
 | none,h=>by cases h
 | some r,_=>rfl
theorem zw8 (K:Ex→St→Option (Ex×St)):ev9 Γ2 164 17 0 fi164 (z8j e0 a1 a2 a3 c4) K=z1t a2 a3 c4 (fun t7' t8'=>K .normal (z8j e0 a1 a2 t7' t8')) (fun c0_ c1_ c2_=>K (.exit 0) (zbi e0 a1 a2 c0_ c1_ c2_)):=by kernel_rfl
theorem zvs:∀ (n t7:Nat) (t8:Int),iter 164 17 0 (ev9 Γ2 164 17 0 fi164) n (z8j e0 a1 a2 t7 t8) (fun e st=>some (e,st))=(zdf e0 a1 a2) (z0v a2 n t7 t8):=by
 intro n
 induction n with
 | zero=>intros;rfl
 | succ n ih=>
  intro t7 t8
  refine Eq.trans (iter_succ ..) (Eq.trans (zw8 ..) (Eq.trans ?_ (zr4 a2 t7 t8 (zdf e0 a1 a2) rfl (fun t7' t8'=>z0v a2 n t7' t8') (fun c0_ c1_ c2_=>some (c0_,c1_,c2_)))))
  exact congrArg (fun kn_=>z1t a2 t7 t8 kn_ _) (funext fun t7'=>funext fun t8'=>ih ..)
theorem zse:LoopOne J fnTab 164 17 zkf:=lpK zii zhv (fi:=fi164) (by kernel_rfl) (by kernel_rfl) (q:=fun hs=>(z8j (hB hs 0) (hN hs 1) (hN hs 2) (hN hs 3) (hI hs 4))) (fun hs=>by kernel_rfl) fun hs h1=>Eq.trans (zvs (hB hs 0) (hN hs 1) (hN hs 2) big (hN hs 3) (hI hs 4)) (zwe (hB hs 0) (hN hs 1) (hN hs 2) _ h1)
def tb3:List (Nat×(List PT→Option (Bool×AV×List Blk))):=(32,zps)::(40,zhe)::(45,zji)::(113,z9x)::(154,zk2)::(174,zsu)::tb2
def lt3:List ((Nat×Nat)×(Nat→St→Option (Bool×LO))):=((37,4),zng)::((75,3),znf)::((164,17),zkf)::lt2
def Γ3:Ctx:=⟨tyTab,fnTab,tblSum tb3,tblLp lt3⟩
theorem zgo:SumL J tb3:=SumL.cons y41 (SumL.cons zw5 (SumL.cons zzz (SumL.cons zq5 (SumL.cons zz0 (SumL.cons y71 (zii))))))
theorem zgr:LpL J fnTab lt3:=LpL.cons zur (LpL.cons zv3 (LpL.cons zse (zhv)))
def zjh  : Option (Bool)→Option (AV×List Blk)
 | some r=>some ((.v (.one (.bool r))),[])
 | none=>none
def zju:List PT→Option (Bool×AV×List Blk)
 | [.one (.row 1 a_n (.fl .f32 a)),.one (.row 1 b_n (.fl .f32 b))]=>sF zjh (z5m a_n a b_n b)
 | _=>none
theorem y5h:ev8 Γ3 37 [.one (.row 1 a0 (.fl .f32 g1)),.one (.row 1 a2 (.fl .f32 g3))]=zjh (z5m a0 g1 a2 g3):=tr2 (zww a0 g1 a2 g3 zjh rfl (fun c0_=>some c0_)) (by kernel_rfl)
theorem zze:SumOne J 37 zju:=mkT zgo zgr fun pts v news hp=>by
 unfold zju at hp
 split at hp
 ·exact fin3 (y5h ..) hp
 ·cases hp
def z88  : Option (Bool)→Option (AV×List Blk)
 | some r=>some ((.v (.one (.bool r))),[])
 | none=>none
def z8c:List PT→Option (Bool×AV×List Blk)
 | [.one (.row 1 s_n (.bl s)),.one (.s (.bool v))]=>sF z88 (z1m s_n s v)
 | _=>none
theorem zpf:ev8 Γ3 58 [.one (.row 1 a0 (.bl m1)),.one (.s (.bool e2))]=z88 (z1m a0 m1 e2):=tr2 (zll a0 m1 e2 z88 rfl (fun c0_=>some c0_)) (by kernel_rfl)
theorem zmm:SumOne J 58 z8c:=mkT zgo zgr fun pts v news hp=>by
 unfold z8c at hp
 split at hp
 ·exact fin3 (zpf ..) hp
 ·cases hp
def zls  : Option (Nat×Nat×Nat×(List Nat)×(List Nat)×(List Nat))→Option (AV×List Blk)
 | some r=>some ((.v (.agg [(.sl 0 0 r.1 1),(.sl 1 0 r.2.1 1),(.sl 2 0 r.2.2.1 1)])),[(.mk true (.fl .f32 r.2.2.2.1)),(.mk true (.fl .f32 r.2.2.2.2.1)),(.mk true (.fl .f32 r.2.2.2.2.2))])
 | none=>none
def zlq:List PT→Option (Bool×AV×List Blk)
 | [.agg [.row 1 q1i (.fl .f32 q1t),.row 1 q1l (.fl .f32 q1v),.row 1 q1m (.fl .f32 q1w)]]=>sF zls (z23 q1i q1t q1l q1v q1m q1w)
 | _=>none
theorem y6g:ev8 Γ3 74 [.agg [.row 1 a0 (.fl .f32 g1),.row 1 a2 (.fl .f32 g3),.row 1 a4 (.fl .f32 g5)]]=zls (z23 a0 g1 a2 g3 a4 g5):=tr2 (zz9 a0 g1 a2 g3 a4 g5 zls rfl (fun c0_ c1_ c2_ c3_ c4_ c5_=>some (c0_,c1_,c2_,c3_,c4_,c5_))) (by kernel_rfl)
theorem y11:SumOne J 74 zlq:=mkT zgo zgr fun pts v news hp=>by
 unfold zlq at hp
 split at hp
 ·exact fin3 (y6g ..) hp
 ·cases hp
def zj7  : Option (Nat×(List Nat))→Option (AV×List Blk)
 | some r=>some ((.v (.one (.sl 0 0 r.1 3))),[(.mk true (.fl .f32 r.2))])
 | none=>none
def zjg:List PT→Option (Bool×AV×List Blk)
 | [.one (.row 3 a_n (.fl .f32 a))]=>sF zj7 (z4j a_n a)
 | _=>none
theorem y55:ev8 Γ3 75 [.one (.row 3 a0 (.fl .f32 g1))]=zj7 (z4j a0 g1):=tr2 (zxi a0 g1 zj7 rfl (fun c0_ c1_=>some (c0_,c1_))) (by kernel_rfl)
theorem zz6:SumOne J 75 zjg:=mkT zgo zgr fun pts v news hp=>by
 unfold zjg at hp
 split at hp
 ·exact fin3 (y55 ..) hp
 ·cases hp
def zi3  : Option (Nat)→Option (AV×List Blk)
 | some r=>some ((.v (.one (.flt .f64 r))),[])
 | none=>none
def zig:List PT→Option (Bool×AV×List Blk)
 | [.one (.s (.flt .f64 q1e))]=>sF zi3 (z2h q1e)
 | _=>none
theorem y3l:ev8 Γ3 164 [.one (.s (.flt .f64 a0))]=zi3 (z2h a0):=tr2 (zw0 a0 zi3 rfl (fun c0_=>some c0_)) (by kernel_rfl)
theorem zx3:SumOne J 164 zig:=mkT zgo zgr fun pts v news hp=>by
 unfold zig at hp
 split at hp
 ·exact fin3 (y3l ..) hp
 ·cases hp
def zjl  : Option (Nat)→Option (AV×List Blk)
 | some r=>some ((.v (.one (.flt .f64 r))),[])
 | none=>none
def zk8:List PT→Option (Bool×AV×List Blk)
 | [.one (.s (.flt .f64 q2k))]=>sF zjl (z5r q2k)
 | _=>none
theorem y45:ev8 Γ3 169 [.one (.s (.flt .f64 a0))]=zjl (z5r a0):=tr2 (zwx a0 zjl rfl (fun c0_=>some c0_)) (by kernel_rfl)
theorem y09:SumOne J 169 zk8:=mkT zgo zgr fun pts v news hp=>by
 unfold zk8 at hp
 split at hp
 ·exact fin3 (y45 ..) hp
 ·cases hp
def z9y:St:=(.mk [(x0V 0 0 a0 3),(x0V 1 1 a1 3),(x0I 5 c2)] [(x0L g3),(x0L g4)])
def zeg(an bn:Nat)(b0 b1:List Nat):St:=(.mk [(x0B 4 false)] [(x0L b0),(x0L b1)])
def zeu:St:=(.mk [(x0V 0 0 a0 3),(x0V 1 1 a1 3),(x0I 5 c4),(x0B 14 e5)] [(x0L g2),(x0L g3)])
def zge:Option ((Unit)⊕(Int×Bool))→Option (Ex×St)
 | none=>none
 | some (Sum.inl r)=>some (.ret,(zeg a0 a1 g2 g3))
 | some (Sum.inr r)=>some ((.exit 0),(zeu a0 a1 g2 g3 r.1 r.2))
def zme (x:Option ((Unit)⊕(Int×Bool))):LO:=(.two (oL x) (.one .ret (zeg a0 a1 g2 g3)) (.one (.exit 0) (zeu a0 a1 g2 g3 ((tR x).getD default).1 ((tR x).getD default).2)))
def zwj:Bool×LO:=sL (zme a0 a1 g3 g4) (z1a a0 a1 g3 g4 big c2)
def zn4:Nat→St→Option (Bool×LO):=lpT 2 (pSt [(x1V 0 0 3),(x1V 1 1 3),(x1I 5)] [x1L,x1L]) (fun hs=>zwj (hN hs 0) (hN hs 1) (hI hs 2) (hLn hs 3) (hLn hs 4))
theorem zzl:∀ x:Option ((Unit)⊕(Int×Bool)),x.isSome=true→(zge a0 a1 g2 g3) x=some (pick (zme a0 a1 g2 g3 x))
 | none,h=>by cases h
 | some (Sum.inl r),_=>rfl
 | some (Sum.inr r),_=>rfl
theorem zyt (K:Ex→St→Option (Ex×St)):ev9 Γ3 77 4 2 fi77 (z9y a0 a1 c2 g3 g4) K=z2b a0 a1 g3 g4 c2 (fun i'=>K .normal (z9y a0 a1 i' g3 g4)) (fun _=>K .ret (zeg a0 a1 g3 g4)) (fun c0_ c1_=>K (.exit 0) (zeu a0 a1 g3 g4 c0_ c1_)):=by kernel_rfl
theorem zzh:∀ (n:Nat) (i:Int),iter 77 4 2 (ev9 Γ3 77 4 2 fi77) n (z9y a0 a1 i g2 g3) (fun e st=>some (e,st))=(zge a0 a1 g2 g3) (z1a a0 a1 g2 g3 n i):=by
 intro n
 induction n with
 | zero=>intros;rfl
 | succ n ih=>
  intro i
  refine Eq.trans (iter_succ ..) (Eq.trans (zyt ..) (Eq.trans ?_ (ztk a0 a1 g2 g3 i (zge a0 a1 g2 g3) rfl (fun i'=>z1a a0 a1 g2 g3 n i') (fun _=>some (Sum.inl ())) (fun c0_ c1_=>some (Sum.inr (c0_,c1_))))))
  exact congrArg (fun kn_=>z2b a0 a1 g2 g3 i kn_ _ _) (funext fun i'=>ih ..)
theorem zuv:LoopOne J fnTab 77 4 zn4:=lpK zgo zgr (fi:=fi77) (by kernel_rfl) (by kernel_rfl) (q:=fun hs=>(z9y (hN hs 0) (hN hs 1) (hI hs 2) (hLn hs 3) (hLn hs 4))) (fun hs=>by kernel_rfl) fun hs h1=>Eq.trans (zzh (hN hs 0) (hN hs 1) (hLn hs 3) (hLn hs 4) big (hI hs 2)) (zzl (hN hs 0) (hN hs 1) (hLn hs 3) (hLn hs 4) _ h1)
def zhk:St:=(.mk [(x0P 0 3 3),(x0I 3 c0),(x0I 4 c1)] [(x0L g2),(x0L g3),(x0L g4),(.mk false (.cells [(.vw 0 0 a5 1),(.vw 1 0 a6 1),(.vw 2 0 a7 1)]))])
def zl0(t3:Int)(b0 b1 b2:List Nat)(q1h q1r q1q:Nat):St:=(.mk [(x0B 2 false)] [(x0L b0),(x0L b1),(x0L b2),(.mk false (.cells [(.vw 0 0 q1h 1),(.vw 1 0 q1r 1),(.vw 2 0 q1q 1)]))])
def zlc:St:=(.mk [(x0P 0 3 3),(x0I 3 c0),(x0I 4 c7),(x0B 36 e8)] [(x0L g1),(x0L g2),(x0L g3),(.mk false (.cells [(.vw 0 0 a4 1),(.vw 1 0 a5 1),(.vw 2 0 a6 1)]))])
def znp:Option ((Unit)⊕(Int×Bool))→Option (Ex×St)
 | none=>none
 | some (Sum.inl r)=>some (.ret,(zl0 c0 g1 g2 g3 a4 a5 a6))
 | some (Sum.inr r)=>some ((.exit 0),(zlc c0 g1 g2 g3 a4 a5 a6 r.1 r.2))
def ztc (x:Option ((Unit)⊕(Int×Bool))):LO:=(.two (oL x) (.one .ret (zl0 c0 g1 g2 g3 a4 a5 a6)) (.one (.exit 0) (zlc c0 g1 g2 g3 a4 a5 a6 ((tR x).getD default).1 ((tR x).getD default).2)))
def y5g:Bool×LO:=sL (ztc c0 g2 g3 g4 a5 a6 a7) (z21 c0 g2 g3 g4 a5 a6 a7 big c1)
def zvc:Nat→St→Option (Bool×LO):=lpT 4 (pSt [(x1P 0 3 3),(x1I 3),(x1I 4)] [x1L,x1L,x1L,(pBlk false (pCells [(pVw 0 (liN 0) 1),(pVw 1 (liN 0) 1),(pVw 2 (liN 0) 1)]))]) (fun hs=>y5g (hI hs 0) (hI hs 1) (hLn hs 2) (hLn hs 3) (hLn hs 4) (hN hs 5) (hN hs 6) (hN hs 7))
theorem y79:∀ x:Option ((Unit)⊕(Int×Bool)),x.isSome=true→(znp c0 g1 g2 g3 a4 a5 a6) x=some (pick (ztc c0 g1 g2 g3 a4 a5 a6 x))
 | none,h=>by cases h
 | some (Sum.inl r),_=>rfl
 | some (Sum.inr r),_=>rfl
theorem y7m (K:Ex→St→Option (Ex×St)):ev9 Γ3 120 5 4 fi120 (zhk c0 c1 g2 g3 g4 a5 a6 a7) K=z4r c0 g2 g3 g4 a5 a6 a7 c1 (fun t4'=>K .normal (zhk c0 t4' g2 g3 g4 a5 a6 a7)) (fun _=>K .ret (zl0 c0 g2 g3 g4 a5 a6 a7)) (fun c0_ c1_=>K (.exit 0) (zlc c0 g2 g3 g4 a5 a6 a7 c0_ c1_)):=by kernel_rfl
theorem y7g:∀ (n:Nat) (t4:Int),iter 120 5 4 (ev9 Γ3 120 5 4 fi120) n (zhk c0 t4 g1 g2 g3 a4 a5 a6) (fun e st=>some (e,st))=(znp c0 g1 g2 g3 a4 a5 a6) (z21 c0 g1 g2 g3 a4 a5 a6 n t4):=by
 intro n
 induction n with
 | zero=>intros;rfl
 | succ n ih=>
  intro t4
  refine Eq.trans (iter_succ ..) (Eq.trans (y7m ..) (Eq.trans ?_ (y1i c0 g1 g2 g3 a4 a5 a6 t4 (znp c0 g1 g2 g3 a4 a5 a6) rfl (fun t4'=>z21 c0 g1 g2 g3 a4 a5 a6 n t4') (fun _=>some (Sum.inl ())) (fun c0_ c1_=>some (Sum.inr (c0_,c1_))))))
  exact congrArg (fun kn_=>z4r c0 g1 g2 g3 a4 a5 a6 t4 kn_ _ _) (funext fun t4'=>ih ..)
theorem y38:LoopOne J fnTab 120 5 zvc:=lpK zgo zgr (fi:=fi120) (by kernel_rfl) (by kernel_rfl) (q:=fun hs=>(zhk (hI hs 0) (hI hs 1) (hLn hs 2) (hLn hs 3) (hLn hs 4) (hN hs 5) (hN hs 6) (hN hs 7))) (fun hs=>by kernel_rfl) fun hs h1=>Eq.trans (y7g (hI hs 0) (hLn hs 2) (hLn hs 3) (hLn hs 4) (hN hs 5) (hN hs 6) (hN hs 7) big (hI hs 1)) (y79 (hI hs 0) (hLn hs 2) (hLn hs 3) (hLn hs 4) (hN hs 5) (hN hs 6) (hN hs 7) _ h1)
def z1q:St:=(.mk [(x0V 0 0 a0 1),(1,(.v (.one (.fn 115 [])))),(x0I 7 c1),(x0I 8 c2)] [(x0L g3)])
def z2y(sn:Nat)(t7:Int)(b0:List Nat)(c0_:Int):St:=(.mk [(x0I 4 c0_)] [(x0L b0)])
def z34:St:=(.mk [(x0V 0 0 a0 1),(1,(.v (.one (.fn 115 [])))),(x0I 7 c1),(x0I 8 c3),(x0B 9 e4)] [(x0L g2)])
def z39:Option ((Int)⊕(Int×Bool))→Option (Ex×St)
 | none=>none
 | some (Sum.inl r)=>some (.ret,(z2y a0 c1 g2 r))
 | some (Sum.inr r)=>some ((.exit 0),(z34 a0 c1 g2 r.1 r.2))
def z5x (x:Option ((Int)⊕(Int×Bool))):LO:=(.two (oL x) (.one .ret (z2y a0 c1 g2 ((tL x).getD default))) (.one (.exit 0) (z34 a0 c1 g2 ((tR x).getD default).1 ((tR x).getD default).2)))
def zbl:Bool×LO:=sL (z5x a0 c1 g3) (z01 a0 c1 g3 big c2)
def z65:Nat→St→Option (Bool×LO):=lpT 1 (pSt [(x1V 0 0 1),(pTm 1 (pV (pOne (pFn 115 [])))),(x1I 7),(x1I 8)] [x1L]) (fun hs=>zbl (hN hs 0) (hI hs 1) (hI hs 2) (hLn hs 3))
theorem zd0:∀ x:Option ((Int)⊕(Int×Bool)),x.isSome=true→(z39 a0 c1 g2) x=some (pick (z5x a0 c1 g2 x))
 | none,h=>by cases h
 | some (Sum.inl r),_=>rfl
 | some (Sum.inr r),_=>rfl
theorem zcx (K:Ex→St→Option (Ex×St)):ev9 Γ3 146 2 1 fi146 (z1q a0 c1 c2 g3) K=z0g a0 c1 g3 c2 (fun t8'=>K .normal (z1q a0 c1 t8' g3)) (fun c0_=>K .ret (z2y a0 c1 g3 c0_)) (fun c0_ c1_=>K (.exit 0) (z34 a0 c1 g3 c0_ c1_)):=by kernel_rfl
theorem zdb:∀ (n:Nat) (t8:Int),iter 146 2 1 (ev9 Γ3 146 2 1 fi146) n (z1q a0 c1 t8 g2) (fun e st=>some (e,st))=(z39 a0 c1 g2) (z01 a0 c1 g2 n t8):=by
 intro n
 induction n with
 | zero=>intros;rfl
 | succ n ih=>
  intro t8
  refine Eq.trans (iter_succ ..) (Eq.trans (zcx ..) (Eq.trans ?_ (zah a0 c1 g2 t8 (z39 a0 c1 g2) rfl (fun t8'=>z01 a0 c1 g2 n t8') (fun c0_=>some (Sum.inl c0_)) (fun c0_ c1_=>some (Sum.inr (c0_,c1_))))))
  exact congrArg (fun kn_=>z0g a0 c1 g2 t8 kn_ _ _) (funext fun t8'=>ih ..)
theorem zb9:LoopOne J fnTab 146 2 z65:=lpK zgo zgr (fi:=fi146) (by kernel_rfl) (by kernel_rfl) (q:=fun hs=>(z1q (hN hs 0) (hI hs 1) (hI hs 2) (hLn hs 3))) (fun hs=>by kernel_rfl) fun hs h1=>Eq.trans (zdb (hN hs 0) (hI hs 1) (hLn hs 3) big (hI hs 2)) (zd0 (hN hs 0) (hI hs 1) (hLn hs 3) _ h1)
def z20:St:=(.mk [(x0V 0 0 a0 1),(1,(.v (.one (.fn 153 [])))),(x0I 7 c1),(x0I 8 c2)] [(x0L g3)])
def z3j(sn:Nat)(t7:Int)(b0:List Nat)(c0_:Int):St:=(.mk [(x0I 4 c0_)] [(x0L b0)])
def z3i:St:=(.mk [(x0V 0 0 a0 1),(1,(.v (.one (.fn 153 [])))),(x0I 7 c1),(x0I 8 c3),(x0B 9 e4)] [(x0L g2)])
def z3t:Option ((Int)⊕(Int×Bool))→Option (Ex×St)
 | none=>none
 | some (Sum.inl r)=>some (.ret,(z3j a0 c1 g2 r))
 | some (Sum.inr r)=>some ((.exit 0),(z3i a0 c1 g2 r.1 r.2))
def z6d (x:Option ((Int)⊕(Int×Bool))):LO:=(.two (oL x) (.one .ret (z3j a0 c1 g2 ((tL x).getD default))) (.one (.exit 0) (z3i a0 c1 g2 ((tR x).getD default).1 ((tR x).getD default).2)))
def zd8:Bool×LO:=sL (z6d a0 c1 g3) (z06 a0 c1 g3 big c2)
def z71:Nat→St→Option (Bool×LO):=lpT 1 (pSt [(x1V 0 0 1),(pTm 1 (pV (pOne (pFn 153 [])))),(x1I 7),(x1I 8)] [x1L]) (fun hs=>zd8 (hN hs 0) (hI hs 1) (hI hs 2) (hLn hs 3))
theorem zeh:∀ x:Option ((Int)⊕(Int×Bool)),x.isSome=true→(z3t a0 c1 g2) x=some (pick (z6d a0 c1 g2 x))
 | none,h=>by cases h
 | some (Sum.inl r),_=>rfl
 | some (Sum.inr r),_=>rfl
theorem zek (K:Ex→St→Option (Ex×St)):ev9 Γ3 146 2 1 fi146 (z20 a0 c1 c2 g3) K=z0i a0 c1 g3 c2 (fun t8'=>K .normal (z20 a0 c1 t8' g3)) (fun c0_=>K .ret (z3j a0 c1 g3 c0_)) (fun c0_ c1_=>K (.exit 0) (z3i a0 c1 g3 c0_ c1_)):=by kernel_rfl
theorem zei:∀ (n:Nat) (t8:Int),iter 146 2 1 (ev9 Γ3 146 2 1 fi146) n (z20 a0 c1 t8 g2) (fun e st=>some (e,st))=(z3t a0 c1 g2) (z06 a0 c1 g2 n t8):=by
 intro n
 induction n with
 | zero=>intros;rfl
 | succ n ih=>
  intro t8
  refine Eq.trans (iter_succ ..) (Eq.trans (zek ..) (Eq.trans ?_ (zbn a0 c1 g2 t8 (z3t a0 c1 g2) rfl (fun t8'=>z06 a0 c1 g2 n t8') (fun c0_=>some (Sum.inl c0_)) (fun c0_ c1_=>some (Sum.inr (c0_,c1_))))))
  exact congrArg (fun kn_=>z0i a0 c1 g2 t8 kn_ _ _) (funext fun t8'=>ih ..)
theorem zcs:LoopOne J fnTab 146 2 z71:=lpK zgo zgr (fi:=fi146) (by kernel_rfl) (by kernel_rfl) (q:=fun hs=>(z20 (hN hs 0) (hI hs 1) (hI hs 2) (hLn hs 3))) (fun hs=>by kernel_rfl) fun hs h1=>Eq.trans (zei (hN hs 0) (hI hs 1) (hLn hs 3) big (hI hs 2)) (zeh (hN hs 0) (hI hs 1) (hLn hs 3) _ h1)
def tb4:List (Nat×(List PT→Option (Bool×AV×List Blk))):=(37,zju)::(58,z8c)::(74,zlq)::(75,zjg)::(164,zig)::(169,zk8)::tb3
def lt4:List ((Nat×Nat)×(Nat→St→Option (Bool×LO))):=((77,4),zn4)::((120,5),zvc)::((146,2),z65)::((146,2),z71)::lt3
def Γ4:Ctx:=⟨tyTab,fnTab,tblSum tb4,tblLp lt4⟩
theorem zke:SumL J tb4:=SumL.cons zze (SumL.cons zmm (SumL.cons y11 (SumL.cons zz6 (SumL.cons zx3 (SumL.cons y09 (zgo))))))
theorem zkg:LpL J fnTab lt4:=LpL.cons zuv (LpL.cons y38 (LpL.cons zb9 (LpL.cons zcs (zgr))))
def zpp:Option (Nat×Nat×Nat×Nat×(List Nat)×(List Nat)×(List Nat)×(List Nat))→Option (AV×List Blk)
 | some r=>some ((.v (.agg [(.sl 0 0 r.1 1),(.sl 1 0 r.2.1 1),(.sl 2 0 r.2.2.1 1),(.sl 3 0 r.2.2.2.1 3),(.int .i64 c0),(.flt .f32 a1),(.flt .f32 a2)])),[(.mk true (.fl .f32 r.2.2.2.2.1)),(.mk true (.fl .f32 r.2.2.2.2.2.1)),(.mk true (.fl .f32 r.2.2.2.2.2.2.1)),(.mk true (.fl .f32 r.2.2.2.2.2.2.2))])
 | none=>none
def zp6:List PT→Option (Bool×AV×List Blk)
 | [.agg [.row 1 q0t (.fl .f32 q15),.row 1 q0v (.fl .f32 q18),.row 1 q0w (.fl .f32 q17),.row 3 q1f (.fl .f32 q1k),.s (.int .i64 q1u),.s (.flt .f32 q23),.s (.flt .f32 q24)]]=>sF (zpp q1u q23 q24) (z1y q0t q15 q0v q18 q0w q17 q1f q1k q1u q23 q24)
 | _=>none
theorem y8e:ev8 Γ4 34 [.agg [.row 1 a0 (.fl .f32 g1),.row 1 a2 (.fl .f32 g3),.row 1 a4 (.fl .f32 g5),.row 3 a6 (.fl .f32 g7),.s (.int .i64 c8),.s (.flt .f32 a9),.s (.flt .f32 a10)]]=(zpp c8 a9 a10) (z1y a0 g1 a2 g3 a4 g5 a6 g7 c8 a9 a10):=tr2 (y2s a0 g1 a2 g3 a4 g5 a6 g7 c8 a9 a10 (zpp c8 a9 a10) rfl (fun c0_ c1_ c2_ c3_ c4_ c5_ c6_ c7_=>some (c0_,c1_,c2_,c3_,c4_,c5_,c6_,c7_))) (by kernel_rfl)
theorem y4i:SumOne J 34 zp6:=mkT zke zkg fun pts v news hp=>by
 unfold zp6 at hp
 split at hp
 ·exact fin3 (y8e ..) hp
 ·cases hp
def zlh  : Option (Bool)→Option (AV×List Blk)
 | some r=>some ((.v (.one (.bool r))),[])
 | none=>none
def zlg:List PT→Option (Bool×AV×List Blk)
 | [.agg [.row 1 q1i (.fl .f32 q1t),.row 1 q1l (.fl .f32 q1v),.row 1 q1m (.fl .f32 q1w)],.agg [.row 1 q31 (.fl .f32 q36),.row 1 q33 (.fl .f32 q39),.row 1 q34 (.fl .f32 q3a)]]=>sF zlh (z6j q1i q1t q1l q1v q1m q1w q31 q36 q33 q39 q34 q3a)
 | _=>none
theorem y6c:ev8 Γ4 76 [.agg [.row 1 a0 (.fl .f32 g1),.row 1 a2 (.fl .f32 g3),.row 1 a4 (.fl .f32 g5)],.agg [.row 1 a6 (.fl .f32 g7),.row 1 a8 (.fl .f32 g9),.row 1 a10 (.fl .f32 g11)]]=zlh (z6j a0 g1 a2 g3 a4 g5 a6 g7 a8 g9 a10 g11):=tr2 (zys a0 g1 a2 g3 a4 g5 a6 g7 a8 g9 a10 g11 zlh rfl (fun c0_=>some c0_)) (by kernel_rfl)
theorem y23:SumOne J 76 zlg:=mkT zke zkg fun pts v news hp=>by
 unfold zlg at hp
 split at hp
 ·exact fin3 (y6c ..) hp
 ·cases hp
def zjw  : Option (Bool)→Option (AV×List Blk)
 | some r=>some ((.v (.one (.bool r))),[])
 | none=>none
def zk0:List PT→Option (Bool×AV×List Blk)
 | [.one (.row 3 a_n (.fl .f32 a)),.one (.row 3 b_n (.fl .f32 b))]=>sF zjw (z5t a_n a b_n b)
 | _=>none
theorem y4s:ev8 Γ4 77 [.one (.row 3 a0 (.fl .f32 g1)),.one (.row 3 a2 (.fl .f32 g3))]=zjw (z5t a0 g1 a2 g3):=tr2 (zyf a0 g1 a2 g3 zjw rfl (fun c0_=>some c0_)) (by kernel_rfl)
theorem zzq:SumOne J 77 zk0:=mkT zke zkg fun pts v news hp=>by
 unfold zk0 at hp
 split at hp
 ·exact fin3 (y4s ..) hp
 ·cases hp
def zu0  : Option (Bool)→Option (AV×List Blk)
 | some r=>some ((.v (.one (.bool r))),[])
 | none=>none
def zt9:List PT→Option (Bool×AV×List Blk)
 | [.ptr [.row 1 q0j (.fl .f32 q0k),.row 1 q14 (.fl .f32 q1c),.row 1 q13 (.fl .f32 q1d)]]=>sF zu0 (za9 q0j q0k q14 q1c q13 q1d)
 | _=>none
theorem yac:ev8 Γ4 120 [.ptr [.row 1 a0 (.fl .f32 g1),.row 1 a2 (.fl .f32 g3),.row 1 a4 (.fl .f32 g5)]]=zu0 (za9 a0 g1 a2 g3 a4 g5):=tr2 (y6l a0 g1 a2 g3 a4 g5 zu0 rfl (fun c0_=>some c0_)) (by kernel_rfl)
theorem y81:SumOne J 120 zt9:=mkT zke zkg fun pts v news hp=>by
 unfold zt9 at hp
 split at hp
 ·exact fin3 (yac ..) hp
 ·cases hp
def z44  : Option (Int)→Option (AV×List Blk)
 | some r=>some ((.v (.one (.int .i64 r))),[])
 | none=>none
def z45:List PT→Option (Bool×AV×List Blk)
 | [.one (.row 1 s_n (.fl .f32 s)),.fn 115 []]=>sF z44 (z0w s_n s)
 | _=>none
theorem zfb:ev8 Γ4 146 [.one (.row 1 a0 (.fl .f32 g1)),.fn 115 []]=z44 (z0w a0 g1):=tr2 (zci a0 g1 z44 rfl (fun c0_=>some c0_)) (by kernel_rfl)
theorem zdc:SumOne J 146 z45:=mkT zke zkg fun pts v news hp=>by
 unfold z45 at hp
 split at hp
 ·exact fin3 (zfb ..) hp
 ·cases hp
def z4c  : Option (Int)→Option (AV×List Blk)
 | some r=>some ((.v (.one (.int .i64 r))),[])
 | none=>none
def z4e:List PT→Option (Bool×AV×List Blk)
 | [.one (.row 1 s_n (.fl .f32 s)),.fn 153 []]=>sF z4c (z0z s_n s)
 | _=>none
theorem zgs:ev8 Γ4 146 [.one (.row 1 a0 (.fl .f32 g1)),.fn 153 []]=z4c (z0z a0 g1):=tr2 (zdj a0 g1 z4c rfl (fun c0_=>some c0_)) (by kernel_rfl)
theorem zen:SumOne J 146 z4e:=mkT zke zkg fun pts v news hp=>by
 unfold z4e at hp
 split at hp
 ·exact fin3 (zgs ..) hp
 ·cases hp
def zpg  : Option (Nat)→Option (AV×List Blk)
 | some r=>some ((.v (.one (.flt .f32 r))),[])
 | none=>none
def zp5:List PT→Option (Bool×AV×List Blk)
 | [.one (.s (.flt .f32 x))]=>sF zpg (z6w x)
 | _=>none
theorem y8r:ev8 Γ4 148 [.one (.s (.flt .f32 a0))]=zpg (z6w a0):=tr2 (y2c a0 zpg rfl (fun c0_=>some c0_)) (by kernel_rfl)
theorem y4f:SumOne J 148 zp5:=mkT zke zkg fun pts v news hp=>by
 unfold zp5 at hp
 split at hp
 ·exact fin3 (y8r ..) hp
 ·cases hp
def z26:St:=(.mk [(x0V 0 0 a0 1),(1,(.v (.one (.fn 154 [])))),(x0I 7 c1),(x0I 8 c2)] [(x0L g3)])
def z3x(sn:Nat)(t7:Int)(b0:List Nat)(c0_:Int):St:=(.mk [(x0I 4 c0_)] [(x0L b0)])
def z3w:St:=(.mk [(x0V 0 0 a0 1),(1,(.v (.one (.fn 154 [])))),(x0I 7 c1),(x0I 8 c3),(x0B 9 e4)] [(x0L g2)])
def z42:Option ((Int)⊕(Int×Bool))→Option (Ex×St)
 | none=>none
 | some (Sum.inl r)=>some (.ret,(z3x a0 c1 g2 r))
 | some (Sum.inr r)=>some ((.exit 0),(z3w a0 c1 g2 r.1 r.2))
def z6x (x:Option ((Int)⊕(Int×Bool))):LO:=(.two (oL x) (.one .ret (z3x a0 c1 g2 ((tL x).getD default))) (.one (.exit 0) (z3w a0 c1 g2 ((tR x).getD default).1 ((tR x).getD default).2)))
def zdo:Bool×LO:=sL (z6x a0 c1 g3) (z07 a0 c1 g3 big c2)
def z77:Nat→St→Option (Bool×LO):=lpT 1 (pSt [(x1V 0 0 1),(pTm 1 (pV (pOne (pFn 154 [])))),(x1I 7),(x1I 8)] [x1L]) (fun hs=>zdo (hN hs 0) (hI hs 1) (hI hs 2) (hLn hs 3))
theorem zf8:∀ x:Option ((Int)⊕(Int×Bool)),x.isSome=true→(z42 a0 c1 g2) x=some (pick (z6x a0 c1 g2 x))
 | none,h=>by cases h
 | some (Sum.inl r),_=>rfl
 | some (Sum.inr r),_=>rfl
theorem zfa (K:Ex→St→Option (Ex×St)):ev9 Γ4 146 2 1 fi146 (z26 a0 c1 c2 g3) K=z0j a0 c1 g3 c2 (fun t8'=>K .normal (z26 a0 c1 t8' g3)) (fun c0_=>K .ret (z3x a0 c1 g3 c0_)) (fun c0_ c1_=>K (.exit 0) (z3w a0 c1 g3 c0_ c1_)):=by kernel_rfl
theorem zf7:∀ (n:Nat) (t8:Int),iter 146 2 1 (ev9 Γ4 146 2 1 fi146) n (z26 a0 c1 t8 g2) (fun e st=>some (e,st))=(z42 a0 c1 g2) (z07 a0 c1 g2 n t8):=by
 intro n
 induction n with
 | zero=>intros;rfl
 | succ n ih=>
  intro t8
  refine Eq.trans (iter_succ ..) (Eq.trans (zfa ..) (Eq.trans ?_ (zc8 a0 c1 g2 t8 (z42 a0 c1 g2) rfl (fun t8'=>z07 a0 c1 g2 n t8') (fun c0_=>some (Sum.inl c0_)) (fun c0_ c1_=>some (Sum.inr (c0_,c1_))))))
  exact congrArg (fun kn_=>z0j a0 c1 g2 t8 kn_ _ _) (funext fun t8'=>ih ..)
theorem zd3:LoopOne J fnTab 146 2 z77:=lpK zke zkg (fi:=fi146) (by kernel_rfl) (by kernel_rfl) (q:=fun hs=>(z26 (hN hs 0) (hI hs 1) (hI hs 2) (hLn hs 3))) (fun hs=>by kernel_rfl) fun hs h1=>Eq.trans (zf7 (hN hs 0) (hI hs 1) (hLn hs 3) big (hI hs 2)) (zf8 (hN hs 0) (hI hs 1) (hLn hs 3) _ h1)
def tb5:List (Nat×(List PT→Option (Bool×AV×List Blk))):=(34,zp6)::(76,zlg)::(77,zk0)::(120,zt9)::(146,z45)::(146,z4e)::(148,zp5)::tb4
def lt5:List ((Nat×Nat)×(Nat→St→Option (Bool×LO))):=((146,2),z77)::lt4
def Γ5:Ctx:=⟨tyTab,fnTab,tblSum tb5,tblLp lt5⟩
theorem zyb:SumL J tb5:=SumL.cons y4i (SumL.cons y23 (SumL.cons zzq (SumL.cons y81 (SumL.cons zdc (SumL.cons zen (SumL.cons y4f (zke)))))))
theorem zy1:LpL J fnTab lt5:=LpL.cons zd3 (zkg)
def zp9  : Option (Bool)→Option (AV×List Blk)
 | some r=>some ((.v (.one (.bool r))),[])
 | none=>none
def zpj:List PT→Option (Bool×AV×List Blk)
 | [.agg [.row 1 q0t (.fl .f32 q15),.row 1 q0v (.fl .f32 q18),.row 1 q0w (.fl .f32 q17),.row 3 q1f (.fl .f32 q1k),.s (.int .i64 q1u),.s (.flt .f32 q23),.s (.flt .f32 q24)],.agg [.row 1 q2d (.fl .f32 q2o),.row 1 q2f (.fl .f32 q2q),.row 1 q2e (.fl .f32 q2p),.row 3 q2s (.fl .f32 q32),.s (.int .i64 q3b),.s (.flt .f32 q3d),.s (.flt .f32 q3c)]]=>sF zp9 (z8d q0t q15 q0v q18 q0w q17 q1f q1k q1u q23 q24 q2d q2o q2f q2q q2e q2p q2s q32 q3b q3d q3c)
 | _=>none
theorem y8x:ev8 Γ5 36 [.agg [.row 1 a0 (.fl .f32 g1),.row 1 a2 (.fl .f32 g3),.row 1 a4 (.fl .f32 g5),.row 3 a6 (.fl .f32 g7),.s (.int .i64 c8),.s (.flt .f32 a9),.s (.flt .f32 a10)],.agg [.row 1 a11 (.fl .f32 g12),.row 1 a13 (.fl .f32 g14),.row 1 a15 (.fl .f32 g16),.row 3 a17 (.fl .f32 g18),.s (.int .i64 c19),.s (.flt .f32 a20),.s (.flt .f32 a21)]]=zp9 (z8d a0 g1 a2 g3 a4 g5 a6 g7 c8 a9 a10 a11 g12 a13 g14 a15 g16 a17 g18 c19 a20 a21):=tr2 (y33 a0 g1 a2 g3 a4 g5 a6 g7 c8 a9 a10 a11 g12 a13 g14 a15 g16 a17 g18 c19 a20 a21 zp9 rfl (fun c0_=>some c0_)) (by kernel_rfl)
theorem y46:SumOne J 36 zpj:=mkT zyb zy1 fun pts v news hp=>by
 unfold zpj at hp
 split at hp
 ·exact fin3 (y8x ..) hp
 ·cases hp
def z4n  : Option (Int)→Option (AV×List Blk)
 | some r=>some ((.v (.one (.int .i64 r))),[])
 | none=>none
def z4k:List PT→Option (Bool×AV×List Blk)
 | [.one (.row 1 s_n (.fl .f32 s)),.fn 154 []]=>sF z4n (z11 s_n s)
 | _=>none
theorem zh3:ev8 Γ5 146 [.one (.row 1 a0 (.fl .f32 g1)),.fn 154 []]=z4n (z11 a0 g1):=tr2 (zem a0 g1 z4n rfl (fun c0_=>some c0_)) (by kernel_rfl)
theorem zfc:SumOne J 146 z4k:=mkT zyb zy1 fun pts v news hp=>by
 unfold z4k at hp
 split at hp
 ·exact fin3 (zh3 ..) hp
 ·cases hp
def ztm  : Option (Nat)→Option (AV×List Blk)
 | some r=>some ((.v (.one (.flt .f64 r))),[])
 | none=>none
def zth:List PT→Option (Bool×AV×List Blk)
 | [.one (.s (.flt .f64 x))]=>sF ztm (zak x)
 | _=>none
theorem yad:ev8 Γ5 175 [.one (.s (.flt .f64 a0))]=ztm (zak a0):=tr2 (y6y a0 ztm rfl (fun c0_=>some c0_)) (by kernel_rfl)
theorem y7t:SumOne J 175 zth:=mkT zyb zy1 fun pts v news hp=>by
 unfold zth at hp
 split at hp
 ·exact fin3 (yad ..) hp
 ·cases hp
def ziu:St:=(.mk [(x0B 4 e0),(5,(.v (.one (.flt .f64 a1)))),(6,(.v (.one (.flt .f64 a2)))),(7,(.v (.one (.flt .f64 a3)))),(8,(.v (.one (.flt .f64 a4))))] [])
def znn:St:=(.mk [(x0B 4 e0),(5,(.v (.one (.flt .f64 a1)))),(6,(.v (.one (.flt .f64 a2)))),(7,(.v (.one (.flt .f64 a3)))),(8,(.v (.one (.flt .f64 a4)))),(x0B 25 e5)] [])
def zp4:Option ((Nat×Nat×Bool))→Option (Ex×St)
 | none=>none
 | some r=>some ((.exit 0),(znn e0 a1 a2 r.1 r.2.1 r.2.2))
def zvd (x:Option ((Nat×Nat×Bool))):LO:=(.one (.exit 0) (znn e0 a1 a2 (x.getD default).1 (x.getD default).2.1 (x.getD default).2.2))
def y5z:Bool×LO:=sL (zvd e0 a1 a2) (z22 a2 big a3 a4)
def zxg:Nat→St→Option (Bool×LO):=lpT 0 (pSt [(x1B 4),(pTm 5 (pV (pOne (pFlt .f64)))),(pTm 6 (pV (pOne (pFlt .f64)))),(pTm 7 (pV (pOne (pFlt .f64)))),(pTm 8 (pV (pOne (pFlt .f64))))] []) (fun hs=>y5z (hB hs 0) (hN hs 1) (hN hs 2) (hN hs 3) (hN hs 4))
theorem y9a:∀ x:Option ((Nat×Nat×Bool)),x.isSome=true→(zp4 e0 a1 a2) x=some (pick (zvd e0 a1 a2 x))
 | none,h=>by cases h
 | some r,_=>rfl
theorem y90 (K:Ex→St→Option (Ex×St)):ev9 Γ5 160 9 0 fi160 (ziu e0 a1 a2 a3 a4) K=z59 a2 a3 a4 (fun p' k'=>K .normal (ziu e0 a1 a2 p' k')) (fun c0_ c1_ c2_=>K (.exit 0) (znn e0 a1 a2 c0_ c1_ c2_)):=by kernel_rfl
theorem y8z:∀ (n p k:Nat),iter 160 9 0 (ev9 Γ5 160 9 0 fi160) n (ziu e0 a1 a2 p k) (fun e st=>some (e,st))=(zp4 e0 a1 a2) (z22 a2 n p k):=by
 intro n
 induction n with
 | zero=>intros;rfl
 | succ n ih=>
  intro p k
  refine Eq.trans (iter_succ ..) (Eq.trans (y90 ..) (Eq.trans ?_ (y2w a2 p k (zp4 e0 a1 a2) rfl (fun p' k'=>z22 a2 n p' k') (fun c0_ c1_ c2_=>some (c0_,c1_,c2_)))))
  exact congrArg (fun kn_=>z59 a2 p k kn_ _) (funext fun p'=>funext fun k'=>ih ..)
theorem y52:LoopOne J fnTab 160 9 zxg:=lpK zyb zy1 (fi:=fi160) (by kernel_rfl) (by kernel_rfl) (q:=fun hs=>(ziu (hB hs 0) (hN hs 1) (hN hs 2) (hN hs 3) (hN hs 4))) (fun hs=>by kernel_rfl) fun hs h1=>Eq.trans (y8z (hB hs 0) (hN hs 1) (hN hs 2) big (hN hs 3) (hN hs 4)) (y9a (hB hs 0) (hN hs 1) (hN hs 2) _ h1)
def tb6:List (Nat×(List PT→Option (Bool×AV×List Blk))):=(36,zpj)::(146,z4k)::(175,zth)::tb5
def lt6:List ((Nat×Nat)×(Nat→St→Option (Bool×LO))):=((160,9),zxg)::lt5
def Γ6:Ctx:=⟨tyTab,fnTab,tblSum tb6,tblLp lt6⟩
theorem znz:SumL J tb6:=SumL.cons y46 (SumL.cons zfc (SumL.cons y7t (zyb)))
theorem zn3:LpL J fnTab lt6:=LpL.cons y52 (zy1)
def z3a  : Option (Bool)→Option (AV×List Blk)
 | some r=>some ((.v (.one (.bool r))),[])
 | none=>none
def z3b:List PT→Option (Bool×AV×List Blk)
 | [.one (.row 1 s_n (.fl .f32 s)),.fn 115 []]=>sF z3a (z0r s_n s)
 | _=>none
theorem zd9:ev8 Γ6 114 [.one (.row 1 a0 (.fl .f32 g1)),.fn 115 []]=z3a (z0r a0 g1):=tr2 (zar a0 g1 z3a rfl (fun c0_=>some c0_)) (by kernel_rfl)
theorem zb1:SumOne J 114 z3b:=mkT znz zn3 fun pts v news hp=>by
 unfold z3b at hp
 split at hp
 ·exact fin3 (zd9 ..) hp
 ·cases hp
def z3r  : Option (Bool)→Option (AV×List Blk)
 | some r=>some ((.v (.one (.bool r))),[])
 | none=>none
def z3u:List PT→Option (Bool×AV×List Blk)
 | [.one (.row 1 s_n (.fl .f32 s)),.fn 153 []]=>sF z3r (z0u s_n s)
 | _=>none
theorem zf6:ev8 Γ6 114 [.one (.row 1 a0 (.fl .f32 g1)),.fn 153 []]=z3r (z0u a0 g1):=tr2 (zbk a0 g1 z3r rfl (fun c0_=>some c0_)) (by kernel_rfl)
theorem zc7:SumOne J 114 z3u:=mkT znz zn3 fun pts v news hp=>by
 unfold z3u at hp
 split at hp
 ·exact fin3 (zf6 ..) hp
 ·cases hp
def z40  : Option (Bool)→Option (AV×List Blk)
 | some r=>some ((.v (.one (.bool r))),[])
 | none=>none
def z43:List PT→Option (Bool×AV×List Blk)
 | [.one (.row 1 s_n (.fl .f32 s)),.fn 154 []]=>sF z40 (z0x s_n s)
 | _=>none
theorem zf9:ev8 Γ6 114 [.one (.row 1 a0 (.fl .f32 g1)),.fn 154 []]=z40 (z0x a0 g1):=tr2 (zcg a0 g1 z40 rfl (fun c0_=>some c0_)) (by kernel_rfl)
theorem zcy:SumOne J 114 z43:=mkT znz zn3 fun pts v news hp=>by
 unfold z43 at hp
 split at hp
 ·exact fin3 (zf9 ..) hp
 ·cases hp
def zws  : Option (Nat)→Option (AV×List Blk)
 | some r=>some ((.v (.one (.flt .f64 r))),[])
 | none=>none
def zw4:List PT→Option (Bool×AV×List Blk)
 | [.one (.s (.flt .f64 q2k))]=>sF zws (zdd q2k)
 | _=>none
theorem yay:ev8 Γ6 160 [.one (.s (.flt .f64 a0))]=zws (zdd a0):=tr2 (y7r a0 zws rfl (fun c0_=>some c0_)) (by kernel_rfl)
theorem y8l:SumOne J 160 zw4:=mkT znz zn3 fun pts v news hp=>by
 unfold zw4 at hp
 split at hp
 ·exact fin3 (yay ..) hp
 ·cases hp
def zlz  : Option (Nat)→Option (AV×List Blk)
 | some r=>some ((.v (.one (.flt .f32 r))),[])
 | none=>none
def zl2:List PT→Option (Bool×AV×List Blk)
 | [.one (.s (.flt .f32 x))]=>sF zlz (z6i x)
 | _=>none
theorem y6r:ev8 Γ6 170 [.one (.s (.flt .f32 a0))]=zlz (z6i a0):=tr2 (y04 a0 zlz rfl (fun c0_=>some c0_)) (by kernel_rfl)
theorem y1s:SumOne J 170 zl2:=mkT znz zn3 fun pts v news hp=>by
 unfold zl2 at hp
 split at hp
 ·exact fin3 (y6r ..) hp
 ·cases hp
def zp2  : Option (Nat)→Option (AV×List Blk)
 | some r=>some ((.v (.one (.flt .f32 r))),[])
 | none=>none
def zp0:List PT→Option (Bool×AV×List Blk)
 | [.one (.s (.flt .f32 x))]=>sF zp2 (z8e x)
 | _=>none
theorem y97:ev8 Γ6 181 [.one (.s (.flt .f32 a0))]=zp2 (z8e a0):=tr2 (y27 a0 zp2 rfl (fun c0_=>some c0_)) (by kernel_rfl)
theorem y4c:SumOne J 181 zp0:=mkT znz zn3 fun pts v news hp=>by
 unfold zp0 at hp
 split at hp
 ·exact fin3 (y97 ..) hp
 ·cases hp
def zhu:St:=(.mk [(x0P 0 4 7),(x0F 4 a0),(x0I 57 c1),(x0I 58 c2)] [(x0L g3),(x0L g4),(x0L g5),(x0L g6),(x0R false 0 1 2 3 a7 a8 a9 a10 c11 a12 a13)])
def zlt(t57:Int)(b0 b1 b2 b3:List Nat)(q0r q0s q0q q0p:Nat)(q0y:Int)(q0z q0u:Nat):St:=(.mk [(x0B 2 false)] [(x0L b0),(x0L b1),(x0L b2),(x0L b3),(x0R false 0 1 2 3 q0r q0s q0q q0p q0y q0z q0u)])
def zlf:St:=(.mk [(x0P 0 4 7),(x0F 4 a12),(x0I 57 c0),(x0I 58 c13),(x0B 59 e14)] [(x0L g1),(x0L g2),(x0L g3),(x0L g4),(x0R false 0 1 2 3 a5 a6 a7 a8 c9 a10 a11)])
def znh:Option ((Unit)⊕(Nat×Int×Bool))→Option (Ex×St)
 | none=>none
 | some (Sum.inl r)=>some (.ret,(zlt c0 g1 g2 g3 g4 a5 a6 a7 a8 c9 a10 a11))
 | some (Sum.inr r)=>some ((.exit 0),(zlf c0 g1 g2 g3 g4 a5 a6 a7 a8 c9 a10 a11 r.1 r.2.1 r.2.2))
def zu4 (x:Option ((Unit)⊕(Nat×Int×Bool))):LO:=(.two (oL x) (.one .ret (zlt c0 g1 g2 g3 g4 a5 a6 a7 a8 c9 a10 a11)) (.one (.exit 0) (zlf c0 g1 g2 g3 g4 a5 a6 a7 a8 c9 a10 a11 ((tR x).getD default).1 ((tR x).getD default).2.1 ((tR x).getD default).2.2)))
def y57:Bool×LO:=sL (zu4 c1 g3 g4 g5 g6 a7 a8 a9 a10 c11 a12 a13) (z17 c1 g6 a10 a13 big a0 c2)
def zvb:Nat→St→Option (Bool×LO):=lpT 5 (pSt [(x1P 0 4 7),(x1F 4),(x1I 57),(x1I 58)] [x1L,x1L,x1L,x1L,(x1R false 0 1 2 3)]) (fun hs=>y57 (hN hs 0) (hI hs 1) (hI hs 2) (hLn hs 3) (hLn hs 4) (hLn hs 5) (hLn hs 6) (hN hs 7) (hN hs 8) (hN hs 9) (hN hs 10) (hI hs 11) (hN hs 12) (hN hs 13))
theorem y7k:∀ x:Option ((Unit)⊕(Nat×Int×Bool)),x.isSome=true→(znh c0 g1 g2 g3 g4 a5 a6 a7 a8 c9 a10 a11) x=some (pick (zu4 c0 g1 g2 g3 g4 a5 a6 a7 a8 c9 a10 a11 x))
 | none,h=>by cases h
 | some (Sum.inl r),_=>rfl
 | some (Sum.inr r),_=>rfl
theorem y7h (K:Ex→St→Option (Ex×St)):ev9 Γ6 82 6 5 fi82 (zhu a0 c1 c2 g3 g4 g5 g6 a7 a8 a9 a10 c11 a12 a13) K=z4o c1 g6 a10 a13 a0 c2 (fun t4' t58'=>K .normal (zhu t4' c1 t58' g3 g4 g5 g6 a7 a8 a9 a10 c11 a12 a13)) (fun _=>K .ret (zlt c1 g3 g4 g5 g6 a7 a8 a9 a10 c11 a12 a13)) (fun c0_ c1_ c2_=>K (.exit 0) (zlf c1 g3 g4 g5 g6 a7 a8 a9 a10 c11 a12 a13 c0_ c1_ c2_)):=by kernel_rfl
theorem y7a:∀ (n t4:Nat) (t58:Int),iter 82 6 5 (ev9 Γ6 82 6 5 fi82) n (zhu t4 c0 t58 g1 g2 g3 g4 a5 a6 a7 a8 c9 a10 a11) (fun e st=>some (e,st))=(znh c0 g1 g2 g3 g4 a5 a6 a7 a8 c9 a10 a11) (z17 c0 g4 a8 a11 n t4 t58):=by
 intro n
 induction n with
 | zero=>intros;rfl
 | succ n ih=>
  intro t4 t58
  refine Eq.trans (iter_succ ..) (Eq.trans (y7h ..) (Eq.trans ?_ (y1c c0 g4 a8 a11 t4 t58 (znh c0 g1 g2 g3 g4 a5 a6 a7 a8 c9 a10 a11) rfl (fun t4' t58'=>z17 c0 g4 a8 a11 n t4' t58') (fun _=>some (Sum.inl ())) (fun c0_ c1_ c2_=>some (Sum.inr (c0_,c1_,c2_))))))
  exact congrArg (fun kn_=>z4o c0 g4 a8 a11 t4 t58 kn_ _ _) (funext fun t4'=>funext fun t58'=>ih ..)
theorem y2l:LoopOne J fnTab 82 6 zvb:=lpK znz zn3 (fi:=fi82) (by kernel_rfl) (by kernel_rfl) (q:=fun hs=>(zhu (hN hs 0) (hI hs 1) (hI hs 2) (hLn hs 3) (hLn hs 4) (hLn hs 5) (hLn hs 6) (hN hs 7) (hN hs 8) (hN hs 9) (hN hs 10) (hI hs 11) (hN hs 12) (hN hs 13))) (fun hs=>by kernel_rfl) fun hs h1=>Eq.trans (y7a (hI hs 1) (hLn hs 3) (hLn hs 4) (hLn hs 5) (hLn hs 6) (hN hs 7) (hN hs 8) (hN hs 9) (hN hs 10) (hI hs 11) (hN hs 12) (hN hs 13) big (hN hs 0) (hI hs 2)) (y7k (hI hs 1) (hLn hs 3) (hLn hs 4) (hLn hs 5) (hLn hs 6) (hN hs 7) (hN hs 8) (hN hs 9) (hN hs 10) (hI hs 11) (hN hs 12) (hN hs 13) _ h1)
def tb7:List (Nat×(List PT→Option (Bool×AV×List Blk))):=(114,z3b)::(114,z3u)::(114,z43)::(160,zw4)::(170,zl2)::(181,zp0)::tb6
def lt7:List ((Nat×Nat)×(Nat→St→Option (Bool×LO))):=((82,6),zvb)::lt6
def Γ7:Ctx:=⟨tyTab,fnTab,tblSum tb7,tblLp lt7⟩
theorem zue:SumL J tb7:=SumL.cons zb1 (SumL.cons zc7 (SumL.cons zcy (SumL.cons y8l (SumL.cons y1s (SumL.cons y4c (znz))))))
theorem zu9:LpL J fnTab lt7:=LpL.cons y2l (zn3)
def zi4  : Option (Bool)→Option (AV×List Blk)
 | some r=>some ((.v (.one (.bool r))),[])
 | none=>none
def zie:List PT→Option (Bool×AV×List Blk)
 | [.one (.row 1 q1s (.fl .f32 q22))]=>sF zi4 (z1v q1s q22)
 | _=>none
theorem y2x:ev8 Γ7 64 [.one (.row 1 a0 (.fl .f32 g1))]=zi4 (z1v a0 g1):=tr2 (zwk a0 g1 zi4 rfl (fun c0_=>some c0_)) (by kernel_rfl)
theorem zxu:SumOne J 64 zie:=mkT zue zu9 fun pts v news hp=>by
 unfold zie at hp
 split at hp
 ·exact fin3 (y2x ..) hp
 ·cases hp
def zt5  : Option (Bool)→Option (AV×List Blk)
 | some r=>some ((.v (.one (.bool r))),[])
 | none=>none
def ztg:List PT→Option (Bool×AV×List Blk)
 | [.ptr [.row 1 q00 (.fl .f32 q03),.row 1 q01 (.fl .f32 q05),.row 1 q02 (.fl .f32 q04),.row 3 q06 (.fl .f32 q0a),.s (.int .i64 q0e),.s (.flt .f32 q0g),.s (.flt .f32 q0h)]]=>sF zt5 (zaq q00 q03 q01 q05 q02 q04 q06 q0a q0e q0g q0h)
 | _=>none
theorem yah:ev8 Γ7 82 [.ptr [.row 1 a0 (.fl .f32 g1),.row 1 a2 (.fl .f32 g3),.row 1 a4 (.fl .f32 g5),.row 3 a6 (.fl .f32 g7),.s (.int .i64 c8),.s (.flt .f32 a9),.s (.flt .f32 a10)]]=zt5 (zaq a0 g1 a2 g3 a4 g5 a6 g7 c8 a9 a10):=tr2 (y6p a0 g1 a2 g3 a4 g5 a6 g7 c8 a9 a10 zt5 rfl (fun c0_=>some c0_)) (by kernel_rfl)
theorem y74:SumOne J 82 ztg:=mkT zue zu9 fun pts v news hp=>by
 unfold ztg at hp
 split at hp
 ·exact fin3 (yah ..) hp
 ·cases hp
def zlv  : Option (Bool)→Option (AV×List Blk)
 | some r=>some ((.v (.one (.bool r))),[])
 | none=>none
def zl4:List PT→Option (Bool×AV×List Blk)
 | [.one (.row 1 q1s (.fl .f32 q22))]=>sF zlv (z4v q1s q22)
 | _=>none
theorem y5s:ev8 Γ7 132 [.one (.row 1 a0 (.fl .f32 g1))]=zlv (z4v a0 g1):=tr2 (zyv a0 g1 zlv rfl (fun c0_=>some c0_)) (by kernel_rfl)
theorem y22:SumOne J 132 zl4:=mkT zue zu9 fun pts v news hp=>by
 unfold zl4 at hp
 split at hp
 ·exact fin3 (y5s ..) hp
 ·cases hp
def zni  : Option (Bool)→Option (AV×List Blk)
 | some r=>some ((.v (.one (.bool r))),[])
 | none=>none
def zo7:List PT→Option (Bool×AV×List Blk)
 | [.one (.row 1 q1s (.fl .f32 q22))]=>sF zni (z7e q1s q22)
 | _=>none
theorem y7y:ev8 Γ7 133 [.one (.row 1 a0 (.fl .f32 g1))]=zni (z7e a0 g1):=tr2 (y0y a0 g1 zni rfl (fun c0_=>some c0_)) (by kernel_rfl)
theorem y36:SumOne J 133 zo7:=mkT zue zu9 fun pts v news hp=>by
 unfold zo7 at hp
 split at hp
 ·exact fin3 (y7y ..) hp
 ·cases hp
def zm5  : Option (Nat)→Option (AV×List Blk)
 | some r=>some ((.v (.one (.flt .f32 r))),[])
 | none=>none
def zku:List PT→Option (Bool×AV×List Blk)
 | [.one (.s (.flt .f32 x))]=>sF zm5 (z6s x)
 | _=>none
theorem y64:ev8 Γ7 141 [.one (.s (.flt .f32 a0))]=zm5 (z6s a0):=tr2 (zyw a0 zm5 rfl (fun c0_=>some c0_)) (by kernel_rfl)
theorem y1e:SumOne J 141 zku:=mkT zue zu9 fun pts v news hp=>by
 unfold zku at hp
 split at hp
 ·exact fin3 (y64 ..) hp
 ·cases hp
def tb8:List (Nat×(List PT→Option (Bool×AV×List Blk))):=(64,zie)::(82,ztg)::(132,zl4)::(133,zo7)::(141,zku)::tb7
def lt8:List ((Nat×Nat)×(Nat→St→Option (Bool×LO))):=lt7
def Γ8:Ctx:=⟨tyTab,fnTab,tblSum tb8,tblLp lt8⟩
theorem zts:SumL J tb8:=SumL.cons zxu (SumL.cons y74 (SumL.cons y22 (SumL.cons y36 (SumL.cons y1e (zue)))))
theorem zsy:LpL J fnTab lt8:=zu9
def zjr  : Option (Nat×Nat×Bool)→Option (AV×List Blk)
 | some r=>some ((.tup [(.one (.flt .f32 r.1)),(.one (.flt .f32 r.2.1)),(.one (.bool r.2.2))]),[])
 | none=>none
def zjs:List PT→Option (Bool×AV×List Blk)
 | [.one (.s (.flt .f32 x)),.one (.s (.flt .f32 y))]=>sF zjr (z3m x y)
 | _=>none
theorem y4b:ev8 Γ8 107 [.one (.s (.flt .f32 a0)),.one (.s (.flt .f32 a1))]=zjr (z3m a0 a1):=tr2 (zx4 a0 a1 zjr rfl (fun c0_ c1_ c2_=>some (c0_,c1_,c2_))) (by kernel_rfl)
theorem zzm:SumOne J 107 zjs:=mkT zts zsy fun pts v news hp=>by
 unfold zjs at hp
 split at hp
 ·exact fin3 (y4b ..) hp
 ·cases hp
def zjf  : Option (Bool)→Option (AV×List Blk)
 | some r=>some ((.v (.one (.bool r))),[])
 | none=>none
def zjc:List PT→Option (Bool×AV×List Blk)
 | [.ptr [.row 1 q07 (.fl .f32 q0b),.row 1 q09 (.fl .f32 q0c),.row 1 q08 (.fl .f32 q0d),.row 3 q0f (.fl .f32 q0i),.s (.int .i64 q0l),.s (.flt .f32 q0o),.s (.flt .f32 q0n)],.one (.s (.int .i64 i))]=>sF zjf (z5n q07 q0b q09 q0c q08 q0d q0f q0i q0l q0o q0n i)
 | _=>none
theorem y4d:ev8 Γ8 127 [.ptr [.row 1 a0 (.fl .f32 g1),.row 1 a2 (.fl .f32 g3),.row 1 a4 (.fl .f32 g5),.row 3 a6 (.fl .f32 g7),.s (.int .i64 c8),.s (.flt .f32 a9),.s (.flt .f32 a10)],.one (.s (.int .i64 c11))]=zjf (z5n a0 g1 a2 g3 a4 g5 a6 g7 c8 a9 a10 c11):=tr2 (zy0 a0 g1 a2 g3 a4 g5 a6 g7 c8 a9 a10 c11 zjf rfl (fun c0_=>some c0_)) (by kernel_rfl)
theorem zyl:SumOne J 127 zjc:=mkT zts zsy fun pts v news hp=>by
 unfold zjc at hp
 split at hp
 ·exact fin3 (y4d ..) hp
 ·cases hp
def zf0  : Option (Nat)→Option (AV×List Blk)
 | some r=>some ((.v (.one (.flt .f32 r))),[])
 | none=>none
def zep:List PT→Option (Bool×AV×List Blk)
 | [.agg [.row 1 q07 (.fl .f32 q0b),.row 1 q09 (.fl .f32 q0c),.row 1 q08 (.fl .f32 q0d),.row 3 q0f (.fl .f32 q0i),.s (.int .i64 q0l),.s (.flt .f32 q0o),.s (.flt .f32 q0n)],.one (.s (.int .i64 i)),.one (.s (.flt .f32 q1g))]=>sF zf0 (z3v q07 q0b q09 q0c q08 q0d q0f q0i q0l q0o q0n i q1g)
 | _=>none
theorem zy7:ev8 Γ8 143 [.agg [.row 1 a0 (.fl .f32 g1),.row 1 a2 (.fl .f32 g3),.row 1 a4 (.fl .f32 g5),.row 3 a6 (.fl .f32 g7),.s (.int .i64 c8),.s (.flt .f32 a9),.s (.flt .f32 a10)],.one (.s (.int .i64 c11)),.one (.s (.flt .f32 a12))]=zf0 (z3v a0 g1 a2 g3 a4 g5 a6 g7 c8 a9 a10 c11 a12):=tr2 (zs9 a0 g1 a2 g3 a4 g5 a6 g7 c8 a9 a10 c11 a12 zf0 rfl (fun c0_=>some c0_)) (by kernel_rfl)
theorem zuh:SumOne J 143 zep:=mkT zts zsy fun pts v news hp=>by
 unfold zep at hp
 split at hp
 ·exact fin3 (zy7 ..) hp
 ·cases hp
def z1l:St:=(.mk [(x0V 0 0 a0 1),(1,(.v (.one (.fn 171 [(.ptr 4 0 1)])))),(x0I 7 c1),(x0I 8 c2)] [(x0L g3),(x0L g4),(x0L g5),(.mk true (.cells [(.vw 0 0 a6 1),(.vw 1 0 a7 1),(.vw 2 0 a8 1)])),(.mk true (.cells [(.flt .f32 a9)]))])
def z2x(sn:Nat)(t7:Int)(b0 b1 b2:List Nat)(q1h q1r q1q b4:Nat)(c0_:Int):St:=(.mk [(x0I 4 c0_)] [(x0L b0),(x0L b1),(x0L b2),(.mk true (.cells [(.vw 0 0 q1h 1),(.vw 1 0 q1r 1),(.vw 2 0 q1q 1)])),(.mk true (.cells [(.flt .f32 b4)]))])
def z2p:St:=(.mk [(x0V 0 0 a0 1),(1,(.v (.one (.fn 171 [(.ptr 4 0 1)])))),(x0I 7 c1),(x0I 8 c9),(x0B 9 e10)] [(x0L g2),(x0L g3),(x0L g4),(.mk true (.cells [(.vw 0 0 a5 1),(.vw 1 0 a6 1),(.vw 2 0 a7 1)])),(.mk true (.cells [(.flt .f32 a8)]))])
def z37:Option ((Int)⊕(Int×Bool))→Option (Ex×St)
 | none=>none
 | some (Sum.inl r)=>some (.ret,(z2x a0 c1 g2 g3 g4 a5 a6 a7 a8 r))
 | some (Sum.inr r)=>some ((.exit 0),(z2p a0 c1 g2 g3 g4 a5 a6 a7 a8 r.1 r.2))
def z5i (x:Option ((Int)⊕(Int×Bool))):LO:=(.two (oL x) (.one .ret (z2x a0 c1 g2 g3 g4 a5 a6 a7 a8 ((tL x).getD default))) (.one (.exit 0) (z2p a0 c1 g2 g3 g4 a5 a6 a7 a8 ((tR x).getD default).1 ((tR x).getD default).2)))
def zb7:Bool×LO:=sL (z5i a0 c1 g3 g4 g5 a6 a7 a8 a9) (z00 a0 c1 g3 a9 big c2)
def z5w:Nat→St→Option (Bool×LO):=lpT 5 (pSt [(x1V 0 0 1),(pTm 1 (pV (pOne (pFn 171 [(pPtr 4 (liN 0) 1)])))),(x1I 7),(x1I 8)] [x1L,x1L,x1L,(pBlk true (pCells [(pVw 0 (liN 0) 1),(pVw 1 (liN 0) 1),(pVw 2 (liN 0) 1)])),(pBlk true (pCells [(pFlt .f32)]))]) (fun hs=>zb7 (hN hs 0) (hI hs 1) (hI hs 2) (hLn hs 3) (hLn hs 4) (hLn hs 5) (hN hs 6) (hN hs 7) (hN hs 8) (hN hs 9))
theorem zce:∀ x:Option ((Int)⊕(Int×Bool)),x.isSome=true→(z37 a0 c1 g2 g3 g4 a5 a6 a7 a8) x=some (pick (z5i a0 c1 g2 g3 g4 a5 a6 a7 a8 x))
 | none,h=>by cases h
 | some (Sum.inl r),_=>rfl
 | some (Sum.inr r),_=>rfl
theorem zbv (K:Ex→St→Option (Ex×St)):ev9 Γ8 146 2 5 fi146 (z1l a0 c1 c2 g3 g4 g5 a6 a7 a8 a9) K=z0e a0 c1 g3 a9 c2 (fun t8'=>K .normal (z1l a0 c1 t8' g3 g4 g5 a6 a7 a8 a9)) (fun c0_=>K .ret (z2x a0 c1 g3 g4 g5 a6 a7 a8 a9 c0_)) (fun c0_ c1_=>K (.exit 0) (z2p a0 c1 g3 g4 g5 a6 a7 a8 a9 c0_ c1_)):=by kernel_rfl
theorem zcm:∀ (n:Nat) (t8:Int),iter 146 2 5 (ev9 Γ8 146 2 5 fi146) n (z1l a0 c1 t8 g2 g3 g4 a5 a6 a7 a8) (fun e st=>some (e,st))=(z37 a0 c1 g2 g3 g4 a5 a6 a7 a8) (z00 a0 c1 g2 a8 n t8):=by
 intro n
 induction n with
 | zero=>intros;rfl
 | succ n ih=>
  intro t8
  refine Eq.trans (iter_succ ..) (Eq.trans (zbv ..) (Eq.trans ?_ (za4 a0 c1 g2 a8 t8 (z37 a0 c1 g2 g3 g4 a5 a6 a7 a8) rfl (fun t8'=>z00 a0 c1 g2 a8 n t8') (fun c0_=>some (Sum.inl c0_)) (fun c0_ c1_=>some (Sum.inr (c0_,c1_))))))
  exact congrArg (fun kn_=>z0e a0 c1 g2 a8 t8 kn_ _ _) (funext fun t8'=>ih ..)
theorem zag:LoopOne J fnTab 146 2 z5w:=lpK zts zsy (fi:=fi146) (by kernel_rfl) (by kernel_rfl) (q:=fun hs=>(z1l (hN hs 0) (hI hs 1) (hI hs 2) (hLn hs 3) (hLn hs 4) (hLn hs 5) (hN hs 6) (hN hs 7) (hN hs 8) (hN hs 9))) (fun hs=>by kernel_rfl) fun hs h1=>Eq.trans (zcm (hN hs 0) (hI hs 1) (hLn hs 3) (hLn hs 4) (hLn hs 5) (hN hs 6) (hN hs 7) (hN hs 8) (hN hs 9) big (hI hs 2)) (zce (hN hs 0) (hI hs 1) (hLn hs 3) (hLn hs 4) (hLn hs 5) (hN hs 6) (hN hs 7) (hN hs 8) (hN hs 9) _ h1)
def zef:St:=(.mk [(x0P 0 3 3),(x0F 8 a0),(x0I 9 c1),(x0I 10 c2)] [(x0L g3),(x0L g4),(x0L g5),(.mk false (.cells [(.vw 0 0 a6 1),(.vw 1 0 a7 1),(.vw 2 0 a8 1)]))])
def zi2:St:=(.mk [(x0P 0 3 3),(x0F 8 a0),(x0I 9 c1),(x0I 10 c8),(x0B 36 e9)] [(x0L g2),(x0L g3),(x0L g4),(.mk false (.cells [(.vw 0 0 a5 1),(.vw 1 0 a6 1),(.vw 2 0 a7 1)]))])
def zjn:Option ((Int×Bool))→Option (Ex×St)
 | none=>none
 | some r=>some ((.exit 0),(zi2 a0 c1 g2 g3 g4 a5 a6 a7 r.1 r.2))
def zqd (x:Option ((Int×Bool))):LO:=(.one (.exit 0) (zi2 a0 c1 g2 g3 g4 a5 a6 a7 (x.getD default).1 (x.getD default).2))
def y17:Bool×LO:=sL (zqd a0 c1 g3 g4 g5 a6 a7 a8) (z1n a0 g3 a6 big c2)
def zrt:Nat→St→Option (Bool×LO):=lpT 4 (pSt [(x1P 0 3 3),(x1F 8),(x1I 9),(x1I 10)] [x1L,x1L,x1L,(pBlk false (pCells [(pVw 0 (liN 0) 1),(pVw 1 (liN 0) 1),(pVw 2 (liN 0) 1)]))]) (fun hs=>y17 (hN hs 0) (hI hs 1) (hI hs 2) (hLn hs 3) (hLn hs 4) (hLn hs 5) (hN hs 6) (hN hs 7) (hN hs 8))
theorem y4k:∀ x:Option ((Int×Bool)),x.isSome=true→(zjn a0 c1 g2 g3 g4 a5 a6 a7) x=some (pick (zqd a0 c1 g2 g3 g4 a5 a6 a7 x))
 | none,h=>by cases h
 | some r,_=>rfl
theorem y4j (K:Ex→St→Option (Ex×St)):ev9 Γ8 176 4 4 fi176 (zef a0 c1 c2 g3 g4 g5 a6 a7 a8) K=z3o a0 g3 a6 c2 (fun t10'=>K .normal (zef a0 c1 t10' g3 g4 g5 a6 a7 a8)) (fun c0_ c1_=>K (.exit 0) (zi2 a0 c1 g3 g4 g5 a6 a7 a8 c0_ c1_)):=by kernel_rfl
theorem y4e:∀ (n:Nat) (t10:Int),iter 176 4 4 (ev9 Γ8 176 4 4 fi176) n (zef a0 c1 t10 g2 g3 g4 a5 a6 a7) (fun e st=>some (e,st))=(zjn a0 c1 g2 g3 g4 a5 a6 a7) (z1n a0 g2 a5 n t10):=by
 intro n
 induction n with
 | zero=>intros;rfl
 | succ n ih=>
  intro t10
  refine Eq.trans (iter_succ ..) (Eq.trans (y4j ..) (Eq.trans ?_ (zy2 a0 g2 a5 t10 (zjn a0 c1 g2 g3 g4 a5 a6 a7) rfl (fun t10'=>z1n a0 g2 a5 n t10') (fun c0_ c1_=>some (c0_,c1_)))))
  exact congrArg (fun kn_=>z3o a0 g2 a5 t10 kn_ _) (funext fun t10'=>ih ..)
theorem zyu:LoopOne J fnTab 176 4 zrt:=lpK zts zsy (fi:=fi176) (by kernel_rfl) (by kernel_rfl) (q:=fun hs=>(zef (hN hs 0) (hI hs 1) (hI hs 2) (hLn hs 3) (hLn hs 4) (hLn hs 5) (hN hs 6) (hN hs 7) (hN hs 8))) (fun hs=>by kernel_rfl) fun hs h1=>Eq.trans (y4e (hN hs 0) (hI hs 1) (hLn hs 3) (hLn hs 4) (hLn hs 5) (hN hs 6) (hN hs 7) (hN hs 8) big (hI hs 2)) (y4k (hN hs 0) (hI hs 1) (hLn hs 3) (hLn hs 4) (hLn hs 5) (hN hs 6) (hN hs 7) (hN hs 8) _ h1)
def tb9:List (Nat×(List PT→Option (Bool×AV×List Blk))):=(107,zjs)::(127,zjc)::(143,zep)::tb8
def lt9:List ((Nat×Nat)×(Nat→St→Option (Bool×LO))):=((146,2),z5w)::((176,4),zrt)::lt8
def Γ9:Ctx:=⟨tyTab,fnTab,tblSum tb9,tblLp lt9⟩
theorem zxp:SumL J tb9:=SumL.cons zzm (SumL.cons zyl (SumL.cons zuh (zts)))
theorem zyj:LpL J fnTab lt9:=LpL.cons zag (LpL.cons zyu (zsy))
def zrh  : Option (Bool)→Option (AV×List Blk)
 | some r=>some ((.v (.one (.bool r))),[])
 | none=>none
def zqx:List PT→Option (Bool×AV×List Blk)
 | [.ptr [.row 1 q07 (.fl .f32 q0b),.row 1 q09 (.fl .f32 q0c),.row 1 q08 (.fl .f32 q0d),.row 3 q0f (.fl .f32 q0i),.s (.int .i64 q0l),.s (.flt .f32 q0o),.s (.flt .f32 q0n)],.one (.s (.int .i64 i)),.one (.s (.flt .f32 q19)),.one (.s (.flt .f32 q0x)),.one (.s (.flt .f32 q0m))]=>sF zrh (z9b q07 q0b q09 q0c q08 q0d q0f q0i q0l q0o q0n i q19 q0x q0m)
 | _=>none
theorem ya5:ev8 Γ9 87 [.ptr [.row 1 a0 (.fl .f32 g1),.row 1 a2 (.fl .f32 g3),.row 1 a4 (.fl .f32 g5),.row 3 a6 (.fl .f32 g7),.s (.int .i64 c8),.s (.flt .f32 a9),.s (.flt .f32 a10)],.one (.s (.int .i64 c11)),.one (.s (.flt .f32 a12)),.one (.s (.flt .f32 a13)),.one (.s (.flt .f32 a14))]=zrh (z9b a0 g1 a2 g3 a4 g5 a6 g7 c8 a9 a10 c11 a12 a13 a14):=tr2 (y3y a0 g1 a2 g3 a4 g5 a6 g7 c8 a9 a10 c11 a12 a13 a14 zrh rfl (fun c0_=>some c0_)) (by kernel_rfl)
theorem y67:SumOne J 87 zqx:=mkT zxp zyj fun pts v news hp=>by
 unfold zqx at hp
 split at hp
 ·exact fin3 (ya5 ..) hp
 ·cases hp
def zd5  : Option (Int×Int×Nat×Nat×Nat)→Option (AV×List Blk)
 | some r=>some ((.tup [(.one (.int .i64 r.1)),(.one (.int .i64 r.2.1)),(.one (.flt .f32 r.2.2.1)),(.one (.flt .f32 r.2.2.2.1)),(.one (.flt .f32 r.2.2.2.2))]),[])
 | none=>none
def zda:List PT→Option (Bool×AV×List Blk)
 | [.agg [.row 1 q0j (.fl .f32 q0k),.row 1 q14 (.fl .f32 q1c),.row 1 q13 (.fl .f32 q1d)],.one (.s (.flt .f32 x1))]=>sF zd5 (z13 q0j q0k q14 q1c q13 q1d x1)
 | _=>none
theorem zwu:ev8 Γ9 161 [.agg [.row 1 a0 (.fl .f32 g1),.row 1 a2 (.fl .f32 g3),.row 1 a4 (.fl .f32 g5)],.one (.s (.flt .f32 a6))]=zd5 (z13 a0 g1 a2 g3 a4 g5 a6):=tr2 (zrg a0 g1 a2 g3 a4 g5 a6 zd5 rfl (fun c0_ c1_ c2_ c3_ c4_=>some (c0_,c1_,c2_,c3_,c4_))) (by kernel_rfl)
theorem zsc:SumOne J 161 zda:=mkT zxp zyj fun pts v news hp=>by
 unfold zda at hp
 split at hp
 ·exact fin3 (zwu ..) hp
 ·cases hp
def zpe  : Option (Int×Int×Nat×Nat)→Option (AV×List Blk)
 | some r=>some ((.tup [(.one (.int .i64 r.1)),(.one (.int .i64 r.2.1)),(.one (.flt .f32 r.2.2.1)),(.one (.flt .f32 r.2.2.2))]),[])
 | none=>none
def zpn:List PT→Option (Bool×AV×List Blk)
 | [.ptr [.row 1 q0j (.fl .f32 q0k),.row 1 q14 (.fl .f32 q1c),.row 1 q13 (.fl .f32 q1d)],.one (.s (.flt .f32 x1))]=>sF zpe (z3q q0j q0k q14 q1c q13 q1d x1)
 | _=>none
theorem y8i:ev8 Γ9 176 [.ptr [.row 1 a0 (.fl .f32 g1),.row 1 a2 (.fl .f32 g3),.row 1 a4 (.fl .f32 g5)],.one (.s (.flt .f32 a6))]=zpe (z3q a0 g1 a2 g3 a4 g5 a6):=tr2 (y28 a0 g1 a2 g3 a4 g5 a6 zpe rfl (fun c0_ c1_ c2_ c3_=>some (c0_,c1_,c2_,c3_))) (by kernel_rfl)
theorem y4o:SumOne J 176 zpn:=mkT zxp zyj fun pts v news hp=>by
 unfold zpn at hp
 split at hp
 ·exact fin3 (y8i ..) hp
 ·cases hp
def z8i:St:=(.mk [(x0P 1 3 3),(x0V 42 0 a0 1),(x0I 43 c1),(x0I 44 c2)] [(x0L g3),(x0L g4),(x0L g5),(.mk true (.cells [(.vw 0 0 a6 1),(.vw 1 0 a7 1),(.vw 2 0 a8 1)]))])
def zbd(q2z:Nat)(t43:Int)(b0 b1 b2:List Nat)(q1h q1r q1q:Nat):St:=(.mk [(x0B 2 false)] [(x0L b0),(x0L b1),(x0L b2)])
def zbe:St:=(.mk [(x0P 1 3 3),(x0V 42 0 a0 1),(x0I 43 c1),(x0I 44 c8),(x0B 45 e9)] [(x0L g2),(x0L g3),(x0L g4),(.mk true (.cells [(.vw 0 0 a5 1),(.vw 1 0 a6 1),(.vw 2 0 a7 1)]))])
def zd7:Option ((Unit)⊕(Int×Bool))→Option (Ex×St)
 | none=>none
 | some (Sum.inl r)=>some (.ret,(zbd a0 c1 g2 g3 g4 a5 a6 a7))
 | some (Sum.inr r)=>some ((.exit 0),(zbe a0 c1 g2 g3 g4 a5 a6 a7 r.1 r.2))
def zj3 (x:Option ((Unit)⊕(Int×Bool))):LO:=(.two (oL x) (.one .ret (zbd a0 c1 g2 g3 g4 a5 a6 a7)) (.one (.exit 0) (zbe a0 c1 g2 g3 g4 a5 a6 a7 ((tR x).getD default).1 ((tR x).getD default).2)))
def zu3:Bool×LO:=sL (zj3 a0 c1 g3 g4 g5 a6 a7 a8) (z10 a0 c1 g3 a6 big c2)
def zka:Nat→St→Option (Bool×LO):=lpT 3 (pSt [(x1P 1 3 3),(x1V 42 0 1),(x1I 43),(x1I 44)] [x1L,x1L,x1L,(pBlk true (pCells [(pVw 0 (liN 0) 1),(pVw 1 (liN 0) 1),(pVw 2 (liN 0) 1)]))]) (fun hs=>zu3 (hN hs 0) (hI hs 1) (hI hs 2) (hLn hs 3) (hLn hs 4) (hLn hs 5) (hN hs 6) (hN hs 7) (hN hs 8))
theorem zwq:∀ x:Option ((Unit)⊕(Int×Bool)),x.isSome=true→(zd7 a0 c1 g2 g3 g4 a5 a6 a7) x=some (pick (zj3 a0 c1 g2 g3 g4 a5 a6 a7 x))
 | none,h=>by cases h
 | some (Sum.inl r),_=>rfl
 | some (Sum.inr r),_=>rfl
theorem zw7 (K:Ex→St→Option (Ex×St)):ev9 Γ9 89 5 3 fi89 (z8i a0 c1 c2 g3 g4 g5 a6 a7 a8) K=z1r a0 c1 g3 a6 c2 (fun t44'=>K .normal (z8i a0 c1 t44' g3 g4 g5 a6 a7 a8)) (fun _=>K .ret (zbd a0 c1 g3 g4 g5 a6 a7 a8)) (fun c0_ c1_=>K (.exit 0) (zbe a0 c1 g3 g4 g5 a6 a7 a8 c0_ c1_)):=by kernel_rfl
theorem zwp:∀ (n:Nat) (t44:Int),iter 89 5 3 (ev9 Γ9 89 5 3 fi89) n (z8i a0 c1 t44 g2 g3 g4 a5 a6 a7) (fun e st=>some (e,st))=(zd7 a0 c1 g2 g3 g4 a5 a6 a7) (z10 a0 c1 g2 a5 n t44):=by
 intro n
 induction n with
 | zero=>intros;rfl
 | succ n ih=>
  intro t44
  refine Eq.trans (iter_succ ..) (Eq.trans (zw7 ..) (Eq.trans ?_ (zqz a0 c1 g2 a5 t44 (zd7 a0 c1 g2 g3 g4 a5 a6 a7) rfl (fun t44'=>z10 a0 c1 g2 a5 n t44') (fun _=>some (Sum.inl ())) (fun c0_ c1_=>some (Sum.inr (c0_,c1_))))))
  exact congrArg (fun kn_=>z1r a0 c1 g2 a5 t44 kn_ _ _) (funext fun t44'=>ih ..)
theorem zsl:LoopOne J fnTab 89 5 zka:=lpK zxp zyj (fi:=fi89) (by kernel_rfl) (by kernel_rfl) (q:=fun hs=>(z8i (hN hs 0) (hI hs 1) (hI hs 2) (hLn hs 3) (hLn hs 4) (hLn hs 5) (hN hs 6) (hN hs 7) (hN hs 8))) (fun hs=>by kernel_rfl) fun hs h1=>Eq.trans (zwp (hN hs 0) (hI hs 1) (hLn hs 3) (hLn hs 4) (hLn hs 5) (hN hs 6) (hN hs 7) (hN hs 8) big (hI hs 2)) (zwq (hN hs 0) (hI hs 1) (hLn hs 3) (hLn hs 4) (hLn hs 5) (hN hs 6) (hN hs 7) (hN hs 8) _ h1)
def tb10:List (Nat×(List PT→Option (Bool×AV×List Blk))):=(87,zqx)::(161,zda)::(176,zpn)::tb9
def lt10:List ((Nat×Nat)×(Nat→St→Option (Bool×LO))):=((89,5),zka)::lt9
def Γ10:Ctx:=⟨tyTab,fnTab,tblSum tb10,tblLp lt10⟩
theorem zxk:SumL J tb10:=SumL.cons y67 (SumL.cons zsc (SumL.cons y4o (zxp)))
theorem zxy:LpL J fnTab lt10:=LpL.cons zsl (zyj)
def zh7  : Option (Bool)→Option (AV×List Blk)
 | some r=>some ((.v (.one (.bool r))),[])
 | none=>none
def zh6:List PT→Option (Bool×AV×List Blk)
 | [.agg [.row 1 q0j (.fl .f32 q0k),.row 1 q14 (.fl .f32 q1c),.row 1 q13 (.fl .f32 q1d)]]=>sF zh7 (z4m q0j q0k q14 q1c q13 q1d)
 | _=>none
theorem y1y:ev8 Γ10 89 [.agg [.row 1 a0 (.fl .f32 g1),.row 1 a2 (.fl .f32 g3),.row 1 a4 (.fl .f32 g5)]]=zh7 (z4m a0 g1 a2 g3 a4 g5):=tr2 (zuj a0 g1 a2 g3 a4 g5 zh7 rfl (fun c0_=>some c0_)) (by kernel_rfl)
theorem zw1:SumOne J 89 zh6:=mkT zxk zxy fun pts v news hp=>by
 unfold zh6 at hp
 split at hp
 ·exact fin3 (y1y ..) hp
 ·cases hp
def zjm  : Option (Nat)→Option (AV×List Blk)
 | some r=>some ((.v (.one (.flt .f32 r))),[])
 | none=>none
def zja:List PT→Option (Bool×AV×List Blk)
 | [.agg [.row 1 q16 (.fl .f32 q1j),.row 1 q1b (.fl .f32 q1n),.row 1 q1a (.fl .f32 q1o)],.one (.row 1 q1s (.fl .f32 q22)),.one (.s (.flt .f32 q1x))]=>sF zjm (z5o q16 q1j q1b q1n q1a q1o q1s q22 q1x)
 | _=>none
theorem y4p:ev8 Γ10 144 [.agg [.row 1 a0 (.fl .f32 g1),.row 1 a2 (.fl .f32 g3),.row 1 a4 (.fl .f32 g5)],.one (.row 1 a6 (.fl .f32 g7)),.one (.s (.flt .f32 a8))]=zjm (z5o a0 g1 a2 g3 a4 g5 a6 g7 a8):=tr2 (zyh a0 g1 a2 g3 a4 g5 a6 g7 a8 zjm rfl (fun c0_=>some c0_)) (by kernel_rfl)
theorem zzv:SumOne J 144 zja:=mkT zxk zxy fun pts v news hp=>by
 unfold zja at hp
 split at hp
 ·exact fin3 (y4p ..) hp
 ·cases hp
def ztd  : Option (Nat)→Option (AV×List Blk)
 | some r=>some ((.v (.one (.flt .f32 r))),[])
 | none=>none
def ztn:List PT→Option (Bool×AV×List Blk)
 | [.ptr [.row 1 q16 (.fl .f32 q1j),.row 1 q1b (.fl .f32 q1n),.row 1 q1a (.fl .f32 q1o)],.one (.row 1 q1s (.fl .f32 q22)),.one (.s (.flt .f32 q1x))]=>sF ztd (zam q16 q1j q1b q1n q1a q1o q1s q22 q1x)
 | _=>none
theorem yav:ev8 Γ10 172 [.ptr [.row 1 a0 (.fl .f32 g1),.row 1 a2 (.fl .f32 g3),.row 1 a4 (.fl .f32 g5)],.one (.row 1 a6 (.fl .f32 g7)),.one (.s (.flt .f32 a8))]=ztd (zam a0 g1 a2 g3 a4 g5 a6 g7 a8):=tr2 (y63 a0 g1 a2 g3 a4 g5 a6 g7 a8 ztd rfl (fun c0_=>some c0_)) (by kernel_rfl)
theorem y7l:SumOne J 172 ztn:=mkT zxk zxy fun pts v news hp=>by
 unfold ztn at hp
 split at hp
 ·exact fin3 (yav ..) hp
 ·cases hp
def tb11:List (Nat×(List PT→Option (Bool×AV×List Blk))):=(89,zh6)::(144,zja)::(172,ztn)::tb10
def lt11:List ((Nat×Nat)×(Nat→St→Option (Bool×LO))):=lt10
def Γ11:Ctx:=⟨tyTab,fnTab,tblSum tb11,tblLp lt11⟩
theorem zxm:SumL J tb11:=SumL.cons zw1 (SumL.cons zzv (SumL.cons y7l (zxk)))
theorem zx5:LpL J fnTab lt11:=zxy
def zgy  : Option (Nat×Nat)→Option (AV×List Blk)
 | some r=>some ((.tup [(.one (.flt .f32 r.1)),(.one (.flt .f32 r.2))]),[])
 | none=>none
def zgv:List PT→Option (Bool×AV×List Blk)
 | [.agg [.row 1 q07 (.fl .f32 q0b),.row 1 q09 (.fl .f32 q0c),.row 1 q08 (.fl .f32 q0d),.row 3 q0f (.fl .f32 q0i),.s (.int .i64 q0l),.s (.flt .f32 q0o),.s (.flt .f32 q0n)],.one (.s (.int .i64 i)),.one (.s (.flt .f32 q1g)),.one (.s (.flt .f32 q0m))]=>sF zgy (z2n q07 q0b q09 q0c q08 q0d q0f q0i q0l q0o q0n i q1g q0m)
 | _=>none
theorem y24:ev8 Γ11 106 [.agg [.row 1 a0 (.fl .f32 g1),.row 1 a2 (.fl .f32 g3),.row 1 a4 (.fl .f32 g5),.row 3 a6 (.fl .f32 g7),.s (.int .i64 c8),.s (.flt .f32 a9),.s (.flt .f32 a10)],.one (.s (.int .i64 c11)),.one (.s (.flt .f32 a12)),.one (.s (.flt .f32 a13))]=zgy (z2n a0 g1 a2 g3 a4 g5 a6 g7 c8 a9 a10 c11 a12 a13):=tr2 (zus a0 g1 a2 g3 a4 g5 a6 g7 c8 a9 a10 c11 a12 a13 zgy rfl (fun c0_ c1_=>some (c0_,c1_))) (by kernel_rfl)
theorem zvt:SumOne J 106 zgv:=mkT zxm zx5 fun pts v news hp=>by
 unfold zgv at hp
 split at hp
 ·exact fin3 (y24 ..) hp
 ·cases hp
def zpb  : Option (Nat)→Option (AV×List Blk)
 | some r=>some ((.v (.one (.flt .f32 r))),[])
 | none=>none
def zpx:List PT→Option (Bool×AV×List Blk)
 | [.ptr [.row 1 q16 (.fl .f32 q1j),.row 1 q1b (.fl .f32 q1n),.row 1 q1a (.fl .f32 q1o)],.one (.s (.flt .f32 q1x))]=>sF zpb (z83 q16 q1j q1b q1n q1a q1o q1x)
 | _=>none
theorem y9e:ev8 Γ11 165 [.ptr [.row 1 a0 (.fl .f32 g1),.row 1 a2 (.fl .f32 g3),.row 1 a4 (.fl .f32 g5)],.one (.s (.flt .f32 a6))]=zpb (z83 a0 g1 a2 g3 a4 g5 a6):=tr2 (y3b a0 g1 a2 g3 a4 g5 a6 zpb rfl (fun c0_=>some c0_)) (by kernel_rfl)
theorem y4w:SumOne J 165 zpx:=mkT zxm zx5 fun pts v news hp=>by
 unfold zpx at hp
 split at hp
 ·exact fin3 (y9e ..) hp
 ·cases hp
def zpk  : Option (Nat)→Option (AV×List Blk)
 | some r=>some ((.v (.one (.flt .f32 r))),[])
 | none=>none
def zpv:List PT→Option (Bool×AV×List Blk)
 | [.ptr [.row 1 q16 (.fl .f32 q1j),.row 1 q1b (.fl .f32 q1n),.row 1 q1a (.fl .f32 q1o)],.one (.s (.flt .f32 q1x))]=>sF zpk (z85 q16 q1j q1b q1n q1a q1o q1x)
 | _=>none
theorem y8o:ev8 Γ11 166 [.ptr [.row 1 a0 (.fl .f32 g1),.row 1 a2 (.fl .f32 g3),.row 1 a4 (.fl .f32 g5)],.one (.s (.flt .f32 a6))]=zpk (z85 a0 g1 a2 g3 a4 g5 a6):=tr2 (y2k a0 g1 a2 g3 a4 g5 a6 zpk rfl (fun c0_=>some c0_)) (by kernel_rfl)
theorem y4h:SumOne J 166 zpv:=mkT zxm zx5 fun pts v news hp=>by
 unfold zpv at hp
 split at hp
 ·exact fin3 (y8o ..) hp
 ·cases hp
def tb12:List (Nat×(List PT→Option (Bool×AV×List Blk))):=(106,zgv)::(165,zpx)::(166,zpv)::tb11
def lt12:List ((Nat×Nat)×(Nat→St→Option (Bool×LO))):=lt11
def Γ12:Ctx:=⟨tyTab,fnTab,tblSum tb12,tblLp lt12⟩
theorem zxh:SumL J tb12:=SumL.cons zvt (SumL.cons y4w (SumL.cons y4h (zxm)))
theorem zxj:LpL J fnTab lt12:=zx5
def zh0  : Option (Nat×Nat)→Option (AV×List Blk)
 | some r=>some ((.tup [(.one (.flt .f32 r.1)),(.one (.flt .f32 r.2))]),[])
 | none=>none
def zha:List PT→Option (Bool×AV×List Blk)
 | [.agg [.row 1 q07 (.fl .f32 q0b),.row 1 q09 (.fl .f32 q0c),.row 1 q08 (.fl .f32 q0d),.row 3 q0f (.fl .f32 q0i),.s (.int .i64 q0l),.s (.flt .f32 q0o),.s (.flt .f32 q0n)],.one (.s (.int .i64 i)),.one (.s (.flt .f32 q1g)),.one (.s (.flt .f32 q0m))]=>sF zh0 (z3l q07 q0b q09 q0c q08 q0d q0f q0i q0l q0o q0n i q1g q0m)
 | _=>none
theorem y1a:ev8 Γ12 105 [.agg [.row 1 a0 (.fl .f32 g1),.row 1 a2 (.fl .f32 g3),.row 1 a4 (.fl .f32 g5),.row 3 a6 (.fl .f32 g7),.s (.int .i64 c8),.s (.flt .f32 a9),.s (.flt .f32 a10)],.one (.s (.int .i64 c11)),.one (.s (.flt .f32 a12)),.one (.s (.flt .f32 a13))]=zh0 (z3l a0 g1 a2 g3 a4 g5 a6 g7 c8 a9 a10 c11 a12 a13):=tr2 (zut a0 g1 a2 g3 a4 g5 a6 g7 c8 a9 a10 c11 a12 a13 zh0 rfl (fun c0_ c1_=>some (c0_,c1_))) (by kernel_rfl)
theorem zvr:SumOne J 105 zha:=mkT zxh zxj fun pts v news hp=>by
 unfold zha at hp
 split at hp
 ·exact fin3 (y1a ..) hp
 ·cases hp
def zkz  : Option (Nat×Nat)→Option (AV×List Blk)
 | some r=>some ((.tup [(.one (.flt .f32 r.1)),(.one (.flt .f32 r.2))]),[])
 | none=>none
def zlm:List PT→Option (Bool×AV×List Blk)
 | [.ptr [.row 1 q07 (.fl .f32 q0b),.row 1 q09 (.fl .f32 q0c),.row 1 q08 (.fl .f32 q0d),.row 3 q0f (.fl .f32 q0i),.s (.int .i64 q0l),.s (.flt .f32 q0o),.s (.flt .f32 q0n)],.one (.s (.int .i64 i)),.one (.s (.flt .f32 q1g)),.one (.s (.flt .f32 q0m))]=>sF zkz (z4x q07 q0b q09 q0c q08 q0d q0f q0i q0l q0o q0n i q1g q0m)
 | _=>none
theorem y62:ev8 Γ12 150 [.ptr [.row 1 a0 (.fl .f32 g1),.row 1 a2 (.fl .f32 g3),.row 1 a4 (.fl .f32 g5),.row 3 a6 (.fl .f32 g7),.s (.int .i64 c8),.s (.flt .f32 a9),.s (.flt .f32 a10)],.one (.s (.int .i64 c11)),.one (.s (.flt .f32 a12)),.one (.s (.flt .f32 a13))]=zkz (z4x a0 g1 a2 g3 a4 g5 a6 g7 c8 a9 a10 c11 a12 a13):=tr2 (zyq a0 g1 a2 g3 a4 g5 a6 g7 c8 a9 a10 c11 a12 a13 zkz rfl (fun c0_ c1_=>some (c0_,c1_))) (by kernel_rfl)
theorem y1x:SumOne J 150 zlm:=mkT zxh zxj fun pts v news hp=>by
 unfold zlm at hp
 split at hp
 ·exact fin3 (y62 ..) hp
 ·cases hp
def z9f:St:=(.mk [(x0P 1 4 7),(x0F 4 a0),(x0V 43 3 a1 3),(x0I 44 c2),(x0I 45 c3)] [(x0L g4),(x0L g5),(x0L g6),(x0L g7),(x0R true 0 1 2 3 a8 a9 a10 a11 c12 a13 a14)])
def zey(q2y:Nat)(t44:Int)(b0 b1 b2 b3:List Nat)(q0r q0s q0q q0p:Nat)(q0y:Int)(q0z q0u:Nat):St:=(.mk [(x0B 2 false)] [(x0L b0),(x0L b1),(x0L b2),(x0L b3)])
def zeo:St:=(.mk [(x0P 1 4 7),(x0F 4 a13),(x0V 43 3 a0 3),(x0I 44 c1),(x0I 45 c14),(x0B 46 e15)] [(x0L g2),(x0L g3),(x0L g4),(x0L g5),(x0R true 0 1 2 3 a6 a7 a8 a9 c10 a11 a12)])
def zfp:Option ((Unit)⊕(Nat×Int×Bool))→Option (Ex×St)
 | none=>none
 | some (Sum.inl r)=>some (.ret,(zey a0 c1 g2 g3 g4 g5 a6 a7 a8 a9 c10 a11 a12))
 | some (Sum.inr r)=>some ((.exit 0),(zeo a0 c1 g2 g3 g4 g5 a6 a7 a8 a9 c10 a11 a12 r.1 r.2.1 r.2.2))
def zmc (x:Option ((Unit)⊕(Nat×Int×Bool))):LO:=(.two (oL x) (.one .ret (zey a0 c1 g2 g3 g4 g5 a6 a7 a8 a9 c10 a11 a12)) (.one (.exit 0) (zeo a0 c1 g2 g3 g4 g5 a6 a7 a8 a9 c10 a11 a12 ((tR x).getD default).1 ((tR x).getD default).2.1 ((tR x).getD default).2.2)))
def zvo:Bool×LO:=sL (zmc a1 c2 g4 g5 g6 g7 a8 a9 a10 a11 c12 a13 a14) (z0o a1 c2 g7 a14 big a0 c3)
def znv:Nat→St→Option (Bool×LO):=lpT 4 (pSt [(x1P 1 4 7),(x1F 4),(x1V 43 3 3),(x1I 44),(x1I 45)] [x1L,x1L,x1L,x1L,(x1R true 0 1 2 3)]) (fun hs=>zvo (hN hs 0) (hN hs 1) (hI hs 2) (hI hs 3) (hLn hs 4) (hLn hs 5) (hLn hs 6) (hLn hs 7) (hN hs 8) (hN hs 9) (hN hs 10) (hN hs 11) (hI hs 12) (hN hs 13) (hN hs 14))
theorem zyy:∀ x:Option ((Unit)⊕(Nat×Int×Bool)),x.isSome=true→(zfp a0 c1 g2 g3 g4 g5 a6 a7 a8 a9 c10 a11 a12) x=some (pick (zmc a0 c1 g2 g3 g4 g5 a6 a7 a8 a9 c10 a11 a12 x))
 | none,h=>by cases h
 | some (Sum.inl r),_=>rfl
 | some (Sum.inr r),_=>rfl
theorem zzy (K:Ex→St→Option (Ex×St)):ev9 Γ12 51 6 4 fi51 (z9f a0 a1 c2 c3 g4 g5 g6 g7 a8 a9 a10 a11 c12 a13 a14) K=z2e a1 c2 g7 a14 a0 c3 (fun t4' t45'=>K .normal (z9f t4' a1 c2 t45' g4 g5 g6 g7 a8 a9 a10 a11 c12 a13 a14)) (fun _=>K .ret (zey a1 c2 g4 g5 g6 g7 a8 a9 a10 a11 c12 a13 a14)) (fun c0_ c1_ c2_=>K (.exit 0) (zeo a1 c2 g4 g5 g6 g7 a8 a9 a10 a11 c12 a13 a14 c0_ c1_ c2_)):=by kernel_rfl
theorem y01:∀ (n t4:Nat) (t45:Int),iter 51 6 4 (ev9 Γ12 51 6 4 fi51) n (z9f t4 a0 c1 t45 g2 g3 g4 g5 a6 a7 a8 a9 c10 a11 a12) (fun e st=>some (e,st))=(zfp a0 c1 g2 g3 g4 g5 a6 a7 a8 a9 c10 a11 a12) (z0o a0 c1 g5 a12 n t4 t45):=by
 intro n
 induction n with
 | zero=>intros;rfl
 | succ n ih=>
  intro t4 t45
  refine Eq.trans (iter_succ ..) (Eq.trans (zzy ..) (Eq.trans ?_ (ztu a0 c1 g5 a12 t4 t45 (zfp a0 c1 g2 g3 g4 g5 a6 a7 a8 a9 c10 a11 a12) rfl (fun t4' t45'=>z0o a0 c1 g5 a12 n t4' t45') (fun _=>some (Sum.inl ())) (fun c0_ c1_ c2_=>some (Sum.inr (c0_,c1_,c2_))))))
  exact congrArg (fun kn_=>z2e a0 c1 g5 a12 t4 t45 kn_ _ _) (funext fun t4'=>funext fun t45'=>ih ..)
theorem zuo:LoopOne J fnTab 51 6 znv:=lpK zxh zxj (fi:=fi51) (by kernel_rfl) (by kernel_rfl) (q:=fun hs=>(z9f (hN hs 0) (hN hs 1) (hI hs 2) (hI hs 3) (hLn hs 4) (hLn hs 5) (hLn hs 6) (hLn hs 7) (hN hs 8) (hN hs 9) (hN hs 10) (hN hs 11) (hI hs 12) (hN hs 13) (hN hs 14))) (fun hs=>by kernel_rfl) fun hs h1=>Eq.trans (y01 (hN hs 1) (hI hs 2) (hLn hs 4) (hLn hs 5) (hLn hs 6) (hLn hs 7) (hN hs 8) (hN hs 9) (hN hs 10) (hN hs 11) (hI hs 12) (hN hs 13) (hN hs 14) big (hN hs 0) (hI hs 3)) (zyy (hN hs 1) (hI hs 2) (hLn hs 4) (hLn hs 5) (hLn hs 6) (hLn hs 7) (hN hs 8) (hN hs 9) (hN hs 10) (hN hs 11) (hI hs 12) (hN hs 13) (hN hs 14) _ h1)
def tb13:List (Nat×(List PT→Option (Bool×AV×List Blk))):=(105,zha)::(150,zlm)::tb12
def lt13:List ((Nat×Nat)×(Nat→St→Option (Bool×LO))):=((51,6),znv)::lt12
def Γ13:Ctx:=⟨tyTab,fnTab,tblSum tb13,tblLp lt13⟩
theorem zxr:SumL J tb13:=SumL.cons zvr (SumL.cons y1x (zxh))
theorem zxn:LpL J fnTab lt13:=LpL.cons zuo (zxj)
def zk6  : Option (Bool)→Option (AV×List Blk)
 | some r=>some ((.v (.one (.bool r))),[])
 | none=>none
def zjy:List PT→Option (Bool×AV×List Blk)
 | [.agg [.row 1 q00 (.fl .f32 q03),.row 1 q01 (.fl .f32 q05),.row 1 q02 (.fl .f32 q04),.row 3 q06 (.fl .f32 q0a),.s (.int .i64 q0e),.s (.flt .f32 q0g),.s (.flt .f32 q0h)]]=>sF zk6 (z5p q00 q03 q01 q05 q02 q04 q06 q0a q0e q0g q0h)
 | _=>none
theorem y4v:ev8 Γ13 51 [.agg [.row 1 a0 (.fl .f32 g1),.row 1 a2 (.fl .f32 g3),.row 1 a4 (.fl .f32 g5),.row 3 a6 (.fl .f32 g7),.s (.int .i64 c8),.s (.flt .f32 a9),.s (.flt .f32 a10)]]=zk6 (z5p a0 g1 a2 g3 a4 g5 a6 g7 c8 a9 a10):=tr2 (zwz a0 g1 a2 g3 a4 g5 a6 g7 c8 a9 a10 zk6 rfl (fun c0_=>some c0_)) (by kernel_rfl)
theorem zyz:SumOne J 51 zjy:=mkT zxr zxn fun pts v news hp=>by
 unfold zjy at hp
 split at hp
 ·exact fin3 (y4v ..) hp
 ·cases hp
def zpd  : Option (Nat×Nat×Nat×Nat)→Option (AV×List Blk)
 | some r=>some ((.tup [(.one (.flt .f32 r.1)),(.one (.flt .f32 r.2.1)),(.one (.flt .f32 r.2.2.1)),(.one (.flt .f32 r.2.2.2))]),[])
 | none=>none
def zpo:List PT→Option (Bool×AV×List Blk)
 | [.ptr [.row 1 q07 (.fl .f32 q0b),.row 1 q09 (.fl .f32 q0c),.row 1 q08 (.fl .f32 q0d),.row 3 q0f (.fl .f32 q0i),.s (.int .i64 q0l),.s (.flt .f32 q0o),.s (.flt .f32 q0n)],.one (.s (.int .i64 i)),.one (.s (.flt .f32 q1g)),.one (.s (.flt .f32 q0m))]=>sF zpd (z4f q07 q0b q09 q0c q08 q0d q0f q0i q0l q0o q0n i q1g q0m)
 | _=>none
theorem y9k:ev8 Γ13 130 [.ptr [.row 1 a0 (.fl .f32 g1),.row 1 a2 (.fl .f32 g3),.row 1 a4 (.fl .f32 g5),.row 3 a6 (.fl .f32 g7),.s (.int .i64 c8),.s (.flt .f32 a9),.s (.flt .f32 a10)],.one (.s (.int .i64 c11)),.one (.s (.flt .f32 a12)),.one (.s (.flt .f32 a13))]=zpd (z4f a0 g1 a2 g3 a4 g5 a6 g7 c8 a9 a10 c11 a12 a13):=tr2 (y2g a0 g1 a2 g3 a4 g5 a6 g7 c8 a9 a10 c11 a12 a13 zpd rfl (fun c0_ c1_ c2_ c3_=>some (c0_,c1_,c2_,c3_))) (by kernel_rfl)
theorem y51:SumOne J 130 zpo:=mkT zxr zxn fun pts v news hp=>by
 unfold zpo at hp
 split at hp
 ·exact fin3 (y9k ..) hp
 ·cases hp
def zgh  : Option (Nat)→Option (AV×List Blk)
 | some r=>some ((.v (.one (.flt .f32 r))),[])
 | none=>none
def zfz:List PT→Option (Bool×AV×List Blk)
 | [.agg [.row 1 q07 (.fl .f32 q0b),.row 1 q09 (.fl .f32 q0c),.row 1 q08 (.fl .f32 q0d),.row 3 q0f (.fl .f32 q0i),.s (.int .i64 q0l),.s (.flt .f32 q0o),.s (.flt .f32 q0n)],.one (.s (.int .i64 i)),.one (.s (.flt .f32 q1g)),.one (.s (.flt .f32 q19)),.one (.s (.flt .f32 q0x)),.one (.s (.flt .f32 q0m))]=>sF zgh (z30 q07 q0b q09 q0c q08 q0d q0f q0i q0l q0o q0n i q1g q19 q0x q0m)
 | _=>none
theorem y05:ev8 Γ13 157 [.agg [.row 1 a0 (.fl .f32 g1),.row 1 a2 (.fl .f32 g3),.row 1 a4 (.fl .f32 g5),.row 3 a6 (.fl .f32 g7),.s (.int .i64 c8),.s (.flt .f32 a9),.s (.flt .f32 a10)],.one (.s (.int .i64 c11)),.one (.s (.flt .f32 a12)),.one (.s (.flt .f32 a13)),.one (.s (.flt .f32 a14)),.one (.s (.flt .f32 a15))]=zgh (z30 a0 g1 a2 g3 a4 g5 a6 g7 c8 a9 a10 c11 a12 a13 a14 a15):=tr2 (zty a0 g1 a2 g3 a4 g5 a6 g7 c8 a9 a10 c11 a12 a13 a14 a15 zgh rfl (fun c0_=>some c0_)) (by kernel_rfl)
theorem zuq:SumOne J 157 zfz:=mkT zxr zxn fun pts v news hp=>by
 unfold zfz at hp
 split at hp
 ·exact fin3 (y05 ..) hp
 ·cases hp
def tb14:List (Nat×(List PT→Option (Bool×AV×List Blk))):=(51,zjy)::(130,zpo)::(157,zfz)::tb13
def lt14:List ((Nat×Nat)×(Nat→St→Option (Bool×LO))):=lt13
def Γ14:Ctx:=⟨tyTab,fnTab,tblSum tb14,tblLp lt14⟩
theorem y3u:SumL J tb14:=SumL.cons zyz (SumL.cons y51 (SumL.cons zuq (zxr)))
theorem y3v:LpL J fnTab lt14:=zxn
def zpm  : Option (Bool)→Option (AV×List Blk)
 | some r=>some ((.v (.one (.bool r))),[])
 | none=>none
def zpr:List PT→Option (Bool×AV×List Blk)
 | [.agg [.row 1 q07 (.fl .f32 q0b),.row 1 q09 (.fl .f32 q0c),.row 1 q08 (.fl .f32 q0d),.row 3 q0f (.fl .f32 q0i),.s (.int .i64 q0l),.s (.flt .f32 q0o),.s (.flt .f32 q0n)],.one (.s (.int .i64 i)),.one (.s (.flt .f32 q19)),.one (.s (.flt .f32 q0x)),.one (.s (.flt .f32 q0m))]=>sF zpm (z86 q07 q0b q09 q0c q08 q0d q0f q0i q0l q0o q0n i q19 q0x q0m)
 | _=>none
theorem y85:ev8 Γ14 139 [.agg [.row 1 a0 (.fl .f32 g1),.row 1 a2 (.fl .f32 g3),.row 1 a4 (.fl .f32 g5),.row 3 a6 (.fl .f32 g7),.s (.int .i64 c8),.s (.flt .f32 a9),.s (.flt .f32 a10)],.one (.s (.int .i64 c11)),.one (.s (.flt .f32 a12)),.one (.s (.flt .f32 a13)),.one (.s (.flt .f32 a14))]=zpm (z86 a0 g1 a2 g3 a4 g5 a6 g7 c8 a9 a10 c11 a12 a13 a14):=tr2 (y2r a0 g1 a2 g3 a4 g5 a6 g7 c8 a9 a10 c11 a12 a13 a14 zpm rfl (fun c0_=>some c0_)) (by kernel_rfl)
theorem y4u:SumOne J 139 zpr:=mkT y3u y3v fun pts v news hp=>by
 unfold zpr at hp
 split at hp
 ·exact fin3 (y85 ..) hp
 ·cases hp
def zjo  : Option (Nat)→Option (AV×List Blk)
 | some r=>some ((.v (.one (.flt .f32 r))),[])
 | none=>none
def zjq:List PT→Option (Bool×AV×List Blk)
 | [.ptr [.row 1 q07 (.fl .f32 q0b),.row 1 q09 (.fl .f32 q0c),.row 1 q08 (.fl .f32 q0d),.row 3 q0f (.fl .f32 q0i),.s (.int .i64 q0l),.s (.flt .f32 q0o),.s (.flt .f32 q0n)],.one (.s (.int .i64 i)),.one (.s (.flt .f32 q1g)),.one (.s (.flt .f32 q19)),.one (.s (.flt .f32 q0x)),.one (.s (.flt .f32 q0m))]=>sF zjo (z3n q07 q0b q09 q0c q08 q0d q0f q0i q0l q0o q0n i q1g q19 q0x q0m)
 | _=>none
theorem y4g:ev8 Γ14 149 [.ptr [.row 1 a0 (.fl .f32 g1),.row 1 a2 (.fl .f32 g3),.row 1 a4 (.fl .f32 g5),.row 3 a6 (.fl .f32 g7),.s (.int .i64 c8),.s (.flt .f32 a9),.s (.flt .f32 a10)],.one (.s (.int .i64 c11)),.one (.s (.flt .f32 a12)),.one (.s (.flt .f32 a13)),.one (.s (.flt .f32 a14)),.one (.s (.flt .f32 a15))]=zjo (z3n a0 g1 a2 g3 a4 g5 a6 g7 c8 a9 a10 c11 a12 a13 a14 a15):=tr2 (zxs a0 g1 a2 g3 a4 g5 a6 g7 c8 a9 a10 c11 a12 a13 a14 a15 zjo rfl (fun c0_=>some c0_)) (by kernel_rfl)
theorem zzj:SumOne J 149 zjq:=mkT y3u y3v fun pts v news hp=>by
 unfold zjq at hp
 split at hp
 ·exact fin3 (y4g ..) hp
 ·cases hp
def tb15:List (Nat×(List PT→Option (Bool×AV×List Blk))):=(139,zpr)::(149,zjq)::tb14
def lt15:List ((Nat×Nat)×(Nat→St→Option (Bool×LO))):=lt14
def Γ15:Ctx:=⟨tyTab,fnTab,tblSum tb15,tblLp lt15⟩
theorem y95:SumL J tb15:=SumL.cons y4u (SumL.cons zzj (y3u))
theorem y8d:LpL J fnTab lt15:=y3v
def zlo  : Option (Nat×Bool)→Option (AV×List Blk)
 | some r=>some ((.tup [(.one (.flt .f32 r.1)),(.one (.bool r.2))]),[])
 | none=>none
def zlw:List PT→Option (Bool×AV×List Blk)
 | [.agg [.row 1 q07 (.fl .f32 q0b),.row 1 q09 (.fl .f32 q0c),.row 1 q08 (.fl .f32 q0d),.row 3 q0f (.fl .f32 q0i),.s (.int .i64 q0l),.s (.flt .f32 q0o),.s (.flt .f32 q0n)],.one (.s (.int .i64 i)),.one (.s (.flt .f32 q1g)),.one (.s (.flt .f32 q19)),.one (.s (.flt .f32 q0x)),.one (.s (.flt .f32 q0m))]=>sF zlo (z4u q07 q0b q09 q0c q08 q0d q0f q0i q0l q0o q0n i q1g q19 q0x q0m)
 | _=>none
theorem y5x:ev8 Γ15 140 [.agg [.row 1 a0 (.fl .f32 g1),.row 1 a2 (.fl .f32 g3),.row 1 a4 (.fl .f32 g5),.row 3 a6 (.fl .f32 g7),.s (.int .i64 c8),.s (.flt .f32 a9),.s (.flt .f32 a10)],.one (.s (.int .i64 c11)),.one (.s (.flt .f32 a12)),.one (.s (.flt .f32 a13)),.one (.s (.flt .f32 a14)),.one (.s (.flt .f32 a15))]=zlo (z4u a0 g1 a2 g3 a4 g5 a6 g7 c8 a9 a10 c11 a12 a13 a14 a15):=tr2 (y03 a0 g1 a2 g3 a4 g5 a6 g7 c8 a9 a10 c11 a12 a13 a14 a15 zlo rfl (fun c0_ c1_=>some (c0_,c1_))) (by kernel_rfl)
theorem y1v:SumOne J 140 zlw:=mkT y95 y8d fun pts v news hp=>by
 unfold zlw at hp
 split at hp
 ·exact fin3 (y5x ..) hp
 ·cases hp
def tb16:List (Nat×(List PT→Option (Bool×AV×List Blk))):=(140,zlw)::tb15
def lt16:List ((Nat×Nat)×(Nat→St→Option (Bool×LO))):=lt15
def Γ16:Ctx:=⟨tyTab,fnTab,tblSum tb16,tblLp lt16⟩
theorem y8q:SumL J tb16:=SumL.cons y1v (y95)
theorem y8s:LpL J fnTab lt16:=y8d
def zat:St:=(.mk [(x0P 0 4 7),(x0I 1 c0),(x0F 2 a1),(x0F 3 a2),(x0F 4 a3),(x0F 12 a4),(x0F 13 a5),(x0I 14 c6)] [(x0L g7),(x0L g8),(x0L g9),(x0L g10),(x0R false 0 1 2 3 a11 a12 a13 a14 c15 a16 a17)])
def zfy(i:Int)(q19 q0x q0m:Nat)(b0 b1 b2 b3:List Nat)(q0r q0s q0q q0p:Nat)(q0y:Int)(q0z q0u:Nat):St:=(.mk [(x0F 10 0),(x0B 11 false)] [(x0L b0),(x0L b1),(x0L b2),(x0L b3),(x0R false 0 1 2 3 q0r q0s q0q q0p q0y q0z q0u)])
def zg7:St:=(.mk [(x0P 0 4 7),(x0I 1 c0),(x0F 2 a1),(x0F 3 a2),(x0F 4 a3),(x0F 12 a15),(x0F 13 a16),(x0I 14 c17),(x0B 18 e18)] [(x0L g4),(x0L g5),(x0L g6),(x0L g7),(x0R false 0 1 2 3 a8 a9 a10 a11 c12 a13 a14)])
def zh9:Option ((Unit)⊕(Nat×Nat×Int×Bool))→Option (Ex×St)
 | none=>none
 | some (Sum.inl r)=>some (.ret,(zfy c0 a1 a2 a3 g4 g5 g6 g7 a8 a9 a10 a11 c12 a13 a14))
 | some (Sum.inr r)=>some ((.exit 0),(zg7 c0 a1 a2 a3 g4 g5 g6 g7 a8 a9 a10 a11 c12 a13 a14 r.1 r.2.1 r.2.2.1 r.2.2.2))
def zns (x:Option ((Unit)⊕(Nat×Nat×Int×Bool))):LO:=(.two (oL x) (.one .ret (zfy c0 a1 a2 a3 g4 g5 g6 g7 a8 a9 a10 a11 c12 a13 a14)) (.one (.exit 0) (zg7 c0 a1 a2 a3 g4 g5 g6 g7 a8 a9 a10 a11 c12 a13 a14 ((tR x).getD default).1 ((tR x).getD default).2.1 ((tR x).getD default).2.2.1 ((tR x).getD default).2.2.2)))
def zyd:Bool×LO:=sL (zns c0 a1 a2 a3 g7 g8 g9 g10 a11 a12 a13 a14 c15 a16 a17) (z0t c0 a1 a2 a3 g7 g8 g9 g10 a11 a12 a13 a14 c15 a16 a17 big a4 a5 c6)
def zou:Nat→St→Option (Bool×LO):=lpT 5 (pSt [(x1P 0 4 7),(x1I 1),(x1F 2),(x1F 3),(x1F 4),(x1F 12),(x1F 13),(x1I 14)] [x1L,x1L,x1L,x1L,(x1R false 0 1 2 3)]) (fun hs=>zyd (hI hs 0) (hN hs 1) (hN hs 2) (hN hs 3) (hN hs 4) (hN hs 5) (hI hs 6) (hLn hs 7) (hLn hs 8) (hLn hs 9) (hLn hs 10) (hN hs 11) (hN hs 12) (hN hs 13) (hN hs 14) (hI hs 15) (hN hs 16) (hN hs 17))
theorem y1k:∀ x:Option ((Unit)⊕(Nat×Nat×Int×Bool)),x.isSome=true→(zh9 c0 a1 a2 a3 g4 g5 g6 g7 a8 a9 a10 a11 c12 a13 a14) x=some (pick (zns c0 a1 a2 a3 g4 g5 g6 g7 a8 a9 a10 a11 c12 a13 a14 x))
 | none,h=>by cases h
 | some (Sum.inl r),_=>rfl
 | some (Sum.inr r),_=>rfl
theorem y21 (K:Ex→St→Option (Ex×St)):ev9 Γ16 129 4 5 fi129 (zat c0 a1 a2 a3 a4 a5 c6 g7 g8 g9 g10 a11 a12 a13 a14 c15 a16 a17) K=z2o c0 a1 a2 a3 g7 g8 g9 g10 a11 a12 a13 a14 c15 a16 a17 a4 a5 c6 (fun low' q1p' k'=>K .normal (zat c0 a1 a2 a3 low' q1p' k' g7 g8 g9 g10 a11 a12 a13 a14 c15 a16 a17)) (fun _=>K .ret (zfy c0 a1 a2 a3 g7 g8 g9 g10 a11 a12 a13 a14 c15 a16 a17)) (fun c0_ c1_ c2_ c3_=>K (.exit 0) (zg7 c0 a1 a2 a3 g7 g8 g9 g10 a11 a12 a13 a14 c15 a16 a17 c0_ c1_ c2_ c3_)):=by kernel_rfl
theorem y1r:∀ (n low q1p:Nat) (k:Int),iter 129 4 5 (ev9 Γ16 129 4 5 fi129) n (zat c0 a1 a2 a3 low q1p k g4 g5 g6 g7 a8 a9 a10 a11 c12 a13 a14) (fun e st=>some (e,st))=(zh9 c0 a1 a2 a3 g4 g5 g6 g7 a8 a9 a10 a11 c12 a13 a14) (z0t c0 a1 a2 a3 g4 g5 g6 g7 a8 a9 a10 a11 c12 a13 a14 n low q1p k):=by
 intro n
 induction n with
 | zero=>intros;rfl
 | succ n ih=>
  intro low q1p k
  refine Eq.trans (iter_succ ..) (Eq.trans (y21 ..) (Eq.trans ?_ (zun c0 a1 a2 a3 g4 g5 g6 g7 a8 a9 a10 a11 c12 a13 a14 low q1p k (zh9 c0 a1 a2 a3 g4 g5 g6 g7 a8 a9 a10 a11 c12 a13 a14) rfl (fun low' q1p' k'=>z0t c0 a1 a2 a3 g4 g5 g6 g7 a8 a9 a10 a11 c12 a13 a14 n low' q1p' k') (fun _=>some (Sum.inl ())) (fun c0_ c1_ c2_ c3_=>some (Sum.inr (c0_,c1_,c2_,c3_))))))
  exact congrArg (fun kn_=>z2o c0 a1 a2 a3 g4 g5 g6 g7 a8 a9 a10 a11 c12 a13 a14 low q1p k kn_ _ _) (funext fun low'=>funext fun q1p'=>funext fun k'=>ih ..)
theorem zvy:LoopOne J fnTab 129 4 zou:=lpK y8q y8s (fi:=fi129) (by kernel_rfl) (by kernel_rfl) (q:=fun hs=>(zat (hI hs 0) (hN hs 1) (hN hs 2) (hN hs 3) (hN hs 4) (hN hs 5) (hI hs 6) (hLn hs 7) (hLn hs 8) (hLn hs 9) (hLn hs 10) (hN hs 11) (hN hs 12) (hN hs 13) (hN hs 14) (hI hs 15) (hN hs 16) (hN hs 17))) (fun hs=>by kernel_rfl) fun hs h1=>Eq.trans (y1r (hI hs 0) (hN hs 1) (hN hs 2) (hN hs 3) (hLn hs 7) (hLn hs 8) (hLn hs 9) (hLn hs 10) (hN hs 11) (hN hs 12) (hN hs 13) (hN hs 14) (hI hs 15) (hN hs 16) (hN hs 17) big (hN hs 4) (hN hs 5) (hI hs 6)) (y1k (hI hs 0) (hN hs 1) (hN hs 2) (hN hs 3) (hLn hs 7) (hLn hs 8) (hLn hs 9) (hLn hs 10) (hN hs 11) (hN hs 12) (hN hs 13) (hN hs 14) (hI hs 15) (hN hs 16) (hN hs 17) _ h1)
def tb17:List (Nat×(List PT→Option (Bool×AV×List Blk))):=tb16
def lt17:List ((Nat×Nat)×(Nat→St→Option (Bool×LO))):=((129,4),zou)::lt16
def Γ17:Ctx:=⟨tyTab,fnTab,tblSum tb17,tblLp lt17⟩
theorem y3t:SumL J tb17:=y8q
theorem y3p:LpL J fnTab lt17:=LpL.cons zvy (y8s)
def zl6  : Option (Nat×Bool)→Option (AV×List Blk)
 | some r=>some ((.tup [(.one (.flt .f32 r.1)),(.one (.bool r.2))]),[])
 | none=>none
def zm3:List PT→Option (Bool×AV×List Blk)
 | [.ptr [.row 1 q07 (.fl .f32 q0b),.row 1 q09 (.fl .f32 q0c),.row 1 q08 (.fl .f32 q0d),.row 3 q0f (.fl .f32 q0i),.s (.int .i64 q0l),.s (.flt .f32 q0o),.s (.flt .f32 q0n)],.one (.s (.int .i64 i)),.one (.s (.flt .f32 q19)),.one (.s (.flt .f32 q0x)),.one (.s (.flt .f32 q0m))]=>sF zl6 (z4z q07 q0b q09 q0c q08 q0d q0f q0i q0l q0o q0n i q19 q0x q0m)
 | _=>none
theorem y5q:ev8 Γ17 129 [.ptr [.row 1 a0 (.fl .f32 g1),.row 1 a2 (.fl .f32 g3),.row 1 a4 (.fl .f32 g5),.row 3 a6 (.fl .f32 g7),.s (.int .i64 c8),.s (.flt .f32 a9),.s (.flt .f32 a10)],.one (.s (.int .i64 c11)),.one (.s (.flt .f32 a12)),.one (.s (.flt .f32 a13)),.one (.s (.flt .f32 a14))]=zl6 (z4z a0 g1 a2 g3 a4 g5 a6 g7 c8 a9 a10 c11 a12 a13 a14):=tr2 (y00 a0 g1 a2 g3 a4 g5 a6 g7 c8 a9 a10 c11 a12 a13 a14 zl6 rfl (fun c0_ c1_=>some (c0_,c1_))) (by kernel_rfl)
theorem y0w:SumOne J 129 zm3:=mkT y3t y3p fun pts v news hp=>by
 unfold zm3 at hp
 split at hp
 ·exact fin3 (y5q ..) hp
 ·cases hp
def zgb:St:=(.mk [(x0I 1 c0),(x0F 2 a1),(x0F 3 a2),(x0F 4 a3),(x0P 5 4 7),(x0F 12 a4),(x0F 13 a5),(x0I 24 c6)] [(x0L g7),(x0L g8),(x0L g9),(x0L g10),(x0R true 0 1 2 3 a11 a12 a13 a14 c15 a16 a17)])
def zjp(i:Int)(q19 q0x q0m:Nat)(b0 b1 b2 b3:List Nat)(q0r q0s q0q q0p:Nat)(q0y:Int)(q0z q0u:Nat):St:=(.mk [(x0F 10 0),(x0B 11 false)] [(x0L b0),(x0L b1),(x0L b2),(x0L b3)])
def zjk:St:=(.mk [(x0I 1 c0),(x0F 2 a1),(x0F 3 a2),(x0F 4 a3),(x0P 5 4 7),(x0F 12 a15),(x0F 13 a16),(x0I 24 c17),(x0B 25 e18)] [(x0L g4),(x0L g5),(x0L g6),(x0L g7),(x0R true 0 1 2 3 a8 a9 a10 a11 c12 a13 a14)])
def zm2:Option ((Unit)⊕(Nat×Nat×Int×Bool))→Option (Ex×St)
 | none=>none
 | some (Sum.inl r)=>some (.ret,(zjp c0 a1 a2 a3 g4 g5 g6 g7 a8 a9 a10 a11 c12 a13 a14))
 | some (Sum.inr r)=>some ((.exit 0),(zjk c0 a1 a2 a3 g4 g5 g6 g7 a8 a9 a10 a11 c12 a13 a14 r.1 r.2.1 r.2.2.1 r.2.2.2))
def zrm (x:Option ((Unit)⊕(Nat×Nat×Int×Bool))):LO:=(.two (oL x) (.one .ret (zjp c0 a1 a2 a3 g4 g5 g6 g7 a8 a9 a10 a11 c12 a13 a14)) (.one (.exit 0) (zjk c0 a1 a2 a3 g4 g5 g6 g7 a8 a9 a10 a11 c12 a13 a14 ((tR x).getD default).1 ((tR x).getD default).2.1 ((tR x).getD default).2.2.1 ((tR x).getD default).2.2.2)))
def y2i:Bool×LO:=sL (zrm c0 a1 a2 a3 g7 g8 g9 g10 a11 a12 a13 a14 c15 a16 a17) (z12 c0 a1 a2 a3 g7 g8 g9 g10 a11 a12 a13 a14 c15 a16 a17 big a4 a5 c6)
def zud:Nat→St→Option (Bool×LO):=lpT 4 (pSt [(x1I 1),(x1F 2),(x1F 3),(x1F 4),(x1P 5 4 7),(x1F 12),(x1F 13),(x1I 24)] [x1L,x1L,x1L,x1L,(x1R true 0 1 2 3)]) (fun hs=>y2i (hI hs 0) (hN hs 1) (hN hs 2) (hN hs 3) (hN hs 4) (hN hs 5) (hI hs 6) (hLn hs 7) (hLn hs 8) (hLn hs 9) (hLn hs 10) (hN hs 11) (hN hs 12) (hN hs 13) (hN hs 14) (hI hs 15) (hN hs 16) (hN hs 17))
theorem y6w:∀ x:Option ((Unit)⊕(Nat×Nat×Int×Bool)),x.isSome=true→(zm2 c0 a1 a2 a3 g4 g5 g6 g7 a8 a9 a10 a11 c12 a13 a14) x=some (pick (zrm c0 a1 a2 a3 g4 g5 g6 g7 a8 a9 a10 a11 c12 a13 a14 x))
 | none,h=>by cases h
 | some (Sum.inl r),_=>rfl
 | some (Sum.inr r),_=>rfl
theorem y6d (K:Ex→St→Option (Ex×St)):ev9 Γ17 104 5 4 fi104 (zgb c0 a1 a2 a3 a4 a5 c6 g7 g8 g9 g10 a11 a12 a13 a14 c15 a16 a17) K=z47 c0 a1 a2 a3 g7 g8 g9 g10 a11 a12 a13 a14 c15 a16 a17 a4 a5 c6 (fun low' q1p' t24'=>K .normal (zgb c0 a1 a2 a3 low' q1p' t24' g7 g8 g9 g10 a11 a12 a13 a14 c15 a16 a17)) (fun _=>K .ret (zjp c0 a1 a2 a3 g7 g8 g9 g10 a11 a12 a13 a14 c15 a16 a17)) (fun c0_ c1_ c2_ c3_=>K (.exit 0) (zjk c0 a1 a2 a3 g7 g8 g9 g10 a11 a12 a13 a14 c15 a16 a17 c0_ c1_ c2_ c3_)):=by kernel_rfl
theorem y6x:∀ (n low q1p:Nat) (t24:Int),iter 104 5 4 (ev9 Γ17 104 5 4 fi104) n (zgb c0 a1 a2 a3 low q1p t24 g4 g5 g6 g7 a8 a9 a10 a11 c12 a13 a14) (fun e st=>some (e,st))=(zm2 c0 a1 a2 a3 g4 g5 g6 g7 a8 a9 a10 a11 c12 a13 a14) (z12 c0 a1 a2 a3 g4 g5 g6 g7 a8 a9 a10 a11 c12 a13 a14 n low q1p t24):=by
 intro n
 induction n with
 | zero=>intros;rfl
 | succ n ih=>
  intro low q1p t24
  refine Eq.trans (iter_succ ..) (Eq.trans (y6d ..) (Eq.trans ?_ (zzx c0 a1 a2 a3 g4 g5 g6 g7 a8 a9 a10 a11 c12 a13 a14 low q1p t24 (zm2 c0 a1 a2 a3 g4 g5 g6 g7 a8 a9 a10 a11 c12 a13 a14) rfl (fun low' q1p' t24'=>z12 c0 a1 a2 a3 g4 g5 g6 g7 a8 a9 a10 a11 c12 a13 a14 n low' q1p' t24') (fun _=>some (Sum.inl ())) (fun c0_ c1_ c2_ c3_=>some (Sum.inr (c0_,c1_,c2_,c3_))))))
  exact congrArg (fun kn_=>z47 c0 a1 a2 a3 g4 g5 g6 g7 a8 a9 a10 a11 c12 a13 a14 low q1p t24 kn_ _ _) (funext fun low'=>funext fun q1p'=>funext fun t24'=>ih ..)
theorem y1d:LoopOne J fnTab 104 5 zud:=lpK y3t y3p (fi:=fi104) (by kernel_rfl) (by kernel_rfl) (q:=fun hs=>(zgb (hI hs 0) (hN hs 1) (hN hs 2) (hN hs 3) (hN hs 4) (hN hs 5) (hI hs 6) (hLn hs 7) (hLn hs 8) (hLn hs 9) (hLn hs 10) (hN hs 11) (hN hs 12) (hN hs 13) (hN hs 14) (hI hs 15) (hN hs 16) (hN hs 17))) (fun hs=>by kernel_rfl) fun hs h1=>Eq.trans (y6x (hI hs 0) (hN hs 1) (hN hs 2) (hN hs 3) (hLn hs 7) (hLn hs 8) (hLn hs 9) (hLn hs 10) (hN hs 11) (hN hs 12) (hN hs 13) (hN hs 14) (hI hs 15) (hN hs 16) (hN hs 17) big (hN hs 4) (hN hs 5) (hI hs 6)) (y6w (hI hs 0) (hN hs 1) (hN hs 2) (hN hs 3) (hLn hs 7) (hLn hs 8) (hLn hs 9) (hLn hs 10) (hN hs 11) (hN hs 12) (hN hs 13) (hN hs 14) (hI hs 15) (hN hs 16) (hN hs 17) _ h1)
def tb18:List (Nat×(List PT→Option (Bool×AV×List Blk))):=(129,zm3)::tb17
def lt18:List ((Nat×Nat)×(Nat→St→Option (Bool×LO))):=((104,5),zud)::lt17
def Γ18:Ctx:=⟨tyTab,fnTab,tblSum tb18,tblLp lt18⟩
theorem y3s:SumL J tb18:=SumL.cons y0w (y3t)
theorem y3q:LpL J fnTab lt18:=LpL.cons y1d (y3p)
def zkw  : Option (Nat×Nat×Bool)→Option (AV×List Blk)
 | some r=>some ((.tup [(.one (.flt .f32 r.1)),(.one (.flt .f32 r.2.1)),(.one (.bool r.2.2))]),[])
 | none=>none
def zlx:List PT→Option (Bool×AV×List Blk)
 | [.ptr [.row 1 q00 (.fl .f32 q03),.row 1 q01 (.fl .f32 q05),.row 1 q02 (.fl .f32 q04),.row 3 q06 (.fl .f32 q0a),.s (.int .i64 q0e),.s (.flt .f32 q0g),.s (.flt .f32 q0h)],.one (.s (.int .i64 x1)),.one (.s (.flt .f32 x2)),.one (.s (.flt .f32 x3)),.one (.s (.flt .f32 x4)),.one (.s (.flt .f32 x5))]=>sF zkw (z24 q00 q03 q01 q05 q02 q04 q06 q0a q0e q0g q0h x1 x2 x3 x4 x5)
 | _=>none
theorem y70:ev8 Γ18 88 [.ptr [.row 1 a0 (.fl .f32 g1),.row 1 a2 (.fl .f32 g3),.row 1 a4 (.fl .f32 g5),.row 3 a6 (.fl .f32 g7),.s (.int .i64 c8),.s (.flt .f32 a9),.s (.flt .f32 a10)],.one (.s (.int .i64 c11)),.one (.s (.flt .f32 a12)),.one (.s (.flt .f32 a13)),.one (.s (.flt .f32 a14)),.one (.s (.flt .f32 a15))]=zkw (z24 a0 g1 a2 g3 a4 g5 a6 g7 c8 a9 a10 c11 a12 a13 a14 a15):=tr2 (zzd a0 g1 a2 g3 a4 g5 a6 g7 c8 a9 a10 c11 a12 a13 a14 a15 zkw rfl (fun c0_ c1_ c2_=>some (c0_,c1_,c2_))) (by kernel_rfl)
theorem y10:SumOne J 88 zlx:=mkT y3s y3q fun pts v news hp=>by
 unfold zlx at hp
 split at hp
 ·exact fin3 (y70 ..) hp
 ·cases hp
def zqt  : Option (Nat×Bool)→Option (AV×List Blk)
 | some r=>some ((.tup [(.one (.flt .f32 r.1)),(.one (.bool r.2))]),[])
 | none=>none
def zqr:List PT→Option (Bool×AV×List Blk)
 | [.agg [.row 1 q07 (.fl .f32 q0b),.row 1 q09 (.fl .f32 q0c),.row 1 q08 (.fl .f32 q0d),.row 3 q0f (.fl .f32 q0i),.s (.int .i64 q0l),.s (.flt .f32 q0o),.s (.flt .f32 q0n)],.one (.s (.int .i64 i)),.one (.s (.flt .f32 q19)),.one (.s (.flt .f32 q0x)),.one (.s (.flt .f32 q0m))]=>sF zqt (z7p q07 q0b q09 q0c q08 q0d q0f q0i q0l q0o q0n i q19 q0x q0m)
 | _=>none
theorem ya0:ev8 Γ18 104 [.agg [.row 1 a0 (.fl .f32 g1),.row 1 a2 (.fl .f32 g3),.row 1 a4 (.fl .f32 g5),.row 3 a6 (.fl .f32 g7),.s (.int .i64 c8),.s (.flt .f32 a9),.s (.flt .f32 a10)],.one (.s (.int .i64 c11)),.one (.s (.flt .f32 a12)),.one (.s (.flt .f32 a13)),.one (.s (.flt .f32 a14))]=zqt (z7p a0 g1 a2 g3 a4 g5 a6 g7 c8 a9 a10 c11 a12 a13 a14):=tr2 (y49 a0 g1 a2 g3 a4 g5 a6 g7 c8 a9 a10 c11 a12 a13 a14 zqt rfl (fun c0_ c1_=>some (c0_,c1_))) (by kernel_rfl)
theorem y6i:SumOne J 104 zqr:=mkT y3s y3q fun pts v news hp=>by
 unfold zqr at hp
 split at hp
 ·exact fin3 (ya0 ..) hp
 ·cases hp
def tb19:List (Nat×(List PT→Option (Bool×AV×List Blk))):=(88,zlx)::(104,zqr)::tb18
def lt19:List ((Nat×Nat)×(Nat→St→Option (Bool×LO))):=lt18
def Γ19:Ctx:=⟨tyTab,fnTab,tblSum tb19,tblLp lt19⟩
theorem y92:SumL J tb19:=SumL.cons y10 (SumL.cons y6i (y3s))
theorem y8f:LpL J fnTab lt19:=y3q
def zfh  : Option (Nat×Nat×Bool)→Option (AV×List Blk)
 | some r=>some ((.tup [(.one (.flt .f32 r.1)),(.one (.flt .f32 r.2.1)),(.one (.bool r.2.2))]),[])
 | none=>none
def z9o:List PT→Option (Bool×AV×List Blk)
 | [.agg [.row 1 q00 (.fl .f32 q03),.row 1 q01 (.fl .f32 q05),.row 1 q02 (.fl .f32 q04),.row 3 q06 (.fl .f32 q0a),.s (.int .i64 q0e),.s (.flt .f32 q0g),.s (.flt .f32 q0h)],.one (.s (.int .i64 x1)),.one (.s (.flt .f32 x2)),.one (.s (.flt .f32 x3)),.one (.s (.flt .f32 x4)),.one (.s (.flt .f32 x5))]=>sF zfh (z1u q00 q03 q01 q05 q02 q04 q06 q0a q0e q0g q0h x1 x2 x3 x4 x5)
 | _=>none
theorem y0d:ev8 Γ19 56 [.agg [.row 1 a0 (.fl .f32 g1),.row 1 a2 (.fl .f32 g3),.row 1 a4 (.fl .f32 g5),.row 3 a6 (.fl .f32 g7),.s (.int .i64 c8),.s (.flt .f32 a9),.s (.flt .f32 a10)],.one (.s (.int .i64 c11)),.one (.s (.flt .f32 a12)),.one (.s (.flt .f32 a13)),.one (.s (.flt .f32 a14)),.one (.s (.flt .f32 a15))]=zfh (z1u a0 g1 a2 g3 a4 g5 a6 g7 c8 a9 a10 c11 a12 a13 a14 a15):=tr2 (zst a0 g1 a2 g3 a4 g5 a6 g7 c8 a9 a10 c11 a12 a13 a14 a15 zfh rfl (fun c0_ c1_ c2_=>some (c0_,c1_,c2_))) (by kernel_rfl)
theorem zj2:SumOne J 56 z9o:=mkT y92 y8f fun pts v news hp=>by
 unfold z9o at hp
 split at hp
 ·exact fin3 (y0d ..) hp
 ·cases hp
def tb20:List (Nat×(List PT→Option (Bool×AV×List Blk))):=(56,z9o)::tb19
def lt20:List ((Nat×Nat)×(Nat→St→Option (Bool×LO))):=lt19
def Γ20:Ctx:=⟨tyTab,fnTab,tblSum tb20,tblLp lt20⟩
theorem zss:SumL J tb20:=SumL.cons zj2 (y92)
theorem y3r:LpL J fnTab lt20:=y8f
def zg5:St:=(.mk [(x0P 0 4 7),(x0F 1 a0),(x0F 2 a1),(x0F 3 a2),(x0F 4 a3),(x0S 13 5 a4 1),(x0S 14 6 a5 1),(x0I 15 c6)] [(x0L g7),(x0L g8),(x0L g9),(x0L g10),(x0R false 0 1 2 3 a11 a12 a13 a14 c15 a16 a17),(x0T g18),(x0T g19)])
def zk5(t1 t2 t3 t4:Nat)(b0 b1 b2 b3:List Nat)(q0r q0s q0q q0p:Nat)(q0y:Int)(q0z q0u:Nat):St:=(.mk [(10,(.v (.one .nilsl))),(11,(.v (.one .nilsl))),(x0B 12 false)] [(x0L b0),(x0L b1),(x0L b2),(x0L b3),(x0R false 0 1 2 3 q0r q0s q0q q0p q0y q0z q0u)])
def zjb:St:=(.mk [(x0P 0 4 7),(x0F 1 a0),(x0F 2 a1),(x0F 3 a2),(x0F 4 a3),(x0S 13 5 a15 1),(x0S 14 6 a16 1),(x0I 15 c17),(x0B 35 e18)] [(x0L g4),(x0L g5),(x0L g6),(x0L g7),(x0R false 0 1 2 3 a8 a9 a10 a11 c12 a13 a14),(x0T g19),(x0T g20)])
def zm0:Option ((Unit)⊕(Nat×Nat×Int×Bool×(List Nat)×(List Nat)))→Option (Ex×St)
 | none=>none
 | some (Sum.inl r)=>some (.ret,(zk5 a0 a1 a2 a3 g4 g5 g6 g7 a8 a9 a10 a11 c12 a13 a14))
 | some (Sum.inr r)=>some ((.exit 0),(zjb a0 a1 a2 a3 g4 g5 g6 g7 a8 a9 a10 a11 c12 a13 a14 r.1 r.2.1 r.2.2.1 r.2.2.2.1 r.2.2.2.2.1 r.2.2.2.2.2))
def zs5 (x:Option ((Unit)⊕(Nat×Nat×Int×Bool×(List Nat)×(List Nat)))):LO:=(.two (oL x) (.one .ret (zk5 a0 a1 a2 a3 g4 g5 g6 g7 a8 a9 a10 a11 c12 a13 a14)) (.one (.exit 0) (zjb a0 a1 a2 a3 g4 g5 g6 g7 a8 a9 a10 a11 c12 a13 a14 ((tR x).getD default).1 ((tR x).getD default).2.1 ((tR x).getD default).2.2.1 ((tR x).getD default).2.2.2.1 ((tR x).getD default).2.2.2.2.1 ((tR x).getD default).2.2.2.2.2)))
def y2j:Bool×LO:=sL (zs5 a0 a1 a2 a3 g7 g8 g9 g10 a11 a12 a13 a14 c15 a16 a17) (z0l a0 a1 a2 a3 g7 g8 g9 g10 a11 a12 a13 a14 c15 a16 a17 big a4 a5 c6 g18 g19)
def ztl:Nat→St→Option (Bool×LO):=lpT 5 (pSt [(x1P 0 4 7),(x1F 1),(x1F 2),(x1F 3),(x1F 4),(x1S 13 5 1),(x1S 14 6 1),(x1I 15)] [x1L,x1L,x1L,x1L,(x1R false 0 1 2 3),x1T,x1T]) (fun hs=>y2j (hN hs 0) (hN hs 1) (hN hs 2) (hN hs 3) (hN hs 4) (hN hs 5) (hI hs 6) (hLn hs 7) (hLn hs 8) (hLn hs 9) (hLn hs 10) (hN hs 11) (hN hs 12) (hN hs 13) (hN hs 14) (hI hs 15) (hN hs 16) (hN hs 17) (hLn hs 18) (hLn hs 19))
theorem y69:∀ x:Option ((Unit)⊕(Nat×Nat×Int×Bool×(List Nat)×(List Nat))),x.isSome=true→(zm0 a0 a1 a2 a3 g4 g5 g6 g7 a8 a9 a10 a11 c12 a13 a14) x=some (pick (zs5 a0 a1 a2 a3 g4 g5 g6 g7 a8 a9 a10 a11 c12 a13 a14 x))
 | none,h=>by cases h
 | some (Sum.inl r),_=>rfl
 | some (Sum.inr r),_=>rfl
theorem y5y (K:Ex→St→Option (Ex×St)):ev9 Γ20 50 6 5 fi50 (zg5 a0 a1 a2 a3 a4 a5 c6 g7 g8 g9 g10 a11 a12 a13 a14 c15 a16 a17 g18 g19) K=z4a a0 a1 a2 a3 g7 g8 g9 g10 a11 a12 a13 a14 c15 a16 a17 a4 a5 c6 g18 g19 (fun q2w' q2v' t15' b5' b6'=>K .normal (zg5 a0 a1 a2 a3 q2w' q2v' t15' g7 g8 g9 g10 a11 a12 a13 a14 c15 a16 a17 b5' b6')) (fun _=>K .ret (zk5 a0 a1 a2 a3 g7 g8 g9 g10 a11 a12 a13 a14 c15 a16 a17)) (fun c0_ c1_ c2_ c3_ c4_ c5_=>K (.exit 0) (zjb a0 a1 a2 a3 g7 g8 g9 g10 a11 a12 a13 a14 c15 a16 a17 c0_ c1_ c2_ c3_ c4_ c5_)):=by kernel_rfl
theorem y6o:∀ (n q2w q2v:Nat) (t15:Int) (b5 b6:List Nat),iter 50 6 5 (ev9 Γ20 50 6 5 fi50) n (zg5 a0 a1 a2 a3 q2w q2v t15 g4 g5 g6 g7 a8 a9 a10 a11 c12 a13 a14 b5 b6) (fun e st=>some (e,st))=(zm0 a0 a1 a2 a3 g4 g5 g6 g7 a8 a9 a10 a11 c12 a13 a14) (z0l a0 a1 a2 a3 g4 g5 g6 g7 a8 a9 a10 a11 c12 a13 a14 n q2w q2v t15 b5 b6):=by
 intro n
 induction n with
 | zero=>intros;rfl
 | succ n ih=>
  intro q2w q2v t15 b5 b6
  refine Eq.trans (iter_succ ..) (Eq.trans (y5y ..) (Eq.trans ?_ (zza a0 a1 a2 a3 g4 g5 g6 g7 a8 a9 a10 a11 c12 a13 a14 q2w q2v t15 b5 b6 (zm0 a0 a1 a2 a3 g4 g5 g6 g7 a8 a9 a10 a11 c12 a13 a14) rfl (fun q2w' q2v' t15' b5' b6'=>z0l a0 a1 a2 a3 g4 g5 g6 g7 a8 a9 a10 a11 c12 a13 a14 n q2w' q2v' t15' b5' b6') (fun _=>some (Sum.inl ())) (fun c0_ c1_ c2_ c3_ c4_ c5_=>some (Sum.inr (c0_,c1_,c2_,c3_,c4_,c5_))))))
  exact congrArg (fun kn_=>z4a a0 a1 a2 a3 g4 g5 g6 g7 a8 a9 a10 a11 c12 a13 a14 q2w q2v t15 b5 b6 kn_ _ _) (funext fun q2w'=>funext fun q2v'=>funext fun t15'=>funext fun b5'=>funext fun b6'=>ih ..)
theorem y0r:LoopOne J fnTab 50 6 ztl:=lpK zss y3r (fi:=fi50) (by kernel_rfl) (by kernel_rfl) (q:=fun hs=>(zg5 (hN hs 0) (hN hs 1) (hN hs 2) (hN hs 3) (hN hs 4) (hN hs 5) (hI hs 6) (hLn hs 7) (hLn hs 8) (hLn hs 9) (hLn hs 10) (hN hs 11) (hN hs 12) (hN hs 13) (hN hs 14) (hI hs 15) (hN hs 16) (hN hs 17) (hLn hs 18) (hLn hs 19))) (fun hs=>by kernel_rfl) fun hs h1=>Eq.trans (y6o (hN hs 0) (hN hs 1) (hN hs 2) (hN hs 3) (hLn hs 7) (hLn hs 8) (hLn hs 9) (hLn hs 10) (hN hs 11) (hN hs 12) (hN hs 13) (hN hs 14) (hI hs 15) (hN hs 16) (hN hs 17) big (hN hs 4) (hN hs 5) (hI hs 6) (hLn hs 18) (hLn hs 19)) (y69 (hN hs 0) (hN hs 1) (hN hs 2) (hN hs 3) (hLn hs 7) (hLn hs 8) (hLn hs 9) (hLn hs 10) (hN hs 11) (hN hs 12) (hN hs 13) (hN hs 14) (hI hs 15) (hN hs 16) (hN hs 17) _ h1)
def tb21:List (Nat×(List PT→Option (Bool×AV×List Blk))):=tb20
def lt21:List ((Nat×Nat)×(Nat→St→Option (Bool×LO))):=((50,6),ztl)::lt20
def Γ21:Ctx:=⟨tyTab,fnTab,tblSum tb21,tblLp lt21⟩
theorem y9c:SumL J tb21:=zss
theorem y8y:LpL J fnTab lt21:=LpL.cons y0r (y3r)
def zr5  : Option (Nat×Nat×Bool×(List Nat)×(List Nat))→Option (AV×List Blk)
 | some r=>some ((.tup [(.one (.sl 0 0 r.1 1)),(.one (.sl 1 0 r.2.1 1)),(.one (.bool r.2.2.1))]),[(.mk true (.fl .f32 r.2.2.2.1)),(.mk true (.fl .f32 r.2.2.2.2))])
 | none=>none
def zr1:List PT→Option (Bool×AV×List Blk)
 | [.ptr [.row 1 q00 (.fl .f32 q03),.row 1 q01 (.fl .f32 q05),.row 1 q02 (.fl .f32 q04),.row 3 q06 (.fl .f32 q0a),.s (.int .i64 q0e),.s (.flt .f32 q0g),.s (.flt .f32 q0h)],.one (.s (.flt .f32 x1)),.one (.s (.flt .f32 x2)),.one (.s (.flt .f32 x3)),.one (.s (.flt .f32 x4))]=>sF zr5 (z4d q00 q03 q01 q05 q02 q04 q06 q0a q0e q0g q0h x1 x2 x3 x4)
 | _=>none
theorem y9x:ev8 Γ21 50 [.ptr [.row 1 a0 (.fl .f32 g1),.row 1 a2 (.fl .f32 g3),.row 1 a4 (.fl .f32 g5),.row 3 a6 (.fl .f32 g7),.s (.int .i64 c8),.s (.flt .f32 a9),.s (.flt .f32 a10)],.one (.s (.flt .f32 a11)),.one (.s (.flt .f32 a12)),.one (.s (.flt .f32 a13)),.one (.s (.flt .f32 a14))]=zr5 (z4d a0 g1 a2 g3 a4 g5 a6 g7 c8 a9 a10 a11 a12 a13 a14):=tr2 (y5d a0 g1 a2 g3 a4 g5 a6 g7 c8 a9 a10 a11 a12 a13 a14 zr5 rfl (fun c0_ c1_ c2_ c3_ c4_=>some (c0_,c1_,c2_,c3_,c4_))) (by kernel_rfl)
theorem y6f:SumOne J 50 zr1:=mkT y9c y8y fun pts v news hp=>by
 unfold zr1 at hp
 split at hp
 ·exact fin3 (y9x ..) hp
 ·cases hp
def tb22:List (Nat×(List PT→Option (Bool×AV×List Blk))):=(50,zr1)::tb21
def lt22:List ((Nat×Nat)×(Nat→St→Option (Bool×LO))):=lt21
def Γ22:Ctx:=⟨tyTab,fnTab,tblSum tb22,tblLp lt22⟩
theorem y91:SumL J tb22:=SumL.cons y6f (y9c)
theorem y8b:LpL J fnTab lt22:=y8y
def zhc  : Option (Nat×Nat×Bool×(List Nat)×(List Nat))→Option (AV×List Blk)
 | some r=>some ((.tup [(.one (.sl 0 0 r.1 1)),(.one (.sl 1 0 r.2.1 1)),(.one (.bool r.2.2.1))]),[(.mk true (.fl .f32 r.2.2.2.1)),(.mk true (.fl .f32 r.2.2.2.2))])
 | none=>none
def zgw:List PT→Option (Bool×AV×List Blk)
 | [.agg [.row 1 q07 (.fl .f32 q0b),.row 1 q09 (.fl .f32 q0c),.row 1 q08 (.fl .f32 q0d),.row 3 q0f (.fl .f32 q0i),.s (.int .i64 q0l),.s (.flt .f32 q0o),.s (.flt .f32 q0n)],.one (.s (.flt .f32 q19)),.one (.s (.flt .f32 q0x)),.one (.s (.flt .f32 q0m)),.one (.s (.flt .f32 q2x)),.one (.s (.int .i64 q30))]=>sF zhc (z1f q07 q0b q09 q0c q08 q0d q0f q0i q0l q0o q0n q19 q0x q0m q2x q30)
 | _=>none
theorem y1n:ev8 Γ22 30 [.agg [.row 1 a0 (.fl .f32 g1),.row 1 a2 (.fl .f32 g3),.row 1 a4 (.fl .f32 g5),.row 3 a6 (.fl .f32 g7),.s (.int .i64 c8),.s (.flt .f32 a9),.s (.flt .f32 a10)],.one (.s (.flt .f32 a11)),.one (.s (.flt .f32 a12)),.one (.s (.flt .f32 a13)),.one (.s (.flt .f32 a14)),.one (.s (.int .i64 c15))]=zhc (z1f a0 g1 a2 g3 a4 g5 a6 g7 c8 a9 a10 a11 a12 a13 a14 c15):=tr2 (zux a0 g1 a2 g3 a4 g5 a6 g7 c8 a9 a10 a11 a12 a13 a14 c15 zhc rfl (fun c0_ c1_ c2_ c3_ c4_=>some (c0_,c1_,c2_,c3_,c4_))) (by kernel_rfl)
theorem zvp:SumOne J 30 zgw:=mkT y91 y8b fun pts v news hp=>by
 unfold zgw at hp
 split at hp
 ·exact fin3 (y1n ..) hp
 ·cases hp
def tb24:List (Nat×(List PT→Option (Bool×AV×List Blk))):=(30,zgw)::tb22
def lt24:List ((Nat×Nat)×(Nat→St→Option (Bool×LO))):=lt22
def Γ24:Ctx:=⟨tyTab,fnTab,tblSum tb24,tblLp lt24⟩
theorem y83:SumL J tb24:=SumL.cons zvp (y91)
theorem y8c:LpL J fnTab lt24:=y8b
def z1x:St:=(.mk [(x0S 0 8 a0 1),(x0I 1 c1),(x0I 5 c2)] [(x0L g3),(x0L g4),(x0L g5),(x0L g6),(x0R true 0 1 2 3 a7 a8 a9 a10 c11 a12 a13),(x0T g14),(x0T g15),(.mk true (.cells [(.sl 8 0 a16 1),(.sl 9 0 a17 1),(.sl 10 0 a18 1),(.sl 11 0 a19 3),(.int .i64 c20),(.flt .f32 a21),(.flt .f32 a22)])),(x0T g23),(x0T g24),(x0T g25),(x0T g26),(x0T g27),(x0T g28),(.mk true (.cells [(.sl 8 0 a29 1),(.sl 9 0 a30 1),(.sl 10 0 a31 1),(.sl 11 0 a32 3),(.int .i64 c33),(.flt .f32 a34),(.flt .f32 a35)])),(.mk true (.cells [(.sl 8 0 a36 1),(.sl 9 0 a37 1),(.sl 10 0 a38 1)]))])
def z3f:St:=(.mk [(x0S 0 8 a0 1),(x0I 1 c36),(x0I 5 c37),(x0B 9 e38)] [(x0L g1),(x0L g2),(x0L g3),(x0L g4),(x0R true 0 1 2 3 a5 a6 a7 a8 c9 a10 a11),(x0T g12),(x0T g13),(.mk true (.cells [(.sl 8 0 a14 1),(.sl 9 0 a15 1),(.sl 10 0 a16 1),(.sl 11 0 a17 3),(.int .i64 c18),(.flt .f32 a19),(.flt .f32 a20)])),(x0T g39),(x0T g21),(x0T g22),(x0T g23),(x0T g24),(x0T g25),(.mk true (.cells [(.sl 8 0 a26 1),(.sl 9 0 a27 1),(.sl 10 0 a28 1),(.sl 11 0 a29 3),(.int .i64 c30),(.flt .f32 a31),(.flt .f32 a32)])),(.mk true (.cells [(.sl 8 0 a33 1),(.sl 9 0 a34 1),(.sl 10 0 a35 1)]))])
def z3h:Option ((Int×Int×Bool×(List Nat)))→Option (Ex×St)
 | none=>none
 | some r=>some ((.exit 0),(z3f a0 g1 g2 g3 g4 a5 a6 a7 a8 c9 a10 a11 g12 g13 a14 a15 a16 a17 c18 a19 a20 g21 g22 g23 g24 g25 a26 a27 a28 a29 c30 a31 a32 a33 a34 a35 r.1 r.2.1 r.2.2.1 r.2.2.2))
def z68 (x:Option ((Int×Int×Bool×(List Nat)))):LO:=(.one (.exit 0) (z3f a0 g1 g2 g3 g4 a5 a6 a7 a8 c9 a10 a11 g12 g13 a14 a15 a16 a17 c18 a19 a20 g21 g22 g23 g24 g25 a26 a27 a28 a29 c30 a31 a32 a33 a34 a35 (x.getD default).1 (x.getD default).2.1 (x.getD default).2.2.1 (x.getD default).2.2.2))
def zbr:Bool×LO:=sL (z68 a0 g3 g4 g5 g6 a7 a8 a9 a10 c11 a12 a13 g14 g15 a16 a17 a18 a19 c20 a21 a22 g24 g25 g26 g27 g28 a29 a30 a31 a32 c33 a34 a35 a36 a37 a38) (z08 a0 big c1 c2 g23)
def z6f:Nat→St→Option (Bool×LO):=lpT 16 (pSt [(x1S 0 8 1),(x1I 1),(x1I 5)] [x1L,x1L,x1L,x1L,(x1R true 0 1 2 3),x1T,x1T,(pBlk true (pCells [(pSl 8 (liN 0) 1),(pSl 9 (liN 0) 1),(pSl 10 (liN 0) 1),(pSl 11 (liN 0) 3),(pInt .i64),(pFlt .f32),(pFlt .f32)])),x1T,x1T,x1T,x1T,x1T,x1T,(pBlk true (pCells [(pSl 8 (liN 0) 1),(pSl 9 (liN 0) 1),(pSl 10 (liN 0) 1),(pSl 11 (liN 0) 3),(pInt .i64),(pFlt .f32),(pFlt .f32)])),(pBlk true (pCells [(pSl 8 (liN 0) 1),(pSl 9 (liN 0) 1),(pSl 10 (liN 0) 1)]))]) (fun hs=>zbr (hN hs 0) (hI hs 1) (hI hs 2) (hLn hs 3) (hLn hs 4) (hLn hs 5) (hLn hs 6) (hN hs 7) (hN hs 8) (hN hs 9) (hN hs 10) (hI hs 11) (hN hs 12) (hN hs 13) (hLn hs 14) (hLn hs 15) (hN hs 16) (hN hs 17) (hN hs 18) (hN hs 19) (hI hs 20) (hN hs 21) (hN hs 22) (hLn hs 23) (hLn hs 24) (hLn hs 25) (hLn hs 26) (hLn hs 27) (hLn hs 28) (hN hs 29) (hN hs 30) (hN hs 31) (hN hs 32) (hI hs 33) (hN hs 34) (hN hs 35) (hN hs 36) (hN hs 37) (hN hs 38))
theorem zdm:∀ x:Option ((Int×Int×Bool×(List Nat))),x.isSome=true→(z3h a0 g1 g2 g3 g4 a5 a6 a7 a8 c9 a10 a11 g12 g13 a14 a15 a16 a17 c18 a19 a20 g21 g22 g23 g24 g25 a26 a27 a28 a29 c30 a31 a32 a33 a34 a35) x=some (pick (z68 a0 g1 g2 g3 g4 a5 a6 a7 a8 c9 a10 a11 g12 g13 a14 a15 a16 a17 c18 a19 a20 g21 g22 g23 g24 g25 a26 a27 a28 a29 c30 a31 a32 a33 a34 a35 x))
 | none,h=>by cases h
 | some r,_=>rfl
theorem zdp (K:Ex→St→Option (Ex×St)):ev9 Γ24 39 2 16 fi39 (z1x a0 c1 c2 g3 g4 g5 g6 a7 a8 a9 a10 c11 a12 a13 g14 g15 a16 a17 a18 a19 c20 a21 a22 g23 g24 g25 g26 g27 g28 a29 a30 a31 a32 c33 a34 a35 a36 a37 a38) K=z0s a0 c1 c2 g23 (fun k' i' b8'=>K .normal (z1x a0 k' i' g3 g4 g5 g6 a7 a8 a9 a10 c11 a12 a13 g14 g15 a16 a17 a18 a19 c20 a21 a22 b8' g24 g25 g26 g27 g28 a29 a30 a31 a32 c33 a34 a35 a36 a37 a38)) (fun c0_ c1_ c2_ c3_=>K (.exit 0) (z3f a0 g3 g4 g5 g6 a7 a8 a9 a10 c11 a12 a13 g14 g15 a16 a17 a18 a19 c20 a21 a22 g24 g25 g26 g27 g28 a29 a30 a31 a32 c33 a34 a35 a36 a37 a38 c0_ c1_ c2_ c3_)):=by kernel_rfl
theorem zds:∀ (n:Nat) (k i:Int) (b8:List Nat),iter 39 2 16 (ev9 Γ24 39 2 16 fi39) n (z1x a0 k i g1 g2 g3 g4 a5 a6 a7 a8 c9 a10 a11 g12 g13 a14 a15 a16 a17 c18 a19 a20 b8 g21 g22 g23 g24 g25 a26 a27 a28 a29 c30 a31 a32 a33 a34 a35) (fun e st=>some (e,st))=(z3h a0 g1 g2 g3 g4 a5 a6 a7 a8 c9 a10 a11 g12 g13 a14 a15 a16 a17 c18 a19 a20 g21 g22 g23 g24 g25 a26 a27 a28 a29 c30 a31 a32 a33 a34 a35) (z08 a0 n k i b8):=by
 intro n
 induction n with
 | zero=>intros;rfl
 | succ n ih=>
  intro k i b8
  refine Eq.trans (iter_succ ..) (Eq.trans (zdp ..) (Eq.trans ?_ (zb5 a0 k i b8 (z3h a0 g1 g2 g3 g4 a5 a6 a7 a8 c9 a10 a11 g12 g13 a14 a15 a16 a17 c18 a19 a20 g21 g22 g23 g24 g25 a26 a27 a28 a29 c30 a31 a32 a33 a34 a35) rfl (fun k' i' b8'=>z08 a0 n k' i' b8') (fun c0_ c1_ c2_ c3_=>some (c0_,c1_,c2_,c3_)))))
  exact congrArg (fun kn_=>z0s a0 k i b8 kn_ _) (funext fun k'=>funext fun i'=>funext fun b8'=>ih ..)
end
end Go.Proofs.YtijjhfailnmeoaaGreat
