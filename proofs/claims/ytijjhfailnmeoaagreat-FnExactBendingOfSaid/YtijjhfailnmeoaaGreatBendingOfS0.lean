import Derived.Test.YtijjhfailnmeoaaGreatBendingOfC
set_option linter.unusedVariables false
set_option linter.unusedSimpArgs false
set_option linter.unusedSectionVars false
set_option maxRecDepth 100000
set_option maxHeartbeats 4000000
namespace Go.Proofs.YtijjhfailnmeoaaGreat
open Go Go.Rf
variable {J:Jd Tryz.prog}
abbrev x0F(d x:Nat):Nat×AV:=(d,.v (.one (.flt .f32 x)))
abbrev x0I(d:Nat)(x:Int):Nat×AV:=(d,.v (.one (.int .i64 x)))
abbrev x0B(d:Nat)(x:Bool):Nat×AV:=(d,.v (.one (.bool x)))
abbrev x0P(d b n:Nat):Nat×AV:=(d,.v (.one (.ptr b 0 n)))
abbrev x0S(d b n s:Nat):Nat×AV:=(d,.v (.one (.sl b 0 n s)))
abbrev x0V(d b n s:Nat):Nat×AV:=(d,.v (.one (.vw b 0 n s)))
abbrev x0L(x:List Nat):Blk:=.mk false (.fl .f32 x)
abbrev x0T(x:List Nat):Blk:=.mk true (.fl .f32 x)
abbrev x0R(o:Bool)(b c d e k l m n:Nat)(i:Int)(x y:Nat):Blk:=.mk o (.cells [.vw b 0 k 1,.vw c 0 l 1,.vw d 0 m 1,.vw e 0 n 3,.int .i64 i,.flt .f32 x,.flt .f32 y])
abbrev x1R(o:Bool)(b c d e:Nat):=pBlk o (pCells [pVw b (liN 0) 1,pVw c (liN 0) 1,pVw d (liN 0) 1,pVw e (liN 0) 3,pInt .i64,pFlt .f32,pFlt .f32])
abbrev x1F(d:Nat):=pTm d (pV (pOne (pFlt .f32)))
abbrev x1I(d:Nat):=pTm d (pV (pOne (pInt .i64)))
abbrev x1B(d:Nat):=pTm d (pV (pOne pBool))
abbrev x1P(d b n:Nat):=pTm d (pV (pOne (pPtr b (liN 0) n)))
abbrev x1S(d b s:Nat):=pTm d (pV (pOne (pSl b (liN 0) s)))
abbrev x1V(d b s:Nat):=pTm d (pV (pOne (pVw b (liN 0) s)))
abbrev x1L:=pBlk false (pFl .f32)
abbrev x1T:=pBlk true (pFl .f32)
noncomputable section
variable (a0:Nat) (c0:Int) (e0:Bool) (a1:Nat) (c1:Int) (e1:Bool) (g1:List Nat) (m1:List Bool) (a2:Nat) (c2:Int) (e2:Bool) (g2:List Nat) (a3:Nat) (c3:Int) (g3:List Nat) (m3:List Bool) (a4:Nat) (c4:Int) (e4:Bool) (g4:List Nat) (m4:List Bool) (a5:Nat) (e5:Bool) (g5:List Nat) (a6:Nat) (c6:Int) (g6:List Nat) (a7:Nat) (c7:Int) (g7:List Nat) (a8:Nat) (c8:Int) (e8:Bool) (g8:List Nat) (a9:Nat) (c9:Int) (e9:Bool) (g9:List Nat) (a10:Nat) (c10:Int) (e10:Bool) (g10:List Nat) (a11:Nat) (c11:Int) (g11:List Nat) (a12:Nat) (c12:Int) (g12:List Nat) (a13:Nat) (c13:Int) (a14:Nat) (c14:Int) (e14:Bool) (g14:List Nat) (a15:Nat) (c15:Int) (e15:Bool) (g15:List Nat) (a16:Nat) (g16:List Nat) (a17:Nat) (c17:Int) (e18:Bool) (g18:List Nat) (c19:Int) (g19:List Nat) (a20:Nat) (g20:List Nat) (a21:Nat)
def zgg:List PT→Option (Bool×AV×List Blk)
 | [.one (.s (.flt .f32 x))]=>some (bnot (nanQ .f32 x),A1 (.int .u32 x),[])
 | _=>none
theorem zwl:SumOne J 147 zgg:=by
 intro pts v news hp w vals hv
 unfold zgg at hp
 split at hp
 ·rename_i x
  injection hp with hp
  injection hp with h1 hp
  injection hp with h2 h3
  subst h2
  subst h3
  obtain⟨l,hl⟩:∃ l,l=vals.toList:=⟨_,rfl⟩
  rw[← hl] at hv
  cases hv with
  | cons a1 a2=>
   cases a2
   obtain⟨b,hb1,hb2,hb3⟩:=a1
   subst hb1
   rename_i hx
   have hvals:vals=#[.float .f32 b]:=by rw[← Array.toList_inj,← hl]
   subst hvals
   have hn:nanB .f32 b=false:=by rw[← u4k,hb3];simpa [bnot,nanQ] using h1
   rw[u03 hn] at hb3
   subst hb3
   refine⟨nat_tame Tryz.func147 (Eq.mpr (by kernel_rfl:_=(Mute (.extern 147)∧True)) ⟨.inr ⟨_,rfl⟩,trivial⟩),.inl ⟨_,w,by (simp only[callFunc,Sem.run_bind,run_program,Result.andThen_ok,Tryz.func147];rfl),NoB,⟨⟨(fun t b' h=>by cases t<;>cases h),(fun t t' b1 b2 x x' _ h=>by cases t<;>cases h)⟩,(fun t x h=>by cases h),Fr.refl _ w⟩,rfl⟩⟩
 ·cases hp
def zbb:List PT→Option (Bool×AV×List Blk)
 | [.one (.s (.int .u64 x))]=>some (okU .f64 x,A1 (.flt .f64 (cnI .f64 x)),[])
 | _=>none
theorem zrm:SumOne J 167 zbb:=by
 intro pts v news hp w vals hv
 unfold zbb at hp
 split at hp
 ·rename_i x
  injection hp with hp
  injection hp with h1 hp
  injection hp with h2 h3
  subst h2
  subst h3
  obtain⟨l,hl⟩:∃ l,l=vals.toList:=⟨_,rfl⟩
  rw[← hl] at hv
  cases hv with
  | cons a1 a2=>
   cases a2
   have hb1:_=Value.int .u64 x:=a1
   subst hb1
   rename_i hx
   have hvals:vals=#[.int .u64 x]:=by rw[← Array.toList_inj,← hl]
   subst hvals
   have hw:=okU_lt h1
   refine⟨nat_tame Tryz.func167 (Eq.mpr (by kernel_rfl:_=(Mute (.extern 167)∧True)) ⟨.inr ⟨_,rfl⟩,trivial⟩),.inl ⟨_,w,by (simp only[callFunc,Sem.run_bind,run_program,Result.andThen_ok,Tryz.func167];rfl),NoB,⟨⟨(fun t b' h=>by cases t<;>cases h),(fun t t' b1 b2 x x' _ h=>by cases t<;>cases h)⟩,(fun t x h=>by cases h),Fr.refl _ w⟩,⟨_,rfl,hw,rfl⟩⟩⟩
 ·cases hp
def zgu:List PT→Option (Bool×AV×List Blk)
 | [.one (.s (.flt .f64 x))]=>some (bnot (nanQ .f64 x),A1 (.int .u64 x),[])
 | _=>none
theorem zxv:SumOne J 173 zgu:=by
 intro pts v news hp w vals hv
 unfold zgu at hp
 split at hp
 ·rename_i x
  injection hp with hp
  injection hp with h1 hp
  injection hp with h2 h3
  subst h2
  subst h3
  obtain⟨l,hl⟩:∃ l,l=vals.toList:=⟨_,rfl⟩
  rw[← hl] at hv
  cases hv with
  | cons a1 a2=>
   cases a2
   obtain⟨b,hb1,hb2,hb3⟩:=a1
   subst hb1
   rename_i hx
   have hvals:vals=#[.float .f64 b]:=by rw[← Array.toList_inj,← hl]
   subst hvals
   have hn:nanB .f64 b=false:=by rw[← u4k,hb3];simpa [bnot,nanQ] using h1
   rw[u03 hn] at hb3
   subst hb3
   refine⟨nat_tame Tryz.func173 (Eq.mpr (by kernel_rfl:_=(Mute (.extern 173)∧True)) ⟨.inr ⟨_,rfl⟩,trivial⟩),.inl ⟨_,w,by (simp only[callFunc,Sem.run_bind,run_program,Result.andThen_ok,Tryz.func173];rfl),NoB,⟨⟨(fun t b' h=>by cases t<;>cases h),(fun t t' b1 b2 x x' _ h=>by cases t<;>cases h)⟩,(fun t x h=>by cases h),Fr.refl _ w⟩,rfl⟩⟩
 ·cases hp
def zjq:List PT→Option (Bool×AV×List Blk)
 | [.one (.s (.flt .f64 x))]=>some (bnot (nanQ .f64 x),A1 (.flt .f64 (fint .zero x)),[])
 | _=>none
theorem y0l:SumOne J 177 zjq:=by
 intro pts v news hp w vals hv
 unfold zjq at hp
 split at hp
 ·rename_i x
  injection hp with hp
  injection hp with h1 hp
  injection hp with h2 h3
  subst h2
  subst h3
  obtain⟨l,hl⟩:∃ l,l=vals.toList:=⟨_,rfl⟩
  rw[← hl] at hv
  cases hv with
  | cons a1 a2=>
   cases a2
   obtain⟨b,hb1,hb2,hb3⟩:=a1
   subst hb1
   rename_i hx
   have hvals:vals=#[.float .f64 b]:=by rw[← Array.toList_inj,← hl]
   subst hvals
   have hn:nanB .f64 b=false:=by rw[← u4k,hb3];simpa [bnot,nanQ] using h1
   rw[u03 hn] at hb3
   subst hb3
   refine⟨nat_tame Tryz.func177 (Eq.mpr (by kernel_rfl:_=(Mute (.extern 177)∧Tame Tryz.prog (do let v ← Extern.MathFloor.toIntegral "math.archTrunc" .zero #[.float .f64 b];pure (.value v):Sem Next))) ⟨.inr ⟨_,rfl⟩,tv (t_integral _ _ _)⟩),.inl ⟨_,w,by (simp only[callFunc,Sem.run_bind,run_program,Result.andThen_ok,Tryz.func177];change (do let v ← Extern.MathFloor.toIntegral "math.archTrunc" .zero #[.float .f64 b];pure (.value v):Sem Next).run Tryz.prog w=_;rw[Sem.run_bind,run_fint hn];rfl),NoB,⟨⟨(fun t b' h=>by cases t<;>cases h),(fun t t' b1 b2 x x' _ h=>by cases t<;>cases h)⟩,(fun t x h=>by cases h),Fr.refl _ w⟩,fint_rel hn⟩⟩
 ·cases hp
def zkb:List PT→Option (Bool×AV×List Blk)
 | [.one (.s (.flt .f64 x))]=>some (bnot (nanQ .f64 x),A1 (.flt .f64 (fint .down x)),[])
 | _=>none
theorem y19:SumOne J 179 zkb:=by
 intro pts v news hp w vals hv
 unfold zkb at hp
 split at hp
 ·rename_i x
  injection hp with hp
  injection hp with h1 hp
  injection hp with h2 h3
  subst h2
  subst h3
  obtain⟨l,hl⟩:∃ l,l=vals.toList:=⟨_,rfl⟩
  rw[← hl] at hv
  cases hv with
  | cons a1 a2=>
   cases a2
   obtain⟨b,hb1,hb2,hb3⟩:=a1
   subst hb1
   rename_i hx
   have hvals:vals=#[.float .f64 b]:=by rw[← Array.toList_inj,← hl]
   subst hvals
   have hn:nanB .f64 b=false:=by rw[← u4k,hb3];simpa [bnot,nanQ] using h1
   rw[u03 hn] at hb3
   subst hb3
   refine⟨nat_tame Tryz.func179 (Eq.mpr (by kernel_rfl:_=(Mute (.extern 179)∧Tame Tryz.prog (do let v ← Extern.MathFloor.toIntegral "math.archFloor" .down #[.float .f64 b];pure (.value v):Sem Next))) ⟨.inr ⟨_,rfl⟩,tv (t_integral _ _ _)⟩),.inl ⟨_,w,by (simp only[callFunc,Sem.run_bind,run_program,Result.andThen_ok,Tryz.func179];change (do let v ← Extern.MathFloor.toIntegral "math.archFloor" .down #[.float .f64 b];pure (.value v):Sem Next).run Tryz.prog w=_;rw[Sem.run_bind,run_fint hn];rfl),NoB,⟨⟨(fun t b' h=>by cases t<;>cases h),(fun t t' b1 b2 x x' _ h=>by cases t<;>cases h)⟩,(fun t x h=>by cases h),Fr.refl _ w⟩,fint_rel hn⟩⟩
 ·cases hp
def sF{α:Type}[Inhabited α] (o:Option α→Option (AV×List Blk)) (x:Option α):Option (Bool×AV×List Blk):=sP x.isSome o (x.getD default)
theorem fin3{α:Type}[Inhabited α] {a:Option (AV×List Blk)} {o:Option α→Option (AV×List Blk)} {x:Option α} {v:AV} {news:List Blk} (h:a=o x) (hp:sF o x=some (true,v,news)):a=some (v,news):=fin2 h hp
def sL{α:Type}(lo:Option α→LO)(x:Option α):Bool×LO:=(x.isSome,lo x)
theorem mkT {tb:List (Nat×(List PT→Option (Bool×AV×List Blk)))} {lt:List ((Nat×Nat)×(Nat→St→Option (Bool×LO)))} {J:Jd Tryz.prog} (h1:SumL J tb) (h2:LpL J fnTab lt) {g:FuncId} {F:List PT→Option (Bool×AV×List Blk)} (h:∀ pts v news,F pts=some (true,v,news)→ev8 ⟨tyTab,fnTab,tblSum tb,tblLp lt⟩ g pts=some (v,news)):SumOne J g F:=
 sum_of (Γ:=⟨tyTab,fnTab,tblSum tb,tblLp lt⟩) (fuel:=8) (d:=8) tyTab_ok (FnL.ok fnTab_ok _ _) (LpL.ok h2) (SumL.ok h1 _) mixed fun pts v news hp _=>h pts v news hp
theorem lpK {tb:List (Nat×(List PT→Option (Bool×AV×List Blk)))} {lt:List ((Nat×Nat)×(Nat→St→Option (Bool×LO)))} {J:Jd Tryz.prog} (h1:SumL J tb) (h2:LpL J fnTab lt) {f id lo0:Nat} {fi:FnI} (hfi:Rf.look fnTab f=some fi) (hu:noTwo (lids (loopsIn fi.code))=true) {p:Pz St} {F:List Hv→Bool×LO} {q:List Hv→St}
  (hq:∀ hs,p.fil hs 0=q hs) (h:∀ hs,(F hs).1=true→iter f id lo0 (ev9 ⟨tyTab,fnTab,tblSum tb,tblLp lt⟩ f id lo0 fi) big (q hs) (fun e st=>some (e,st))=some (pick (F hs).2)) (hb:Nat.beq id bodyId=false:=by rfl):LoopOne J fnTab f id (lpT lo0 p F):=
 lp9 (Γ:=⟨tyTab,fnTab,tblSum tb,tblLp lt⟩) tyTab_ok (FnL.ok fnTab_ok _ _) (LpL.ok h2) (SumL.ok h1 _) mixed hfi hu hq h hb
def tb0:List (Nat×(List PT→Option (Bool×AV×List Blk))):=[(147,zgg),(167,zbb),(173,zgu),(177,zjq),(179,zkb)]
def lt0:List ((Nat×Nat)×(Nat→St→Option (Bool×LO))):=[]
def Γ0:Ctx:=⟨tyTab,fnTab,tblSum tb0,tblLp lt0⟩
theorem z75:SumL J tb0:=SumL.cons zwl (SumL.cons zrm (SumL.cons zxv (SumL.cons y0l (SumL.cons y19 (SumL.nil)))))
theorem z76:LpL J fnTab lt0:=LpL.nil
def zjc  : Option (Bool)→Option (AV×List Blk)
 | some r=>some ((.v (.one (.bool r))),[])
 | none=>none
def zk0:List PT→Option (Bool×AV×List Blk)
 | [.one (.s (.flt .f64 a)),.one (.s (.flt .f64 b))]=>sF zjc (z5v a b)
 | _=>none
theorem y6o:ev8 Γ0 35 [.one (.s (.flt .f64 a0)),.one (.s (.flt .f64 a1))]=zjc (z5v a0 a1):=tr2 (zz7 a0 a1 zjc rfl (fun c0_=>some c0_)) (by kernel_rfl)
theorem y1u:SumOne J 35 zk0:=mkT z75 z76 fun pts v news hp=>by
 unfold zk0 at hp
 split at hp
 ·exact fin3 (y6o ..) hp
 ·cases hp
def zpv  : Option (Bool)→Option (AV×List Blk)
 | some r=>some ((.v (.one (.bool r))),[])
 | none=>none
def zpz:List PT→Option (Bool×AV×List Blk)
 | [.one (.s (.int .i64 n_)),.one (.s (.int .i64 low)),.one (.s (.int .i64 q22))]=>sF zpv (z8g n_ low q22)
 | _=>none
theorem yap:ev8 Γ0 52 [.one (.s (.int .i64 c0)),.one (.s (.int .i64 c1)),.one (.s (.int .i64 c2))]=zpv (z8g c0 c1 c2):=tr2 (y5d c0 c1 c2 zpv rfl (fun c0_=>some c0_)) (by kernel_rfl)
theorem y6c:SumOne J 52 zpz:=mkT z75 z76 fun pts v news hp=>by
 unfold zpz at hp
 split at hp
 ·exact fin3 (yap ..) hp
 ·cases hp
def zm8  : Option (Bool)→Option (AV×List Blk)
 | some r=>some ((.v (.one (.bool r))),[])
 | none=>none
def zmk:List PT→Option (Bool×AV×List Blk)
 | [.one (.s (.flt .f32 x))]=>sF zm8 (z87 x)
 | _=>none
theorem y7z:ev8 Γ0 65 [.one (.s (.flt .f32 a0))]=zm8 (z87 a0):=tr2 (y1a a0 zm8 rfl (fun c0_=>some c0_)) (by kernel_rfl)
theorem y2a:SumOne J 65 zmk:=mkT z75 z76 fun pts v news hp=>by
 unfold zmk at hp
 split at hp
 ·exact fin3 (y7z ..) hp
 ·cases hp
def zt5  : Option (Bool)→Option (AV×List Blk)
 | some r=>some ((.v (.one (.bool r))),[])
 | none=>none
def zsb:List PT→Option (Bool×AV×List Blk)
 | [.one (.s (.int .i64 n_)),.one (.s (.int .i64 low)),.one (.s (.int .i64 q22))]=>sF zt5 (z98 n_ low q22)
 | _=>none
theorem yau:ev8 Γ0 68 [.one (.s (.int .i64 c0)),.one (.s (.int .i64 c1)),.one (.s (.int .i64 c2))]=zt5 (z98 c0 c1 c2):=tr2 (y74 c0 c1 c2 zt5 rfl (fun c0_=>some c0_)) (by kernel_rfl)
theorem y7p:SumOne J 68 zsb:=mkT z75 z76 fun pts v news hp=>by
 unfold zsb at hp
 split at hp
 ·exact fin3 (yau ..) hp
 ·cases hp
def zhx  : Option (Int)→Option (AV×List Blk)
 | some r=>some ((.v (.one (.int .i64 r))),[])
 | none=>none
def zio:List PT→Option (Bool×AV×List Blk)
 | [.one (.row 3 a_n (.fl .f32 a)),.one (.s (.int .i64 q2j))]=>sF zhx (z58 a_n a q2j)
 | _=>none
theorem y5g:ev8 Γ0 71 [.one (.row 3 a0 (.fl .f32 g1)),.one (.s (.int .i64 c2))]=zhx (z58 a0 g1 c2):=tr2 (zw8 a0 g1 c2 zhx rfl (fun c0_=>some c0_)) (by kernel_rfl)
theorem zyq:SumOne J 71 zio:=mkT z75 z76 fun pts v news hp=>by
 unfold zio at hp
 split at hp
 ·exact fin3 (y5g ..) hp
 ·cases hp
def zjg  : Option (Bool)→Option (AV×List Blk)
 | some r=>some ((.v (.one (.bool r))),[])
 | none=>none
def zj7:List PT→Option (Bool×AV×List Blk)
 | [.one (.s (.flt .f32 x))]=>sF zjg (z7j x)
 | _=>none
theorem y67:ev8 Γ0 84 [.one (.s (.flt .f32 a0))]=zjg (z7j a0):=tr2 (zzo a0 zjg rfl (fun c0_=>some c0_)) (by kernel_rfl)
theorem y0j:SumOne J 84 zj7:=mkT z75 z76 fun pts v news hp=>by
 unfold zj7 at hp
 split at hp
 ·exact fin3 (y67 ..) hp
 ·cases hp
def zi3  : Option (Int)→Option (AV×List Blk)
 | some r=>some ((.v (.one (.int .i64 r))),[])
 | none=>none
def zhm:List PT→Option (Bool×AV×List Blk)
 | [.one (.row 1 a_n (.fl .f32 a)),.one (.s (.int .i64 q2j))]=>sF zi3 (z53 a_n a q2j)
 | _=>none
theorem y5l:ev8 Γ0 117 [.one (.row 1 a0 (.fl .f32 g1)),.one (.s (.int .i64 c2))]=zi3 (z53 a0 g1 c2):=tr2 (zwm a0 g1 c2 zi3 rfl (fun c0_=>some c0_)) (by kernel_rfl)
theorem zyy:SumOne J 117 zhm:=mkT z75 z76 fun pts v news hp=>by
 unfold zhm at hp
 split at hp
 ·exact fin3 (y5l ..) hp
 ·cases hp
def zjs:Option (Unit)→Option (AV×List Blk)
 | some r=>some ((.v (.agg [(.flt .f32 a0),(.flt .f32 a1),(.flt .f32 a2)])),[])
 | none=>none
def zja:List PT→Option (Bool×AV×List Blk)
 | [.agg [.s (.flt .f32 q2p),.s (.flt .f32 q2s),.s (.flt .f32 q2r)]]=>sF (zjs q2p q2s q2r) (zkf q2p q2s q2r)
 | _=>none
theorem y71:ev8 Γ0 118 [.agg [.s (.flt .f32 a0),.s (.flt .f32 a1),.s (.flt .f32 a2)]]=(zjs a0 a1 a2) (zkf a0 a1 a2):=tr2 (zzl a0 a1 a2 (zjs a0 a1 a2) rfl (fun _=>some ())) (by kernel_rfl)
theorem y0t:SumOne J 118 zja:=mkT z75 z76 fun pts v news hp=>by
 unfold zja at hp
 split at hp
 ·exact fin3 (y71 ..) hp
 ·cases hp
def zll  : Option (Bool)→Option (AV×List Blk)
 | some r=>some ((.v (.one (.bool r))),[])
 | none=>none
def zma:List PT→Option (Bool×AV×List Blk)
 | [.one (.s (.flt .f32 x)),.one (.s (.flt .f32 low)),.one (.s (.flt .f32 q22))]=>sF zll (z6i x low q22)
 | _=>none
theorem y7g:ev8 Γ0 134 [.one (.s (.flt .f32 a0)),.one (.s (.flt .f32 a1)),.one (.s (.flt .f32 a2))]=zll (z6i a0 a1 a2):=tr2 (y10 a0 a1 a2 zll rfl (fun c0_=>some c0_)) (by kernel_rfl)
theorem y34:SumOne J 134 zma:=mkT z75 z76 fun pts v news hp=>by
 unfold zma at hp
 split at hp
 ·exact fin3 (y7g ..) hp
 ·cases hp
def zcl  : Option (Nat)→Option (AV×List Blk)
 | some r=>some ((.v (.one (.flt .f32 r))),[])
 | none=>none
def zd1:List PT→Option (Bool×AV×List Blk)
 | [.agg [.row 1 q00 (.fl .f32 q03),.row 1 q02 (.fl .f32 q04),.row 1 q01 (.fl .f32 q05),.row 3 q06 (.fl .f32 q07),.s (.int .i64 q0e),.s (.flt .f32 q0j),.s (.flt .f32 q0k)],.one (.s (.int .i64 i))]=>sF zcl (z3a q00 q03 q02 q04 q01 q05 q06 q07 q0e q0j q0k i)
 | _=>none
theorem zwa:ev8 Γ0 142 [.agg [.row 1 a0 (.fl .f32 g1),.row 1 a2 (.fl .f32 g3),.row 1 a4 (.fl .f32 g5),.row 3 a6 (.fl .f32 g7),.s (.int .i64 c8),.s (.flt .f32 a9),.s (.flt .f32 a10)],.one (.s (.int .i64 c11))]=zcl (z3a a0 g1 a2 g3 a4 g5 a6 g7 c8 a9 a10 c11):=tr2 (zrl a0 g1 a2 g3 a4 g5 a6 g7 c8 a9 a10 c11 zcl rfl (fun c0_=>some c0_)) (by kernel_rfl)
theorem ztg:SumOne J 142 zd1:=mkT z75 z76 fun pts v news hp=>by
 unfold zd1 at hp
 split at hp
 ·exact fin3 (zwa ..) hp
 ·cases hp
def zpi  : Option (Nat)→Option (AV×List Blk)
 | some r=>some ((.v (.one (.flt .f32 r))),[])
 | none=>none
def zpk:List PT→Option (Bool×AV×List Blk)
 | [.ptr [.row 1 q00 (.fl .f32 q03),.row 1 q02 (.fl .f32 q04),.row 1 q01 (.fl .f32 q05),.row 3 q06 (.fl .f32 q07),.s (.int .i64 q0e),.s (.flt .f32 q0j),.s (.flt .f32 q0k)],.one (.s (.int .i64 i)),.one (.s (.flt .f32 q3o))]=>sF zpi (z8b q00 q03 q02 q04 q01 q05 q06 q07 q0e q0j q0k i q3o)
 | _=>none
theorem yae:ev8 Γ0 151 [.ptr [.row 1 a0 (.fl .f32 g1),.row 1 a2 (.fl .f32 g3),.row 1 a4 (.fl .f32 g5),.row 3 a6 (.fl .f32 g7),.s (.int .i64 c8),.s (.flt .f32 a9),.s (.flt .f32 a10)],.one (.s (.int .i64 c11)),.one (.s (.flt .f32 a12))]=zpi (z8b a0 g1 a2 g3 a4 g5 a6 g7 c8 a9 a10 c11 a12):=tr2 (y4i a0 g1 a2 g3 a4 g5 a6 g7 c8 a9 a10 c11 a12 zpi rfl (fun c0_=>some c0_)) (by kernel_rfl)
theorem y77:SumOne J 151 zpk:=mkT z75 z76 fun pts v news hp=>by
 unfold zpk at hp
 split at hp
 ·exact fin3 (yae ..) hp
 ·cases hp
def zgb  : Option (Nat)→Option (AV×List Blk)
 | some r=>some ((.v (.one (.flt .f32 r))),[])
 | none=>none
def zgk:List PT→Option (Bool×AV×List Blk)
 | [.ptr [.row 1 q00 (.fl .f32 q03),.row 1 q02 (.fl .f32 q04),.row 1 q01 (.fl .f32 q05),.row 3 q06 (.fl .f32 q07),.s (.int .i64 q0e),.s (.flt .f32 q0j),.s (.flt .f32 q0k)],.one (.s (.int .i64 i))]=>sF zgb (z4b q00 q03 q02 q04 q01 q05 q06 q07 q0e q0j q0k i)
 | _=>none
theorem y24:ev8 Γ0 152 [.ptr [.row 1 a0 (.fl .f32 g1),.row 1 a2 (.fl .f32 g3),.row 1 a4 (.fl .f32 g5),.row 3 a6 (.fl .f32 g7),.s (.int .i64 c8),.s (.flt .f32 a9),.s (.flt .f32 a10)],.one (.s (.int .i64 c11))]=zgb (z4b a0 g1 a2 g3 a4 g5 a6 g7 c8 a9 a10 c11):=tr2 (zvl a0 g1 a2 g3 a4 g5 a6 g7 c8 a9 a10 c11 zgb rfl (fun c0_=>some c0_)) (by kernel_rfl)
theorem zxo:SumOne J 152 zgk:=mkT z75 z76 fun pts v news hp=>by
 unfold zgk at hp
 split at hp
 ·exact fin3 (y24 ..) hp
 ·cases hp
def zz2  : Option (Nat)→Option (AV×List Blk)
 | some r=>some ((.v (.one (.flt .f64 r))),[])
 | none=>none
def zz5:List PT→Option (Bool×AV×List Blk)
 | []=>sF zz2 zec
 | _=>none
theorem ybv  : ev8 Γ0 158 []=zz2 (zec):=tr2 (y9c  zz2 rfl (fun c0_=>some c0_)) (by kernel_rfl)
theorem yab:SumOne J 158 zz5:=mkT z75 z76 fun pts v news hp=>by
 unfold zz5 at hp
 split at hp
 ·exact fin3 ybv hp
 ·cases hp
def zt9  : Option (Nat)→Option (AV×List Blk)
 | some r=>some ((.v (.one (.flt .f32 r))),[])
 | none=>none
def zrq:List PT→Option (Bool×AV×List Blk)
 | [.one (.s (.flt .f32 a)),.one (.s (.flt .f32 b)),.one (.s (.flt .f32 q3j))]=>sF zt9 (zcp a b q3j)
 | _=>none
theorem yb7:ev8 Γ0 162 [.one (.s (.flt .f32 a0)),.one (.s (.flt .f32 a1)),.one (.s (.flt .f32 a2))]=zt9 (zcp a0 a1 a2):=tr2 (y60 a0 a1 a2 zt9 rfl (fun c0_=>some c0_)) (by kernel_rfl)
theorem y7o:SumOne J 162 zrq:=mkT z75 z76 fun pts v news hp=>by
 unfold zrq at hp
 split at hp
 ·exact fin3 (yb7 ..) hp
 ·cases hp
def zkg  : Option (Nat)→Option (AV×List Blk)
 | some r=>some ((.v (.one (.flt .f32 r))),[])
 | none=>none
def zjp:List PT→Option (Bool×AV×List Blk)
 | [.one (.s (.flt .f64 x))]=>sF zkg (z5z x)
 | _=>none
theorem y6x:ev8 Γ0 163 [.one (.s (.flt .f64 a0))]=zkg (z5z a0):=tr2 (zyp a0 zkg rfl (fun c0_=>some c0_)) (by kernel_rfl)
theorem y1v:SumOne J 163 zjp:=mkT z75 z76 fun pts v news hp=>by
 unfold zjp at hp
 split at hp
 ·exact fin3 (y6x ..) hp
 ·cases hp
def zza  : Option (Nat)→Option (AV×List Blk)
 | some r=>some ((.v (.one (.flt .f64 r))),[])
 | none=>none
def zyh:List PT→Option (Bool×AV×List Blk)
 | [.one (.s (.flt .f64 x))]=>sF zza (ze4 x)
 | _=>none
theorem yc0:ev8 Γ0 168 [.one (.s (.flt .f64 a0))]=zza (ze4 a0):=tr2 (y8x a0 zza rfl (fun c0_=>some c0_)) (by kernel_rfl)
theorem yaa:SumOne J 168 zyh:=mkT z75 z76 fun pts v news hp=>by
 unfold zyh at hp
 split at hp
 ·exact fin3 (yc0 ..) hp
 ·cases hp
def tb1:List (Nat×(List PT→Option (Bool×AV×List Blk))):=(35,zk0)::(52,zpz)::(65,zmk)::(68,zsb)::(71,zio)::(84,zj7)::(117,zhm)::(118,zja)::(134,zma)::(142,zd1)::(151,zpk)::(152,zgk)::(158,zz5)::(162,zrq)::(163,zjp)::(168,zyh)::tb0
def lt1:List ((Nat×Nat)×(Nat→St→Option (Bool×LO))):=lt0
def Γ1:Ctx:=⟨tyTab,fnTab,tblSum tb1,tblLp lt1⟩
theorem z62:SumL J tb1:=SumL.cons y1u (SumL.cons y6c (SumL.cons y2a (SumL.cons y7p (SumL.cons zyq (SumL.cons y0j (SumL.cons zyy (SumL.cons y0t (SumL.cons y34 (SumL.cons ztg (SumL.cons y77 (SumL.cons zxo (SumL.cons yab (SumL.cons y7o (SumL.cons y1v (SumL.cons yaa (z75))))))))))))))))
theorem z61:LpL J fnTab lt1:=z76
def zoq  : Option (Nat×Bool)→Option (AV×List Blk)
 | some r=>some ((.tup [(.one (.flt .f32 r.1)),(.one (.bool r.2))]),[])
 | none=>none
def zny:List PT→Option (Bool×AV×List Blk)
 | [.one (.s (.flt .f32 x))]=>sF zoq (z6a x)
 | _=>none
theorem y9d:ev8 Γ1 59 [.one (.s (.flt .f32 a0))]=zoq (z6a a0):=tr2 (y2x a0 zoq rfl (fun c0_ c1_=>some (c0_,c1_))) (by kernel_rfl)
theorem y4l:SumOne J 59 zny:=mkT z62 z61 fun pts v news hp=>by
 unfold zny at hp
 split at hp
 ·exact fin3 (y9d ..) hp
 ·cases hp
def zkc  : Option (Int)→Option (AV×List Blk)
 | some r=>some ((.v (.one (.int .i64 r))),[])
 | none=>none
def zk3:List PT→Option (Bool×AV×List Blk)
 | [.agg [.row 1 q1r (.fl .f32 q25),.row 1 q1y (.fl .f32 q28),.row 1 q1z (.fl .f32 q2a)],.one (.s (.int .i64 q2j))]=>sF zkc (z60 q1r q25 q1y q28 q1z q2a q2j)
 | _=>none
theorem y6w:ev8 Γ1 70 [.agg [.row 1 a0 (.fl .f32 g1),.row 1 a2 (.fl .f32 g3),.row 1 a4 (.fl .f32 g5)],.one (.s (.int .i64 c6))]=zkc (z60 a0 g1 a2 g3 a4 g5 c6):=tr2 (zyf a0 g1 a2 g3 a4 g5 c6 zkc rfl (fun c0_=>some c0_)) (by kernel_rfl)
theorem y1t:SumOne J 70 zk3:=mkT z62 z61 fun pts v news hp=>by
 unfold zk3 at hp
 split at hp
 ·exact fin3 (y6w ..) hp
 ·cases hp
def zk9  : Option (Nat×Bool)→Option (AV×List Blk)
 | some r=>some ((.tup [(.one (.flt .f32 r.1)),(.one (.bool r.2))]),[])
 | none=>none
def zk7:List PT→Option (Bool×AV×List Blk)
 | [.one (.s (.flt .f32 x))]=>sF zk9 (z4j x)
 | _=>none
theorem y6g:ev8 Γ1 72 [.one (.s (.flt .f32 a0))]=zk9 (z4j a0):=tr2 (zzp a0 zk9 rfl (fun c0_ c1_=>some (c0_,c1_))) (by kernel_rfl)
theorem y0w:SumOne J 72 zk7:=mkT z62 z61 fun pts v news hp=>by
 unfold zk7 at hp
 split at hp
 ·exact fin3 (y6g ..) hp
 ·cases hp
def zlo  : Option (Bool)→Option (AV×List Blk)
 | some r=>some ((.v (.one (.bool r))),[])
 | none=>none
def zmr:List PT→Option (Bool×AV×List Blk)
 | [.one (.s (.flt .f32 x))]=>sF zlo (z6k x)
 | _=>none
theorem y7w:ev8 Γ1 83 [.one (.s (.flt .f32 a0))]=zlo (z6k a0):=tr2 (y0m a0 zlo rfl (fun c0_=>some c0_)) (by kernel_rfl)
theorem y3h:SumOne J 83 zmr:=mkT z62 z61 fun pts v news hp=>by
 unfold zmr at hp
 split at hp
 ·exact fin3 (y7w ..) hp
 ·cases hp
def zoi  : Option (Bool)→Option (AV×List Blk)
 | some r=>some ((.v (.one (.bool r))),[])
 | none=>none
def znt:List PT→Option (Bool×AV×List Blk)
 | [.one (.s (.flt .f32 x))]=>sF zoi (z7b x)
 | _=>none
theorem y9i:ev8 Γ1 90 [.one (.s (.flt .f32 a0))]=zoi (z7b a0):=tr2 (y28 a0 zoi rfl (fun c0_=>some c0_)) (by kernel_rfl)
theorem y46:SumOne J 90 znt:=mkT z62 z61 fun pts v news hp=>by
 unfold znt at hp
 split at hp
 ·exact fin3 (y9i ..) hp
 ·cases hp
def zeb  : Option (Bool)→Option (AV×List Blk)
 | some r=>some ((.v (.one (.bool r))),[])
 | none=>none
def ze1:List PT→Option (Bool×AV×List Blk)
 | [.one (.s (.flt .f32 x))]=>sF zeb (z3q x)
 | _=>none
theorem zyb:ev8 Γ1 115 [.one (.s (.flt .f32 a0))]=zeb (z3q a0):=tr2 (zt6 a0 zeb rfl (fun c0_=>some c0_)) (by kernel_rfl)
theorem zue:SumOne J 115 ze1:=mkT z62 z61 fun pts v news hp=>by
 unfold ze1 at hp
 split at hp
 ·exact fin3 (zyb ..) hp
 ·cases hp
def zju  : Option (Bool)→Option (AV×List Blk)
 | some r=>some ((.v (.one (.bool r))),[])
 | none=>none
def zk8:List PT→Option (Bool×AV×List Blk)
 | [.agg [.s (.flt .f32 q2p),.s (.flt .f32 q2s),.s (.flt .f32 q2r)],.agg [.s (.flt .f32 q37),.s (.flt .f32 q3c),.s (.flt .f32 q3a)]]=>sF zju (z5u q2p q2s q2r q37 q3c q3a)
 | _=>none
theorem y6z:ev8 Γ1 119 [.agg [.s (.flt .f32 a0),.s (.flt .f32 a1),.s (.flt .f32 a2)],.agg [.s (.flt .f32 a3),.s (.flt .f32 a4),.s (.flt .f32 a5)]]=zju (z5u a0 a1 a2 a3 a4 a5):=tr2 (zym a0 a1 a2 a3 a4 a5 zju rfl (fun c0_=>some c0_)) (by kernel_rfl)
theorem y0h:SumOne J 119 zk8:=mkT z62 z61 fun pts v news hp=>by
 unfold zk8 at hp
 split at hp
 ·exact fin3 (y6z ..) hp
 ·cases hp
def zla  : Option (Bool)→Option (AV×List Blk)
 | some r=>some ((.v (.one (.bool r))),[])
 | none=>none
def zmo:List PT→Option (Bool×AV×List Blk)
 | [.one (.s (.flt .f32 x))]=>sF zla (z6h x)
 | _=>none
theorem y7u:ev8 Γ1 121 [.one (.s (.flt .f32 a0))]=zla (z6h a0):=tr2 (y0s a0 zla rfl (fun c0_=>some c0_)) (by kernel_rfl)
theorem y26:SumOne J 121 zmo:=mkT z62 z61 fun pts v news hp=>by
 unfold zmo at hp
 split at hp
 ·exact fin3 (y7u ..) hp
 ·cases hp
def zlm  : Option (Bool)→Option (AV×List Blk)
 | some r=>some ((.v (.one (.bool r))),[])
 | none=>none
def zn2:List PT→Option (Bool×AV×List Blk)
 | [.ptr [.row 1 q00 (.fl .f32 q03),.row 1 q02 (.fl .f32 q04),.row 1 q01 (.fl .f32 q05),.row 3 q06 (.fl .f32 q07),.s (.int .i64 q0e),.s (.flt .f32 q0j),.s (.flt .f32 q0k)],.one (.s (.int .i64 i)),.one (.s (.flt .f32 q0l))]=>sF zlm (z6j q00 q03 q02 q04 q01 q05 q06 q07 q0e q0j q0k i q0l)
 | _=>none
theorem y7y:ev8 Γ1 128 [.ptr [.row 1 a0 (.fl .f32 g1),.row 1 a2 (.fl .f32 g3),.row 1 a4 (.fl .f32 g5),.row 3 a6 (.fl .f32 g7),.s (.int .i64 c8),.s (.flt .f32 a9),.s (.flt .f32 a10)],.one (.s (.int .i64 c11)),.one (.s (.flt .f32 a12))]=zlm (z6j a0 g1 a2 g3 a4 g5 a6 g7 c8 a9 a10 c11 a12):=tr2 (y1l a0 g1 a2 g3 a4 g5 a6 g7 c8 a9 a10 c11 a12 zlm rfl (fun c0_=>some c0_)) (by kernel_rfl)
theorem y2o:SumOne J 128 zn2:=mkT z62 z61 fun pts v news hp=>by
 unfold zn2 at hp
 split at hp
 ·exact fin3 (y7y ..) hp
 ·cases hp
def zq4  : Option (Nat×Nat×Bool)→Option (AV×List Blk)
 | some r=>some ((.tup [(.one (.flt .f32 r.1)),(.one (.flt .f32 r.2.1)),(.one (.bool r.2.2))]),[])
 | none=>none
def zq7:List PT→Option (Bool×AV×List Blk)
 | [.one (.s (.flt .f32 x)),.one (.s (.flt .f32 y))]=>sF zq4 (z5m x y)
 | _=>none
theorem yah:ev8 Γ1 131 [.one (.s (.flt .f32 a0)),.one (.s (.flt .f32 a1))]=zq4 (z5m a0 a1):=tr2 (y4n a0 a1 zq4 rfl (fun c0_ c1_ c2_=>some (c0_,c1_,c2_))) (by kernel_rfl)
theorem y6u:SumOne J 131 zq7:=mkT z62 z61 fun pts v news hp=>by
 unfold zq7 at hp
 split at hp
 ·exact fin3 (yah ..) hp
 ·cases hp
def zga  : Option (Bool)→Option (AV×List Blk)
 | some r=>some ((.v (.one (.bool r))),[])
 | none=>none
def zgj:List PT→Option (Bool×AV×List Blk)
 | [.one (.s (.flt .f32 x))]=>sF zga (z4d x)
 | _=>none
theorem y3d:ev8 Γ1 153 [.one (.s (.flt .f32 a0))]=zga (z4d a0):=tr2 (zw4 a0 zga rfl (fun c0_=>some c0_)) (by kernel_rfl)
theorem zx7:SumOne J 153 zgj:=mkT z62 z61 fun pts v news hp=>by
 unfold zgj at hp
 split at hp
 ·exact fin3 (y3d ..) hp
 ·cases hp
def zbn  : Option (Bool)→Option (AV×List Blk)
 | some r=>some ((.v (.one (.bool r))),[])
 | none=>none
def zb5:List PT→Option (Bool×AV×List Blk)
 | [.agg [.row 1 q00 (.fl .f32 q03),.row 1 q02 (.fl .f32 q04),.row 1 q01 (.fl .f32 q05),.row 3 q06 (.fl .f32 q07),.s (.int .i64 q0e),.s (.flt .f32 q0j),.s (.flt .f32 q0k)],.one (.s (.int .i64 i))]=>sF zbn (z2t q00 q03 q02 q04 q01 q05 q06 q07 q0e q0j q0k i)
 | _=>none
theorem zv5:ev8 Γ1 155 [.agg [.row 1 a0 (.fl .f32 g1),.row 1 a2 (.fl .f32 g3),.row 1 a4 (.fl .f32 g5),.row 3 a6 (.fl .f32 g7),.s (.int .i64 c8),.s (.flt .f32 a9),.s (.flt .f32 a10)],.one (.s (.int .i64 c11))]=zbn (z2t a0 g1 a2 g3 a4 g5 a6 g7 c8 a9 a10 c11):=tr2 (zpe a0 g1 a2 g3 a4 g5 a6 g7 c8 a9 a10 c11 zbn rfl (fun c0_=>some c0_)) (by kernel_rfl)
theorem zrk:SumOne J 155 zb5:=mkT z62 z61 fun pts v news hp=>by
 unfold zb5 at hp
 split at hp
 ·exact fin3 (zv5 ..) hp
 ·cases hp
def zpj  : Option (Bool)→Option (AV×List Blk)
 | some r=>some ((.v (.one (.bool r))),[])
 | none=>none
def zq6:List PT→Option (Bool×AV×List Blk)
 | [.one (.s (.flt .f32 q1p))]=>sF zpj (z8a q1p)
 | _=>none
theorem yai:ev8 Γ1 156 [.one (.s (.flt .f32 a0))]=zpj (z8a a0):=tr2 (y55 a0 zpj rfl (fun c0_=>some c0_)) (by kernel_rfl)
theorem y79:SumOne J 156 zq6:=mkT z62 z61 fun pts v news hp=>by
 unfold zq6 at hp
 split at hp
 ·exact fin3 (yai ..) hp
 ·cases hp
def zps  : Option (Bool)→Option (AV×List Blk)
 | some r=>some ((.v (.one (.bool r))),[])
 | none=>none
def zq0:List PT→Option (Bool×AV×List Blk)
 | [.one (.s (.flt .f64 x))]=>sF zps (z8d x)
 | _=>none
theorem yaq:ev8 Γ1 159 [.one (.s (.flt .f64 a0))]=zps (z8d a0):=tr2 (y49 a0 zps rfl (fun c0_=>some c0_)) (by kernel_rfl)
theorem y5y:SumOne J 159 zq0:=mkT z62 z61 fun pts v news hp=>by
 unfold zq0 at hp
 split at hp
 ·exact fin3 (yaq ..) hp
 ·cases hp
def z8w:St:=(.mk [(x0V 0 0 a0 1),(x0S 3 1 a1 1),(x0I 4 c2)] [(x0L g3),(x0T g4)])
def zd7:St:=(.mk [(x0V 0 0 a0 1),(x0S 3 1 a1 1),(x0I 4 c3),(x0B 11 e4)] [(x0L g2),(x0T g5)])
def zdr:Option ((Int×Bool×(List Nat)))→Option (Ex×St)
 | none=>none
 | some r=>some ((.exit 0),(zd7 a0 a1 g2 r.1 r.2.1 r.2.2))
def zkz (x:Option ((Int×Bool×(List Nat)))):LO:=(.one (.exit 0) (zd7 a0 a1 g2 (x.getD default).1 (x.getD default).2.1 (x.getD default).2.2))
def zvg:Bool×LO:=sL (zkz a0 a1 g3) (z15 a0 a1 g3 big c2 g4)
def zm0:Nat→St→Option (Bool×LO):=lpT 1 (pSt [(x1V 0 0 1),(x1S 3 1 1),(x1I 4)] [x1L,x1T]) (fun hs=>zvg (hN hs 0) (hN hs 1) (hI hs 2) (hLn hs 3) (hLn hs 4))
theorem zzq:∀ x:Option ((Int×Bool×(List Nat))),x.isSome=true→(zdr a0 a1 g2) x=some (pick (zkz a0 a1 g2 x))
 | none,h=>by cases h
 | some r,_=>rfl
theorem zzk (K:Ex→St→Option (Ex×St)):ev9 Γ1 45 3 1 fi45 (z8w a0 a1 c2 g3 g4) K=z20 a0 a1 g3 c2 g4 (fun i' b1'=>K .normal (z8w a0 a1 i' g3 b1')) (fun c0_ c1_ c2_=>K (.exit 0) (zd7 a0 a1 g3 c0_ c1_ c2_)):=by kernel_rfl
theorem zyl:∀ (n:Nat) (i:Int) (b1:List Nat),iter 45 3 1 (ev9 Γ1 45 3 1 fi45) n (z8w a0 a1 i g2 b1) (fun e st=>some (e,st))=(zdr a0 a1 g2) (z15 a0 a1 g2 n i b1):=by
 intro n
 induction n with
 | zero=>intros;rfl
 | succ n ih=>
  intro i b1
  refine Eq.trans (iter_succ ..) (Eq.trans (zzk ..) (Eq.trans ?_ (zs1 a0 a1 g2 i b1 (zdr a0 a1 g2) rfl (fun i' b1'=>z15 a0 a1 g2 n i' b1') (fun c0_ c1_ c2_=>some (c0_,c1_,c2_)))))
  exact congrArg (fun kn_=>z20 a0 a1 g2 i b1 kn_ _) (funext fun i'=>funext fun b1'=>ih ..)
theorem zu5:LoopOne J fnTab 45 3 zm0:=lpK z62 z61 (fi:=fi45) (by kernel_rfl) (by kernel_rfl) (q:=fun hs=>(z8w (hN hs 0) (hN hs 1) (hI hs 2) (hLn hs 3) (hLn hs 4))) (fun hs=>by kernel_rfl) fun hs h1=>Eq.trans (zyl (hN hs 0) (hN hs 1) (hLn hs 3) big (hI hs 2) (hLn hs 4)) (zzq (hN hs 0) (hN hs 1) (hLn hs 3) _ h1)
def z71:St:=(.mk [(x0V 1 4 a0 1),(x0P 2 5 7),(x0F 5 a1),(x0I 6 c2)] [(x0L g3),(x0L g4),(x0L g5),(x0L g6),(x0L g7),(x0R true 0 1 2 3 a8 a9 a10 a11 c12 a13 a14)])
def z9e:St:=(.mk [(x0V 1 4 a0 1),(x0P 2 5 7),(x0F 5 a13),(x0I 6 c14),(x0B 11 e15)] [(x0L g1),(x0L g2),(x0L g3),(x0L g4),(x0L g5),(x0R true 0 1 2 3 a6 a7 a8 a9 c10 a11 a12)])
def za6:Option ((Nat×Int×Bool))→Option (Ex×St)
 | none=>none
 | some r=>some ((.exit 0),(z9e a0 g1 g2 g3 g4 g5 a6 a7 a8 a9 c10 a11 a12 r.1 r.2.1 r.2.2))
def zgo (x:Option ((Nat×Int×Bool))):LO:=(.one (.exit 0) (z9e a0 g1 g2 g3 g4 g5 a6 a7 a8 a9 c10 a11 a12 (x.getD default).1 (x.getD default).2.1 (x.getD default).2.2))
def zri:Bool×LO:=sL (zgo a0 g3 g4 g5 g6 g7 a8 a9 a10 a11 c12 a13 a14) (z0d a0 g6 g7 a11 big a1 c2)
def zhj:Nat→St→Option (Bool×LO):=lpT 5 (pSt [(x1V 1 4 1),(x1P 2 5 7),(x1F 5),(x1I 6)] [x1L,x1L,x1L,x1L,x1L,(x1R true 0 1 2 3)]) (fun hs=>zri (hN hs 0) (hN hs 1) (hI hs 2) (hLn hs 3) (hLn hs 4) (hLn hs 5) (hLn hs 6) (hLn hs 7) (hN hs 8) (hN hs 9) (hN hs 10) (hN hs 11) (hI hs 12) (hN hs 13) (hN hs 14))
theorem zuf:∀ x:Option ((Nat×Int×Bool)),x.isSome=true→(za6 a0 g1 g2 g3 g4 g5 a6 a7 a8 a9 c10 a11 a12) x=some (pick (zgo a0 g1 g2 g3 g4 g5 a6 a7 a8 a9 c10 a11 a12 x))
 | none,h=>by cases h
 | some r,_=>rfl
theorem ztn (K:Ex→St→Option (Ex×St)):ev9 Γ1 60 3 5 fi60 (z71 a0 a1 c2 g3 g4 g5 g6 g7 a8 a9 a10 a11 c12 a13 a14) K=z19 a0 g6 g7 a11 a1 c2 (fun all' i'=>K .normal (z71 a0 all' i' g3 g4 g5 g6 g7 a8 a9 a10 a11 c12 a13 a14)) (fun c0_ c1_ c2_=>K (.exit 0) (z9e a0 g3 g4 g5 g6 g7 a8 a9 a10 a11 c12 a13 a14 c0_ c1_ c2_)):=by kernel_rfl
theorem ztx:∀ (n all:Nat) (i:Int),iter 60 3 5 (ev9 Γ1 60 3 5 fi60) n (z71 a0 all i g1 g2 g3 g4 g5 a6 a7 a8 a9 c10 a11 a12) (fun e st=>some (e,st))=(za6 a0 g1 g2 g3 g4 g5 a6 a7 a8 a9 c10 a11 a12) (z0d a0 g4 g5 a9 n all i):=by
 intro n
 induction n with
 | zero=>intros;rfl
 | succ n ih=>
  intro all i
  refine Eq.trans (iter_succ ..) (Eq.trans (ztn ..) (Eq.trans ?_ (zp5 a0 g4 g5 a9 all i (za6 a0 g1 g2 g3 g4 g5 a6 a7 a8 a9 c10 a11 a12) rfl (fun all' i'=>z0d a0 g4 g5 a9 n all' i') (fun c0_ c1_ c2_=>some (c0_,c1_,c2_)))))
  exact congrArg (fun kn_=>z19 a0 g4 g5 a9 all i kn_ _) (funext fun all'=>funext fun i'=>ih ..)
theorem zq5:LoopOne J fnTab 60 3 zhj:=lpK z62 z61 (fi:=fi60) (by kernel_rfl) (by kernel_rfl) (q:=fun hs=>(z71 (hN hs 0) (hN hs 1) (hI hs 2) (hLn hs 3) (hLn hs 4) (hLn hs 5) (hLn hs 6) (hLn hs 7) (hN hs 8) (hN hs 9) (hN hs 10) (hN hs 11) (hI hs 12) (hN hs 13) (hN hs 14))) (fun hs=>by kernel_rfl) fun hs h1=>Eq.trans (ztx (hN hs 0) (hLn hs 3) (hLn hs 4) (hLn hs 5) (hLn hs 6) (hLn hs 7) (hN hs 8) (hN hs 9) (hN hs 10) (hN hs 11) (hI hs 12) (hN hs 13) (hN hs 14) big (hN hs 1) (hI hs 2)) (zuf (hN hs 0) (hLn hs 3) (hLn hs 4) (hLn hs 5) (hLn hs 6) (hLn hs 7) (hN hs 8) (hN hs 9) (hN hs 10) (hN hs 11) (hI hs 12) (hN hs 13) (hN hs 14) _ h1)
def zey:St:=(.mk [(x0P 0 4 7),(x0V 1 5 a0 1),(x0F 5 a1),(x0I 6 c2)] [(x0L g3),(x0L g4),(x0L g5),(x0L g6),(x0R false 0 1 2 3 a7 a8 a9 a10 c11 a12 a13),(x0L g14)])
def zhz:St:=(.mk [(x0P 0 4 7),(x0V 1 5 a0 1),(x0F 5 a13),(x0I 6 c14),(x0B 12 e15)] [(x0L g1),(x0L g2),(x0L g3),(x0L g4),(x0R false 0 1 2 3 a5 a6 a7 a8 c9 a10 a11),(x0L g12)])
def zjh:Option ((Nat×Int×Bool))→Option (Ex×St)
 | none=>none
 | some r=>some ((.exit 0),(zhz a0 g1 g2 g3 g4 a5 a6 a7 a8 c9 a10 a11 g12 r.1 r.2.1 r.2.2))
def zr6 (x:Option ((Nat×Int×Bool))):LO:=(.one (.exit 0) (zhz a0 g1 g2 g3 g4 a5 a6 a7 a8 c9 a10 a11 g12 (x.getD default).1 (x.getD default).2.1 (x.getD default).2.2))
def y2t:Bool×LO:=sL (zr6 a0 g3 g4 g5 g6 a7 a8 a9 a10 c11 a12 a13 g14) (z0w a0 g6 a10 g14 big a1 c2)
def zsw:Nat→St→Option (Bool×LO):=lpT 6 (pSt [(x1P 0 4 7),(x1V 1 5 1),(x1F 5),(x1I 6)] [x1L,x1L,x1L,x1L,(x1R false 0 1 2 3),x1L]) (fun hs=>y2t (hN hs 0) (hN hs 1) (hI hs 2) (hLn hs 3) (hLn hs 4) (hLn hs 5) (hLn hs 6) (hN hs 7) (hN hs 8) (hN hs 9) (hN hs 10) (hI hs 11) (hN hs 12) (hN hs 13) (hLn hs 14))
theorem y6e:∀ x:Option ((Nat×Int×Bool)),x.isSome=true→(zjh a0 g1 g2 g3 g4 a5 a6 a7 a8 c9 a10 a11 g12) x=some (pick (zr6 a0 g1 g2 g3 g4 a5 a6 a7 a8 c9 a10 a11 g12 x))
 | none,h=>by cases h
 | some r,_=>rfl
theorem y7c (K:Ex→St→Option (Ex×St)):ev9 Γ1 73 3 6 fi73 (zey a0 a1 c2 g3 g4 g5 g6 a7 a8 a9 a10 c11 a12 a13 g14) K=z3p a0 g6 a10 g14 a1 c2 (fun sum' i'=>K .normal (zey a0 sum' i' g3 g4 g5 g6 a7 a8 a9 a10 c11 a12 a13 g14)) (fun c0_ c1_ c2_=>K (.exit 0) (zhz a0 g3 g4 g5 g6 a7 a8 a9 a10 c11 a12 a13 g14 c0_ c1_ c2_)):=by kernel_rfl
theorem y6h:∀ (n sum:Nat) (i:Int),iter 73 3 6 (ev9 Γ1 73 3 6 fi73) n (zey a0 sum i g1 g2 g3 g4 a5 a6 a7 a8 c9 a10 a11 g12) (fun e st=>some (e,st))=(zjh a0 g1 g2 g3 g4 a5 a6 a7 a8 c9 a10 a11 g12) (z0w a0 g4 a8 g12 n sum i):=by
 intro n
 induction n with
 | zero=>intros;rfl
 | succ n ih=>
  intro sum i
  refine Eq.trans (iter_succ ..) (Eq.trans (y7c ..) (Eq.trans ?_ (zy6 a0 g4 a8 g12 sum i (zjh a0 g1 g2 g3 g4 a5 a6 a7 a8 c9 a10 a11 g12) rfl (fun sum' i'=>z0w a0 g4 a8 g12 n sum' i') (fun c0_ c1_ c2_=>some (c0_,c1_,c2_)))))
  exact congrArg (fun kn_=>z3p a0 g4 a8 g12 sum i kn_ _) (funext fun sum'=>funext fun i'=>ih ..)
theorem y20:LoopOne J fnTab 73 3 zsw:=lpK z62 z61 (fi:=fi73) (by kernel_rfl) (by kernel_rfl) (q:=fun hs=>(zey (hN hs 0) (hN hs 1) (hI hs 2) (hLn hs 3) (hLn hs 4) (hLn hs 5) (hLn hs 6) (hN hs 7) (hN hs 8) (hN hs 9) (hN hs 10) (hI hs 11) (hN hs 12) (hN hs 13) (hLn hs 14))) (fun hs=>by kernel_rfl) fun hs h1=>Eq.trans (y6h (hN hs 0) (hLn hs 3) (hLn hs 4) (hLn hs 5) (hLn hs 6) (hN hs 7) (hN hs 8) (hN hs 9) (hN hs 10) (hI hs 11) (hN hs 12) (hN hs 13) (hLn hs 14) big (hN hs 1) (hI hs 2)) (y6e (hN hs 0) (hLn hs 3) (hLn hs 4) (hLn hs 5) (hLn hs 6) (hN hs 7) (hN hs 8) (hN hs 9) (hN hs 10) (hI hs 11) (hN hs 12) (hN hs 13) (hLn hs 14) _ h1)
def z4u:St:=(.mk [(x0V 0 0 a0 1),(x0B 1 e1),(x0I 7 c2),(x0I 8 c3)] [(.mk false (.bl m4))])
def z6w(sn:Nat)(v:Bool)(t7:Int)(b0:List Bool)(c0_:Int):St:=(.mk [(x0I 4 c0_)] [(.mk false (.bl b0))])
def z6y:St:=(.mk [(x0V 0 0 a0 1),(x0B 1 e1),(x0I 7 c2),(x0I 8 c4),(x0B 9 e5)] [(.mk false (.bl m3))])
def z7c:Option ((Int)⊕(Int×Bool))→Option (Ex×St)
 | none=>none
 | some (Sum.inl r)=>some (.ret,(z6w a0 e1 c2 m3 r))
 | some (Sum.inr r)=>some ((.exit 0),(z6y a0 e1 c2 m3 r.1 r.2))
def zbq (x:Option ((Int)⊕(Int×Bool))):LO:=(.two (oL x) (.one .ret (z6w a0 e1 c2 m3 ((tL x).getD default))) (.one (.exit 0) (z6y a0 e1 c2 m3 ((tR x).getD default).1 ((tR x).getD default).2)))
def zly:Bool×LO:=sL (zbq a0 e1 c2 m4) (z04 a0 e1 c2 m4 big c3)
def zcs:Nat→St→Option (Bool×LO):=lpT 1 (pSt [(x1V 0 0 1),(x1B 1),(x1I 7),(x1I 8)] [(pBlk false pBl)]) (fun hs=>zly (hN hs 0) (hB hs 1) (hI hs 2) (hI hs 3) (hLb hs 4))
theorem zop:∀ x:Option ((Int)⊕(Int×Bool)),x.isSome=true→(z7c a0 e1 c2 m3) x=some (pick (zbq a0 e1 c2 m3 x))
 | none,h=>by cases h
 | some (Sum.inl r),_=>rfl
 | some (Sum.inr r),_=>rfl
theorem zot (K:Ex→St→Option (Ex×St)):ev9 Γ1 113 2 1 fi113 (z4u a0 e1 c2 c3 m4) K=z0u a0 e1 c2 m4 c3 (fun t8'=>K .normal (z4u a0 e1 c2 t8' m4)) (fun c0_=>K .ret (z6w a0 e1 c2 m4 c0_)) (fun c0_ c1_=>K (.exit 0) (z6y a0 e1 c2 m4 c0_ c1_)):=by kernel_rfl
theorem zof:∀ (n:Nat) (t8:Int),iter 113 2 1 (ev9 Γ1 113 2 1 fi113) n (z4u a0 e1 c2 t8 m3) (fun e st=>some (e,st))=(z7c a0 e1 c2 m3) (z04 a0 e1 c2 m3 n t8):=by
 intro n
 induction n with
 | zero=>intros;rfl
 | succ n ih=>
  intro t8
  refine Eq.trans (iter_succ ..) (Eq.trans (zot ..) (Eq.trans ?_ (zjv a0 e1 c2 m3 t8 (z7c a0 e1 c2 m3) rfl (fun t8'=>z04 a0 e1 c2 m3 n t8') (fun c0_=>some (Sum.inl c0_)) (fun c0_ c1_=>some (Sum.inr (c0_,c1_))))))
  exact congrArg (fun kn_=>z0u a0 e1 c2 m3 t8 kn_ _ _) (funext fun t8'=>ih ..)
theorem zl9:LoopOne J fnTab 113 2 zcs:=lpK z62 z61 (fi:=fi113) (by kernel_rfl) (by kernel_rfl) (q:=fun hs=>(z4u (hN hs 0) (hB hs 1) (hI hs 2) (hI hs 3) (hLb hs 4))) (fun hs=>by kernel_rfl) fun hs h1=>Eq.trans (zof (hN hs 0) (hB hs 1) (hI hs 2) (hLb hs 4) big (hI hs 3)) (zop (hN hs 0) (hB hs 1) (hI hs 2) (hLb hs 4) _ h1)
def tb2:List (Nat×(List PT→Option (Bool×AV×List Blk))):=(59,zny)::(70,zk3)::(72,zk7)::(83,zmr)::(90,znt)::(115,ze1)::(119,zk8)::(121,zmo)::(128,zn2)::(131,zq7)::(153,zgj)::(155,zb5)::(156,zq6)::(159,zq0)::tb1
def lt2:List ((Nat×Nat)×(Nat→St→Option (Bool×LO))):=((45,3),zm0)::((60,3),zhj)::((73,3),zsw)::((113,2),zcs)::lt1
def Γ2:Ctx:=⟨tyTab,fnTab,tblSum tb2,tblLp lt2⟩
theorem zf3:SumL J tb2:=SumL.cons y4l (SumL.cons y1t (SumL.cons y0w (SumL.cons y3h (SumL.cons y46 (SumL.cons zue (SumL.cons y0h (SumL.cons y26 (SumL.cons y2o (SumL.cons y6u (SumL.cons zx7 (SumL.cons zrk (SumL.cons y79 (SumL.cons y5y (z62))))))))))))))
theorem zf5:LpL J fnTab lt2:=LpL.cons zu5 (LpL.cons zq5 (LpL.cons y20 (LpL.cons zl9 (z61))))
def zo9  : Option (Int)→Option (AV×List Blk)
 | some r=>some ((.v (.one (.int .i64 r))),[])
 | none=>none
def zoh:List PT→Option (Bool×AV×List Blk)
 | [.agg [.row 1 q0x (.fl .f32 q1c),.row 1 q0z (.fl .f32 q1g),.row 1 q13 (.fl .f32 q1f),.row 3 q1o (.fl .f32 q1v),.s (.int .i64 q27),.s (.flt .f32 q2d),.s (.flt .f32 q2c)],.one (.s (.int .i64 q2j))]=>sF zo9 (z7i q0x q1c q0z q1g q13 q1f q1o q1v q27 q2d q2c q2j)
 | _=>none
theorem y8p:ev8 Γ2 32 [.agg [.row 1 a0 (.fl .f32 g1),.row 1 a2 (.fl .f32 g3),.row 1 a4 (.fl .f32 g5),.row 3 a6 (.fl .f32 g7),.s (.int .i64 c8),.s (.flt .f32 a9),.s (.flt .f32 a10)],.one (.s (.int .i64 c11))]=zo9 (z7i a0 g1 a2 g3 a4 g5 a6 g7 c8 a9 a10 c11):=tr2 (y2y a0 g1 a2 g3 a4 g5 a6 g7 c8 a9 a10 c11 zo9 rfl (fun c0_=>some c0_)) (by kernel_rfl)
theorem y5f:SumOne J 32 zoh:=mkT zf3 zf5 fun pts v news hp=>by
 unfold zoh at hp
 split at hp
 ·exact fin3 (y8p ..) hp
 ·cases hp
def zht  : Option (Nat×(List Nat))→Option (AV×List Blk)
 | some r=>some ((.v (.one (.sl 0 0 r.1 1))),[(.mk true (.fl .f32 r.2))])
 | none=>none
def zhy:List PT→Option (Bool×AV×List Blk)
 | [.one (.row 1 a_n (.fl .f32 a))]=>sF zht (z3w a_n a)
 | _=>none
theorem y5q:ev8 Γ2 45 [.one (.row 1 a0 (.fl .f32 g1))]=zht (z3w a0 g1):=tr2 (zx4 a0 g1 zht rfl (fun c0_ c1_=>some (c0_,c1_))) (by kernel_rfl)
theorem zz6:SumOne J 45 zhy:=mkT zf3 zf5 fun pts v news hp=>by
 unfold zhy at hp
 split at hp
 ·exact fin3 (y5q ..) hp
 ·cases hp
def zep  : Option (Nat)→Option (AV×List Blk)
 | some r=>some ((.v (.one (.flt .f32 r))),[])
 | none=>none
def zds:List PT→Option (Bool×AV×List Blk)
 | [.agg [.row 1 q00 (.fl .f32 q03),.row 1 q02 (.fl .f32 q04),.row 1 q01 (.fl .f32 q05),.row 3 q06 (.fl .f32 q07),.s (.int .i64 q0e),.s (.flt .f32 q0j),.s (.flt .f32 q0k)],.one (.row 1 q1s (.fl .f32 q26))]=>sF zep (z3m q00 q03 q02 q04 q01 q05 q06 q07 q0e q0j q0k q1s q26)
 | _=>none
theorem zyn:ev8 Γ2 60 [.agg [.row 1 a0 (.fl .f32 g1),.row 1 a2 (.fl .f32 g3),.row 1 a4 (.fl .f32 g5),.row 3 a6 (.fl .f32 g7),.s (.int .i64 c8),.s (.flt .f32 a9),.s (.flt .f32 a10)],.one (.row 1 a11 (.fl .f32 g12))]=zep (z3m a0 g1 a2 g3 a4 g5 a6 g7 c8 a9 a10 a11 g12):=tr2 (zrv a0 g1 a2 g3 a4 g5 a6 g7 c8 a9 a10 a11 g12 zep rfl (fun c0_=>some c0_)) (by kernel_rfl)
theorem zts:SumOne J 60 zds:=mkT zf3 zf5 fun pts v news hp=>by
 unfold zds at hp
 split at hp
 ·exact fin3 (zyn ..) hp
 ·cases hp
def zpp  : Option (Nat)→Option (AV×List Blk)
 | some r=>some ((.v (.one (.flt .f32 r))),[])
 | none=>none
def zpo:List PT→Option (Bool×AV×List Blk)
 | [.ptr [.row 1 q00 (.fl .f32 q03),.row 1 q02 (.fl .f32 q04),.row 1 q01 (.fl .f32 q05),.row 3 q06 (.fl .f32 q07),.s (.int .i64 q0e),.s (.flt .f32 q0j),.s (.flt .f32 q0k)],.one (.row 1 q1s (.fl .f32 q26))]=>sF zpp (z8e q00 q03 q02 q04 q01 q05 q06 q07 q0e q0j q0k q1s q26)
 | _=>none
theorem yal:ev8 Γ2 73 [.ptr [.row 1 a0 (.fl .f32 g1),.row 1 a2 (.fl .f32 g3),.row 1 a4 (.fl .f32 g5),.row 3 a6 (.fl .f32 g7),.s (.int .i64 c8),.s (.flt .f32 a9),.s (.flt .f32 a10)],.one (.row 1 a11 (.fl .f32 g12))]=zpp (z8e a0 g1 a2 g3 a4 g5 a6 g7 c8 a9 a10 a11 g12):=tr2 (y5m a0 g1 a2 g3 a4 g5 a6 g7 c8 a9 a10 a11 g12 zpp rfl (fun c0_=>some c0_)) (by kernel_rfl)
theorem y6t:SumOne J 73 zpo:=mkT zf3 zf5 fun pts v news hp=>by
 unfold zpo at hp
 split at hp
 ·exact fin3 (yal ..) hp
 ·cases hp
def z8q  : Option (Int)→Option (AV×List Blk)
 | some r=>some ((.v (.one (.int .i64 r))),[])
 | none=>none
def z8l:List PT→Option (Bool×AV×List Blk)
 | [.one (.row 1 s_n (.bl s)),.one (.s (.bool v))]=>sF z8q (z1z s_n s v)
 | _=>none
theorem zrf:ev8 Γ2 113 [.one (.row 1 a0 (.bl m1)),.one (.s (.bool e2))]=z8q (z1z a0 m1 e2):=tr2 (zn4 a0 m1 e2 z8q rfl (fun c0_=>some c0_)) (by kernel_rfl)
theorem zob:SumOne J 113 z8l:=mkT zf3 zf5 fun pts v news hp=>by
 unfold z8l at hp
 split at hp
 ·exact fin3 (zrf ..) hp
 ·cases hp
def zhp  : Option (Bool)→Option (AV×List Blk)
 | some r=>some ((.v (.one (.bool r))),[])
 | none=>none
def zhn:List PT→Option (Bool×AV×List Blk)
 | [.one (.s (.flt .f32 x))]=>sF zhp (z51 x)
 | _=>none
theorem y5e:ev8 Γ2 154 [.one (.s (.flt .f32 a0))]=zhp (z51 a0):=tr2 (zxt a0 zhp rfl (fun c0_=>some c0_)) (by kernel_rfl)
theorem zyv:SumOne J 154 zhn:=mkT zf3 zf5 fun pts v news hp=>by
 unfold zhn at hp
 split at hp
 ·exact fin3 (y5e ..) hp
 ·cases hp
def zsc  : Option (Nat)→Option (AV×List Blk)
 | some r=>some ((.v (.one (.flt .f64 r))),[])
 | none=>none
def zs7:List PT→Option (Bool×AV×List Blk)
 | [.one (.s (.flt .f64 x))]=>sF zsc (z9i x)
 | _=>none
theorem yat:ev8 Γ2 174 [.one (.s (.flt .f64 a0))]=zsc (z9i a0):=tr2 (y6f a0 zsc rfl (fun c0_=>some c0_)) (by kernel_rfl)
theorem y8c:SumOne J 174 zs7:=mkT zf3 zf5 fun pts v news hp=>by
 unfold zs7 at hp
 split at hp
 ·exact fin3 (yat ..) hp
 ·cases hp
def z8p:St:=(.mk [(x0V 0 0 a0 1),(x0V 1 1 a1 1),(x0I 5 c2)] [(x0L g3),(x0L g4)])
def zcw(an bn:Nat)(b0 b1:List Nat):St:=(.mk [(x0B 4 false)] [(x0L b0),(x0L b1)])
def zcv:St:=(.mk [(x0V 0 0 a0 1),(x0V 1 1 a1 1),(x0I 5 c4),(x0B 14 e5)] [(x0L g2),(x0L g3)])
def zeg:Option ((Unit)⊕(Int×Bool))→Option (Ex×St)
 | none=>none
 | some (Sum.inl r)=>some (.ret,(zcw a0 a1 g2 g3))
 | some (Sum.inr r)=>some ((.exit 0),(zcv a0 a1 g2 g3 r.1 r.2))
def zku (x:Option ((Unit)⊕(Int×Bool))):LO:=(.two (oL x) (.one .ret (zcw a0 a1 g2 g3)) (.one (.exit 0) (zcv a0 a1 g2 g3 ((tR x).getD default).1 ((tR x).getD default).2)))
def zvc:Bool×LO:=sL (zku a0 a1 g3 g4) (z12 a0 a1 g3 g4 big c2)
def zmq:Nat→St→Option (Bool×LO):=lpT 2 (pSt [(x1V 0 0 1),(x1V 1 1 1),(x1I 5)] [x1L,x1L]) (fun hs=>zvc (hN hs 0) (hN hs 1) (hI hs 2) (hLn hs 3) (hLn hs 4))
theorem zyi:∀ x:Option ((Unit)⊕(Int×Bool)),x.isSome=true→(zeg a0 a1 g2 g3) x=some (pick (zku a0 a1 g2 g3 x))
 | none,h=>by cases h
 | some (Sum.inl r),_=>rfl
 | some (Sum.inr r),_=>rfl
theorem zyj (K:Ex→St→Option (Ex×St)):ev9 Γ2 37 4 2 fi37 (z8p a0 a1 c2 g3 g4) K=z1y a0 a1 g3 g4 c2 (fun i'=>K .normal (z8p a0 a1 i' g3 g4)) (fun _=>K .ret (zcw a0 a1 g3 g4)) (fun c0_ c1_=>K (.exit 0) (zcv a0 a1 g3 g4 c0_ c1_)):=by kernel_rfl
theorem zze:∀ (n:Nat) (i:Int),iter 37 4 2 (ev9 Γ2 37 4 2 fi37) n (z8p a0 a1 i g2 g3) (fun e st=>some (e,st))=(zeg a0 a1 g2 g3) (z12 a0 a1 g2 g3 n i):=by
 intro n
 induction n with
 | zero=>intros;rfl
 | succ n ih=>
  intro i
  refine Eq.trans (iter_succ ..) (Eq.trans (zyj ..) (Eq.trans ?_ (zry a0 a1 g2 g3 i (zeg a0 a1 g2 g3) rfl (fun i'=>z12 a0 a1 g2 g3 n i') (fun _=>some (Sum.inl ())) (fun c0_ c1_=>some (Sum.inr (c0_,c1_))))))
  exact congrArg (fun kn_=>z1y a0 a1 g2 g3 i kn_ _ _) (funext fun i'=>ih ..)
theorem zu8:LoopOne J fnTab 37 4 zmq:=lpK zf3 zf5 (fi:=fi37) (by kernel_rfl) (by kernel_rfl) (q:=fun hs=>(z8p (hN hs 0) (hN hs 1) (hI hs 2) (hLn hs 3) (hLn hs 4))) (fun hs=>by kernel_rfl) fun hs h1=>Eq.trans (zze (hN hs 0) (hN hs 1) (hLn hs 3) (hLn hs 4) big (hI hs 2)) (zyi (hN hs 0) (hN hs 1) (hLn hs 3) (hLn hs 4) _ h1)
def z90:St:=(.mk [(x0V 0 0 a0 3),(x0S 3 1 a1 3),(x0I 4 c2)] [(x0L g3),(x0T g4)])
def zcz:St:=(.mk [(x0V 0 0 a0 3),(x0S 3 1 a1 3),(x0I 4 c3),(x0B 11 e4)] [(x0L g2),(x0T g5)])
def zdp:Option ((Int×Bool×(List Nat)))→Option (Ex×St)
 | none=>none
 | some r=>some ((.exit 0),(zcz a0 a1 g2 r.1 r.2.1 r.2.2))
def zl0 (x:Option ((Int×Bool×(List Nat)))):LO:=(.one (.exit 0) (zcz a0 a1 g2 (x.getD default).1 (x.getD default).2.1 (x.getD default).2.2))
def zuz:Bool×LO:=sL (zl0 a0 a1 g3) (z0m a0 a1 g3 big c2 g4)
def zlp:Nat→St→Option (Bool×LO):=lpT 1 (pSt [(x1V 0 0 3),(x1S 3 1 3),(x1I 4)] [x1L,x1T]) (fun hs=>zuz (hN hs 0) (hN hs 1) (hI hs 2) (hLn hs 3) (hLn hs 4))
theorem zzh:∀ x:Option ((Int×Bool×(List Nat))),x.isSome=true→(zdp a0 a1 g2) x=some (pick (zl0 a0 a1 g2 x))
 | none,h=>by cases h
 | some r,_=>rfl
theorem zyw (K:Ex→St→Option (Ex×St)):ev9 Γ2 75 3 1 fi75 (z90 a0 a1 c2 g3 g4) K=z1x a0 a1 g3 c2 g4 (fun i' b1'=>K .normal (z90 a0 a1 i' g3 b1')) (fun c0_ c1_ c2_=>K (.exit 0) (zcz a0 a1 g3 c0_ c1_ c2_)):=by kernel_rfl
theorem zyt:∀ (n:Nat) (i:Int) (b1:List Nat),iter 75 3 1 (ev9 Γ2 75 3 1 fi75) n (z90 a0 a1 i g2 b1) (fun e st=>some (e,st))=(zdp a0 a1 g2) (z0m a0 a1 g2 n i b1):=by
 intro n
 induction n with
 | zero=>intros;rfl
 | succ n ih=>
  intro i b1
  refine Eq.trans (iter_succ ..) (Eq.trans (zyw ..) (Eq.trans ?_ (zs9 a0 a1 g2 i b1 (zdp a0 a1 g2) rfl (fun i' b1'=>z0m a0 a1 g2 n i' b1') (fun c0_ c1_ c2_=>some (c0_,c1_,c2_)))))
  exact congrArg (fun kn_=>z1x a0 a1 g2 i b1 kn_ _) (funext fun i'=>funext fun b1'=>ih ..)
theorem zu2:LoopOne J fnTab 75 3 zlp:=lpK zf3 zf5 (fi:=fi75) (by kernel_rfl) (by kernel_rfl) (q:=fun hs=>(z90 (hN hs 0) (hN hs 1) (hI hs 2) (hLn hs 3) (hLn hs 4))) (fun hs=>by kernel_rfl) fun hs h1=>Eq.trans (zyt (hN hs 0) (hN hs 1) (hLn hs 3) big (hI hs 2) (hLn hs 4)) (zzh (hN hs 0) (hN hs 1) (hLn hs 3) _ h1)
def z7n:St:=(.mk [(x0B 4 e0),(5,(.v (.one (.flt .f64 a1)))),(6,(.v (.one (.flt .f64 a2)))),(7,(.v (.one (.flt .f64 a3)))),(x0I 8 c4)] [])
def za8:St:=(.mk [(x0B 4 e0),(5,(.v (.one (.flt .f64 a1)))),(6,(.v (.one (.flt .f64 a2)))),(7,(.v (.one (.flt .f64 a3)))),(x0I 8 c4),(x0B 44 e5)] [])
def zba:Option ((Nat×Int×Bool))→Option (Ex×St)
 | none=>none
 | some r=>some ((.exit 0),(za8 e0 a1 a2 r.1 r.2.1 r.2.2))
def zhk (x:Option ((Nat×Int×Bool))):LO:=(.one (.exit 0) (za8 e0 a1 a2 (x.getD default).1 (x.getD default).2.1 (x.getD default).2.2))
def zsg:Bool×LO:=sL (zhk e0 a1 a2) (z0j a2 big a3 c4)
def zip:Nat→St→Option (Bool×LO):=lpT 0 (pSt [(x1B 4),(pTm 5 (pV (pOne (pFlt .f64)))),(pTm 6 (pV (pOne (pFlt .f64)))),(pTm 7 (pV (pOne (pFlt .f64)))),(x1I 8)] []) (fun hs=>zsg (hB hs 0) (hN hs 1) (hN hs 2) (hN hs 3) (hI hs 4))
theorem zv4:∀ x:Option ((Nat×Int×Bool)),x.isSome=true→(zba e0 a1 a2) x=some (pick (zhk e0 a1 a2 x))
 | none,h=>by cases h
 | some r,_=>rfl
theorem zw2 (K:Ex→St→Option (Ex×St)):ev9 Γ2 164 17 0 fi164 (z7n e0 a1 a2 a3 c4) K=z1k a2 a3 c4 (fun t7' t8'=>K .normal (z7n e0 a1 a2 t7' t8')) (fun c0_ c1_ c2_=>K (.exit 0) (za8 e0 a1 a2 c0_ c1_ c2_)):=by kernel_rfl
theorem zva:∀ (n t7:Nat) (t8:Int),iter 164 17 0 (ev9 Γ2 164 17 0 fi164) n (z7n e0 a1 a2 t7 t8) (fun e st=>some (e,st))=(zba e0 a1 a2) (z0j a2 n t7 t8):=by
 intro n
 induction n with
 | zero=>intros;rfl
 | succ n ih=>
  intro t7 t8
  refine Eq.trans (iter_succ ..) (Eq.trans (zw2 ..) (Eq.trans ?_ (zpg a2 t7 t8 (zba e0 a1 a2) rfl (fun t7' t8'=>z0j a2 n t7' t8') (fun c0_ c1_ c2_=>some (c0_,c1_,c2_)))))
  exact congrArg (fun kn_=>z1k a2 t7 t8 kn_ _) (funext fun t7'=>funext fun t8'=>ih ..)
theorem zrc:LoopOne J fnTab 164 17 zip:=lpK zf3 zf5 (fi:=fi164) (by kernel_rfl) (by kernel_rfl) (q:=fun hs=>(z7n (hB hs 0) (hN hs 1) (hN hs 2) (hN hs 3) (hI hs 4))) (fun hs=>by kernel_rfl) fun hs h1=>Eq.trans (zva (hB hs 0) (hN hs 1) (hN hs 2) big (hN hs 3) (hI hs 4)) (zv4 (hB hs 0) (hN hs 1) (hN hs 2) _ h1)
def tb3:List (Nat×(List PT→Option (Bool×AV×List Blk))):=(32,zoh)::(45,zhy)::(60,zds)::(73,zpo)::(113,z8l)::(154,zhn)::(174,zs7)::tb2
def lt3:List ((Nat×Nat)×(Nat→St→Option (Bool×LO))):=((37,4),zmq)::((75,3),zlp)::((164,17),zip)::lt2
def Γ3:Ctx:=⟨tyTab,fnTab,tblSum tb3,tblLp lt3⟩
theorem zf4:SumL J tb3:=SumL.cons y5f (SumL.cons zz6 (SumL.cons zts (SumL.cons y6t (SumL.cons zob (SumL.cons zyv (SumL.cons y8c (zf3)))))))
theorem zf9:LpL J fnTab lt3:=LpL.cons zu8 (LpL.cons zu2 (LpL.cons zrc (zf5)))
def zhr  : Option (Bool)→Option (AV×List Blk)
 | some r=>some ((.v (.one (.bool r))),[])
 | none=>none
def zin:List PT→Option (Bool×AV×List Blk)
 | [.one (.row 1 a_n (.fl .f32 a)),.one (.row 1 b_n (.fl .f32 b))]=>sF zhr (z54 a_n a b_n b)
 | _=>none
theorem y4u:ev8 Γ3 37 [.one (.row 1 a0 (.fl .f32 g1)),.one (.row 1 a2 (.fl .f32 g3))]=zhr (z54 a0 g1 a2 g3):=tr2 (zxn a0 g1 a2 g3 zhr rfl (fun c0_=>some c0_)) (by kernel_rfl)
theorem zzv:SumOne J 37 zin:=mkT zf4 zf9 fun pts v news hp=>by
 unfold zin at hp
 split at hp
 ·exact fin3 (y4u ..) hp
 ·cases hp
def z79  : Option (Bool)→Option (AV×List Blk)
 | some r=>some ((.v (.one (.bool r))),[])
 | none=>none
def z78:List PT→Option (Bool×AV×List Blk)
 | [.one (.row 1 s_n (.bl s)),.one (.s (.bool v))]=>sF z79 (z1c s_n s v)
 | _=>none
theorem zod:ev8 Γ3 58 [.one (.row 1 a0 (.bl m1)),.one (.s (.bool e2))]=z79 (z1c a0 m1 e2):=tr2 (zkq a0 m1 e2 z79 rfl (fun c0_=>some c0_)) (by kernel_rfl)
theorem zl5:SumOne J 58 z78:=mkT zf4 zf9 fun pts v news hp=>by
 unfold z78 at hp
 split at hp
 ·exact fin3 (zod ..) hp
 ·cases hp
def zk1  : Option (Nat×Nat×Nat×(List Nat)×(List Nat)×(List Nat))→Option (AV×List Blk)
 | some r=>some ((.v (.agg [(.sl 0 0 r.1 1),(.sl 1 0 r.2.1 1),(.sl 2 0 r.2.2.1 1)])),[(.mk true (.fl .f32 r.2.2.2.1)),(.mk true (.fl .f32 r.2.2.2.2.1)),(.mk true (.fl .f32 r.2.2.2.2.2))])
 | none=>none
def zji:List PT→Option (Bool×AV×List Blk)
 | [.agg [.row 1 q1r (.fl .f32 q25),.row 1 q1y (.fl .f32 q28),.row 1 q1z (.fl .f32 q2a)]]=>sF zk1 (z1s q1r q25 q1y q28 q1z q2a)
 | _=>none
theorem y66:ev8 Γ3 74 [.agg [.row 1 a0 (.fl .f32 g1),.row 1 a2 (.fl .f32 g3),.row 1 a4 (.fl .f32 g5)]]=zk1 (z1s a0 g1 a2 g3 a4 g5):=tr2 (zyo a0 g1 a2 g3 a4 g5 zk1 rfl (fun c0_ c1_ c2_ c3_ c4_ c5_=>some (c0_,c1_,c2_,c3_,c4_,c5_))) (by kernel_rfl)
theorem y1e:SumOne J 74 zji:=mkT zf4 zf9 fun pts v news hp=>by
 unfold zji at hp
 split at hp
 ·exact fin3 (y66 ..) hp
 ·cases hp
def zho  : Option (Nat×(List Nat))→Option (AV×List Blk)
 | some r=>some ((.v (.one (.sl 0 0 r.1 3))),[(.mk true (.fl .f32 r.2))])
 | none=>none
def zi1:List PT→Option (Bool×AV×List Blk)
 | [.one (.row 3 a_n (.fl .f32 a))]=>sF zho (z3x a_n a)
 | _=>none
theorem y4x:ev8 Γ3 75 [.one (.row 3 a0 (.fl .f32 g1))]=zho (z3x a0 g1):=tr2 (zwy a0 g1 zho rfl (fun c0_ c1_=>some (c0_,c1_))) (by kernel_rfl)
theorem zy9:SumOne J 75 zi1:=mkT zf4 zf9 fun pts v news hp=>by
 unfold zi1 at hp
 split at hp
 ·exact fin3 (y4x ..) hp
 ·cases hp
def zgl  : Option (Nat)→Option (AV×List Blk)
 | some r=>some ((.v (.one (.flt .f64 r))),[])
 | none=>none
def zgd:List PT→Option (Bool×AV×List Blk)
 | [.one (.s (.flt .f64 q1m))]=>sF zgl (z23 q1m)
 | _=>none
theorem y32:ev8 Γ3 164 [.one (.s (.flt .f64 a0))]=zgl (z23 a0):=tr2 (zv8 a0 zgl rfl (fun c0_=>some c0_)) (by kernel_rfl)
theorem zxu:SumOne J 164 zgd:=mkT zf4 zf9 fun pts v news hp=>by
 unfold zgd at hp
 split at hp
 ·exact fin3 (y32 ..) hp
 ·cases hp
def zi4  : Option (Nat)→Option (AV×List Blk)
 | some r=>some ((.v (.one (.flt .f64 r))),[])
 | none=>none
def zih:List PT→Option (Bool×AV×List Blk)
 | [.one (.s (.flt .f64 q2k))]=>sF zi4 (z5a q2k)
 | _=>none
theorem y3w:ev8 Γ3 169 [.one (.s (.flt .f64 a0))]=zi4 (z5a a0):=tr2 (zws a0 zi4 rfl (fun c0_=>some c0_)) (by kernel_rfl)
theorem zy0:SumOne J 169 zih:=mkT zf4 zf9 fun pts v news hp=>by
 unfold zih at hp
 split at hp
 ·exact fin3 (y3w ..) hp
 ·cases hp
def z8u:St:=(.mk [(x0V 0 0 a0 3),(x0V 1 1 a1 3),(x0I 5 c2)] [(x0L g3),(x0L g4)])
def zct(an bn:Nat)(b0 b1:List Nat):St:=(.mk [(x0B 4 false)] [(x0L b0),(x0L b1)])
def zcx:St:=(.mk [(x0V 0 0 a0 3),(x0V 1 1 a1 3),(x0I 5 c4),(x0B 14 e5)] [(x0L g2),(x0L g3)])
def ze3:Option ((Unit)⊕(Int×Bool))→Option (Ex×St)
 | none=>none
 | some (Sum.inl r)=>some (.ret,(zct a0 a1 g2 g3))
 | some (Sum.inr r)=>some ((.exit 0),(zcx a0 a1 g2 g3 r.1 r.2))
def zks (x:Option ((Unit)⊕(Int×Bool))):LO:=(.two (oL x) (.one .ret (zct a0 a1 g2 g3)) (.one (.exit 0) (zcx a0 a1 g2 g3 ((tR x).getD default).1 ((tR x).getD default).2)))
def zw0:Bool×LO:=sL (zks a0 a1 g3 g4) (z14 a0 a1 g3 g4 big c2)
def zmh:Nat→St→Option (Bool×LO):=lpT 2 (pSt [(x1V 0 0 3),(x1V 1 1 3),(x1I 5)] [x1L,x1L]) (fun hs=>zw0 (hN hs 0) (hN hs 1) (hI hs 2) (hLn hs 3) (hLn hs 4))
theorem zy4:∀ x:Option ((Unit)⊕(Int×Bool)),x.isSome=true→(ze3 a0 a1 g2 g3) x=some (pick (zks a0 a1 g2 g3 x))
 | none,h=>by cases h
 | some (Sum.inl r),_=>rfl
 | some (Sum.inr r),_=>rfl
theorem zy3 (K:Ex→St→Option (Ex×St)):ev9 Γ3 77 4 2 fi77 (z8u a0 a1 c2 g3 g4) K=z22 a0 a1 g3 g4 c2 (fun i'=>K .normal (z8u a0 a1 i' g3 g4)) (fun _=>K .ret (zct a0 a1 g3 g4)) (fun c0_ c1_=>K (.exit 0) (zcx a0 a1 g3 g4 c0_ c1_)):=by kernel_rfl
theorem zye:∀ (n:Nat) (i:Int),iter 77 4 2 (ev9 Γ3 77 4 2 fi77) n (z8u a0 a1 i g2 g3) (fun e st=>some (e,st))=(ze3 a0 a1 g2 g3) (z14 a0 a1 g2 g3 n i):=by
 intro n
 induction n with
 | zero=>intros;rfl
 | succ n ih=>
  intro i
  refine Eq.trans (iter_succ ..) (Eq.trans (zy3 ..) (Eq.trans ?_ (zss a0 a1 g2 g3 i (ze3 a0 a1 g2 g3) rfl (fun i'=>z14 a0 a1 g2 g3 n i') (fun _=>some (Sum.inl ())) (fun c0_ c1_=>some (Sum.inr (c0_,c1_))))))
  exact congrArg (fun kn_=>z22 a0 a1 g2 g3 i kn_ _ _) (funext fun i'=>ih ..)
theorem zty:LoopOne J fnTab 77 4 zmh:=lpK zf4 zf9 (fi:=fi77) (by kernel_rfl) (by kernel_rfl) (q:=fun hs=>(z8u (hN hs 0) (hN hs 1) (hI hs 2) (hLn hs 3) (hLn hs 4))) (fun hs=>by kernel_rfl) fun hs h1=>Eq.trans (zye (hN hs 0) (hN hs 1) (hLn hs 3) (hLn hs 4) big (hI hs 2)) (zy4 (hN hs 0) (hN hs 1) (hLn hs 3) (hLn hs 4) _ h1)
def zfz:St:=(.mk [(x0P 0 3 3),(x0I 3 c0),(x0I 4 c1)] [(x0L g2),(x0L g3),(x0L g4),(.mk false (.cells [(.vw 0 0 a5 1),(.vw 1 0 a6 1),(.vw 2 0 a7 1)]))])
def zk6(t3:Int)(b0 b1 b2:List Nat)(q1q q23 q24:Nat):St:=(.mk [(x0B 2 false)] [(x0L b0),(x0L b1),(x0L b2),(.mk false (.cells [(.vw 0 0 q1q 1),(.vw 1 0 q23 1),(.vw 2 0 q24 1)]))])
def zjw:St:=(.mk [(x0P 0 3 3),(x0I 3 c0),(x0I 4 c7),(x0B 36 e8)] [(x0L g1),(x0L g2),(x0L g3),(.mk false (.cells [(.vw 0 0 a4 1),(.vw 1 0 a5 1),(.vw 2 0 a6 1)]))])
def zm6:Option ((Unit)⊕(Int×Bool))→Option (Ex×St)
 | none=>none
 | some (Sum.inl r)=>some (.ret,(zk6 c0 g1 g2 g3 a4 a5 a6))
 | some (Sum.inr r)=>some ((.exit 0),(zjw c0 g1 g2 g3 a4 a5 a6 r.1 r.2))
def zsa (x:Option ((Unit)⊕(Int×Bool))):LO:=(.two (oL x) (.one .ret (zk6 c0 g1 g2 g3 a4 a5 a6)) (.one (.exit 0) (zjw c0 g1 g2 g3 a4 a5 a6 ((tR x).getD default).1 ((tR x).getD default).2)))
def y41:Bool×LO:=sL (zsa c0 g2 g3 g4 a5 a6 a7) (z1r c0 g2 g3 g4 a5 a6 a7 big c1)
def zuo:Nat→St→Option (Bool×LO):=lpT 4 (pSt [(x1P 0 3 3),(x1I 3),(x1I 4)] [x1L,x1L,x1L,(pBlk false (pCells [(pVw 0 (liN 0) 1),(pVw 1 (liN 0) 1),(pVw 2 (liN 0) 1)]))]) (fun hs=>y41 (hI hs 0) (hI hs 1) (hLn hs 2) (hLn hs 3) (hLn hs 4) (hN hs 5) (hN hs 6) (hN hs 7))
theorem y83:∀ x:Option ((Unit)⊕(Int×Bool)),x.isSome=true→(zm6 c0 g1 g2 g3 a4 a5 a6) x=some (pick (zsa c0 g1 g2 g3 a4 a5 a6 x))
 | none,h=>by cases h
 | some (Sum.inl r),_=>rfl
 | some (Sum.inr r),_=>rfl
theorem y7e (K:Ex→St→Option (Ex×St)):ev9 Γ3 120 5 4 fi120 (zfz c0 c1 g2 g3 g4 a5 a6 a7) K=z44 c0 g2 g3 g4 a5 a6 a7 c1 (fun t4'=>K .normal (zfz c0 t4' g2 g3 g4 a5 a6 a7)) (fun _=>K .ret (zk6 c0 g2 g3 g4 a5 a6 a7)) (fun c0_ c1_=>K (.exit 0) (zjw c0 g2 g3 g4 a5 a6 a7 c0_ c1_)):=by kernel_rfl
theorem y8f:∀ (n:Nat) (t4:Int),iter 120 5 4 (ev9 Γ3 120 5 4 fi120) n (zfz c0 t4 g1 g2 g3 a4 a5 a6) (fun e st=>some (e,st))=(zm6 c0 g1 g2 g3 a4 a5 a6) (z1r c0 g1 g2 g3 a4 a5 a6 n t4):=by
 intro n
 induction n with
 | zero=>intros;rfl
 | succ n ih=>
  intro t4
  refine Eq.trans (iter_succ ..) (Eq.trans (y7e ..) (Eq.trans ?_ (y1d c0 g1 g2 g3 a4 a5 a6 t4 (zm6 c0 g1 g2 g3 a4 a5 a6) rfl (fun t4'=>z1r c0 g1 g2 g3 a4 a5 a6 n t4') (fun _=>some (Sum.inl ())) (fun c0_ c1_=>some (Sum.inr (c0_,c1_))))))
  exact congrArg (fun kn_=>z44 c0 g1 g2 g3 a4 a5 a6 t4 kn_ _ _) (funext fun t4'=>ih ..)
theorem y2p:LoopOne J fnTab 120 5 zuo:=lpK zf4 zf9 (fi:=fi120) (by kernel_rfl) (by kernel_rfl) (q:=fun hs=>(zfz (hI hs 0) (hI hs 1) (hLn hs 2) (hLn hs 3) (hLn hs 4) (hN hs 5) (hN hs 6) (hN hs 7))) (fun hs=>by kernel_rfl) fun hs h1=>Eq.trans (y8f (hI hs 0) (hLn hs 2) (hLn hs 3) (hLn hs 4) (hN hs 5) (hN hs 6) (hN hs 7) big (hI hs 1)) (y83 (hI hs 0) (hLn hs 2) (hLn hs 3) (hLn hs 4) (hN hs 5) (hN hs 6) (hN hs 7) _ h1)
def z1l:St:=(.mk [(x0V 0 0 a0 1),(1,(.v (.one (.fn 115 [])))),(x0I 7 c1),(x0I 8 c2)] [(x0L g3)])
def z2k(sn:Nat)(t7:Int)(b0:List Nat)(c0_:Int):St:=(.mk [(x0I 4 c0_)] [(x0L b0)])
def z2l:St:=(.mk [(x0V 0 0 a0 1),(1,(.v (.one (.fn 115 [])))),(x0I 7 c1),(x0I 8 c3),(x0B 9 e4)] [(x0L g2)])
def z2s:Option ((Int)⊕(Int×Bool))→Option (Ex×St)
 | none=>none
 | some (Sum.inl r)=>some (.ret,(z2k a0 c1 g2 r))
 | some (Sum.inr r)=>some ((.exit 0),(z2l a0 c1 g2 r.1 r.2))
def z5c (x:Option ((Int)⊕(Int×Bool))):LO:=(.two (oL x) (.one .ret (z2k a0 c1 g2 ((tL x).getD default))) (.one (.exit 0) (z2l a0 c1 g2 ((tR x).getD default).1 ((tR x).getD default).2)))
def za3:Bool×LO:=sL (z5c a0 c1 g3) (z01 a0 c1 g3 big c2)
def z5k:Nat→St→Option (Bool×LO):=lpT 1 (pSt [(x1V 0 0 1),(pTm 1 (pV (pOne (pFn 115 [])))),(x1I 7),(x1I 8)] [x1L]) (fun hs=>za3 (hN hs 0) (hI hs 1) (hI hs 2) (hLn hs 3))
theorem zbc:∀ x:Option ((Int)⊕(Int×Bool)),x.isSome=true→(z2s a0 c1 g2) x=some (pick (z5c a0 c1 g2 x))
 | none,h=>by cases h
 | some (Sum.inl r),_=>rfl
 | some (Sum.inr r),_=>rfl
theorem zb8 (K:Ex→St→Option (Ex×St)):ev9 Γ3 146 2 1 fi146 (z1l a0 c1 c2 g3) K=z0a a0 c1 g3 c2 (fun t8'=>K .normal (z1l a0 c1 t8' g3)) (fun c0_=>K .ret (z2k a0 c1 g3 c0_)) (fun c0_ c1_=>K (.exit 0) (z2l a0 c1 g3 c0_ c1_)):=by kernel_rfl
theorem zb7:∀ (n:Nat) (t8:Int),iter 146 2 1 (ev9 Γ3 146 2 1 fi146) n (z1l a0 c1 t8 g2) (fun e st=>some (e,st))=(z2s a0 c1 g2) (z01 a0 c1 g2 n t8):=by
 intro n
 induction n with
 | zero=>intros;rfl
 | succ n ih=>
  intro t8
  refine Eq.trans (iter_succ ..) (Eq.trans (zb8 ..) (Eq.trans ?_ (z9k a0 c1 g2 t8 (z2s a0 c1 g2) rfl (fun t8'=>z01 a0 c1 g2 n t8') (fun c0_=>some (Sum.inl c0_)) (fun c0_ c1_=>some (Sum.inr (c0_,c1_))))))
  exact congrArg (fun kn_=>z0a a0 c1 g2 t8 kn_ _ _) (funext fun t8'=>ih ..)
theorem z9u:LoopOne J fnTab 146 2 z5k:=lpK zf4 zf9 (fi:=fi146) (by kernel_rfl) (by kernel_rfl) (q:=fun hs=>(z1l (hN hs 0) (hI hs 1) (hI hs 2) (hLn hs 3))) (fun hs=>by kernel_rfl) fun hs h1=>Eq.trans (zb7 (hN hs 0) (hI hs 1) (hLn hs 3) big (hI hs 2)) (zbc (hN hs 0) (hI hs 1) (hLn hs 3) _ h1)
def z1p:St:=(.mk [(x0V 0 0 a0 1),(1,(.v (.one (.fn 153 [])))),(x0I 7 c1),(x0I 8 c2)] [(x0L g3)])
def z2w(sn:Nat)(t7:Int)(b0:List Nat)(c0_:Int):St:=(.mk [(x0I 4 c0_)] [(x0L b0)])
def z2v:St:=(.mk [(x0V 0 0 a0 1),(1,(.v (.one (.fn 153 [])))),(x0I 7 c1),(x0I 8 c3),(x0B 9 e4)] [(x0L g2)])
def z37:Option ((Int)⊕(Int×Bool))→Option (Ex×St)
 | none=>none
 | some (Sum.inl r)=>some (.ret,(z2w a0 c1 g2 r))
 | some (Sum.inr r)=>some ((.exit 0),(z2v a0 c1 g2 r.1 r.2))
def z5o (x:Option ((Int)⊕(Int×Bool))):LO:=(.two (oL x) (.one .ret (z2w a0 c1 g2 ((tL x).getD default))) (.one (.exit 0) (z2v a0 c1 g2 ((tR x).getD default).1 ((tR x).getD default).2)))
def zbh:Bool×LO:=sL (z5o a0 c1 g3) (z02 a0 c1 g3 big c2)
def z67:Nat→St→Option (Bool×LO):=lpT 1 (pSt [(x1V 0 0 1),(pTm 1 (pV (pOne (pFn 153 [])))),(x1I 7),(x1I 8)] [x1L]) (fun hs=>zbh (hN hs 0) (hI hs 1) (hI hs 2) (hLn hs 3))
theorem zd3:∀ x:Option ((Int)⊕(Int×Bool)),x.isSome=true→(z37 a0 c1 g2) x=some (pick (z5o a0 c1 g2 x))
 | none,h=>by cases h
 | some (Sum.inl r),_=>rfl
 | some (Sum.inr r),_=>rfl
theorem zd0 (K:Ex→St→Option (Ex×St)):ev9 Γ3 146 2 1 fi146 (z1p a0 c1 c2 g3) K=z0b a0 c1 g3 c2 (fun t8'=>K .normal (z1p a0 c1 t8' g3)) (fun c0_=>K .ret (z2w a0 c1 g3 c0_)) (fun c0_ c1_=>K (.exit 0) (z2v a0 c1 g3 c0_ c1_)):=by kernel_rfl
theorem zda:∀ (n:Nat) (t8:Int),iter 146 2 1 (ev9 Γ3 146 2 1 fi146) n (z1p a0 c1 t8 g2) (fun e st=>some (e,st))=(z37 a0 c1 g2) (z02 a0 c1 g2 n t8):=by
 intro n
 induction n with
 | zero=>intros;rfl
 | succ n ih=>
  intro t8
  refine Eq.trans (iter_succ ..) (Eq.trans (zd0 ..) (Eq.trans ?_ (zad a0 c1 g2 t8 (z37 a0 c1 g2) rfl (fun t8'=>z02 a0 c1 g2 n t8') (fun c0_=>some (Sum.inl c0_)) (fun c0_ c1_=>some (Sum.inr (c0_,c1_))))))
  exact congrArg (fun kn_=>z0b a0 c1 g2 t8 kn_ _ _) (funext fun t8'=>ih ..)
theorem zb0:LoopOne J fnTab 146 2 z67:=lpK zf4 zf9 (fi:=fi146) (by kernel_rfl) (by kernel_rfl) (q:=fun hs=>(z1p (hN hs 0) (hI hs 1) (hI hs 2) (hLn hs 3))) (fun hs=>by kernel_rfl) fun hs h1=>Eq.trans (zda (hN hs 0) (hI hs 1) (hLn hs 3) big (hI hs 2)) (zd3 (hN hs 0) (hI hs 1) (hLn hs 3) _ h1)
def tb4:List (Nat×(List PT→Option (Bool×AV×List Blk))):=(37,zin)::(58,z78)::(74,zji)::(75,zi1)::(164,zgd)::(169,zih)::tb3
def lt4:List ((Nat×Nat)×(Nat→St→Option (Bool×LO))):=((77,4),zmh)::((120,5),zuo)::((146,2),z5k)::((146,2),z67)::lt3
def Γ4:Ctx:=⟨tyTab,fnTab,tblSum tb4,tblLp lt4⟩
theorem zis:SumL J tb4:=SumL.cons zzv (SumL.cons zl5 (SumL.cons y1e (SumL.cons zy9 (SumL.cons zxu (SumL.cons zy0 (zf4))))))
theorem zir:LpL J fnTab lt4:=LpL.cons zty (LpL.cons y2p (LpL.cons z9u (LpL.cons zb0 (zf9))))
def zo0:Option (Nat×Nat×Nat×Nat×(List Nat)×(List Nat)×(List Nat)×(List Nat))→Option (AV×List Blk)
 | some r=>some ((.v (.agg [(.sl 0 0 r.1 1),(.sl 1 0 r.2.1 1),(.sl 2 0 r.2.2.1 1),(.sl 3 0 r.2.2.2.1 3),(.int .i64 c0),(.flt .f32 a1),(.flt .f32 a2)])),[(.mk true (.fl .f32 r.2.2.2.2.1)),(.mk true (.fl .f32 r.2.2.2.2.2.1)),(.mk true (.fl .f32 r.2.2.2.2.2.2.1)),(.mk true (.fl .f32 r.2.2.2.2.2.2.2))])
 | none=>none
def zor:List PT→Option (Bool×AV×List Blk)
 | [.agg [.row 1 q0x (.fl .f32 q1c),.row 1 q0z (.fl .f32 q1g),.row 1 q13 (.fl .f32 q1f),.row 3 q1o (.fl .f32 q1v),.s (.int .i64 q27),.s (.flt .f32 q2d),.s (.flt .f32 q2c)]]=>sF (zo0 q27 q2d q2c) (z1n q0x q1c q0z q1g q13 q1f q1o q1v q27 q2d q2c)
 | _=>none
theorem y8r:ev8 Γ4 34 [.agg [.row 1 a0 (.fl .f32 g1),.row 1 a2 (.fl .f32 g3),.row 1 a4 (.fl .f32 g5),.row 3 a6 (.fl .f32 g7),.s (.int .i64 c8),.s (.flt .f32 a9),.s (.flt .f32 a10)]]=(zo0 c8 a9 a10) (z1n a0 g1 a2 g3 a4 g5 a6 g7 c8 a9 a10):=tr2 (y2s a0 g1 a2 g3 a4 g5 a6 g7 c8 a9 a10 (zo0 c8 a9 a10) rfl (fun c0_ c1_ c2_ c3_ c4_ c5_ c6_ c7_=>some (c0_,c1_,c2_,c3_,c4_,c5_,c6_,c7_))) (by kernel_rfl)
theorem y5j:SumOne J 34 zor:=mkT zis zir fun pts v news hp=>by
 unfold zor at hp
 split at hp
 ·exact fin3 (y8r ..) hp
 ·cases hp
def zj9  : Option (Bool)→Option (AV×List Blk)
 | some r=>some ((.v (.one (.bool r))),[])
 | none=>none
def zkn:List PT→Option (Bool×AV×List Blk)
 | [.agg [.row 1 q1r (.fl .f32 q25),.row 1 q1y (.fl .f32 q28),.row 1 q1z (.fl .f32 q2a)],.agg [.row 1 q2z (.fl .f32 q36),.row 1 q33 (.fl .f32 q3b),.row 1 q32 (.fl .f32 q39)]]=>sF zj9 (z5q q1r q25 q1y q28 q1z q2a q2z q36 q33 q3b q32 q39)
 | _=>none
theorem y64:ev8 Γ4 76 [.agg [.row 1 a0 (.fl .f32 g1),.row 1 a2 (.fl .f32 g3),.row 1 a4 (.fl .f32 g5)],.agg [.row 1 a6 (.fl .f32 g7),.row 1 a8 (.fl .f32 g9),.row 1 a10 (.fl .f32 g11)]]=zj9 (z5q a0 g1 a2 g3 a4 g5 a6 g7 a8 g9 a10 g11):=tr2 (zyg a0 g1 a2 g3 a4 g5 a6 g7 a8 g9 a10 g11 zj9 rfl (fun c0_=>some c0_)) (by kernel_rfl)
theorem y1b:SumOne J 76 zkn:=mkT zis zir fun pts v news hp=>by
 unfold zkn at hp
 split at hp
 ·exact fin3 (y64 ..) hp
 ·cases hp
def zi6  : Option (Bool)→Option (AV×List Blk)
 | some r=>some ((.v (.one (.bool r))),[])
 | none=>none
def zi5:List PT→Option (Bool×AV×List Blk)
 | [.one (.row 3 a_n (.fl .f32 a)),.one (.row 3 b_n (.fl .f32 b))]=>sF zi6 (z56 a_n a b_n b)
 | _=>none
theorem y4r:ev8 Γ4 77 [.one (.row 3 a0 (.fl .f32 g1)),.one (.row 3 a2 (.fl .f32 g3))]=zi6 (z56 a0 g1 a2 g3):=tr2 (zwc a0 g1 a2 g3 zi6 rfl (fun c0_=>some c0_)) (by kernel_rfl)
theorem zz4:SumOne J 77 zi5:=mkT zis zir fun pts v news hp=>by
 unfold zi5 at hp
 split at hp
 ·exact fin3 (y4r ..) hp
 ·cases hp
def ztc  : Option (Bool)→Option (AV×List Blk)
 | some r=>some ((.v (.one (.bool r))),[])
 | none=>none
def zsz:List PT→Option (Bool×AV×List Blk)
 | [.ptr [.row 1 q0b (.fl .f32 q0h),.row 1 q1b (.fl .f32 q1k),.row 1 q1a (.fl .f32 q1l)]]=>sF ztc (z9a q0b q0h q1b q1k q1a q1l)
 | _=>none
theorem yay:ev8 Γ4 120 [.ptr [.row 1 a0 (.fl .f32 g1),.row 1 a2 (.fl .f32 g3),.row 1 a4 (.fl .f32 g5)]]=ztc (z9a a0 g1 a2 g3 a4 g5):=tr2 (y5x a0 g1 a2 g3 a4 g5 ztc rfl (fun c0_=>some c0_)) (by kernel_rfl)
theorem y7v:SumOne J 120 zsz:=mkT zis zir fun pts v news hp=>by
 unfold zsz at hp
 split at hp
 ·exact fin3 (yay ..) hp
 ·cases hp
def z3i  : Option (Int)→Option (AV×List Blk)
 | some r=>some ((.v (.one (.int .i64 r))),[])
 | none=>none
def z3d:List PT→Option (Bool×AV×List Blk)
 | [.one (.row 1 s_n (.fl .f32 s)),.fn 115 []]=>sF z3i (z0k s_n s)
 | _=>none
theorem zdc:ev8 Γ4 146 [.one (.row 1 a0 (.fl .f32 g1)),.fn 115 []]=z3i (z0k a0 g1):=tr2 (zag a0 g1 z3i rfl (fun c0_=>some c0_)) (by kernel_rfl)
theorem zbm:SumOne J 146 z3d:=mkT zis zir fun pts v news hp=>by
 unfold z3d at hp
 split at hp
 ·exact fin3 (zdc ..) hp
 ·cases hp
def z3r  : Option (Int)→Option (AV×List Blk)
 | some r=>some ((.v (.one (.int .i64 r))),[])
 | none=>none
def z3s:List PT→Option (Bool×AV×List Blk)
 | [.one (.row 1 s_n (.fl .f32 s)),.fn 153 []]=>sF z3r (z0o s_n s)
 | _=>none
theorem zf8:ev8 Γ4 146 [.one (.row 1 a0 (.fl .f32 g1)),.fn 153 []]=z3r (z0o a0 g1):=tr2 (zbv a0 g1 z3r rfl (fun c0_=>some c0_)) (by kernel_rfl)
theorem zcu:SumOne J 146 z3s:=mkT zis zir fun pts v news hp=>by
 unfold z3s at hp
 split at hp
 ·exact fin3 (zf8 ..) hp
 ·cases hp
def zo6  : Option (Nat)→Option (AV×List Blk)
 | some r=>some ((.v (.one (.flt .f32 r))),[])
 | none=>none
def zo3:List PT→Option (Bool×AV×List Blk)
 | [.one (.s (.flt .f32 x))]=>sF zo6 (z65 x)
 | _=>none
theorem y9o:ev8 Γ4 148 [.one (.s (.flt .f32 a0))]=zo6 (z65 a0):=tr2 (y27 a0 zo6 rfl (fun c0_=>some c0_)) (by kernel_rfl)
theorem y40:SumOne J 148 zo3:=mkT zis zir fun pts v news hp=>by
 unfold zo3 at hp
 split at hp
 ·exact fin3 (y9o ..) hp
 ·cases hp
def z1u:St:=(.mk [(x0V 0 0 a0 1),(1,(.v (.one (.fn 154 [])))),(x0I 7 c1),(x0I 8 c2)] [(x0L g3)])
def z38(sn:Nat)(t7:Int)(b0:List Nat)(c0_:Int):St:=(.mk [(x0I 4 c0_)] [(x0L b0)])
def z34:St:=(.mk [(x0V 0 0 a0 1),(1,(.v (.one (.fn 154 [])))),(x0I 7 c1),(x0I 8 c3),(x0B 9 e4)] [(x0L g2)])
def z3h:Option ((Int)⊕(Int×Bool))→Option (Ex×St)
 | none=>none
 | some (Sum.inl r)=>some (.ret,(z38 a0 c1 g2 r))
 | some (Sum.inr r)=>some ((.exit 0),(z34 a0 c1 g2 r.1 r.2))
def z66 (x:Option ((Int)⊕(Int×Bool))):LO:=(.two (oL x) (.one .ret (z38 a0 c1 g2 ((tL x).getD default))) (.one (.exit 0) (z34 a0 c1 g2 ((tR x).getD default).1 ((tR x).getD default).2)))
def zbs:Bool×LO:=sL (z66 a0 c1 g3) (z03 a0 c1 g3 big c2)
def z6g:Nat→St→Option (Bool×LO):=lpT 1 (pSt [(x1V 0 0 1),(pTm 1 (pV (pOne (pFn 154 [])))),(x1I 7),(x1I 8)] [x1L]) (fun hs=>zbs (hN hs 0) (hI hs 1) (hI hs 2) (hLn hs 3))
theorem zdh:∀ x:Option ((Int)⊕(Int×Bool)),x.isSome=true→(z3h a0 c1 g2) x=some (pick (z66 a0 c1 g2 x))
 | none,h=>by cases h
 | some (Sum.inl r),_=>rfl
 | some (Sum.inr r),_=>rfl
theorem zdd (K:Ex→St→Option (Ex×St)):ev9 Γ4 146 2 1 fi146 (z1u a0 c1 c2 g3) K=z0c a0 c1 g3 c2 (fun t8'=>K .normal (z1u a0 c1 t8' g3)) (fun c0_=>K .ret (z38 a0 c1 g3 c0_)) (fun c0_ c1_=>K (.exit 0) (z34 a0 c1 g3 c0_ c1_)):=by kernel_rfl
theorem zdf:∀ (n:Nat) (t8:Int),iter 146 2 1 (ev9 Γ4 146 2 1 fi146) n (z1u a0 c1 t8 g2) (fun e st=>some (e,st))=(z3h a0 c1 g2) (z03 a0 c1 g2 n t8):=by
 intro n
 induction n with
 | zero=>intros;rfl
 | succ n ih=>
  intro t8
  refine Eq.trans (iter_succ ..) (Eq.trans (zdd ..) (Eq.trans ?_ (zaz a0 c1 g2 t8 (z3h a0 c1 g2) rfl (fun t8'=>z03 a0 c1 g2 n t8') (fun c0_=>some (Sum.inl c0_)) (fun c0_ c1_=>some (Sum.inr (c0_,c1_))))))
  exact congrArg (fun kn_=>z0c a0 c1 g2 t8 kn_ _ _) (funext fun t8'=>ih ..)
theorem zbd:LoopOne J fnTab 146 2 z6g:=lpK zis zir (fi:=fi146) (by kernel_rfl) (by kernel_rfl) (q:=fun hs=>(z1u (hN hs 0) (hI hs 1) (hI hs 2) (hLn hs 3))) (fun hs=>by kernel_rfl) fun hs h1=>Eq.trans (zdf (hN hs 0) (hI hs 1) (hLn hs 3) big (hI hs 2)) (zdh (hN hs 0) (hI hs 1) (hLn hs 3) _ h1)
def tb5:List (Nat×(List PT→Option (Bool×AV×List Blk))):=(34,zor)::(76,zkn)::(77,zi5)::(120,zsz)::(146,z3d)::(146,z3s)::(148,zo3)::tb4
def lt5:List ((Nat×Nat)×(Nat→St→Option (Bool×LO))):=((146,2),z6g)::lt4
def Γ5:Ctx:=⟨tyTab,fnTab,tblSum tb5,tblLp lt5⟩
theorem zwu:SumL J tb5:=SumL.cons y5j (SumL.cons y1b (SumL.cons zz4 (SumL.cons y7v (SumL.cons zbm (SumL.cons zcu (SumL.cons y40 (zis)))))))
theorem zwv:LpL J fnTab lt5:=LpL.cons zbd (zir)
def zon  : Option (Bool)→Option (AV×List Blk)
 | some r=>some ((.v (.one (.bool r))),[])
 | none=>none
def zoe:List PT→Option (Bool×AV×List Blk)
 | [.agg [.row 1 q0x (.fl .f32 q1c),.row 1 q0z (.fl .f32 q1g),.row 1 q13 (.fl .f32 q1f),.row 3 q1o (.fl .f32 q1v),.s (.int .i64 q27),.s (.flt .f32 q2d),.s (.flt .f32 q2c)],.agg [.row 1 q2f (.fl .f32 q2l),.row 1 q2g (.fl .f32 q2o),.row 1 q2h (.fl .f32 q2n),.row 3 q2q (.fl .f32 q31),.s (.int .i64 q3d),.s (.flt .f32 q3i),.s (.flt .f32 q3f)]]=>sF zon (z7f q0x q1c q0z q1g q13 q1f q1o q1v q27 q2d q2c q2f q2l q2g q2o q2h q2n q2q q31 q3d q3i q3f)
 | _=>none
theorem y8l:ev8 Γ5 36 [.agg [.row 1 a0 (.fl .f32 g1),.row 1 a2 (.fl .f32 g3),.row 1 a4 (.fl .f32 g5),.row 3 a6 (.fl .f32 g7),.s (.int .i64 c8),.s (.flt .f32 a9),.s (.flt .f32 a10)],.agg [.row 1 a11 (.fl .f32 g12),.row 1 a13 (.fl .f32 g14),.row 1 a15 (.fl .f32 g16),.row 3 a17 (.fl .f32 g18),.s (.int .i64 c19),.s (.flt .f32 a20),.s (.flt .f32 a21)]]=zon (z7f a0 g1 a2 g3 a4 g5 a6 g7 c8 a9 a10 a11 g12 a13 g14 a15 g16 a17 g18 c19 a20 a21):=tr2 (y2d a0 g1 a2 g3 a4 g5 a6 g7 c8 a9 a10 a11 g12 a13 g14 a15 g16 a17 g18 c19 a20 a21 zon rfl (fun c0_=>some c0_)) (by kernel_rfl)
theorem y3x:SumOne J 36 zoe:=mkT zwu zwv fun pts v news hp=>by
 unfold zoe at hp
 split at hp
 ·exact fin3 (y8l ..) hp
 ·cases hp
def z41  : Option (Int)→Option (AV×List Blk)
 | some r=>some ((.v (.one (.int .i64 r))),[])
 | none=>none
def z40:List PT→Option (Bool×AV×List Blk)
 | [.one (.row 1 s_n (.fl .f32 s)),.fn 154 []]=>sF z41 (z0q s_n s)
 | _=>none
theorem zfh:ev8 Γ5 146 [.one (.row 1 a0 (.fl .f32 g1)),.fn 154 []]=z41 (z0q a0 g1):=tr2 (zdb a0 g1 z41 rfl (fun c0_=>some c0_)) (by kernel_rfl)
theorem zdg:SumOne J 146 z40:=mkT zwu zwv fun pts v news hp=>by
 unfold z40 at hp
 split at hp
 ·exact fin3 (zfh ..) hp
 ·cases hp
def zrr  : Option (Nat)→Option (AV×List Blk)
 | some r=>some ((.v (.one (.flt .f64 r))),[])
 | none=>none
def zt2:List PT→Option (Bool×AV×List Blk)
 | [.one (.s (.flt .f64 x))]=>sF zrr (z9c x)
 | _=>none
theorem yb8:ev8 Γ5 175 [.one (.s (.flt .f64 a0))]=zrr (z9c a0):=tr2 (y6m a0 zrr rfl (fun c0_=>some c0_)) (by kernel_rfl)
theorem y7r:SumOne J 175 zt2:=mkT zwu zwv fun pts v news hp=>by
 unfold zt2 at hp
 split at hp
 ·exact fin3 (yb8 ..) hp
 ·cases hp
def zh4:St:=(.mk [(x0B 4 e0),(5,(.v (.one (.flt .f64 a1)))),(6,(.v (.one (.flt .f64 a2)))),(7,(.v (.one (.flt .f64 a3)))),(8,(.v (.one (.flt .f64 a4))))] [])
def zlh:St:=(.mk [(x0B 4 e0),(5,(.v (.one (.flt .f64 a1)))),(6,(.v (.one (.flt .f64 a2)))),(7,(.v (.one (.flt .f64 a3)))),(8,(.v (.one (.flt .f64 a4)))),(x0B 25 e5)] [])
def zov:Option ((Nat×Nat×Bool))→Option (Ex×St)
 | none=>none
 | some r=>some ((.exit 0),(zlh e0 a1 a2 r.1 r.2.1 r.2.2))
def zun (x:Option ((Nat×Nat×Bool))):LO:=(.one (.exit 0) (zlh e0 a1 a2 (x.getD default).1 (x.getD default).2.1 (x.getD default).2.2))
def y7d:Bool×LO:=sL (zun e0 a1 a2) (z1q a2 big a3 a4)
def zwp:Nat→St→Option (Bool×LO):=lpT 0 (pSt [(x1B 4),(pTm 5 (pV (pOne (pFlt .f64)))),(pTm 6 (pV (pOne (pFlt .f64)))),(pTm 7 (pV (pOne (pFlt .f64)))),(pTm 8 (pV (pOne (pFlt .f64))))] []) (fun hs=>y7d (hB hs 0) (hN hs 1) (hN hs 2) (hN hs 3) (hN hs 4))
theorem y8n:∀ x:Option ((Nat×Nat×Bool)),x.isSome=true→(zov e0 a1 a2) x=some (pick (zun e0 a1 a2 x))
 | none,h=>by cases h
 | some r,_=>rfl
theorem y9u (K:Ex→St→Option (Ex×St)):ev9 Γ5 160 9 0 fi160 (zh4 e0 a1 a2 a3 a4) K=z4v a2 a3 a4 (fun p' k'=>K .normal (zh4 e0 a1 a2 p' k')) (fun c0_ c1_ c2_=>K (.exit 0) (zlh e0 a1 a2 c0_ c1_ c2_)):=by kernel_rfl
theorem y9j:∀ (n p k:Nat),iter 160 9 0 (ev9 Γ5 160 9 0 fi160) n (zh4 e0 a1 a2 p k) (fun e st=>some (e,st))=(zov e0 a1 a2) (z1q a2 n p k):=by
 intro n
 induction n with
 | zero=>intros;rfl
 | succ n ih=>
  intro p k
  refine Eq.trans (iter_succ ..) (Eq.trans (y9u ..) (Eq.trans ?_ (y33 a2 p k (zov e0 a1 a2) rfl (fun p' k'=>z1q a2 n p' k') (fun c0_ c1_ c2_=>some (c0_,c1_,c2_)))))
  exact congrArg (fun kn_=>z4v a2 p k kn_ _) (funext fun p'=>funext fun k'=>ih ..)
theorem y4z:LoopOne J fnTab 160 9 zwp:=lpK zwu zwv (fi:=fi160) (by kernel_rfl) (by kernel_rfl) (q:=fun hs=>(zh4 (hB hs 0) (hN hs 1) (hN hs 2) (hN hs 3) (hN hs 4))) (fun hs=>by kernel_rfl) fun hs h1=>Eq.trans (y9j (hB hs 0) (hN hs 1) (hN hs 2) big (hN hs 3) (hN hs 4)) (y8n (hB hs 0) (hN hs 1) (hN hs 2) _ h1)
def tb6:List (Nat×(List PT→Option (Bool×AV×List Blk))):=(36,zoe)::(146,z40)::(175,zt2)::tb5
def lt6:List ((Nat×Nat)×(Nat→St→Option (Bool×LO))):=((160,9),zwp)::lt5
def Γ6:Ctx:=⟨tyTab,fnTab,tblSum tb6,tblLp lt6⟩
theorem zlq:SumL J tb6:=SumL.cons y3x (SumL.cons zdg (SumL.cons y7r (zwu)))
theorem zlv:LpL J fnTab lt6:=LpL.cons y4z (zwv)
def z2q  : Option (Bool)→Option (AV×List Blk)
 | some r=>some ((.v (.one (.bool r))),[])
 | none=>none
def z2r:List PT→Option (Bool×AV×List Blk)
 | [.one (.row 1 s_n (.fl .f32 s)),.fn 115 []]=>sF z2q (z0g s_n s)
 | _=>none
theorem zbf:ev8 Γ6 114 [.one (.row 1 a0 (.fl .f32 g1)),.fn 115 []]=z2q (z0g a0 g1):=tr2 (z9f a0 g1 z2q rfl (fun c0_=>some c0_)) (by kernel_rfl)
theorem z9v:SumOne J 114 z2r:=mkT zlq zlv fun pts v news hp=>by
 unfold z2r at hp
 split at hp
 ·exact fin3 (zbf ..) hp
 ·cases hp
def z32  : Option (Bool)→Option (AV×List Blk)
 | some r=>some ((.v (.one (.bool r))),[])
 | none=>none
def z3c:List PT→Option (Bool×AV×List Blk)
 | [.one (.row 1 s_n (.fl .f32 s)),.fn 153 []]=>sF z32 (z0i s_n s)
 | _=>none
theorem zcr:ev8 Γ6 114 [.one (.row 1 a0 (.fl .f32 g1)),.fn 153 []]=z32 (z0i a0 g1):=tr2 (zab a0 g1 z32 rfl (fun c0_=>some c0_)) (by kernel_rfl)
theorem zaq:SumOne J 114 z3c:=mkT zlq zlv fun pts v news hp=>by
 unfold z3c at hp
 split at hp
 ·exact fin3 (zcr ..) hp
 ·cases hp
def z3f  : Option (Bool)→Option (AV×List Blk)
 | some r=>some ((.v (.one (.bool r))),[])
 | none=>none
def z3g:List PT→Option (Bool×AV×List Blk)
 | [.one (.row 1 s_n (.fl .f32 s)),.fn 154 []]=>sF z3f (z0l s_n s)
 | _=>none
theorem zde:ev8 Γ6 114 [.one (.row 1 a0 (.fl .f32 g1)),.fn 154 []]=z3f (z0l a0 g1):=tr2 (zal a0 g1 z3f rfl (fun c0_=>some c0_)) (by kernel_rfl)
theorem zbo:SumOne J 114 z3g:=mkT zlq zlv fun pts v news hp=>by
 unfold z3g at hp
 split at hp
 ·exact fin3 (zde ..) hp
 ·cases hp
def zvv  : Option (Nat)→Option (AV×List Blk)
 | some r=>some ((.v (.one (.flt .f64 r))),[])
 | none=>none
def zv9:List PT→Option (Bool×AV×List Blk)
 | [.one (.s (.flt .f64 q2k))]=>sF zvv (zb4 q2k)
 | _=>none
theorem ybc:ev8 Γ6 160 [.one (.s (.flt .f64 a0))]=zvv (zb4 a0):=tr2 (y7x a0 zvv rfl (fun c0_=>some c0_)) (by kernel_rfl)
theorem y8q:SumOne J 160 zv9:=mkT zlq zlv fun pts v news hp=>by
 unfold zv9 at hp
 split at hp
 ·exact fin3 (ybc ..) hp
 ·cases hp
def zko  : Option (Nat)→Option (AV×List Blk)
 | some r=>some ((.v (.one (.flt .f32 r))),[])
 | none=>none
def zkh:List PT→Option (Bool×AV×List Blk)
 | [.one (.s (.flt .f32 x))]=>sF zko (z5p x)
 | _=>none
theorem y6i:ev8 Γ6 170 [.one (.s (.flt .f32 a0))]=zko (z5p a0):=tr2 (zzr a0 zko rfl (fun c0_=>some c0_)) (by kernel_rfl)
theorem y0z:SumOne J 170 zkh:=mkT zlq zlv fun pts v news hp=>by
 unfold zkh at hp
 split at hp
 ·exact fin3 (y6i ..) hp
 ·cases hp
def znr  : Option (Nat)→Option (AV×List Blk)
 | some r=>some ((.v (.one (.flt .f32 r))),[])
 | none=>none
def zo7:List PT→Option (Bool×AV×List Blk)
 | [.one (.s (.flt .f32 x))]=>sF znr (z7e x)
 | _=>none
theorem y92:ev8 Γ6 181 [.one (.s (.flt .f32 a0))]=znr (z7e a0):=tr2 (y3a a0 znr rfl (fun c0_=>some c0_)) (by kernel_rfl)
theorem y3v:SumOne J 181 zo7:=mkT zlq zlv fun pts v news hp=>by
 unfold zo7 at hp
 split at hp
 ·exact fin3 (y92 ..) hp
 ·cases hp
def zfv:St:=(.mk [(x0P 0 4 7),(x0F 4 a0),(x0I 57 c1),(x0I 58 c2)] [(x0L g3),(x0L g4),(x0L g5),(x0L g6),(x0R false 0 1 2 3 a7 a8 a9 a10 c11 a12 a13)])
def zje(t57:Int)(b0 b1 b2 b3:List Nat)(q14 q15 q16 q0q:Nat)(q1j:Int)(q19 q18:Nat):St:=(.mk [(x0B 2 false)] [(x0L b0),(x0L b1),(x0L b2),(x0L b3),(x0R false 0 1 2 3 q14 q15 q16 q0q q1j q19 q18)])
def zke:St:=(.mk [(x0P 0 4 7),(x0F 4 a12),(x0I 57 c0),(x0I 58 c13),(x0B 59 e14)] [(x0L g1),(x0L g2),(x0L g3),(x0L g4),(x0R false 0 1 2 3 a5 a6 a7 a8 c9 a10 a11)])
def zli:Option ((Unit)⊕(Nat×Int×Bool))→Option (Ex×St)
 | none=>none
 | some (Sum.inl r)=>some (.ret,(zje c0 g1 g2 g3 g4 a5 a6 a7 a8 c9 a10 a11))
 | some (Sum.inr r)=>some ((.exit 0),(zke c0 g1 g2 g3 g4 a5 a6 a7 a8 c9 a10 a11 r.1 r.2.1 r.2.2))
def zsk (x:Option ((Unit)⊕(Nat×Int×Bool))):LO:=(.two (oL x) (.one .ret (zje c0 g1 g2 g3 g4 a5 a6 a7 a8 c9 a10 a11)) (.one (.exit 0) (zke c0 g1 g2 g3 g4 a5 a6 a7 a8 c9 a10 a11 ((tR x).getD default).1 ((tR x).getD default).2.1 ((tR x).getD default).2.2)))
def y3z:Bool×LO:=sL (zsk c1 g3 g4 g5 g6 a7 a8 a9 a10 c11 a12 a13) (z0z c1 g6 a10 a13 big a0 c2)
def zuq:Nat→St→Option (Bool×LO):=lpT 5 (pSt [(x1P 0 4 7),(x1F 4),(x1I 57),(x1I 58)] [x1L,x1L,x1L,x1L,(x1R false 0 1 2 3)]) (fun hs=>y3z (hN hs 0) (hI hs 1) (hI hs 2) (hLn hs 3) (hLn hs 4) (hLn hs 5) (hLn hs 6) (hN hs 7) (hN hs 8) (hN hs 9) (hN hs 10) (hI hs 11) (hN hs 12) (hN hs 13))
theorem y7f:∀ x:Option ((Unit)⊕(Nat×Int×Bool)),x.isSome=true→(zli c0 g1 g2 g3 g4 a5 a6 a7 a8 c9 a10 a11) x=some (pick (zsk c0 g1 g2 g3 g4 a5 a6 a7 a8 c9 a10 a11 x))
 | none,h=>by cases h
 | some (Sum.inl r),_=>rfl
 | some (Sum.inr r),_=>rfl
theorem y7t (K:Ex→St→Option (Ex×St)):ev9 Γ6 82 6 5 fi82 (zfv a0 c1 c2 g3 g4 g5 g6 a7 a8 a9 a10 c11 a12 a13) K=z47 c1 g6 a10 a13 a0 c2 (fun t4' t58'=>K .normal (zfv t4' c1 t58' g3 g4 g5 g6 a7 a8 a9 a10 c11 a12 a13)) (fun _=>K .ret (zje c1 g3 g4 g5 g6 a7 a8 a9 a10 c11 a12 a13)) (fun c0_ c1_ c2_=>K (.exit 0) (zke c1 g3 g4 g5 g6 a7 a8 a9 a10 c11 a12 a13 c0_ c1_ c2_)):=by kernel_rfl
theorem y7l:∀ (n t4:Nat) (t58:Int),iter 82 6 5 (ev9 Γ6 82 6 5 fi82) n (zfv t4 c0 t58 g1 g2 g3 g4 a5 a6 a7 a8 c9 a10 a11) (fun e st=>some (e,st))=(zli c0 g1 g2 g3 g4 a5 a6 a7 a8 c9 a10 a11) (z0z c0 g4 a8 a11 n t4 t58):=by
 intro n
 induction n with
 | zero=>intros;rfl
 | succ n ih=>
  intro t4 t58
  refine Eq.trans (iter_succ ..) (Eq.trans (y7t ..) (Eq.trans ?_ (y1r c0 g4 a8 a11 t4 t58 (zli c0 g1 g2 g3 g4 a5 a6 a7 a8 c9 a10 a11) rfl (fun t4' t58'=>z0z c0 g4 a8 a11 n t4' t58') (fun _=>some (Sum.inl ())) (fun c0_ c1_ c2_=>some (Sum.inr (c0_,c1_,c2_))))))
  exact congrArg (fun kn_=>z47 c0 g4 a8 a11 t4 t58 kn_ _ _) (funext fun t4'=>funext fun t58'=>ih ..)
theorem y3l:LoopOne J fnTab 82 6 zuq:=lpK zlq zlv (fi:=fi82) (by kernel_rfl) (by kernel_rfl) (q:=fun hs=>(zfv (hN hs 0) (hI hs 1) (hI hs 2) (hLn hs 3) (hLn hs 4) (hLn hs 5) (hLn hs 6) (hN hs 7) (hN hs 8) (hN hs 9) (hN hs 10) (hI hs 11) (hN hs 12) (hN hs 13))) (fun hs=>by kernel_rfl) fun hs h1=>Eq.trans (y7l (hI hs 1) (hLn hs 3) (hLn hs 4) (hLn hs 5) (hLn hs 6) (hN hs 7) (hN hs 8) (hN hs 9) (hN hs 10) (hI hs 11) (hN hs 12) (hN hs 13) big (hN hs 0) (hI hs 2)) (y7f (hI hs 1) (hLn hs 3) (hLn hs 4) (hLn hs 5) (hLn hs 6) (hN hs 7) (hN hs 8) (hN hs 9) (hN hs 10) (hI hs 11) (hN hs 12) (hN hs 13) _ h1)
def tb7:List (Nat×(List PT→Option (Bool×AV×List Blk))):=(114,z2r)::(114,z3c)::(114,z3g)::(160,zv9)::(170,zkh)::(181,zo7)::tb6
def lt7:List ((Nat×Nat)×(Nat→St→Option (Bool×LO))):=((82,6),zuq)::lt6
def Γ7:Ctx:=⟨tyTab,fnTab,tblSum tb7,tblLp lt7⟩
theorem zsu:SumL J tb7:=SumL.cons z9v (SumL.cons zaq (SumL.cons zbo (SumL.cons y8q (SumL.cons y0z (SumL.cons y3v (zlq))))))
theorem ztf:LpL J fnTab lt7:=LpL.cons y3l (zlv)
def zgm  : Option (Bool)→Option (AV×List Blk)
 | some r=>some ((.v (.one (.bool r))),[])
 | none=>none
def zgr:List PT→Option (Bool×AV×List Blk)
 | [.one (.row 1 q1s (.fl .f32 q26))]=>sF zgm (z1m q1s q26)
 | _=>none
theorem y39:ev8 Γ7 64 [.one (.row 1 a0 (.fl .f32 g1))]=zgm (z1m a0 g1):=tr2 (zve a0 g1 zgm rfl (fun c0_=>some c0_)) (by kernel_rfl)
theorem zxr:SumOne J 64 zgr:=mkT zsu ztf fun pts v news hp=>by
 unfold zgr at hp
 split at hp
 ·exact fin3 (y39 ..) hp
 ·cases hp
def ztb  : Option (Bool)→Option (AV×List Blk)
 | some r=>some ((.v (.one (.bool r))),[])
 | none=>none
def zs3:List PT→Option (Bool×AV×List Blk)
 | [.ptr [.row 1 q08 (.fl .f32 q0c),.row 1 q0a (.fl .f32 q0d),.row 1 q09 (.fl .f32 q0f),.row 3 q0g (.fl .f32 q0i),.s (.int .i64 q0n),.s (.flt .f32 q0s),.s (.flt .f32 q0t)]]=>sF ztb (z99 q08 q0c q0a q0d q09 q0f q0g q0i q0n q0s q0t)
 | _=>none
theorem yb9:ev8 Γ7 82 [.ptr [.row 1 a0 (.fl .f32 g1),.row 1 a2 (.fl .f32 g3),.row 1 a4 (.fl .f32 g5),.row 3 a6 (.fl .f32 g7),.s (.int .i64 c8),.s (.flt .f32 a9),.s (.flt .f32 a10)]]=ztb (z99 a0 g1 a2 g3 a4 g5 a6 g7 c8 a9 a10):=tr2 (y6q a0 g1 a2 g3 a4 g5 a6 g7 c8 a9 a10 ztb rfl (fun c0_=>some c0_)) (by kernel_rfl)
theorem y84:SumOne J 82 zs3:=mkT zsu ztf fun pts v news hp=>by
 unfold zs3 at hp
 split at hp
 ·exact fin3 (yb9 ..) hp
 ·cases hp
def zki  : Option (Bool)→Option (AV×List Blk)
 | some r=>some ((.v (.one (.bool r))),[])
 | none=>none
def zkp:List PT→Option (Bool×AV×List Blk)
 | [.one (.row 1 q1s (.fl .f32 q26))]=>sF zki (z4c q1s q26)
 | _=>none
theorem y6v:ev8 Γ7 132 [.one (.row 1 a0 (.fl .f32 g1))]=zki (z4c a0 g1):=tr2 (zyk a0 g1 zki rfl (fun c0_=>some c0_)) (by kernel_rfl)
theorem y1q:SumOne J 132 zkp:=mkT zsu ztf fun pts v news hp=>by
 unfold zkp at hp
 split at hp
 ·exact fin3 (y6v ..) hp
 ·cases hp
def zms  : Option (Bool)→Option (AV×List Blk)
 | some r=>some ((.v (.one (.bool r))),[])
 | none=>none
def zn0:List PT→Option (Bool×AV×List Blk)
 | [.one (.row 1 q1s (.fl .f32 q26))]=>sF zms (z6m q1s q26)
 | _=>none
theorem y8d:ev8 Γ7 133 [.one (.row 1 a0 (.fl .f32 g1))]=zms (z6m a0 g1):=tr2 (y1y a0 g1 zms rfl (fun c0_=>some c0_)) (by kernel_rfl)
theorem y38:SumOne J 133 zn0:=mkT zsu ztf fun pts v news hp=>by
 unfold zn0 at hp
 split at hp
 ·exact fin3 (y8d ..) hp
 ·cases hp
def zjk  : Option (Nat)→Option (AV×List Blk)
 | some r=>some ((.v (.one (.flt .f32 r))),[])
 | none=>none
def zjj:List PT→Option (Bool×AV×List Blk)
 | [.one (.s (.flt .f32 x))]=>sF zjk (z5r x)
 | _=>none
theorem y72:ev8 Γ7 141 [.one (.s (.flt .f32 a0))]=zjk (z5r a0):=tr2 (zxz a0 zjk rfl (fun c0_=>some c0_)) (by kernel_rfl)
theorem y16:SumOne J 141 zjj:=mkT zsu ztf fun pts v news hp=>by
 unfold zjj at hp
 split at hp
 ·exact fin3 (y72 ..) hp
 ·cases hp
def tb8:List (Nat×(List PT→Option (Bool×AV×List Blk))):=(64,zgr)::(82,zs3)::(132,zkp)::(133,zn0)::(141,zjj)::tb7
def lt8:List ((Nat×Nat)×(Nat→St→Option (Bool×LO))):=lt7
def Γ8:Ctx:=⟨tyTab,fnTab,tblSum tb8,tblLp lt8⟩
theorem zt0:SumL J tb8:=SumL.cons zxr (SumL.cons y84 (SumL.cons y1q (SumL.cons y38 (SumL.cons y16 (zsu)))))
theorem zsf:LpL J fnTab lt8:=ztf
def zie  : Option (Nat×Nat×Bool)→Option (AV×List Blk)
 | some r=>some ((.tup [(.one (.flt .f32 r.1)),(.one (.flt .f32 r.2.1)),(.one (.bool r.2.2))]),[])
 | none=>none
def zi0:List PT→Option (Bool×AV×List Blk)
 | [.one (.s (.flt .f32 x)),.one (.s (.flt .f32 y))]=>sF zie (z2z x y)
 | _=>none
theorem y50:ev8 Γ8 107 [.one (.s (.flt .f32 a0)),.one (.s (.flt .f32 a1))]=zie (z2z a0 a1):=tr2 (zxi a0 a1 zie rfl (fun c0_ c1_ c2_=>some (c0_,c1_,c2_))) (by kernel_rfl)
theorem zzg:SumOne J 107 zi0:=mkT zt0 zsf fun pts v news hp=>by
 unfold zi0 at hp
 split at hp
 ·exact fin3 (y50 ..) hp
 ·cases hp
def zib  : Option (Bool)→Option (AV×List Blk)
 | some r=>some ((.v (.one (.bool r))),[])
 | none=>none
def zi7:List PT→Option (Bool×AV×List Blk)
 | [.ptr [.row 1 q00 (.fl .f32 q03),.row 1 q02 (.fl .f32 q04),.row 1 q01 (.fl .f32 q05),.row 3 q06 (.fl .f32 q07),.s (.int .i64 q0e),.s (.flt .f32 q0j),.s (.flt .f32 q0k)],.one (.s (.int .i64 i))]=>sF zib (z50 q00 q03 q02 q04 q01 q05 q06 q07 q0e q0j q0k i)
 | _=>none
theorem y4d:ev8 Γ8 127 [.ptr [.row 1 a0 (.fl .f32 g1),.row 1 a2 (.fl .f32 g3),.row 1 a4 (.fl .f32 g5),.row 3 a6 (.fl .f32 g7),.s (.int .i64 c8),.s (.flt .f32 a9),.s (.flt .f32 a10)],.one (.s (.int .i64 c11))]=zib (z50 a0 g1 a2 g3 a4 g5 a6 g7 c8 a9 a10 c11):=tr2 (zx3 a0 g1 a2 g3 a4 g5 a6 g7 c8 a9 a10 c11 zib rfl (fun c0_=>some c0_)) (by kernel_rfl)
theorem zyu:SumOne J 127 zi7:=mkT zt0 zsf fun pts v news hp=>by
 unfold zi7 at hp
 split at hp
 ·exact fin3 (y4d ..) hp
 ·cases hp
def zcq  : Option (Nat)→Option (AV×List Blk)
 | some r=>some ((.v (.one (.flt .f32 r))),[])
 | none=>none
def zd2:List PT→Option (Bool×AV×List Blk)
 | [.agg [.row 1 q00 (.fl .f32 q03),.row 1 q02 (.fl .f32 q04),.row 1 q01 (.fl .f32 q05),.row 3 q06 (.fl .f32 q07),.s (.int .i64 q0e),.s (.flt .f32 q0j),.s (.flt .f32 q0k)],.one (.s (.int .i64 i)),.one (.s (.flt .f32 q1p))]=>sF zcq (z35 q00 q03 q02 q04 q01 q05 q06 q07 q0e q0j q0k i q1p)
 | _=>none
theorem zwk:ev8 Γ8 143 [.agg [.row 1 a0 (.fl .f32 g1),.row 1 a2 (.fl .f32 g3),.row 1 a4 (.fl .f32 g5),.row 3 a6 (.fl .f32 g7),.s (.int .i64 c8),.s (.flt .f32 a9),.s (.flt .f32 a10)],.one (.s (.int .i64 c11)),.one (.s (.flt .f32 a12))]=zcq (z35 a0 g1 a2 g3 a4 g5 a6 g7 c8 a9 a10 c11 a12):=tr2 (zr8 a0 g1 a2 g3 a4 g5 a6 g7 c8 a9 a10 c11 a12 zcq rfl (fun c0_=>some c0_)) (by kernel_rfl)
theorem zse:SumOne J 143 zd2:=mkT zt0 zsf fun pts v news hp=>by
 unfold zd2 at hp
 split at hp
 ·exact fin3 (zwk ..) hp
 ·cases hp
def z1a:St:=(.mk [(x0V 0 0 a0 1),(1,(.v (.one (.fn 171 [(.ptr 4 0 1)])))),(x0I 7 c1),(x0I 8 c2)] [(x0L g3),(x0L g4),(x0L g5),(.mk true (.cells [(.vw 0 0 a6 1),(.vw 1 0 a7 1),(.vw 2 0 a8 1)])),(.mk true (.cells [(.flt .f32 a9)]))])
def z2d(sn:Nat)(t7:Int)(b0 b1 b2:List Nat)(q1q q23 q24 b4:Nat)(c0_:Int):St:=(.mk [(x0I 4 c0_)] [(x0L b0),(x0L b1),(x0L b2),(.mk true (.cells [(.vw 0 0 q1q 1),(.vw 1 0 q23 1),(.vw 2 0 q24 1)])),(.mk true (.cells [(.flt .f32 b4)]))])
def z2g:St:=(.mk [(x0V 0 0 a0 1),(1,(.v (.one (.fn 171 [(.ptr 4 0 1)])))),(x0I 7 c1),(x0I 8 c9),(x0B 9 e10)] [(x0L g2),(x0L g3),(x0L g4),(.mk true (.cells [(.vw 0 0 a5 1),(.vw 1 0 a6 1),(.vw 2 0 a7 1)])),(.mk true (.cells [(.flt .f32 a8)]))])
def z2o:Option ((Int)⊕(Int×Bool))→Option (Ex×St)
 | none=>none
 | some (Sum.inl r)=>some (.ret,(z2d a0 c1 g2 g3 g4 a5 a6 a7 a8 r))
 | some (Sum.inr r)=>some ((.exit 0),(z2g a0 c1 g2 g3 g4 a5 a6 a7 a8 r.1 r.2))
def z4y (x:Option ((Int)⊕(Int×Bool))):LO:=(.two (oL x) (.one .ret (z2d a0 c1 g2 g3 g4 a5 a6 a7 a8 ((tL x).getD default))) (.one (.exit 0) (z2g a0 c1 g2 g3 g4 a5 a6 a7 a8 ((tR x).getD default).1 ((tR x).getD default).2)))
def z9s:Bool×LO:=sL (z4y a0 c1 g3 g4 g5 a6 a7 a8 a9) (z00 a0 c1 g3 a9 big c2)
def z5e:Nat→St→Option (Bool×LO):=lpT 5 (pSt [(x1V 0 0 1),(pTm 1 (pV (pOne (pFn 171 [(pPtr 4 (liN 0) 1)])))),(x1I 7),(x1I 8)] [x1L,x1L,x1L,(pBlk true (pCells [(pVw 0 (liN 0) 1),(pVw 1 (liN 0) 1),(pVw 2 (liN 0) 1)])),(pBlk true (pCells [(pFlt .f32)]))]) (fun hs=>z9s (hN hs 0) (hI hs 1) (hI hs 2) (hLn hs 3) (hLn hs 4) (hLn hs 5) (hN hs 6) (hN hs 7) (hN hs 8) (hN hs 9))
theorem zaj:∀ x:Option ((Int)⊕(Int×Bool)),x.isSome=true→(z2o a0 c1 g2 g3 g4 a5 a6 a7 a8) x=some (pick (z4y a0 c1 g2 g3 g4 a5 a6 a7 a8 x))
 | none,h=>by cases h
 | some (Sum.inl r),_=>rfl
 | some (Sum.inr r),_=>rfl
theorem zav (K:Ex→St→Option (Ex×St)):ev9 Γ8 146 2 5 fi146 (z1a a0 c1 c2 g3 g4 g5 a6 a7 a8 a9) K=z09 a0 c1 g3 a9 c2 (fun t8'=>K .normal (z1a a0 c1 t8' g3 g4 g5 a6 a7 a8 a9)) (fun c0_=>K .ret (z2d a0 c1 g3 g4 g5 a6 a7 a8 a9 c0_)) (fun c0_ c1_=>K (.exit 0) (z2g a0 c1 g3 g4 g5 a6 a7 a8 a9 c0_ c1_)):=by kernel_rfl
theorem zay:∀ (n:Nat) (t8:Int),iter 146 2 5 (ev9 Γ8 146 2 5 fi146) n (z1a a0 c1 t8 g2 g3 g4 a5 a6 a7 a8) (fun e st=>some (e,st))=(z2o a0 c1 g2 g3 g4 a5 a6 a7 a8) (z00 a0 c1 g2 a8 n t8):=by
 intro n
 induction n with
 | zero=>intros;rfl
 | succ n ih=>
  intro t8
  refine Eq.trans (iter_succ ..) (Eq.trans (zav ..) (Eq.trans ?_ (z94 a0 c1 g2 a8 t8 (z2o a0 c1 g2 g3 g4 a5 a6 a7 a8) rfl (fun t8'=>z00 a0 c1 g2 a8 n t8') (fun c0_=>some (Sum.inl c0_)) (fun c0_ c1_=>some (Sum.inr (c0_,c1_))))))
  exact congrArg (fun kn_=>z09 a0 c1 g2 a8 t8 kn_ _ _) (funext fun t8'=>ih ..)
theorem z9l:LoopOne J fnTab 146 2 z5e:=lpK zt0 zsf (fi:=fi146) (by kernel_rfl) (by kernel_rfl) (q:=fun hs=>(z1a (hN hs 0) (hI hs 1) (hI hs 2) (hLn hs 3) (hLn hs 4) (hLn hs 5) (hN hs 6) (hN hs 7) (hN hs 8) (hN hs 9))) (fun hs=>by kernel_rfl) fun hs h1=>Eq.trans (zay (hN hs 0) (hI hs 1) (hLn hs 3) (hLn hs 4) (hLn hs 5) (hN hs 6) (hN hs 7) (hN hs 8) (hN hs 9) big (hI hs 2)) (zaj (hN hs 0) (hI hs 1) (hLn hs 3) (hLn hs 4) (hLn hs 5) (hN hs 6) (hN hs 7) (hN hs 8) (hN hs 9) _ h1)
def zce:St:=(.mk [(x0P 0 3 3),(x0F 8 a0),(x0I 9 c1),(x0I 10 c2)] [(x0L g3),(x0L g4),(x0L g5),(.mk false (.cells [(.vw 0 0 a6 1),(.vw 1 0 a7 1),(.vw 2 0 a8 1)]))])
def zg9:St:=(.mk [(x0P 0 3 3),(x0F 8 a0),(x0I 9 c1),(x0I 10 c8),(x0B 36 e9)] [(x0L g2),(x0L g3),(x0L g4),(.mk false (.cells [(.vw 0 0 a5 1),(.vw 1 0 a6 1),(.vw 2 0 a7 1)]))])
def zik:Option ((Int×Bool))→Option (Ex×St)
 | none=>none
 | some r=>some ((.exit 0),(zg9 a0 c1 g2 g3 g4 a5 a6 a7 r.1 r.2))
def zpa (x:Option ((Int×Bool))):LO:=(.one (.exit 0) (zg9 a0 c1 g2 g3 g4 a5 a6 a7 (x.getD default).1 (x.getD default).2))
def y13:Bool×LO:=sL (zpa a0 c1 g3 g4 g5 a6 a7 a8) (z1d a0 g3 a6 big c2)
def zqy:Nat→St→Option (Bool×LO):=lpT 4 (pSt [(x1P 0 3 3),(x1F 8),(x1I 9),(x1I 10)] [x1L,x1L,x1L,(pBlk false (pCells [(pVw 0 (liN 0) 1),(pVw 1 (liN 0) 1),(pVw 2 (liN 0) 1)]))]) (fun hs=>y13 (hN hs 0) (hI hs 1) (hI hs 2) (hLn hs 3) (hLn hs 4) (hLn hs 5) (hN hs 6) (hN hs 7) (hN hs 8))
theorem y5o:∀ x:Option ((Int×Bool)),x.isSome=true→(zik a0 c1 g2 g3 g4 a5 a6 a7) x=some (pick (zpa a0 c1 g2 g3 g4 a5 a6 a7 x))
 | none,h=>by cases h
 | some r,_=>rfl
theorem y3u (K:Ex→St→Option (Ex×St)):ev9 Γ8 176 4 4 fi176 (zce a0 c1 c2 g3 g4 g5 a6 a7 a8) K=z31 a0 g3 a6 c2 (fun t10'=>K .normal (zce a0 c1 t10' g3 g4 g5 a6 a7 a8)) (fun c0_ c1_=>K (.exit 0) (zg9 a0 c1 g3 g4 g5 a6 a7 a8 c0_ c1_)):=by kernel_rfl
theorem y4j:∀ (n:Nat) (t10:Int),iter 176 4 4 (ev9 Γ8 176 4 4 fi176) n (zce a0 c1 t10 g2 g3 g4 a5 a6 a7) (fun e st=>some (e,st))=(zik a0 c1 g2 g3 g4 a5 a6 a7) (z1d a0 g2 a5 n t10):=by
 intro n
 induction n with
 | zero=>intros;rfl
 | succ n ih=>
  intro t10
  refine Eq.trans (iter_succ ..) (Eq.trans (y3u ..) (Eq.trans ?_ (zwz a0 g2 a5 t10 (zik a0 c1 g2 g3 g4 a5 a6 a7) rfl (fun t10'=>z1d a0 g2 a5 n t10') (fun c0_ c1_=>some (c0_,c1_)))))
  exact congrArg (fun kn_=>z31 a0 g2 a5 t10 kn_ _) (funext fun t10'=>ih ..)
theorem zzc:LoopOne J fnTab 176 4 zqy:=lpK zt0 zsf (fi:=fi176) (by kernel_rfl) (by kernel_rfl) (q:=fun hs=>(zce (hN hs 0) (hI hs 1) (hI hs 2) (hLn hs 3) (hLn hs 4) (hLn hs 5) (hN hs 6) (hN hs 7) (hN hs 8))) (fun hs=>by kernel_rfl) fun hs h1=>Eq.trans (y4j (hN hs 0) (hI hs 1) (hLn hs 3) (hLn hs 4) (hLn hs 5) (hN hs 6) (hN hs 7) (hN hs 8) big (hI hs 2)) (y5o (hN hs 0) (hI hs 1) (hLn hs 3) (hLn hs 4) (hLn hs 5) (hN hs 6) (hN hs 7) (hN hs 8) _ h1)
def tb9:List (Nat×(List PT→Option (Bool×AV×List Blk))):=(107,zi0)::(127,zi7)::(143,zd2)::tb8
def lt9:List ((Nat×Nat)×(Nat→St→Option (Bool×LO))):=((146,2),z5e)::((176,4),zqy)::lt8
def Γ9:Ctx:=⟨tyTab,fnTab,tblSum tb9,tblLp lt9⟩
theorem zxj:SumL J tb9:=SumL.cons zzg (SumL.cons zyu (SumL.cons zse (zt0)))
theorem zxq:LpL J fnTab lt9:=LpL.cons z9l (LpL.cons zzc (zsf))
def zpq  : Option (Bool)→Option (AV×List Blk)
 | some r=>some ((.v (.one (.bool r))),[])
 | none=>none
def zq2:List PT→Option (Bool×AV×List Blk)
 | [.ptr [.row 1 q00 (.fl .f32 q03),.row 1 q02 (.fl .f32 q04),.row 1 q01 (.fl .f32 q05),.row 3 q06 (.fl .f32 q07),.s (.int .i64 q0e),.s (.flt .f32 q0j),.s (.flt .f32 q0k)],.one (.s (.int .i64 i)),.one (.s (.flt .f32 q17)),.one (.s (.flt .f32 q0u)),.one (.s (.flt .f32 q0l))]=>sF zpq (z8c q00 q03 q02 q04 q01 q05 q06 q07 q0e q0j q0k i q17 q0u q0l)
 | _=>none
theorem yak:ev8 Γ9 87 [.ptr [.row 1 a0 (.fl .f32 g1),.row 1 a2 (.fl .f32 g3),.row 1 a4 (.fl .f32 g5),.row 3 a6 (.fl .f32 g7),.s (.int .i64 c8),.s (.flt .f32 a9),.s (.flt .f32 a10)],.one (.s (.int .i64 c11)),.one (.s (.flt .f32 a12)),.one (.s (.flt .f32 a13)),.one (.s (.flt .f32 a14))]=zpq (z8c a0 g1 a2 g3 a4 g5 a6 g7 c8 a9 a10 c11 a12 a13 a14):=tr2 (y4q a0 g1 a2 g3 a4 g5 a6 g7 c8 a9 a10 c11 a12 a13 a14 zpq rfl (fun c0_=>some c0_)) (by kernel_rfl)
theorem y6n:SumOne J 87 zq2:=mkT zxj zxq fun pts v news hp=>by
 unfold zq2 at hp
 split at hp
 ·exact fin3 (yak ..) hp
 ·cases hp
def zbk  : Option (Int×Int×Nat×Nat×Nat)→Option (AV×List Blk)
 | some r=>some ((.tup [(.one (.int .i64 r.1)),(.one (.int .i64 r.2.1)),(.one (.flt .f32 r.2.2.1)),(.one (.flt .f32 r.2.2.2.1)),(.one (.flt .f32 r.2.2.2.2))]),[])
 | none=>none
def zbi:List PT→Option (Bool×AV×List Blk)
 | [.agg [.row 1 q0b (.fl .f32 q0h),.row 1 q1b (.fl .f32 q1k),.row 1 q1a (.fl .f32 q1l)],.one (.s (.flt .f32 x1))]=>sF zbk (z0t q0b q0h q1b q1k q1a q1l x1)
 | _=>none
theorem zvt:ev8 Γ9 161 [.agg [.row 1 a0 (.fl .f32 g1),.row 1 a2 (.fl .f32 g3),.row 1 a4 (.fl .f32 g5)],.one (.s (.flt .f32 a6))]=zbk (z0t a0 g1 a2 g3 a4 g5 a6):=tr2 (zpm a0 g1 a2 g3 a4 g5 a6 zbk rfl (fun c0_ c1_ c2_ c3_ c4_=>some (c0_,c1_,c2_,c3_,c4_))) (by kernel_rfl)
theorem zrj:SumOne J 161 zbi:=mkT zxj zxq fun pts v news hp=>by
 unfold zbi at hp
 split at hp
 ·exact fin3 (zvt ..) hp
 ·cases hp
def zoj  : Option (Int×Int×Nat×Nat)→Option (AV×List Blk)
 | some r=>some ((.tup [(.one (.int .i64 r.1)),(.one (.int .i64 r.2.1)),(.one (.flt .f32 r.2.2.1)),(.one (.flt .f32 r.2.2.2))]),[])
 | none=>none
def znp:List PT→Option (Bool×AV×List Blk)
 | [.ptr [.row 1 q0b (.fl .f32 q0h),.row 1 q1b (.fl .f32 q1k),.row 1 q1a (.fl .f32 q1l)],.one (.s (.flt .f32 x1))]=>sF zoj (z36 q0b q0h q1b q1k q1a q1l x1)
 | _=>none
theorem y90:ev8 Γ9 176 [.ptr [.row 1 a0 (.fl .f32 g1),.row 1 a2 (.fl .f32 g3),.row 1 a4 (.fl .f32 g5)],.one (.s (.flt .f32 a6))]=zoj (z36 a0 g1 a2 g3 a4 g5 a6):=tr2 (y3g a0 g1 a2 g3 a4 g5 a6 zoj rfl (fun c0_ c1_ c2_ c3_=>some (c0_,c1_,c2_,c3_))) (by kernel_rfl)
theorem y5a:SumOne J 176 znp:=mkT zxj zxq fun pts v news hp=>by
 unfold znp at hp
 split at hp
 ·exact fin3 (y90 ..) hp
 ·cases hp
def z7o:St:=(.mk [(x0P 1 3 3),(x0V 42 0 a0 1),(x0I 43 c1),(x0I 44 c2)] [(x0L g3),(x0L g4),(x0L g5),(.mk true (.cells [(.vw 0 0 a6 1),(.vw 1 0 a7 1),(.vw 2 0 a8 1)]))])
def za0(q2y:Nat)(t43:Int)(b0 b1 b2:List Nat)(q1q q23 q24:Nat):St:=(.mk [(x0B 2 false)] [(x0L b0),(x0L b1),(x0L b2)])
def za1:St:=(.mk [(x0P 1 3 3),(x0V 42 0 a0 1),(x0I 43 c1),(x0I 44 c8),(x0B 45 e9)] [(x0L g2),(x0L g3),(x0L g4),(.mk true (.cells [(.vw 0 0 a5 1),(.vw 1 0 a6 1),(.vw 2 0 a7 1)]))])
def zbl:Option ((Unit)⊕(Int×Bool))→Option (Ex×St)
 | none=>none
 | some (Sum.inl r)=>some (.ret,(za0 a0 c1 g2 g3 g4 a5 a6 a7))
 | some (Sum.inr r)=>some ((.exit 0),(za1 a0 c1 g2 g3 g4 a5 a6 a7 r.1 r.2))
def zhh (x:Option ((Unit)⊕(Int×Bool))):LO:=(.two (oL x) (.one .ret (za0 a0 c1 g2 g3 g4 a5 a6 a7)) (.one (.exit 0) (za1 a0 c1 g2 g3 g4 a5 a6 a7 ((tR x).getD default).1 ((tR x).getD default).2)))
def ztk:Bool×LO:=sL (zhh a0 c1 g3 g4 g5 a6 a7 a8) (z0p a0 c1 g3 a6 big c2)
def ziu:Nat→St→Option (Bool×LO):=lpT 3 (pSt [(x1P 1 3 3),(x1V 42 0 1),(x1I 43),(x1I 44)] [x1L,x1L,x1L,(pBlk true (pCells [(pVw 0 (liN 0) 1),(pVw 1 (liN 0) 1),(pVw 2 (liN 0) 1)]))]) (fun hs=>ztk (hN hs 0) (hI hs 1) (hI hs 2) (hLn hs 3) (hLn hs 4) (hLn hs 5) (hN hs 6) (hN hs 7) (hN hs 8))
theorem zvn:∀ x:Option ((Unit)⊕(Int×Bool)),x.isSome=true→(zbl a0 c1 g2 g3 g4 a5 a6 a7) x=some (pick (zhh a0 c1 g2 g3 g4 a5 a6 a7 x))
 | none,h=>by cases h
 | some (Sum.inl r),_=>rfl
 | some (Sum.inr r),_=>rfl
theorem zv0 (K:Ex→St→Option (Ex×St)):ev9 Γ9 89 5 3 fi89 (z7o a0 c1 c2 g3 g4 g5 a6 a7 a8) K=z1h a0 c1 g3 a6 c2 (fun t44'=>K .normal (z7o a0 c1 t44' g3 g4 g5 a6 a7 a8)) (fun _=>K .ret (za0 a0 c1 g3 g4 g5 a6 a7 a8)) (fun c0_ c1_=>K (.exit 0) (za1 a0 c1 g3 g4 g5 a6 a7 a8 c0_ c1_)):=by kernel_rfl
theorem zvz:∀ (n:Nat) (t44:Int),iter 89 5 3 (ev9 Γ9 89 5 3 fi89) n (z7o a0 c1 t44 g2 g3 g4 a5 a6 a7) (fun e st=>some (e,st))=(zbl a0 c1 g2 g3 g4 a5 a6 a7) (z0p a0 c1 g2 a5 n t44):=by
 intro n
 induction n with
 | zero=>intros;rfl
 | succ n ih=>
  intro t44
  refine Eq.trans (iter_succ ..) (Eq.trans (zv0 ..) (Eq.trans ?_ (zq1 a0 c1 g2 a5 t44 (zbl a0 c1 g2 g3 g4 a5 a6 a7) rfl (fun t44'=>z0p a0 c1 g2 a5 n t44') (fun _=>some (Sum.inl ())) (fun c0_ c1_=>some (Sum.inr (c0_,c1_))))))
  exact congrArg (fun kn_=>z1h a0 c1 g2 a5 t44 kn_ _ _) (funext fun t44'=>ih ..)
theorem zr7:LoopOne J fnTab 89 5 ziu:=lpK zxj zxq (fi:=fi89) (by kernel_rfl) (by kernel_rfl) (q:=fun hs=>(z7o (hN hs 0) (hI hs 1) (hI hs 2) (hLn hs 3) (hLn hs 4) (hLn hs 5) (hN hs 6) (hN hs 7) (hN hs 8))) (fun hs=>by kernel_rfl) fun hs h1=>Eq.trans (zvz (hN hs 0) (hI hs 1) (hLn hs 3) (hLn hs 4) (hLn hs 5) (hN hs 6) (hN hs 7) (hN hs 8) big (hI hs 2)) (zvn (hN hs 0) (hI hs 1) (hLn hs 3) (hLn hs 4) (hLn hs 5) (hN hs 6) (hN hs 7) (hN hs 8) _ h1)
def tb10:List (Nat×(List PT→Option (Bool×AV×List Blk))):=(87,zq2)::(161,zbi)::(176,znp)::tb9
def lt10:List ((Nat×Nat)×(Nat→St→Option (Bool×LO))):=((89,5),ziu)::lt9
def Γ10:Ctx:=⟨tyTab,fnTab,tblSum tb10,tblLp lt10⟩
theorem zxm:SumL J tb10:=SumL.cons y6n (SumL.cons zrj (SumL.cons y5a (zxj)))
theorem zwe:LpL J fnTab lt10:=LpL.cons zr7 (zxq)
def zfk  : Option (Bool)→Option (AV×List Blk)
 | some r=>some ((.v (.one (.bool r))),[])
 | none=>none
def zfp:List PT→Option (Bool×AV×List Blk)
 | [.agg [.row 1 q0b (.fl .f32 q0h),.row 1 q1b (.fl .f32 q1k),.row 1 q1a (.fl .f32 q1l)]]=>sF zfk (z42 q0b q0h q1b q1k q1a q1l)
 | _=>none
theorem y1c:ev8 Γ10 89 [.agg [.row 1 a0 (.fl .f32 g1),.row 1 a2 (.fl .f32 g3),.row 1 a4 (.fl .f32 g5)]]=zfk (z42 a0 g1 a2 g3 a4 g5):=tr2 (zud a0 g1 a2 g3 a4 g5 zfk rfl (fun c0_=>some c0_)) (by kernel_rfl)
theorem zv2:SumOne J 89 zfp:=mkT zxm zwe fun pts v news hp=>by
 unfold zfp at hp
 split at hp
 ·exact fin3 (y1c ..) hp
 ·cases hp
def zhv  : Option (Nat)→Option (AV×List Blk)
 | some r=>some ((.v (.one (.flt .f32 r))),[])
 | none=>none
def zim:List PT→Option (Bool×AV×List Blk)
 | [.agg [.row 1 q1d (.fl .f32 q1t),.row 1 q1i (.fl .f32 q21),.row 1 q1h (.fl .f32 q20)],.one (.row 1 q1s (.fl .f32 q26)),.one (.s (.flt .f32 q2b))]=>sF zhv (z57 q1d q1t q1i q21 q1h q20 q1s q26 q2b)
 | _=>none
theorem y4f:ev8 Γ10 144 [.agg [.row 1 a0 (.fl .f32 g1),.row 1 a2 (.fl .f32 g3),.row 1 a4 (.fl .f32 g5)],.one (.row 1 a6 (.fl .f32 g7)),.one (.s (.flt .f32 a8))]=zhv (z57 a0 g1 a2 g3 a4 g5 a6 g7 a8):=tr2 (zx0 a0 g1 a2 g3 a4 g5 a6 g7 a8 zhv rfl (fun c0_=>some c0_)) (by kernel_rfl)
theorem zzd:SumOne J 144 zim:=mkT zxm zwe fun pts v news hp=>by
 unfold zim at hp
 split at hp
 ·exact fin3 (y4f ..) hp
 ·cases hp
def zsq  : Option (Nat)→Option (AV×List Blk)
 | some r=>some ((.v (.one (.flt .f32 r))),[])
 | none=>none
def zsv:List PT→Option (Bool×AV×List Blk)
 | [.ptr [.row 1 q1d (.fl .f32 q1t),.row 1 q1i (.fl .f32 q21),.row 1 q1h (.fl .f32 q20)],.one (.row 1 q1s (.fl .f32 q26)),.one (.s (.flt .f32 q2b))]=>sF zsq (z9b q1d q1t q1i q21 q1h q20 q1s q26 q2b)
 | _=>none
theorem yb1:ev8 Γ10 172 [.ptr [.row 1 a0 (.fl .f32 g1),.row 1 a2 (.fl .f32 g3),.row 1 a4 (.fl .f32 g5)],.one (.row 1 a6 (.fl .f32 g7)),.one (.s (.flt .f32 a8))]=zsq (z9b a0 g1 a2 g3 a4 g5 a6 g7 a8):=tr2 (y6d a0 g1 a2 g3 a4 g5 a6 g7 a8 zsq rfl (fun c0_=>some c0_)) (by kernel_rfl)
theorem y85:SumOne J 172 zsv:=mkT zxm zwe fun pts v news hp=>by
 unfold zsv at hp
 split at hp
 ·exact fin3 (yb1 ..) hp
 ·cases hp
def tb11:List (Nat×(List PT→Option (Bool×AV×List Blk))):=(89,zfp)::(144,zim)::(172,zsv)::tb10
def lt11:List ((Nat×Nat)×(Nat→St→Option (Bool×LO))):=lt10
def Γ11:Ctx:=⟨tyTab,fnTab,tblSum tb11,tblLp lt11⟩
theorem zwf:SumL J tb11:=SumL.cons zv2 (SumL.cons zzd (SumL.cons y85 (zxm)))
theorem zwx:LpL J fnTab lt11:=zwe
def zfs  : Option (Nat×Nat)→Option (AV×List Blk)
 | some r=>some ((.tup [(.one (.flt .f32 r.1)),(.one (.flt .f32 r.2))]),[])
 | none=>none
def zft:List PT→Option (Bool×AV×List Blk)
 | [.agg [.row 1 q00 (.fl .f32 q03),.row 1 q02 (.fl .f32 q04),.row 1 q01 (.fl .f32 q05),.row 3 q06 (.fl .f32 q07),.s (.int .i64 q0e),.s (.flt .f32 q0j),.s (.flt .f32 q0k)],.one (.s (.int .i64 i)),.one (.s (.flt .f32 q1p)),.one (.s (.flt .f32 q0l))]=>sF zfs (z2c q00 q03 q02 q04 q01 q05 q06 q07 q0e q0j q0k i q1p q0l)
 | _=>none
theorem y1j:ev8 Γ11 106 [.agg [.row 1 a0 (.fl .f32 g1),.row 1 a2 (.fl .f32 g3),.row 1 a4 (.fl .f32 g5),.row 3 a6 (.fl .f32 g7),.s (.int .i64 c8),.s (.flt .f32 a9),.s (.flt .f32 a10)],.one (.s (.int .i64 c11)),.one (.s (.flt .f32 a12)),.one (.s (.flt .f32 a13))]=zfs (z2c a0 g1 a2 g3 a4 g5 a6 g7 c8 a9 a10 c11 a12 a13):=tr2 (ztt a0 g1 a2 g3 a4 g5 a6 g7 c8 a9 a10 c11 a12 a13 zfs rfl (fun c0_ c1_=>some (c0_,c1_))) (by kernel_rfl)
theorem zw5:SumOne J 106 zft:=mkT zwf zwx fun pts v news hp=>by
 unfold zft at hp
 split at hp
 ·exact fin3 (y1j ..) hp
 ·cases hp
def zos  : Option (Nat)→Option (AV×List Blk)
 | some r=>some ((.v (.one (.flt .f32 r))),[])
 | none=>none
def zo4:List PT→Option (Bool×AV×List Blk)
 | [.ptr [.row 1 q1d (.fl .f32 q1t),.row 1 q1i (.fl .f32 q21),.row 1 q1h (.fl .f32 q20)],.one (.s (.flt .f32 q2b))]=>sF zos (z7g q1d q1t q1i q21 q1h q20 q2b)
 | _=>none
theorem y8z:ev8 Γ11 165 [.ptr [.row 1 a0 (.fl .f32 g1),.row 1 a2 (.fl .f32 g3),.row 1 a4 (.fl .f32 g5)],.one (.s (.flt .f32 a6))]=zos (z7g a0 g1 a2 g3 a4 g5 a6):=tr2 (y29 a0 g1 a2 g3 a4 g5 a6 zos rfl (fun c0_=>some c0_)) (by kernel_rfl)
theorem y43:SumOne J 165 zo4:=mkT zwf zwx fun pts v news hp=>by
 unfold zo4 at hp
 split at hp
 ·exact fin3 (y8z ..) hp
 ·cases hp
def znu  : Option (Nat)→Option (AV×List Blk)
 | some r=>some ((.v (.one (.flt .f32 r))),[])
 | none=>none
def zo1:List PT→Option (Bool×AV×List Blk)
 | [.ptr [.row 1 q1d (.fl .f32 q1t),.row 1 q1i (.fl .f32 q21),.row 1 q1h (.fl .f32 q20)],.one (.s (.flt .f32 q2b))]=>sF znu (z7h q1d q1t q1i q21 q1h q20 q2b)
 | _=>none
theorem y8h:ev8 Γ11 166 [.ptr [.row 1 a0 (.fl .f32 g1),.row 1 a2 (.fl .f32 g3),.row 1 a4 (.fl .f32 g5)],.one (.s (.flt .f32 a6))]=znu (z7h a0 g1 a2 g3 a4 g5 a6):=tr2 (y2g a0 g1 a2 g3 a4 g5 a6 znu rfl (fun c0_=>some c0_)) (by kernel_rfl)
theorem y58:SumOne J 166 zo1:=mkT zwf zwx fun pts v news hp=>by
 unfold zo1 at hp
 split at hp
 ·exact fin3 (y8h ..) hp
 ·cases hp
def tb12:List (Nat×(List PT→Option (Bool×AV×List Blk))):=(106,zft)::(165,zo4)::(166,zo1)::tb11
def lt12:List ((Nat×Nat)×(Nat→St→Option (Bool×LO))):=lt11
def Γ12:Ctx:=⟨tyTab,fnTab,tblSum tb12,tblLp lt12⟩
theorem zwd:SumL J tb12:=SumL.cons zw5 (SumL.cons y43 (SumL.cons y58 (zwf)))
theorem zwr:LpL J fnTab lt12:=zwx
def zfj  : Option (Nat×Nat)→Option (AV×List Blk)
 | some r=>some ((.tup [(.one (.flt .f32 r.1)),(.one (.flt .f32 r.2))]),[])
 | none=>none
def zfn:List PT→Option (Bool×AV×List Blk)
 | [.agg [.row 1 q00 (.fl .f32 q03),.row 1 q02 (.fl .f32 q04),.row 1 q01 (.fl .f32 q05),.row 3 q06 (.fl .f32 q07),.s (.int .i64 q0e),.s (.flt .f32 q0j),.s (.flt .f32 q0k)],.one (.s (.int .i64 i)),.one (.s (.flt .f32 q1p)),.one (.s (.flt .f32 q0l))]=>sF zfj (z2y q00 q03 q02 q04 q01 q05 q06 q07 q0e q0j q0k i q1p q0l)
 | _=>none
theorem y12:ev8 Γ12 105 [.agg [.row 1 a0 (.fl .f32 g1),.row 1 a2 (.fl .f32 g3),.row 1 a4 (.fl .f32 g5),.row 3 a6 (.fl .f32 g7),.s (.int .i64 c8),.s (.flt .f32 a9),.s (.flt .f32 a10)],.one (.s (.int .i64 c11)),.one (.s (.flt .f32 a12)),.one (.s (.flt .f32 a13))]=zfj (z2y a0 g1 a2 g3 a4 g5 a6 g7 c8 a9 a10 c11 a12 a13):=tr2 (zu3 a0 g1 a2 g3 a4 g5 a6 g7 c8 a9 a10 c11 a12 a13 zfj rfl (fun c0_ c1_=>some (c0_,c1_))) (by kernel_rfl)
theorem zux:SumOne J 105 zfn:=mkT zwd zwr fun pts v news hp=>by
 unfold zfn at hp
 split at hp
 ·exact fin3 (y12 ..) hp
 ·cases hp
def zjr  : Option (Nat×Nat)→Option (AV×List Blk)
 | some r=>some ((.tup [(.one (.flt .f32 r.1)),(.one (.flt .f32 r.2))]),[])
 | none=>none
def zjy:List PT→Option (Bool×AV×List Blk)
 | [.ptr [.row 1 q00 (.fl .f32 q03),.row 1 q02 (.fl .f32 q04),.row 1 q01 (.fl .f32 q05),.row 3 q06 (.fl .f32 q07),.s (.int .i64 q0e),.s (.flt .f32 q0j),.s (.flt .f32 q0k)],.one (.s (.int .i64 i)),.one (.s (.flt .f32 q1p)),.one (.s (.flt .f32 q0l))]=>sF zjr (z4m q00 q03 q02 q04 q01 q05 q06 q07 q0e q0j q0k i q1p q0l)
 | _=>none
theorem y73:ev8 Γ12 150 [.ptr [.row 1 a0 (.fl .f32 g1),.row 1 a2 (.fl .f32 g3),.row 1 a4 (.fl .f32 g5),.row 3 a6 (.fl .f32 g7),.s (.int .i64 c8),.s (.flt .f32 a9),.s (.flt .f32 a10)],.one (.s (.int .i64 c11)),.one (.s (.flt .f32 a12)),.one (.s (.flt .f32 a13))]=zjr (z4m a0 g1 a2 g3 a4 g5 a6 g7 c8 a9 a10 c11 a12 a13):=tr2 (zzj a0 g1 a2 g3 a4 g5 a6 g7 c8 a9 a10 c11 a12 a13 zjr rfl (fun c0_ c1_=>some (c0_,c1_))) (by kernel_rfl)
theorem y0i:SumOne J 150 zjy:=mkT zwd zwr fun pts v news hp=>by
 unfold zjy at hp
 split at hp
 ·exact fin3 (y73 ..) hp
 ·cases hp
def z8i:St:=(.mk [(x0P 1 4 7),(x0F 4 a0),(x0V 43 3 a1 3),(x0I 44 c2),(x0I 45 c3)] [(x0L g4),(x0L g5),(x0L g6),(x0L g7),(x0R true 0 1 2 3 a8 a9 a10 a11 c12 a13 a14)])
def zcn(q2w:Nat)(t44:Int)(b0 b1 b2 b3:List Nat)(q14 q15 q16 q0q:Nat)(q1j:Int)(q19 q18:Nat):St:=(.mk [(x0B 2 false)] [(x0L b0),(x0L b1),(x0L b2),(x0L b3)])
def zco:St:=(.mk [(x0P 1 4 7),(x0F 4 a13),(x0V 43 3 a0 3),(x0I 44 c1),(x0I 45 c14),(x0B 46 e15)] [(x0L g2),(x0L g3),(x0L g4),(x0L g5),(x0R true 0 1 2 3 a6 a7 a8 a9 c10 a11 a12)])
def zf0:Option ((Unit)⊕(Nat×Int×Bool))→Option (Ex×St)
 | none=>none
 | some (Sum.inl r)=>some (.ret,(zcn a0 c1 g2 g3 g4 g5 a6 a7 a8 a9 c10 a11 a12))
 | some (Sum.inr r)=>some ((.exit 0),(zco a0 c1 g2 g3 g4 g5 a6 a7 a8 a9 c10 a11 a12 r.1 r.2.1 r.2.2))
def zl2 (x:Option ((Unit)⊕(Nat×Int×Bool))):LO:=(.two (oL x) (.one .ret (zcn a0 c1 g2 g3 g4 g5 a6 a7 a8 a9 c10 a11 a12)) (.one (.exit 0) (zco a0 c1 g2 g3 g4 g5 a6 a7 a8 a9 c10 a11 a12 ((tR x).getD default).1 ((tR x).getD default).2.1 ((tR x).getD default).2.2)))
def zvy:Bool×LO:=sL (zl2 a1 c2 g4 g5 g6 g7 a8 a9 a10 a11 c12 a13 a14) (z0f a1 c2 g7 a14 big a0 c3)
def zlw:Nat→St→Option (Bool×LO):=lpT 4 (pSt [(x1P 1 4 7),(x1F 4),(x1V 43 3 3),(x1I 44),(x1I 45)] [x1L,x1L,x1L,x1L,(x1R true 0 1 2 3)]) (fun hs=>zvy (hN hs 0) (hN hs 1) (hI hs 2) (hI hs 3) (hLn hs 4) (hLn hs 5) (hLn hs 6) (hLn hs 7) (hN hs 8) (hN hs 9) (hN hs 10) (hN hs 11) (hI hs 12) (hN hs 13) (hN hs 14))
theorem zz1:∀ x:Option ((Unit)⊕(Nat×Int×Bool)),x.isSome=true→(zf0 a0 c1 g2 g3 g4 g5 a6 a7 a8 a9 c10 a11 a12) x=some (pick (zl2 a0 c1 g2 g3 g4 g5 a6 a7 a8 a9 c10 a11 a12 x))
 | none,h=>by cases h
 | some (Sum.inl r),_=>rfl
 | some (Sum.inr r),_=>rfl
theorem zyr (K:Ex→St→Option (Ex×St)):ev9 Γ12 51 6 4 fi51 (z8i a0 a1 c2 c3 g4 g5 g6 g7 a8 a9 a10 a11 c12 a13 a14) K=z21 a1 c2 g7 a14 a0 c3 (fun t4' t45'=>K .normal (z8i t4' a1 c2 t45' g4 g5 g6 g7 a8 a9 a10 a11 c12 a13 a14)) (fun _=>K .ret (zcn a1 c2 g4 g5 g6 g7 a8 a9 a10 a11 c12 a13 a14)) (fun c0_ c1_ c2_=>K (.exit 0) (zco a1 c2 g4 g5 g6 g7 a8 a9 a10 a11 c12 a13 a14 c0_ c1_ c2_)):=by kernel_rfl
theorem zz8:∀ (n t4:Nat) (t45:Int),iter 51 6 4 (ev9 Γ12 51 6 4 fi51) n (z8i t4 a0 c1 t45 g2 g3 g4 g5 a6 a7 a8 a9 c10 a11 a12) (fun e st=>some (e,st))=(zf0 a0 c1 g2 g3 g4 g5 a6 a7 a8 a9 c10 a11 a12) (z0f a0 c1 g5 a12 n t4 t45):=by
 intro n
 induction n with
 | zero=>intros;rfl
 | succ n ih=>
  intro t4 t45
  refine Eq.trans (iter_succ ..) (Eq.trans (zyr ..) (Eq.trans ?_ (zs6 a0 c1 g5 a12 t4 t45 (zf0 a0 c1 g2 g3 g4 g5 a6 a7 a8 a9 c10 a11 a12) rfl (fun t4' t45'=>z0f a0 c1 g5 a12 n t4' t45') (fun _=>some (Sum.inl ())) (fun c0_ c1_ c2_=>some (Sum.inr (c0_,c1_,c2_))))))
  exact congrArg (fun kn_=>z21 a0 c1 g5 a12 t4 t45 kn_ _ _) (funext fun t4'=>funext fun t45'=>ih ..)
theorem zu4:LoopOne J fnTab 51 6 zlw:=lpK zwd zwr (fi:=fi51) (by kernel_rfl) (by kernel_rfl) (q:=fun hs=>(z8i (hN hs 0) (hN hs 1) (hI hs 2) (hI hs 3) (hLn hs 4) (hLn hs 5) (hLn hs 6) (hLn hs 7) (hN hs 8) (hN hs 9) (hN hs 10) (hN hs 11) (hI hs 12) (hN hs 13) (hN hs 14))) (fun hs=>by kernel_rfl) fun hs h1=>Eq.trans (zz8 (hN hs 1) (hI hs 2) (hLn hs 4) (hLn hs 5) (hLn hs 6) (hLn hs 7) (hN hs 8) (hN hs 9) (hN hs 10) (hN hs 11) (hI hs 12) (hN hs 13) (hN hs 14) big (hN hs 0) (hI hs 3)) (zz1 (hN hs 1) (hI hs 2) (hLn hs 4) (hLn hs 5) (hLn hs 6) (hLn hs 7) (hN hs 8) (hN hs 9) (hN hs 10) (hN hs 11) (hI hs 12) (hN hs 13) (hN hs 14) _ h1)
def tb13:List (Nat×(List PT→Option (Bool×AV×List Blk))):=(105,zfn)::(150,zjy)::tb12
def lt13:List ((Nat×Nat)×(Nat→St→Option (Bool×LO))):=((51,6),zlw)::lt12
def Γ13:Ctx:=⟨tyTab,fnTab,tblSum tb13,tblLp lt13⟩
theorem zxb:SumL J tb13:=SumL.cons zux (SumL.cons y0i (zwd))
theorem zwj:LpL J fnTab lt13:=LpL.cons zu4 (zwr)
def zi9  : Option (Bool)→Option (AV×List Blk)
 | some r=>some ((.v (.one (.bool r))),[])
 | none=>none
def zhl:List PT→Option (Bool×AV×List Blk)
 | [.agg [.row 1 q08 (.fl .f32 q0c),.row 1 q0a (.fl .f32 q0d),.row 1 q09 (.fl .f32 q0f),.row 3 q0g (.fl .f32 q0i),.s (.int .i64 q0n),.s (.flt .f32 q0s),.s (.flt .f32 q0t)]]=>sF zi9 (z59 q08 q0c q0a q0d q09 q0f q0g q0i q0n q0s q0t)
 | _=>none
theorem y4h:ev8 Γ13 51 [.agg [.row 1 a0 (.fl .f32 g1),.row 1 a2 (.fl .f32 g3),.row 1 a4 (.fl .f32 g5),.row 3 a6 (.fl .f32 g7),.s (.int .i64 c8),.s (.flt .f32 a9),.s (.flt .f32 a10)]]=zi9 (z59 a0 g1 a2 g3 a4 g5 a6 g7 c8 a9 a10):=tr2 (zww a0 g1 a2 g3 a4 g5 a6 g7 c8 a9 a10 zi9 rfl (fun c0_=>some c0_)) (by kernel_rfl)
theorem zzn:SumOne J 51 zhl:=mkT zxb zwj fun pts v news hp=>by
 unfold zhl at hp
 split at hp
 ·exact fin3 (y4h ..) hp
 ·cases hp
def zo8  : Option (Nat×Nat×Nat×Nat)→Option (AV×List Blk)
 | some r=>some ((.tup [(.one (.flt .f32 r.1)),(.one (.flt .f32 r.2.1)),(.one (.flt .f32 r.2.2.1)),(.one (.flt .f32 r.2.2.2))]),[])
 | none=>none
def znq:List PT→Option (Bool×AV×List Blk)
 | [.ptr [.row 1 q00 (.fl .f32 q03),.row 1 q02 (.fl .f32 q04),.row 1 q01 (.fl .f32 q05),.row 3 q06 (.fl .f32 q07),.s (.int .i64 q0e),.s (.flt .f32 q0j),.s (.flt .f32 q0k)],.one (.s (.int .i64 i)),.one (.s (.flt .f32 q1p)),.one (.s (.flt .f32 q0l))]=>sF zo8 (z3u q00 q03 q02 q04 q01 q05 q06 q07 q0e q0j q0k i q1p q0l)
 | _=>none
theorem y9w:ev8 Γ13 130 [.ptr [.row 1 a0 (.fl .f32 g1),.row 1 a2 (.fl .f32 g3),.row 1 a4 (.fl .f32 g5),.row 3 a6 (.fl .f32 g7),.s (.int .i64 c8),.s (.flt .f32 a9),.s (.flt .f32 a10)],.one (.s (.int .i64 c11)),.one (.s (.flt .f32 a12)),.one (.s (.flt .f32 a13))]=zo8 (z3u a0 g1 a2 g3 a4 g5 a6 g7 c8 a9 a10 c11 a12 a13):=tr2 (y2v a0 g1 a2 g3 a4 g5 a6 g7 c8 a9 a10 c11 a12 a13 zo8 rfl (fun c0_ c1_ c2_ c3_=>some (c0_,c1_,c2_,c3_))) (by kernel_rfl)
theorem y57:SumOne J 130 znq:=mkT zxb zwj fun pts v news hp=>by
 unfold znq at hp
 split at hp
 ·exact fin3 (y9w ..) hp
 ·cases hp
def zeh  : Option (Nat)→Option (AV×List Blk)
 | some r=>some ((.v (.one (.flt .f32 r))),[])
 | none=>none
def ze9:List PT→Option (Bool×AV×List Blk)
 | [.agg [.row 1 q00 (.fl .f32 q03),.row 1 q02 (.fl .f32 q04),.row 1 q01 (.fl .f32 q05),.row 3 q06 (.fl .f32 q07),.s (.int .i64 q0e),.s (.flt .f32 q0j),.s (.flt .f32 q0k)],.one (.s (.int .i64 i)),.one (.s (.flt .f32 q1p)),.one (.s (.flt .f32 q17)),.one (.s (.flt .f32 q0u)),.one (.s (.flt .f32 q0l))]=>sF zeh (z2p q00 q03 q02 q04 q01 q05 q06 q07 q0e q0j q0k i q1p q17 q0u q0l)
 | _=>none
theorem zz9:ev8 Γ13 157 [.agg [.row 1 a0 (.fl .f32 g1),.row 1 a2 (.fl .f32 g3),.row 1 a4 (.fl .f32 g5),.row 3 a6 (.fl .f32 g7),.s (.int .i64 c8),.s (.flt .f32 a9),.s (.flt .f32 a10)],.one (.s (.int .i64 c11)),.one (.s (.flt .f32 a12)),.one (.s (.flt .f32 a13)),.one (.s (.flt .f32 a14)),.one (.s (.flt .f32 a15))]=zeh (z2p a0 g1 a2 g3 a4 g5 a6 g7 c8 a9 a10 c11 a12 a13 a14 a15):=tr2 (zth a0 g1 a2 g3 a4 g5 a6 g7 c8 a9 a10 c11 a12 a13 a14 a15 zeh rfl (fun c0_=>some c0_)) (by kernel_rfl)
theorem ztr:SumOne J 157 ze9:=mkT zxb zwj fun pts v news hp=>by
 unfold ze9 at hp
 split at hp
 ·exact fin3 (zz9 ..) hp
 ·cases hp
def tb14:List (Nat×(List PT→Option (Bool×AV×List Blk))):=(51,zhl)::(130,znq)::(157,ze9)::tb13
def lt14:List ((Nat×Nat)×(Nat→St→Option (Bool×LO))):=lt13
def Γ14:Ctx:=⟨tyTab,fnTab,tblSum tb14,tblLp lt14⟩
theorem y3r:SumL J tb14:=SumL.cons zzn (SumL.cons y57 (SumL.cons ztr (zxb)))
theorem y3q:LpL J fnTab lt14:=zwj
def zns  : Option (Bool)→Option (AV×List Blk)
 | some r=>some ((.v (.one (.bool r))),[])
 | none=>none
def znw:List PT→Option (Bool×AV×List Blk)
 | [.agg [.row 1 q00 (.fl .f32 q03),.row 1 q02 (.fl .f32 q04),.row 1 q01 (.fl .f32 q05),.row 3 q06 (.fl .f32 q07),.s (.int .i64 q0e),.s (.flt .f32 q0j),.s (.flt .f32 q0k)],.one (.s (.int .i64 i)),.one (.s (.flt .f32 q17)),.one (.s (.flt .f32 q0u)),.one (.s (.flt .f32 q0l))]=>sF zns (z7l q00 q03 q02 q04 q01 q05 q06 q07 q0e q0j q0k i q17 q0u q0l)
 | _=>none
theorem y9l:ev8 Γ14 139 [.agg [.row 1 a0 (.fl .f32 g1),.row 1 a2 (.fl .f32 g3),.row 1 a4 (.fl .f32 g5),.row 3 a6 (.fl .f32 g7),.s (.int .i64 c8),.s (.flt .f32 a9),.s (.flt .f32 a10)],.one (.s (.int .i64 c11)),.one (.s (.flt .f32 a12)),.one (.s (.flt .f32 a13)),.one (.s (.flt .f32 a14))]=zns (z7l a0 g1 a2 g3 a4 g5 a6 g7 c8 a9 a10 c11 a12 a13 a14):=tr2 (y3f a0 g1 a2 g3 a4 g5 a6 g7 c8 a9 a10 c11 a12 a13 a14 zns rfl (fun c0_=>some c0_)) (by kernel_rfl)
theorem y4o:SumOne J 139 znw:=mkT y3r y3q fun pts v news hp=>by
 unfold znw at hp
 split at hp
 ·exact fin3 (y9l ..) hp
 ·cases hp
def zii  : Option (Nat)→Option (AV×List Blk)
 | some r=>some ((.v (.one (.flt .f32 r))),[])
 | none=>none
def zif:List PT→Option (Bool×AV×List Blk)
 | [.ptr [.row 1 q00 (.fl .f32 q03),.row 1 q02 (.fl .f32 q04),.row 1 q01 (.fl .f32 q05),.row 3 q06 (.fl .f32 q07),.s (.int .i64 q0e),.s (.flt .f32 q0j),.s (.flt .f32 q0k)],.one (.s (.int .i64 i)),.one (.s (.flt .f32 q1p)),.one (.s (.flt .f32 q17)),.one (.s (.flt .f32 q0u)),.one (.s (.flt .f32 q0l))]=>sF zii (z30 q00 q03 q02 q04 q01 q05 q06 q07 q0e q0j q0k i q1p q17 q0u q0l)
 | _=>none
theorem y4g:ev8 Γ14 149 [.ptr [.row 1 a0 (.fl .f32 g1),.row 1 a2 (.fl .f32 g3),.row 1 a4 (.fl .f32 g5),.row 3 a6 (.fl .f32 g7),.s (.int .i64 c8),.s (.flt .f32 a9),.s (.flt .f32 a10)],.one (.s (.int .i64 c11)),.one (.s (.flt .f32 a12)),.one (.s (.flt .f32 a13)),.one (.s (.flt .f32 a14)),.one (.s (.flt .f32 a15))]=zii (z30 a0 g1 a2 g3 a4 g5 a6 g7 c8 a9 a10 c11 a12 a13 a14 a15):=tr2 (zwb a0 g1 a2 g3 a4 g5 a6 g7 c8 a9 a10 c11 a12 a13 a14 a15 zii rfl (fun c0_=>some c0_)) (by kernel_rfl)
theorem zyd:SumOne J 149 zif:=mkT y3r y3q fun pts v news hp=>by
 unfold zif at hp
 split at hp
 ·exact fin3 (y4g ..) hp
 ·cases hp
def tb15:List (Nat×(List PT→Option (Bool×AV×List Blk))):=(139,znw)::(149,zif)::tb14
def lt15:List ((Nat×Nat)×(Nat→St→Option (Bool×LO))):=lt14
def Γ15:Ctx:=⟨tyTab,fnTab,tblSum tb15,tblLp lt15⟩
theorem y8k:SumL J tb15:=SumL.cons y4o (SumL.cons zyd (y3r))
theorem y97:LpL J fnTab lt15:=y3q
def zkl  : Option (Nat×Bool)→Option (AV×List Blk)
 | some r=>some ((.tup [(.one (.flt .f32 r.1)),(.one (.bool r.2))]),[])
 | none=>none
def zkm:List PT→Option (Bool×AV×List Blk)
 | [.agg [.row 1 q00 (.fl .f32 q03),.row 1 q02 (.fl .f32 q04),.row 1 q01 (.fl .f32 q05),.row 3 q06 (.fl .f32 q07),.s (.int .i64 q0e),.s (.flt .f32 q0j),.s (.flt .f32 q0k)],.one (.s (.int .i64 i)),.one (.s (.flt .f32 q1p)),.one (.s (.flt .f32 q17)),.one (.s (.flt .f32 q0u)),.one (.s (.flt .f32 q0l))]=>sF zkl (z4k q00 q03 q02 q04 q01 q05 q06 q07 q0e q0j q0k i q1p q17 q0u q0l)
 | _=>none
theorem y5z:ev8 Γ15 140 [.agg [.row 1 a0 (.fl .f32 g1),.row 1 a2 (.fl .f32 g3),.row 1 a4 (.fl .f32 g5),.row 3 a6 (.fl .f32 g7),.s (.int .i64 c8),.s (.flt .f32 a9),.s (.flt .f32 a10)],.one (.s (.int .i64 c11)),.one (.s (.flt .f32 a12)),.one (.s (.flt .f32 a13)),.one (.s (.flt .f32 a14)),.one (.s (.flt .f32 a15))]=zkl (z4k a0 g1 a2 g3 a4 g5 a6 g7 c8 a9 a10 c11 a12 a13 a14 a15):=tr2 (zys a0 g1 a2 g3 a4 g5 a6 g7 c8 a9 a10 c11 a12 a13 a14 a15 zkl rfl (fun c0_ c1_=>some (c0_,c1_))) (by kernel_rfl)
theorem y1p:SumOne J 140 zkm:=mkT y8k y97 fun pts v news hp=>by
 unfold zkm at hp
 split at hp
 ·exact fin3 (y5z ..) hp
 ·cases hp
def tb16:List (Nat×(List PT→Option (Bool×AV×List Blk))):=(140,zkm)::tb15
def lt16:List ((Nat×Nat)×(Nat→St→Option (Bool×LO))):=lt15
def Γ16:Ctx:=⟨tyTab,fnTab,tblSum tb16,tblLp lt16⟩
theorem y9y:SumL J tb16:=SumL.cons y1p (y8k)
theorem y9n:LpL J fnTab lt16:=y97
def z9q:St:=(.mk [(x0P 0 4 7),(x0I 1 c0),(x0F 2 a1),(x0F 3 a2),(x0F 4 a3),(x0F 12 a4),(x0F 13 a5),(x0I 14 c6)] [(x0L g7),(x0L g8),(x0L g9),(x0L g10),(x0R false 0 1 2 3 a11 a12 a13 a14 c15 a16 a17)])
def ze8(i:Int)(q17 q0u q0l:Nat)(b0 b1 b2 b3:List Nat)(q14 q15 q16 q0q:Nat)(q1j:Int)(q19 q18:Nat):St:=(.mk [(x0F 10 0),(x0B 11 false)] [(x0L b0),(x0L b1),(x0L b2),(x0L b3),(x0R false 0 1 2 3 q14 q15 q16 q0q q1j q19 q18)])
def zei:St:=(.mk [(x0P 0 4 7),(x0I 1 c0),(x0F 2 a1),(x0F 3 a2),(x0F 4 a3),(x0F 12 a15),(x0F 13 a16),(x0I 14 c17),(x0B 18 e18)] [(x0L g4),(x0L g5),(x0L g6),(x0L g7),(x0R false 0 1 2 3 a8 a9 a10 a11 c12 a13 a14)])
def zfm:Option ((Unit)⊕(Nat×Nat×Int×Bool))→Option (Ex×St)
 | none=>none
 | some (Sum.inl r)=>some (.ret,(ze8 c0 a1 a2 a3 g4 g5 g6 g7 a8 a9 a10 a11 c12 a13 a14))
 | some (Sum.inr r)=>some ((.exit 0),(zei c0 a1 a2 a3 g4 g5 g6 g7 a8 a9 a10 a11 c12 a13 a14 r.1 r.2.1 r.2.2.1 r.2.2.2))
def zmw (x:Option ((Unit)⊕(Nat×Nat×Int×Bool))):LO:=(.two (oL x) (.one .ret (ze8 c0 a1 a2 a3 g4 g5 g6 g7 a8 a9 a10 a11 c12 a13 a14)) (.one (.exit 0) (zei c0 a1 a2 a3 g4 g5 g6 g7 a8 a9 a10 a11 c12 a13 a14 ((tR x).getD default).1 ((tR x).getD default).2.1 ((tR x).getD default).2.2.1 ((tR x).getD default).2.2.2)))
def zxd:Bool×LO:=sL (zmw c0 a1 a2 a3 g7 g8 g9 g10 a11 a12 a13 a14 c15 a16 a17) (z0h c0 a1 a2 a3 g7 g8 g9 g10 a11 a12 a13 a14 c15 a16 a17 big a4 a5 c6)
def znh:Nat→St→Option (Bool×LO):=lpT 5 (pSt [(x1P 0 4 7),(x1I 1),(x1F 2),(x1F 3),(x1F 4),(x1F 12),(x1F 13),(x1I 14)] [x1L,x1L,x1L,x1L,(x1R false 0 1 2 3)]) (fun hs=>zxd (hI hs 0) (hN hs 1) (hN hs 2) (hN hs 3) (hN hs 4) (hN hs 5) (hI hs 6) (hLn hs 7) (hLn hs 8) (hLn hs 9) (hLn hs 10) (hN hs 11) (hN hs 12) (hN hs 13) (hN hs 14) (hI hs 15) (hN hs 16) (hN hs 17))
theorem y1n:∀ x:Option ((Unit)⊕(Nat×Nat×Int×Bool)),x.isSome=true→(zfm c0 a1 a2 a3 g4 g5 g6 g7 a8 a9 a10 a11 c12 a13 a14) x=some (pick (zmw c0 a1 a2 a3 g4 g5 g6 g7 a8 a9 a10 a11 c12 a13 a14 x))
 | none,h=>by cases h
 | some (Sum.inl r),_=>rfl
 | some (Sum.inr r),_=>rfl
theorem y0r (K:Ex→St→Option (Ex×St)):ev9 Γ16 129 4 5 fi129 (z9q c0 a1 a2 a3 a4 a5 c6 g7 g8 g9 g10 a11 a12 a13 a14 c15 a16 a17) K=z2a c0 a1 a2 a3 g7 g8 g9 g10 a11 a12 a13 a14 c15 a16 a17 a4 a5 c6 (fun low' q22' k'=>K .normal (z9q c0 a1 a2 a3 low' q22' k' g7 g8 g9 g10 a11 a12 a13 a14 c15 a16 a17)) (fun _=>K .ret (ze8 c0 a1 a2 a3 g7 g8 g9 g10 a11 a12 a13 a14 c15 a16 a17)) (fun c0_ c1_ c2_ c3_=>K (.exit 0) (zei c0 a1 a2 a3 g7 g8 g9 g10 a11 a12 a13 a14 c15 a16 a17 c0_ c1_ c2_ c3_)):=by kernel_rfl
theorem y1k:∀ (n low q22:Nat) (k:Int),iter 129 4 5 (ev9 Γ16 129 4 5 fi129) n (z9q c0 a1 a2 a3 low q22 k g4 g5 g6 g7 a8 a9 a10 a11 c12 a13 a14) (fun e st=>some (e,st))=(zfm c0 a1 a2 a3 g4 g5 g6 g7 a8 a9 a10 a11 c12 a13 a14) (z0h c0 a1 a2 a3 g4 g5 g6 g7 a8 a9 a10 a11 c12 a13 a14 n low q22 k):=by
 intro n
 induction n with
 | zero=>intros;rfl
 | succ n ih=>
  intro low q22 k
  refine Eq.trans (iter_succ ..) (Eq.trans (y0r ..) (Eq.trans ?_ (zu9 c0 a1 a2 a3 g4 g5 g6 g7 a8 a9 a10 a11 c12 a13 a14 low q22 k (zfm c0 a1 a2 a3 g4 g5 g6 g7 a8 a9 a10 a11 c12 a13 a14) rfl (fun low' q22' k'=>z0h c0 a1 a2 a3 g4 g5 g6 g7 a8 a9 a10 a11 c12 a13 a14 n low' q22' k') (fun _=>some (Sum.inl ())) (fun c0_ c1_ c2_ c3_=>some (Sum.inr (c0_,c1_,c2_,c3_))))))
  exact congrArg (fun kn_=>z2a c0 a1 a2 a3 g4 g5 g6 g7 a8 a9 a10 a11 c12 a13 a14 low q22 k kn_ _ _) (funext fun low'=>funext fun q22'=>funext fun k'=>ih ..)
theorem zv1:LoopOne J fnTab 129 4 znh:=lpK y9y y9n (fi:=fi129) (by kernel_rfl) (by kernel_rfl) (q:=fun hs=>(z9q (hI hs 0) (hN hs 1) (hN hs 2) (hN hs 3) (hN hs 4) (hN hs 5) (hI hs 6) (hLn hs 7) (hLn hs 8) (hLn hs 9) (hLn hs 10) (hN hs 11) (hN hs 12) (hN hs 13) (hN hs 14) (hI hs 15) (hN hs 16) (hN hs 17))) (fun hs=>by kernel_rfl) fun hs h1=>Eq.trans (y1k (hI hs 0) (hN hs 1) (hN hs 2) (hN hs 3) (hLn hs 7) (hLn hs 8) (hLn hs 9) (hLn hs 10) (hN hs 11) (hN hs 12) (hN hs 13) (hN hs 14) (hI hs 15) (hN hs 16) (hN hs 17) big (hN hs 4) (hN hs 5) (hI hs 6)) (y1n (hI hs 0) (hN hs 1) (hN hs 2) (hN hs 3) (hLn hs 7) (hLn hs 8) (hLn hs 9) (hLn hs 10) (hN hs 11) (hN hs 12) (hN hs 13) (hN hs 14) (hI hs 15) (hN hs 16) (hN hs 17) _ h1)
def tb17:List (Nat×(List PT→Option (Bool×AV×List Blk))):=tb16
def lt17:List ((Nat×Nat)×(Nat→St→Option (Bool×LO))):=((129,4),znh)::lt16
def Γ17:Ctx:=⟨tyTab,fnTab,tblSum tb17,tblLp lt17⟩
theorem y3p:SumL J tb17:=y9y
theorem y3n:LpL J fnTab lt17:=LpL.cons zv1 (y9n)
def zjz  : Option (Nat×Bool)→Option (AV×List Blk)
 | some r=>some ((.tup [(.one (.flt .f32 r.1)),(.one (.bool r.2))]),[])
 | none=>none
def zka:List PT→Option (Bool×AV×List Blk)
 | [.ptr [.row 1 q00 (.fl .f32 q03),.row 1 q02 (.fl .f32 q04),.row 1 q01 (.fl .f32 q05),.row 3 q06 (.fl .f32 q07),.s (.int .i64 q0e),.s (.flt .f32 q0j),.s (.flt .f32 q0k)],.one (.s (.int .i64 i)),.one (.s (.flt .f32 q17)),.one (.s (.flt .f32 q0u)),.one (.s (.flt .f32 q0l))]=>sF zjz (z4g q00 q03 q02 q04 q01 q05 q06 q07 q0e q0j q0k i q17 q0u q0l)
 | _=>none
theorem y6k:ev8 Γ17 129 [.ptr [.row 1 a0 (.fl .f32 g1),.row 1 a2 (.fl .f32 g3),.row 1 a4 (.fl .f32 g5),.row 3 a6 (.fl .f32 g7),.s (.int .i64 c8),.s (.flt .f32 a9),.s (.flt .f32 a10)],.one (.s (.int .i64 c11)),.one (.s (.flt .f32 a12)),.one (.s (.flt .f32 a13)),.one (.s (.flt .f32 a14))]=zjz (z4g a0 g1 a2 g3 a4 g5 a6 g7 c8 a9 a10 c11 a12 a13 a14):=tr2 (zyz a0 g1 a2 g3 a4 g5 a6 g7 c8 a9 a10 c11 a12 a13 a14 zjz rfl (fun c0_ c1_=>some (c0_,c1_))) (by kernel_rfl)
theorem y1i:SumOne J 129 zka:=mkT y3p y3n fun pts v news hp=>by
 unfold zka at hp
 split at hp
 ·exact fin3 (y6k ..) hp
 ·cases hp
def zea:St:=(.mk [(x0I 1 c0),(x0F 2 a1),(x0F 3 a2),(x0F 4 a3),(x0P 5 4 7),(x0F 12 a4),(x0F 13 a5),(x0I 24 c6)] [(x0L g7),(x0L g8),(x0L g9),(x0L g10),(x0R true 0 1 2 3 a11 a12 a13 a14 c15 a16 a17)])
def zhq(i:Int)(q17 q0u q0l:Nat)(b0 b1 b2 b3:List Nat)(q14 q15 q16 q0q:Nat)(q1j:Int)(q19 q18:Nat):St:=(.mk [(x0F 10 0),(x0B 11 false)] [(x0L b0),(x0L b1),(x0L b2),(x0L b3)])
def zij:St:=(.mk [(x0I 1 c0),(x0F 2 a1),(x0F 3 a2),(x0F 4 a3),(x0P 5 4 7),(x0F 12 a15),(x0F 13 a16),(x0I 24 c17),(x0B 25 e18)] [(x0L g4),(x0L g5),(x0L g6),(x0L g7),(x0R true 0 1 2 3 a8 a9 a10 a11 c12 a13 a14)])
def zk4:Option ((Unit)⊕(Nat×Nat×Int×Bool))→Option (Ex×St)
 | none=>none
 | some (Sum.inl r)=>some (.ret,(zhq c0 a1 a2 a3 g4 g5 g6 g7 a8 a9 a10 a11 c12 a13 a14))
 | some (Sum.inr r)=>some ((.exit 0),(zij c0 a1 a2 a3 g4 g5 g6 g7 a8 a9 a10 a11 c12 a13 a14 r.1 r.2.1 r.2.2.1 r.2.2.2))
def zqm (x:Option ((Unit)⊕(Nat×Nat×Int×Bool))):LO:=(.two (oL x) (.one .ret (zhq c0 a1 a2 a3 g4 g5 g6 g7 a8 a9 a10 a11 c12 a13 a14)) (.one (.exit 0) (zij c0 a1 a2 a3 g4 g5 g6 g7 a8 a9 a10 a11 c12 a13 a14 ((tR x).getD default).1 ((tR x).getD default).2.1 ((tR x).getD default).2.2.1 ((tR x).getD default).2.2.2)))
def y3m:Bool×LO:=sL (zqm c0 a1 a2 a3 g7 g8 g9 g10 a11 a12 a13 a14 c15 a16 a17) (z0s c0 a1 a2 a3 g7 g8 g9 g10 a11 a12 a13 a14 c15 a16 a17 big a4 a5 c6)
def zta:Nat→St→Option (Bool×LO):=lpT 4 (pSt [(x1I 1),(x1F 2),(x1F 3),(x1F 4),(x1P 5 4 7),(x1F 12),(x1F 13),(x1I 24)] [x1L,x1L,x1L,x1L,(x1R true 0 1 2 3)]) (fun hs=>y3m (hI hs 0) (hN hs 1) (hN hs 2) (hN hs 3) (hN hs 4) (hN hs 5) (hI hs 6) (hLn hs 7) (hLn hs 8) (hLn hs 9) (hLn hs 10) (hN hs 11) (hN hs 12) (hN hs 13) (hN hs 14) (hI hs 15) (hN hs 16) (hN hs 17))
theorem y7b:∀ x:Option ((Unit)⊕(Nat×Nat×Int×Bool)),x.isSome=true→(zk4 c0 a1 a2 a3 g4 g5 g6 g7 a8 a9 a10 a11 c12 a13 a14) x=some (pick (zqm c0 a1 a2 a3 g4 g5 g6 g7 a8 a9 a10 a11 c12 a13 a14 x))
 | none,h=>by cases h
 | some (Sum.inl r),_=>rfl
 | some (Sum.inr r),_=>rfl
theorem y68 (K:Ex→St→Option (Ex×St)):ev9 Γ17 104 5 4 fi104 (zea c0 a1 a2 a3 a4 a5 c6 g7 g8 g9 g10 a11 a12 a13 a14 c15 a16 a17) K=z3n c0 a1 a2 a3 g7 g8 g9 g10 a11 a12 a13 a14 c15 a16 a17 a4 a5 c6 (fun low' q22' t24'=>K .normal (zea c0 a1 a2 a3 low' q22' t24' g7 g8 g9 g10 a11 a12 a13 a14 c15 a16 a17)) (fun _=>K .ret (zhq c0 a1 a2 a3 g7 g8 g9 g10 a11 a12 a13 a14 c15 a16 a17)) (fun c0_ c1_ c2_ c3_=>K (.exit 0) (zij c0 a1 a2 a3 g7 g8 g9 g10 a11 a12 a13 a14 c15 a16 a17 c0_ c1_ c2_ c3_)):=by kernel_rfl
theorem y63:∀ (n low q22:Nat) (t24:Int),iter 104 5 4 (ev9 Γ17 104 5 4 fi104) n (zea c0 a1 a2 a3 low q22 t24 g4 g5 g6 g7 a8 a9 a10 a11 c12 a13 a14) (fun e st=>some (e,st))=(zk4 c0 a1 a2 a3 g4 g5 g6 g7 a8 a9 a10 a11 c12 a13 a14) (z0s c0 a1 a2 a3 g4 g5 g6 g7 a8 a9 a10 a11 c12 a13 a14 n low q22 t24):=by
 intro n
 induction n with
 | zero=>intros;rfl
 | succ n ih=>
  intro low q22 t24
  refine Eq.trans (iter_succ ..) (Eq.trans (y68 ..) (Eq.trans ?_ (zyx c0 a1 a2 a3 g4 g5 g6 g7 a8 a9 a10 a11 c12 a13 a14 low q22 t24 (zk4 c0 a1 a2 a3 g4 g5 g6 g7 a8 a9 a10 a11 c12 a13 a14) rfl (fun low' q22' t24'=>z0s c0 a1 a2 a3 g4 g5 g6 g7 a8 a9 a10 a11 c12 a13 a14 n low' q22' t24') (fun _=>some (Sum.inl ())) (fun c0_ c1_ c2_ c3_=>some (Sum.inr (c0_,c1_,c2_,c3_))))))
  exact congrArg (fun kn_=>z3n c0 a1 a2 a3 g4 g5 g6 g7 a8 a9 a10 a11 c12 a13 a14 low q22 t24 kn_ _ _) (funext fun low'=>funext fun q22'=>funext fun t24'=>ih ..)
theorem y1s:LoopOne J fnTab 104 5 zta:=lpK y3p y3n (fi:=fi104) (by kernel_rfl) (by kernel_rfl) (q:=fun hs=>(zea (hI hs 0) (hN hs 1) (hN hs 2) (hN hs 3) (hN hs 4) (hN hs 5) (hI hs 6) (hLn hs 7) (hLn hs 8) (hLn hs 9) (hLn hs 10) (hN hs 11) (hN hs 12) (hN hs 13) (hN hs 14) (hI hs 15) (hN hs 16) (hN hs 17))) (fun hs=>by kernel_rfl) fun hs h1=>Eq.trans (y63 (hI hs 0) (hN hs 1) (hN hs 2) (hN hs 3) (hLn hs 7) (hLn hs 8) (hLn hs 9) (hLn hs 10) (hN hs 11) (hN hs 12) (hN hs 13) (hN hs 14) (hI hs 15) (hN hs 16) (hN hs 17) big (hN hs 4) (hN hs 5) (hI hs 6)) (y7b (hI hs 0) (hN hs 1) (hN hs 2) (hN hs 3) (hLn hs 7) (hLn hs 8) (hLn hs 9) (hLn hs 10) (hN hs 11) (hN hs 12) (hN hs 13) (hN hs 14) (hI hs 15) (hN hs 16) (hN hs 17) _ h1)
def tb18:List (Nat×(List PT→Option (Bool×AV×List Blk))):=(129,zka)::tb17
def lt18:List ((Nat×Nat)×(Nat→St→Option (Bool×LO))):=((104,5),zta)::lt17
def Γ18:Ctx:=⟨tyTab,fnTab,tblSum tb18,tblLp lt18⟩
theorem y3t:SumL J tb18:=SumL.cons y1i (y3p)
theorem y3o:LpL J fnTab lt18:=LpL.cons y1s (y3n)
def zjt  : Option (Nat×Nat×Bool)→Option (AV×List Blk)
 | some r=>some ((.tup [(.one (.flt .f32 r.1)),(.one (.flt .f32 r.2.1)),(.one (.bool r.2.2))]),[])
 | none=>none
def zj8:List PT→Option (Bool×AV×List Blk)
 | [.ptr [.row 1 q08 (.fl .f32 q0c),.row 1 q0a (.fl .f32 q0d),.row 1 q09 (.fl .f32 q0f),.row 3 q0g (.fl .f32 q0i),.s (.int .i64 q0n),.s (.flt .f32 q0s),.s (.flt .f32 q0t)],.one (.s (.int .i64 x1)),.one (.s (.flt .f32 x2)),.one (.s (.flt .f32 x3)),.one (.s (.flt .f32 x4)),.one (.s (.flt .f32 x5))]=>sF zjt (z1t q08 q0c q0a q0d q09 q0f q0g q0i q0n q0s q0t x1 x2 x3 x4 x5)
 | _=>none
theorem y6l:ev8 Γ18 88 [.ptr [.row 1 a0 (.fl .f32 g1),.row 1 a2 (.fl .f32 g3),.row 1 a4 (.fl .f32 g5),.row 3 a6 (.fl .f32 g7),.s (.int .i64 c8),.s (.flt .f32 a9),.s (.flt .f32 a10)],.one (.s (.int .i64 c11)),.one (.s (.flt .f32 a12)),.one (.s (.flt .f32 a13)),.one (.s (.flt .f32 a14)),.one (.s (.flt .f32 a15))]=zjt (z1t a0 g1 a2 g3 a4 g5 a6 g7 c8 a9 a10 c11 a12 a13 a14 a15):=tr2 (zy1 a0 g1 a2 g3 a4 g5 a6 g7 c8 a9 a10 c11 a12 a13 a14 a15 zjt rfl (fun c0_ c1_ c2_=>some (c0_,c1_,c2_))) (by kernel_rfl)
theorem y0k:SumOne J 88 zj8:=mkT y3t y3o fun pts v news hp=>by
 unfold zj8 at hp
 split at hp
 ·exact fin3 (y6l ..) hp
 ·cases hp
def zpf  : Option (Nat×Bool)→Option (AV×List Blk)
 | some r=>some ((.tup [(.one (.flt .f32 r.1)),(.one (.bool r.2))]),[])
 | none=>none
def zq8:List PT→Option (Bool×AV×List Blk)
 | [.agg [.row 1 q00 (.fl .f32 q03),.row 1 q02 (.fl .f32 q04),.row 1 q01 (.fl .f32 q05),.row 3 q06 (.fl .f32 q07),.s (.int .i64 q0e),.s (.flt .f32 q0j),.s (.flt .f32 q0k)],.one (.s (.int .i64 i)),.one (.s (.flt .f32 q17)),.one (.s (.flt .f32 q0u)),.one (.s (.flt .f32 q0l))]=>sF zpf (z6u q00 q03 q02 q04 q01 q05 q06 q07 q0e q0j q0k i q17 q0u q0l)
 | _=>none
theorem ya9:ev8 Γ18 104 [.agg [.row 1 a0 (.fl .f32 g1),.row 1 a2 (.fl .f32 g3),.row 1 a4 (.fl .f32 g5),.row 3 a6 (.fl .f32 g7),.s (.int .i64 c8),.s (.flt .f32 a9),.s (.flt .f32 a10)],.one (.s (.int .i64 c11)),.one (.s (.flt .f32 a12)),.one (.s (.flt .f32 a13)),.one (.s (.flt .f32 a14))]=zpf (z6u a0 g1 a2 g3 a4 g5 a6 g7 c8 a9 a10 c11 a12 a13 a14):=tr2 (y4v a0 g1 a2 g3 a4 g5 a6 g7 c8 a9 a10 c11 a12 a13 a14 zpf rfl (fun c0_ c1_=>some (c0_,c1_))) (by kernel_rfl)
theorem y6s:SumOne J 104 zq8:=mkT y3t y3o fun pts v news hp=>by
 unfold zq8 at hp
 split at hp
 ·exact fin3 (ya9 ..) hp
 ·cases hp
def tb19:List (Nat×(List PT→Option (Bool×AV×List Blk))):=(88,zj8)::(104,zq8)::tb18
def lt19:List ((Nat×Nat)×(Nat→St→Option (Bool×LO))):=lt18
def Γ19:Ctx:=⟨tyTab,fnTab,tblSum tb19,tblLp lt19⟩
theorem y93:SumL J tb19:=SumL.cons y0k (SumL.cons y6s (y3t))
theorem y8v:LpL J fnTab lt19:=y3o
def zdq  : Option (Nat×Nat×Bool)→Option (AV×List Blk)
 | some r=>some ((.tup [(.one (.flt .f32 r.1)),(.one (.flt .f32 r.2.1)),(.one (.bool r.2.2))]),[])
 | none=>none
def z8o:List PT→Option (Bool×AV×List Blk)
 | [.agg [.row 1 q08 (.fl .f32 q0c),.row 1 q0a (.fl .f32 q0d),.row 1 q09 (.fl .f32 q0f),.row 3 q0g (.fl .f32 q0i),.s (.int .i64 q0n),.s (.flt .f32 q0s),.s (.flt .f32 q0t)],.one (.s (.int .i64 x1)),.one (.s (.flt .f32 x2)),.one (.s (.flt .f32 x3)),.one (.s (.flt .f32 x4)),.one (.s (.flt .f32 x5))]=>sF zdq (z1j q08 q0c q0a q0d q09 q0f q0g q0i q0n q0s q0t x1 x2 x3 x4 x5)
 | _=>none
theorem zzm:ev8 Γ19 56 [.agg [.row 1 a0 (.fl .f32 g1),.row 1 a2 (.fl .f32 g3),.row 1 a4 (.fl .f32 g5),.row 3 a6 (.fl .f32 g7),.s (.int .i64 c8),.s (.flt .f32 a9),.s (.flt .f32 a10)],.one (.s (.int .i64 c11)),.one (.s (.flt .f32 a12)),.one (.s (.flt .f32 a13)),.one (.s (.flt .f32 a14)),.one (.s (.flt .f32 a15))]=zdq (z1j a0 g1 a2 g3 a4 g5 a6 g7 c8 a9 a10 c11 a12 a13 a14 a15):=tr2 (zsm a0 g1 a2 g3 a4 g5 a6 g7 c8 a9 a10 c11 a12 a13 a14 a15 zdq rfl (fun c0_ c1_ c2_=>some (c0_,c1_,c2_))) (by kernel_rfl)
theorem zhi:SumOne J 56 z8o:=mkT y93 y8v fun pts v news hp=>by
 unfold z8o at hp
 split at hp
 ·exact fin3 (zzm ..) hp
 ·cases hp
def tb20:List (Nat×(List PT→Option (Bool×AV×List Blk))):=(56,z8o)::tb19
def lt20:List ((Nat×Nat)×(Nat→St→Option (Bool×LO))):=lt19
def Γ20:Ctx:=⟨tyTab,fnTab,tblSum tb20,tblLp lt20⟩
theorem zro:SumL J tb20:=SumL.cons zhi (y93)
theorem y3s:LpL J fnTab lt20:=y8v
def zdy:St:=(.mk [(x0P 0 4 7),(x0F 1 a0),(x0F 2 a1),(x0F 3 a2),(x0F 4 a3),(x0S 13 5 a4 1),(x0S 14 6 a5 1),(x0I 15 c6)] [(x0L g7),(x0L g8),(x0L g9),(x0L g10),(x0R false 0 1 2 3 a11 a12 a13 a14 c15 a16 a17),(x0T g18),(x0T g19)])
def zia(t1 t2 t3 t4:Nat)(b0 b1 b2 b3:List Nat)(q14 q15 q16 q0q:Nat)(q1j:Int)(q19 q18:Nat):St:=(.mk [(10,(.v (.one .nilsl))),(11,(.v (.one .nilsl))),(x0B 12 false)] [(x0L b0),(x0L b1),(x0L b2),(x0L b3),(x0R false 0 1 2 3 q14 q15 q16 q0q q1j q19 q18)])
def zil:St:=(.mk [(x0P 0 4 7),(x0F 1 a0),(x0F 2 a1),(x0F 3 a2),(x0F 4 a3),(x0S 13 5 a15 1),(x0S 14 6 a16 1),(x0I 15 c17),(x0B 35 e18)] [(x0L g4),(x0L g5),(x0L g6),(x0L g7),(x0R false 0 1 2 3 a8 a9 a10 a11 c12 a13 a14),(x0T g19),(x0T g20)])
def zjx:Option ((Unit)⊕(Nat×Nat×Int×Bool×(List Nat)×(List Nat)))→Option (Ex×St)
 | none=>none
 | some (Sum.inl r)=>some (.ret,(zia a0 a1 a2 a3 g4 g5 g6 g7 a8 a9 a10 a11 c12 a13 a14))
 | some (Sum.inr r)=>some ((.exit 0),(zil a0 a1 a2 a3 g4 g5 g6 g7 a8 a9 a10 a11 c12 a13 a14 r.1 r.2.1 r.2.2.1 r.2.2.2.1 r.2.2.2.2.1 r.2.2.2.2.2))
def zqi (x:Option ((Unit)⊕(Nat×Nat×Int×Bool×(List Nat)×(List Nat)))):LO:=(.two (oL x) (.one .ret (zia a0 a1 a2 a3 g4 g5 g6 g7 a8 a9 a10 a11 c12 a13 a14)) (.one (.exit 0) (zil a0 a1 a2 a3 g4 g5 g6 g7 a8 a9 a10 a11 c12 a13 a14 ((tR x).getD default).1 ((tR x).getD default).2.1 ((tR x).getD default).2.2.1 ((tR x).getD default).2.2.2.1 ((tR x).getD default).2.2.2.2.1 ((tR x).getD default).2.2.2.2.2)))
def y2e:Bool×LO:=sL (zqi a0 a1 a2 a3 g7 g8 g9 g10 a11 a12 a13 a14 c15 a16 a17) (z0e a0 a1 a2 a3 g7 g8 g9 g10 a11 a12 a13 a14 c15 a16 a17 big a4 a5 c6 g18 g19)
def zsd:Nat→St→Option (Bool×LO):=lpT 5 (pSt [(x1P 0 4 7),(x1F 1),(x1F 2),(x1F 3),(x1F 4),(x1S 13 5 1),(x1S 14 6 1),(x1I 15)] [x1L,x1L,x1L,x1L,(x1R false 0 1 2 3),x1T,x1T]) (fun hs=>y2e (hN hs 0) (hN hs 1) (hN hs 2) (hN hs 3) (hN hs 4) (hN hs 5) (hI hs 6) (hLn hs 7) (hLn hs 8) (hLn hs 9) (hLn hs 10) (hN hs 11) (hN hs 12) (hN hs 13) (hN hs 14) (hI hs 15) (hN hs 16) (hN hs 17) (hLn hs 18) (hLn hs 19))
theorem y62:∀ x:Option ((Unit)⊕(Nat×Nat×Int×Bool×(List Nat)×(List Nat))),x.isSome=true→(zjx a0 a1 a2 a3 g4 g5 g6 g7 a8 a9 a10 a11 c12 a13 a14) x=some (pick (zqi a0 a1 a2 a3 g4 g5 g6 g7 a8 a9 a10 a11 c12 a13 a14 x))
 | none,h=>by cases h
 | some (Sum.inl r),_=>rfl
 | some (Sum.inr r),_=>rfl
theorem y65 (K:Ex→St→Option (Ex×St)):ev9 Γ20 50 6 5 fi50 (zdy a0 a1 a2 a3 a4 a5 c6 g7 g8 g9 g10 a11 a12 a13 a14 c15 a16 a17 g18 g19) K=z3o a0 a1 a2 a3 g7 g8 g9 g10 a11 a12 a13 a14 c15 a16 a17 a4 a5 c6 g18 g19 (fun q2u' q2v' t15' b5' b6'=>K .normal (zdy a0 a1 a2 a3 q2u' q2v' t15' g7 g8 g9 g10 a11 a12 a13 a14 c15 a16 a17 b5' b6')) (fun _=>K .ret (zia a0 a1 a2 a3 g7 g8 g9 g10 a11 a12 a13 a14 c15 a16 a17)) (fun c0_ c1_ c2_ c3_ c4_ c5_=>K (.exit 0) (zil a0 a1 a2 a3 g7 g8 g9 g10 a11 a12 a13 a14 c15 a16 a17 c0_ c1_ c2_ c3_ c4_ c5_)):=by kernel_rfl
theorem y6a:∀ (n q2u q2v:Nat) (t15:Int) (b5 b6:List Nat),iter 50 6 5 (ev9 Γ20 50 6 5 fi50) n (zdy a0 a1 a2 a3 q2u q2v t15 g4 g5 g6 g7 a8 a9 a10 a11 c12 a13 a14 b5 b6) (fun e st=>some (e,st))=(zjx a0 a1 a2 a3 g4 g5 g6 g7 a8 a9 a10 a11 c12 a13 a14) (z0e a0 a1 a2 a3 g4 g5 g6 g7 a8 a9 a10 a11 c12 a13 a14 n q2u q2v t15 b5 b6):=by
 intro n
 induction n with
 | zero=>intros;rfl
 | succ n ih=>
  intro q2u q2v t15 b5 b6
  refine Eq.trans (iter_succ ..) (Eq.trans (y65 ..) (Eq.trans ?_ (zzt a0 a1 a2 a3 g4 g5 g6 g7 a8 a9 a10 a11 c12 a13 a14 q2u q2v t15 b5 b6 (zjx a0 a1 a2 a3 g4 g5 g6 g7 a8 a9 a10 a11 c12 a13 a14) rfl (fun q2u' q2v' t15' b5' b6'=>z0e a0 a1 a2 a3 g4 g5 g6 g7 a8 a9 a10 a11 c12 a13 a14 n q2u' q2v' t15' b5' b6') (fun _=>some (Sum.inl ())) (fun c0_ c1_ c2_ c3_ c4_ c5_=>some (Sum.inr (c0_,c1_,c2_,c3_,c4_,c5_))))))
  exact congrArg (fun kn_=>z3o a0 a1 a2 a3 g4 g5 g6 g7 a8 a9 a10 a11 c12 a13 a14 q2u q2v t15 b5 b6 kn_ _ _) (funext fun q2u'=>funext fun q2v'=>funext fun t15'=>funext fun b5'=>funext fun b6'=>ih ..)
theorem y0e:LoopOne J fnTab 50 6 zsd:=lpK zro y3s (fi:=fi50) (by kernel_rfl) (by kernel_rfl) (q:=fun hs=>(zdy (hN hs 0) (hN hs 1) (hN hs 2) (hN hs 3) (hN hs 4) (hN hs 5) (hI hs 6) (hLn hs 7) (hLn hs 8) (hLn hs 9) (hLn hs 10) (hN hs 11) (hN hs 12) (hN hs 13) (hN hs 14) (hI hs 15) (hN hs 16) (hN hs 17) (hLn hs 18) (hLn hs 19))) (fun hs=>by kernel_rfl) fun hs h1=>Eq.trans (y6a (hN hs 0) (hN hs 1) (hN hs 2) (hN hs 3) (hLn hs 7) (hLn hs 8) (hLn hs 9) (hLn hs 10) (hN hs 11) (hN hs 12) (hN hs 13) (hN hs 14) (hI hs 15) (hN hs 16) (hN hs 17) big (hN hs 4) (hN hs 5) (hI hs 6) (hLn hs 18) (hLn hs 19)) (y62 (hN hs 0) (hN hs 1) (hN hs 2) (hN hs 3) (hLn hs 7) (hLn hs 8) (hLn hs 9) (hLn hs 10) (hN hs 11) (hN hs 12) (hN hs 13) (hN hs 14) (hI hs 15) (hN hs 16) (hN hs 17) _ h1)
def tb21:List (Nat×(List PT→Option (Bool×AV×List Blk))):=tb20
def lt21:List ((Nat×Nat)×(Nat→St→Option (Bool×LO))):=((50,6),zsd)::lt20
def Γ21:Ctx:=⟨tyTab,fnTab,tblSum tb21,tblLp lt21⟩
theorem y98:SumL J tb21:=zro
theorem y9k:LpL J fnTab lt21:=LpL.cons y0e (y3s)
def zpl  : Option (Nat×Nat×Bool×(List Nat)×(List Nat))→Option (AV×List Blk)
 | some r=>some ((.tup [(.one (.sl 0 0 r.1 1)),(.one (.sl 1 0 r.2.1 1)),(.one (.bool r.2.2.1))]),[(.mk true (.fl .f32 r.2.2.2.1)),(.mk true (.fl .f32 r.2.2.2.2))])
 | none=>none
def zpc:List PT→Option (Bool×AV×List Blk)
 | [.ptr [.row 1 q08 (.fl .f32 q0c),.row 1 q0a (.fl .f32 q0d),.row 1 q09 (.fl .f32 q0f),.row 3 q0g (.fl .f32 q0i),.s (.int .i64 q0n),.s (.flt .f32 q0s),.s (.flt .f32 q0t)],.one (.s (.flt .f32 x1)),.one (.s (.flt .f32 x2)),.one (.s (.flt .f32 x3)),.one (.s (.flt .f32 x4))]=>sF zpl (z3t q08 q0c q0a q0d q09 q0f q0g q0i q0n q0s q0t x1 x2 x3 x4)
 | _=>none
theorem yaf:ev8 Γ21 50 [.ptr [.row 1 a0 (.fl .f32 g1),.row 1 a2 (.fl .f32 g3),.row 1 a4 (.fl .f32 g5),.row 3 a6 (.fl .f32 g7),.s (.int .i64 c8),.s (.flt .f32 a9),.s (.flt .f32 a10)],.one (.s (.flt .f32 a11)),.one (.s (.flt .f32 a12)),.one (.s (.flt .f32 a13)),.one (.s (.flt .f32 a14))]=zpl (z3t a0 g1 a2 g3 a4 g5 a6 g7 c8 a9 a10 a11 a12 a13 a14):=tr2 (y4b a0 g1 a2 g3 a4 g5 a6 g7 c8 a9 a10 a11 a12 a13 a14 zpl rfl (fun c0_ c1_ c2_ c3_ c4_=>some (c0_,c1_,c2_,c3_,c4_))) (by kernel_rfl)
theorem y76:SumOne J 50 zpc:=mkT y98 y9k fun pts v news hp=>by
 unfold zpc at hp
 split at hp
 ·exact fin3 (yaf ..) hp
 ·cases hp
def tb23:List (Nat×(List PT→Option (Bool×AV×List Blk))):=(50,zpc)::tb21
def lt23:List ((Nat×Nat)×(Nat→St→Option (Bool×LO))):=lt21
def Γ23:Ctx:=⟨tyTab,fnTab,tblSum tb23,tblLp lt23⟩
theorem y9h:SumL J tb23:=SumL.cons y76 (y98)
theorem y9p:LpL J fnTab lt23:=y9k
def z9p:St:=(.mk [(x0P 5 4 7),(x0S 12 5 a0 1),(x0I 28 c1),(x0I 29 c2)] [(x0L g3),(x0L g4),(x0L g5),(x0L g6),(x0R true 0 1 2 3 a7 a8 a9 a10 c11 a12 a13),(x0T g14)])
def zet:St:=(.mk [(x0P 5 4 7),(x0S 12 5 a0 1),(x0I 28 c1),(x0I 29 c13),(x0B 30 e14)] [(x0L g2),(x0L g3),(x0L g4),(x0L g5),(x0R true 0 1 2 3 a6 a7 a8 a9 c10 a11 a12),(x0T g15)])
def zfq:Option ((Int×Bool×(List Nat)))→Option (Ex×St)
 | none=>none
 | some r=>some ((.exit 0),(zet a0 c1 g2 g3 g4 g5 a6 a7 a8 a9 c10 a11 a12 r.1 r.2.1 r.2.2))
def zlb (x:Option ((Int×Bool×(List Nat)))):LO:=(.one (.exit 0) (zet a0 c1 g2 g3 g4 g5 a6 a7 a8 a9 c10 a11 a12 (x.getD default).1 (x.getD default).2.1 (x.getD default).2.2))
def zx2:Bool×LO:=sL (zlb a0 c1 g3 g4 g5 g6 a7 a8 a9 a10 c11 a12 a13) (z11 a0 c1 g6 a10 a12 big c2 g14)
end
end Go.Proofs.YtijjhfailnmeoaaGreat
