import Derived.Test.YtijjhfailnmeoaaGreatTorqueOfC
set_option linter.unusedVariables false
set_option linter.unusedSimpArgs false
set_option linter.unusedSectionVars false
set_option maxRecDepth 100000
set_option maxHeartbeats 4000000
namespace Go.Proofs.YtijjhfailnmeoaaGreat
open Go Go.Rf
variable {J:Jd Tryz.prog}
abbrev x0F(d x:Nat):Nat×AV:=(d,.v (.one (.flt .f32 x)))
abbrev x0I(d:Nat)(x:Int):Nat×AV:=(d,.v (.one (.int .i64 x)))
abbrev x0B(d:Nat)(x:Bool):Nat×AV:=(d,.v (.one (.bool x)))
abbrev x0P(d b n:Nat):Nat×AV:=(d,.v (.one (.ptr b 0 n)))
abbrev x0S(d b n s:Nat):Nat×AV:=(d,.v (.one (.sl b 0 n s)))
abbrev x0V(d b n s:Nat):Nat×AV:=(d,.v (.one (.vw b 0 n s)))
abbrev x0L(x:List Nat):Blk:=.mk false (.fl .f32 x)
abbrev x0T(x:List Nat):Blk:=.mk true (.fl .f32 x)
abbrev x0R(o:Bool)(b c d e k l m n:Nat)(i:Int)(x y:Nat):Blk:=.mk o (.cells [.vw b 0 k 1,.vw c 0 l 1,.vw d 0 m 1,.vw e 0 n 3,.int .i64 i,.flt .f32 x,.flt .f32 y])
abbrev x1R(o:Bool)(b c d e:Nat):=pBlk o (pCells [pVw b (liN 0) 1,pVw c (liN 0) 1,pVw d (liN 0) 1,pVw e (liN 0) 3,pInt .i64,pFlt .f32,pFlt .f32])
abbrev x1F(d:Nat):=pTm d (pV (pOne (pFlt .f32)))
abbrev x1I(d:Nat):=pTm d (pV (pOne (pInt .i64)))
abbrev x1B(d:Nat):=pTm d (pV (pOne pBool))
abbrev x1P(d b n:Nat):=pTm d (pV (pOne (pPtr b (liN 0) n)))
abbrev x1S(d b s:Nat):=pTm d (pV (pOne (pSl b (liN 0) s)))
abbrev x1V(d b s:Nat):=pTm d (pV (pOne (pVw b (liN 0) s)))
abbrev x1L:=pBlk false (pFl .f32)
abbrev x1T:=pBlk true (pFl .f32)
noncomputable section
variable (a0:Nat) (c0:Int) (e0:Bool) (a1:Nat) (c1:Int) (e1:Bool) (g1:List Nat) (m1:List Bool) (a2:Nat) (c2:Int) (e2:Bool) (g2:List Nat) (a3:Nat) (c3:Int) (g3:List Nat) (m3:List Bool) (a4:Nat) (c4:Int) (e4:Bool) (g4:List Nat) (m4:List Bool) (a5:Nat) (e5:Bool) (g5:List Nat) (a6:Nat) (c6:Int) (g6:List Nat) (a7:Nat) (c7:Int) (g7:List Nat) (a8:Nat) (c8:Int) (e8:Bool) (g8:List Nat) (a9:Nat) (c9:Int) (e9:Bool) (g9:List Nat) (a10:Nat) (c10:Int) (e10:Bool) (g10:List Nat) (a11:Nat) (c11:Int) (g11:List Nat) (a12:Nat) (c12:Int) (g12:List Nat) (a13:Nat) (c13:Int) (a14:Nat) (c14:Int) (e14:Bool) (g14:List Nat) (a15:Nat) (c15:Int) (e15:Bool) (g15:List Nat) (a16:Nat) (g16:List Nat) (a17:Nat) (c17:Int) (e18:Bool) (g18:List Nat) (c19:Int) (g19:List Nat) (a20:Nat) (g20:List Nat) (a21:Nat)
def zgo:List PT→Option (Bool×AV×List Blk)
 | [.one (.s (.flt .f32 x))]=>some (bnot (nanQ .f32 x),A1 (.int .u32 x),[])
 | _=>none
theorem zxc:SumOne J 147 zgo:=by
 intro pts v news hp w vals hv
 unfold zgo at hp
 split at hp
 ·rename_i x
  injection hp with hp
  injection hp with h1 hp
  injection hp with h2 h3
  subst h2
  subst h3
  obtain⟨l,hl⟩:∃ l,l=vals.toList:=⟨_,rfl⟩
  rw[← hl] at hv
  cases hv with
  | cons a1 a2=>
   cases a2
   obtain⟨b,hb1,hb2,hb3⟩:=a1
   subst hb1
   rename_i hx
   have hvals:vals=#[.float .f32 b]:=by rw[← Array.toList_inj,← hl]
   subst hvals
   have hn:nanB .f32 b=false:=by rw[← u4k,hb3];simpa [bnot,nanQ] using h1
   rw[u03 hn] at hb3
   subst hb3
   refine⟨nat_tame Tryz.func147 (Eq.mpr (by kernel_rfl:_=(Mute (.extern 147)∧True)) ⟨.inr ⟨_,rfl⟩,trivial⟩),.inl ⟨_,w,by (simp only[callFunc,Sem.run_bind,run_program,Result.andThen_ok,Tryz.func147];rfl),NoB,⟨⟨(fun t b' h=>by cases t<;>cases h),(fun t t' b1 b2 x x' _ h=>by cases t<;>cases h)⟩,(fun t x h=>by cases h),Fr.refl _ w⟩,rfl⟩⟩
 ·cases hp
def zb2:List PT→Option (Bool×AV×List Blk)
 | [.one (.s (.int .u64 x))]=>some (okU .f64 x,A1 (.flt .f64 (cnI .f64 x)),[])
 | _=>none
theorem zrh:SumOne J 167 zb2:=by
 intro pts v news hp w vals hv
 unfold zb2 at hp
 split at hp
 ·rename_i x
  injection hp with hp
  injection hp with h1 hp
  injection hp with h2 h3
  subst h2
  subst h3
  obtain⟨l,hl⟩:∃ l,l=vals.toList:=⟨_,rfl⟩
  rw[← hl] at hv
  cases hv with
  | cons a1 a2=>
   cases a2
   have hb1:_=Value.int .u64 x:=a1
   subst hb1
   rename_i hx
   have hvals:vals=#[.int .u64 x]:=by rw[← Array.toList_inj,← hl]
   subst hvals
   have hw:=okU_lt h1
   refine⟨nat_tame Tryz.func167 (Eq.mpr (by kernel_rfl:_=(Mute (.extern 167)∧True)) ⟨.inr ⟨_,rfl⟩,trivial⟩),.inl ⟨_,w,by (simp only[callFunc,Sem.run_bind,run_program,Result.andThen_ok,Tryz.func167];rfl),NoB,⟨⟨(fun t b' h=>by cases t<;>cases h),(fun t t' b1 b2 x x' _ h=>by cases t<;>cases h)⟩,(fun t x h=>by cases h),Fr.refl _ w⟩,⟨_,rfl,hw,rfl⟩⟩⟩
 ·cases hp
def zgb:List PT→Option (Bool×AV×List Blk)
 | [.one (.s (.flt .f64 x))]=>some (bnot (nanQ .f64 x),A1 (.int .u64 x),[])
 | _=>none
theorem zwh:SumOne J 173 zgb:=by
 intro pts v news hp w vals hv
 unfold zgb at hp
 split at hp
 ·rename_i x
  injection hp with hp
  injection hp with h1 hp
  injection hp with h2 h3
  subst h2
  subst h3
  obtain⟨l,hl⟩:∃ l,l=vals.toList:=⟨_,rfl⟩
  rw[← hl] at hv
  cases hv with
  | cons a1 a2=>
   cases a2
   obtain⟨b,hb1,hb2,hb3⟩:=a1
   subst hb1
   rename_i hx
   have hvals:vals=#[.float .f64 b]:=by rw[← Array.toList_inj,← hl]
   subst hvals
   have hn:nanB .f64 b=false:=by rw[← u4k,hb3];simpa [bnot,nanQ] using h1
   rw[u03 hn] at hb3
   subst hb3
   refine⟨nat_tame Tryz.func173 (Eq.mpr (by kernel_rfl:_=(Mute (.extern 173)∧True)) ⟨.inr ⟨_,rfl⟩,trivial⟩),.inl ⟨_,w,by (simp only[callFunc,Sem.run_bind,run_program,Result.andThen_ok,Tryz.func173];rfl),NoB,⟨⟨(fun t b' h=>by cases t<;>cases h),(fun t t' b1 b2 x x' _ h=>by cases t<;>cases h)⟩,(fun t x h=>by cases h),Fr.refl _ w⟩,rfl⟩⟩
 ·cases hp
def zjl:List PT→Option (Bool×AV×List Blk)
 | [.one (.s (.flt .f64 x))]=>some (bnot (nanQ .f64 x),A1 (.flt .f64 (fint .zero x)),[])
 | _=>none
theorem y1o:SumOne J 177 zjl:=by
 intro pts v news hp w vals hv
 unfold zjl at hp
 split at hp
 ·rename_i x
  injection hp with hp
  injection hp with h1 hp
  injection hp with h2 h3
  subst h2
  subst h3
  obtain⟨l,hl⟩:∃ l,l=vals.toList:=⟨_,rfl⟩
  rw[← hl] at hv
  cases hv with
  | cons a1 a2=>
   cases a2
   obtain⟨b,hb1,hb2,hb3⟩:=a1
   subst hb1
   rename_i hx
   have hvals:vals=#[.float .f64 b]:=by rw[← Array.toList_inj,← hl]
   subst hvals
   have hn:nanB .f64 b=false:=by rw[← u4k,hb3];simpa [bnot,nanQ] using h1
   rw[u03 hn] at hb3
   subst hb3
   refine⟨nat_tame Tryz.func177 (Eq.mpr (by kernel_rfl:_=(Mute (.extern 177)∧Tame Tryz.prog (do let v ← Extern.MathFloor.toIntegral "math.archTrunc" .zero #[.float .f64 b];pure (.value v):Sem Next))) ⟨.inr ⟨_,rfl⟩,tv (t_integral _ _ _)⟩),.inl ⟨_,w,by (simp only[callFunc,Sem.run_bind,run_program,Result.andThen_ok,Tryz.func177];change (do let v ← Extern.MathFloor.toIntegral "math.archTrunc" .zero #[.float .f64 b];pure (.value v):Sem Next).run Tryz.prog w=_;rw[Sem.run_bind,run_fint hn];rfl),NoB,⟨⟨(fun t b' h=>by cases t<;>cases h),(fun t t' b1 b2 x x' _ h=>by cases t<;>cases h)⟩,(fun t x h=>by cases h),Fr.refl _ w⟩,fint_rel hn⟩⟩
 ·cases hp
def zk6:List PT→Option (Bool×AV×List Blk)
 | [.one (.s (.flt .f64 x))]=>some (bnot (nanQ .f64 x),A1 (.flt .f64 (fint .down x)),[])
 | _=>none
theorem y1g:SumOne J 179 zk6:=by
 intro pts v news hp w vals hv
 unfold zk6 at hp
 split at hp
 ·rename_i x
  injection hp with hp
  injection hp with h1 hp
  injection hp with h2 h3
  subst h2
  subst h3
  obtain⟨l,hl⟩:∃ l,l=vals.toList:=⟨_,rfl⟩
  rw[← hl] at hv
  cases hv with
  | cons a1 a2=>
   cases a2
   obtain⟨b,hb1,hb2,hb3⟩:=a1
   subst hb1
   rename_i hx
   have hvals:vals=#[.float .f64 b]:=by rw[← Array.toList_inj,← hl]
   subst hvals
   have hn:nanB .f64 b=false:=by rw[← u4k,hb3];simpa [bnot,nanQ] using h1
   rw[u03 hn] at hb3
   subst hb3
   refine⟨nat_tame Tryz.func179 (Eq.mpr (by kernel_rfl:_=(Mute (.extern 179)∧Tame Tryz.prog (do let v ← Extern.MathFloor.toIntegral "math.archFloor" .down #[.float .f64 b];pure (.value v):Sem Next))) ⟨.inr ⟨_,rfl⟩,tv (t_integral _ _ _)⟩),.inl ⟨_,w,by (simp only[callFunc,Sem.run_bind,run_program,Result.andThen_ok,Tryz.func179];change (do let v ← Extern.MathFloor.toIntegral "math.archFloor" .down #[.float .f64 b];pure (.value v):Sem Next).run Tryz.prog w=_;rw[Sem.run_bind,run_fint hn];rfl),NoB,⟨⟨(fun t b' h=>by cases t<;>cases h),(fun t t' b1 b2 x x' _ h=>by cases t<;>cases h)⟩,(fun t x h=>by cases h),Fr.refl _ w⟩,fint_rel hn⟩⟩
 ·cases hp
def sF{α:Type}[Inhabited α] (o:Option α→Option (AV×List Blk)) (x:Option α):Option (Bool×AV×List Blk):=sP x.isSome o (x.getD default)
theorem fin3{α:Type}[Inhabited α] {a:Option (AV×List Blk)} {o:Option α→Option (AV×List Blk)} {x:Option α} {v:AV} {news:List Blk} (h:a=o x) (hp:sF o x=some (true,v,news)):a=some (v,news):=fin2 h hp
def sL{α:Type}(lo:Option α→LO)(x:Option α):Bool×LO:=(x.isSome,lo x)
theorem mkT {tb:List (Nat×(List PT→Option (Bool×AV×List Blk)))} {lt:List ((Nat×Nat)×(Nat→St→Option (Bool×LO)))} {J:Jd Tryz.prog} (h1:SumL J tb) (h2:LpL J fnTab lt) {g:FuncId} {F:List PT→Option (Bool×AV×List Blk)} (h:∀ pts v news,F pts=some (true,v,news)→ev8 ⟨tyTab,fnTab,tblSum tb,tblLp lt⟩ g pts=some (v,news)):SumOne J g F:=
 sum_of (Γ:=⟨tyTab,fnTab,tblSum tb,tblLp lt⟩) (fuel:=8) (d:=8) tyTab_ok (FnL.ok fnTab_ok _ _) (LpL.ok h2) (SumL.ok h1 _) mixed fun pts v news hp _=>h pts v news hp
theorem lpK {tb:List (Nat×(List PT→Option (Bool×AV×List Blk)))} {lt:List ((Nat×Nat)×(Nat→St→Option (Bool×LO)))} {J:Jd Tryz.prog} (h1:SumL J tb) (h2:LpL J fnTab lt) {f id lo0:Nat} {fi:FnI} (hfi:Rf.look fnTab f=some fi) (hu:noTwo (lids (loopsIn fi.code))=true) {p:Pz St} {F:List Hv→Bool×LO} {q:List Hv→St}
  (hq:∀ hs,p.fil hs 0=q hs) (h:∀ hs,(F hs).1=true→iter f id lo0 (ev9 ⟨tyTab,fnTab,tblSum tb,tblLp lt⟩ f id lo0 fi) big (q hs) (fun e st=>some (e,st))=some (pick (F hs).2)) (hb:Nat.beq id bodyId=false:=by rfl):LoopOne J fnTab f id (lpT lo0 p F):=
 lp9 (Γ:=⟨tyTab,fnTab,tblSum tb,tblLp lt⟩) tyTab_ok (FnL.ok fnTab_ok _ _) (LpL.ok h2) (SumL.ok h1 _) mixed hfi hu hq h hb
def tb0:List (Nat×(List PT→Option (Bool×AV×List Blk))):=[(147,zgo),(167,zb2),(173,zgb),(177,zjl),(179,zk6)]
def lt0:List ((Nat×Nat)×(Nat→St→Option (Bool×LO))):=[]
def Γ0:Ctx:=⟨tyTab,fnTab,tblSum tb0,tblLp lt0⟩
theorem z77:SumL J tb0:=SumL.cons zxc (SumL.cons zrh (SumL.cons zwh (SumL.cons y1o (SumL.cons y1g (SumL.nil)))))
theorem z75:LpL J fnTab lt0:=LpL.nil
def zki  : Option (Bool)→Option (AV×List Blk)
 | some r=>some ((.v (.one (.bool r))),[])
 | none=>none
def zjr:List PT→Option (Bool×AV×List Blk)
 | [.one (.s (.flt .f64 a)),.one (.s (.flt .f64 b))]=>sF zki (z5r a b)
 | _=>none
theorem y6s:ev8 Γ0 35 [.one (.s (.flt .f64 a0)),.one (.s (.flt .f64 a1))]=zki (z5r a0 a1):=tr2 (zzn a0 a1 zki rfl (fun c0_=>some c0_)) (by kernel_rfl)
theorem y10:SumOne J 35 zjr:=mkT z77 z75 fun pts v news hp=>by
 unfold zjr at hp
 split at hp
 ·exact fin3 (y6s ..) hp
 ·cases hp
def zpp  : Option (Bool)→Option (AV×List Blk)
 | some r=>some ((.v (.one (.bool r))),[])
 | none=>none
def zq9:List PT→Option (Bool×AV×List Blk)
 | [.one (.s (.int .i64 n_)),.one (.s (.int .i64 low)),.one (.s (.int .i64 q22))]=>sF zpp (z8c n_ low q22)
 | _=>none
theorem yay:ev8 Γ0 52 [.one (.s (.int .i64 c0)),.one (.s (.int .i64 c1)),.one (.s (.int .i64 c2))]=zpp (z8c c0 c1 c2):=tr2 (y5x c0 c1 c2 zpp rfl (fun c0_=>some c0_)) (by kernel_rfl)
theorem y6z:SumOne J 52 zq9:=mkT z77 z75 fun pts v news hp=>by
 unfold zq9 at hp
 split at hp
 ·exact fin3 (yay ..) hp
 ·cases hp
def zld  : Option (Bool)→Option (AV×List Blk)
 | some r=>some ((.v (.one (.bool r))),[])
 | none=>none
def zn5:List PT→Option (Bool×AV×List Blk)
 | [.one (.s (.flt .f32 x))]=>sF zld (z7u x)
 | _=>none
theorem y8i:ev8 Γ0 65 [.one (.s (.flt .f32 a0))]=zld (z7u a0):=tr2 (y1p a0 zld rfl (fun c0_=>some c0_)) (by kernel_rfl)
theorem y3f:SumOne J 65 zn5:=mkT z77 z75 fun pts v news hp=>by
 unfold zn5 at hp
 split at hp
 ·exact fin3 (y8i ..) hp
 ·cases hp
def zs5  : Option (Bool)→Option (AV×List Blk)
 | some r=>some ((.v (.one (.bool r))),[])
 | none=>none
def zth:List PT→Option (Bool×AV×List Blk)
 | [.one (.s (.int .i64 n_)),.one (.s (.int .i64 low)),.one (.s (.int .i64 q22))]=>sF zs5 (z9a n_ low q22)
 | _=>none
theorem ybe:ev8 Γ0 68 [.one (.s (.int .i64 c0)),.one (.s (.int .i64 c1)),.one (.s (.int .i64 c2))]=zs5 (z9a c0 c1 c2):=tr2 (y76 c0 c1 c2 zs5 rfl (fun c0_=>some c0_)) (by kernel_rfl)
theorem y8p:SumOne J 68 zth:=mkT z77 z75 fun pts v news hp=>by
 unfold zth at hp
 split at hp
 ·exact fin3 (ybe ..) hp
 ·cases hp
def zil  : Option (Int)→Option (AV×List Blk)
 | some r=>some ((.v (.one (.int .i64 r))),[])
 | none=>none
def zid:List PT→Option (Bool×AV×List Blk)
 | [.one (.row 3 a_n (.fl .f32 a)),.one (.s (.int .i64 q2j))]=>sF zil (z53 a_n a q2j)
 | _=>none
theorem y5c:ev8 Γ0 71 [.one (.row 3 a0 (.fl .f32 g1)),.one (.s (.int .i64 c2))]=zil (z53 a0 g1 c2):=tr2 (zwj a0 g1 c2 zil rfl (fun c0_=>some c0_)) (by kernel_rfl)
theorem zz8:SumOne J 71 zid:=mkT z77 z75 fun pts v news hp=>by
 unfold zid at hp
 split at hp
 ·exact fin3 (y5c ..) hp
 ·cases hp
def zk2  : Option (Bool)→Option (AV×List Blk)
 | some r=>some ((.v (.one (.bool r))),[])
 | none=>none
def zke:List PT→Option (Bool×AV×List Blk)
 | [.one (.s (.flt .f32 x))]=>sF zk2 (z7k x)
 | _=>none
theorem y7c:ev8 Γ0 84 [.one (.s (.flt .f32 a0))]=zk2 (z7k a0):=tr2 (zz6 a0 zk2 rfl (fun c0_=>some c0_)) (by kernel_rfl)
theorem y11:SumOne J 84 zke:=mkT z77 z75 fun pts v news hp=>by
 unfold zke at hp
 split at hp
 ·exact fin3 (y7c ..) hp
 ·cases hp
def zhw  : Option (Int)→Option (AV×List Blk)
 | some r=>some ((.v (.one (.int .i64 r))),[])
 | none=>none
def ziq:List PT→Option (Bool×AV×List Blk)
 | [.one (.row 1 a_n (.fl .f32 a)),.one (.s (.int .i64 q2j))]=>sF zhw (z50 a_n a q2j)
 | _=>none
theorem y52:ev8 Γ0 117 [.one (.row 1 a0 (.fl .f32 g1)),.one (.s (.int .i64 c2))]=zhw (z50 a0 g1 c2):=tr2 (zxl a0 g1 c2 zhw rfl (fun c0_=>some c0_)) (by kernel_rfl)
theorem zzd:SumOne J 117 ziq:=mkT z77 z75 fun pts v news hp=>by
 unfold ziq at hp
 split at hp
 ·exact fin3 (y52 ..) hp
 ·cases hp
def zkh:Option (Unit)→Option (AV×List Blk)
 | some r=>some ((.v (.agg [(.flt .f32 a0),(.flt .f32 a1),(.flt .f32 a2)])),[])
 | none=>none
def zjh:List PT→Option (Bool×AV×List Blk)
 | [.agg [.s (.flt .f32 q2p),.s (.flt .f32 q2r),.s (.flt .f32 q2s)]]=>sF (zkh q2p q2r q2s) (zkm q2p q2r q2s)
 | _=>none
theorem y6v:ev8 Γ0 118 [.agg [.s (.flt .f32 a0),.s (.flt .f32 a1),.s (.flt .f32 a2)]]=(zkh a0 a1 a2) (zkm a0 a1 a2):=tr2 (zzm a0 a1 a2 (zkh a0 a1 a2) rfl (fun _=>some ())) (by kernel_rfl)
theorem y1y:SumOne J 118 zjh:=mkT z77 z75 fun pts v news hp=>by
 unfold zjh at hp
 split at hp
 ·exact fin3 (y6v ..) hp
 ·cases hp
def zle  : Option (Bool)→Option (AV×List Blk)
 | some r=>some ((.v (.one (.bool r))),[])
 | none=>none
def zmb:List PT→Option (Bool×AV×List Blk)
 | [.one (.s (.flt .f32 x)),.one (.s (.flt .f32 low)),.one (.s (.flt .f32 q22))]=>sF zle (z6n x low q22)
 | _=>none
theorem y8a:ev8 Γ0 134 [.one (.s (.flt .f32 a0)),.one (.s (.flt .f32 a1)),.one (.s (.flt .f32 a2))]=zle (z6n a0 a1 a2):=tr2 (y0y a0 a1 a2 zle rfl (fun c0_=>some c0_)) (by kernel_rfl)
theorem y3v:SumOne J 134 zmb:=mkT z77 z75 fun pts v news hp=>by
 unfold zmb at hp
 split at hp
 ·exact fin3 (y8a ..) hp
 ·cases hp
def zcp  : Option (Nat)→Option (AV×List Blk)
 | some r=>some ((.v (.one (.flt .f32 r))),[])
 | none=>none
def zd2:List PT→Option (Bool×AV×List Blk)
 | [.agg [.row 1 q00 (.fl .f32 q03),.row 1 q02 (.fl .f32 q04),.row 1 q01 (.fl .f32 q05),.row 3 q06 (.fl .f32 q07),.s (.int .i64 q0c),.s (.flt .f32 q0k),.s (.flt .f32 q0j)],.one (.s (.int .i64 i))]=>sF zcp (z3b q00 q03 q02 q04 q01 q05 q06 q07 q0c q0k q0j i)
 | _=>none
theorem zxg:ev8 Γ0 142 [.agg [.row 1 a0 (.fl .f32 g1),.row 1 a2 (.fl .f32 g3),.row 1 a4 (.fl .f32 g5),.row 3 a6 (.fl .f32 g7),.s (.int .i64 c8),.s (.flt .f32 a9),.s (.flt .f32 a10)],.one (.s (.int .i64 c11))]=zcp (z3b a0 g1 a2 g3 a4 g5 a6 g7 c8 a9 a10 c11):=tr2 (zra a0 g1 a2 g3 a4 g5 a6 g7 c8 a9 a10 c11 zcp rfl (fun c0_=>some c0_)) (by kernel_rfl)
theorem ztj:SumOne J 142 zd2:=mkT z77 z75 fun pts v news hp=>by
 unfold zd2 at hp
 split at hp
 ·exact fin3 (zxg ..) hp
 ·cases hp
def zpg  : Option (Nat)→Option (AV×List Blk)
 | some r=>some ((.v (.one (.flt .f32 r))),[])
 | none=>none
def zpf:List PT→Option (Bool×AV×List Blk)
 | [.ptr [.row 1 q00 (.fl .f32 q03),.row 1 q02 (.fl .f32 q04),.row 1 q01 (.fl .f32 q05),.row 3 q06 (.fl .f32 q07),.s (.int .i64 q0c),.s (.flt .f32 q0k),.s (.flt .f32 q0j)],.one (.s (.int .i64 i)),.one (.s (.flt .f32 q3o))]=>sF zpg (z8f q00 q03 q02 q04 q01 q05 q06 q07 q0c q0k q0j i q3o)
 | _=>none
theorem yb1:ev8 Γ0 151 [.ptr [.row 1 a0 (.fl .f32 g1),.row 1 a2 (.fl .f32 g3),.row 1 a4 (.fl .f32 g5),.row 3 a6 (.fl .f32 g7),.s (.int .i64 c8),.s (.flt .f32 a9),.s (.flt .f32 a10)],.one (.s (.int .i64 c11)),.one (.s (.flt .f32 a12))]=zpg (z8f a0 g1 a2 g3 a4 g5 a6 g7 c8 a9 a10 c11 a12):=tr2 (y4d a0 g1 a2 g3 a4 g5 a6 g7 c8 a9 a10 c11 a12 zpg rfl (fun c0_=>some c0_)) (by kernel_rfl)
theorem y6y:SumOne J 151 zpf:=mkT z77 z75 fun pts v news hp=>by
 unfold zpf at hp
 split at hp
 ·exact fin3 (yb1 ..) hp
 ·cases hp
def zgw  : Option (Nat)→Option (AV×List Blk)
 | some r=>some ((.v (.one (.flt .f32 r))),[])
 | none=>none
def zgv:List PT→Option (Bool×AV×List Blk)
 | [.ptr [.row 1 q00 (.fl .f32 q03),.row 1 q02 (.fl .f32 q04),.row 1 q01 (.fl .f32 q05),.row 3 q06 (.fl .f32 q07),.s (.int .i64 q0c),.s (.flt .f32 q0k),.s (.flt .f32 q0j)],.one (.s (.int .i64 i))]=>sF zgw (z4i q00 q03 q02 q04 q01 q05 q06 q07 q0c q0k q0j i)
 | _=>none
theorem y2p:ev8 Γ0 152 [.ptr [.row 1 a0 (.fl .f32 g1),.row 1 a2 (.fl .f32 g3),.row 1 a4 (.fl .f32 g5),.row 3 a6 (.fl .f32 g7),.s (.int .i64 c8),.s (.flt .f32 a9),.s (.flt .f32 a10)],.one (.s (.int .i64 c11))]=zgw (z4i a0 g1 a2 g3 a4 g5 a6 g7 c8 a9 a10 c11):=tr2 (zvj a0 g1 a2 g3 a4 g5 a6 g7 c8 a9 a10 c11 zgw rfl (fun c0_=>some c0_)) (by kernel_rfl)
theorem zwv:SumOne J 152 zgv:=mkT z77 z75 fun pts v news hp=>by
 unfold zgv at hp
 split at hp
 ·exact fin3 (y2p ..) hp
 ·cases hp
def zyc  : Option (Nat)→Option (AV×List Blk)
 | some r=>some ((.v (.one (.flt .f64 r))),[])
 | none=>none
def zzw:List PT→Option (Bool×AV×List Blk)
 | []=>sF zyc ze5
 | _=>none
theorem ycb  : ev8 Γ0 158 []=zyc (ze5):=tr2 (ya1  zyc rfl (fun c0_=>some c0_)) (by kernel_rfl)
theorem yan:SumOne J 158 zzw:=mkT z77 z75 fun pts v news hp=>by
 unfold zzw at hp
 split at hp
 ·exact fin3 ycb hp
 ·cases hp
def ztc  : Option (Nat)→Option (AV×List Blk)
 | some r=>some ((.v (.one (.flt .f32 r))),[])
 | none=>none
def ztd:List PT→Option (Bool×AV×List Blk)
 | [.one (.s (.flt .f32 a)),.one (.s (.flt .f32 b)),.one (.s (.flt .f32 q3j))]=>sF ztc (zcm a b q3j)
 | _=>none
theorem ybk:ev8 Γ0 162 [.one (.s (.flt .f32 a0)),.one (.s (.flt .f32 a1)),.one (.s (.flt .f32 a2))]=ztc (zcm a0 a1 a2):=tr2 (y7a a0 a1 a2 ztc rfl (fun c0_=>some c0_)) (by kernel_rfl)
theorem y7v:SumOne J 162 ztd:=mkT z77 z75 fun pts v news hp=>by
 unfold ztd at hp
 split at hp
 ·exact fin3 (ybk ..) hp
 ·cases hp
def zk3  : Option (Nat)→Option (AV×List Blk)
 | some r=>some ((.v (.one (.flt .f32 r))),[])
 | none=>none
def zkj:List PT→Option (Bool×AV×List Blk)
 | [.one (.s (.flt .f64 x))]=>sF zk3 (z5p x)
 | _=>none
theorem y7e:ev8 Γ0 163 [.one (.s (.flt .f64 a0))]=zk3 (z5p a0):=tr2 (zyq a0 zk3 rfl (fun c0_=>some c0_)) (by kernel_rfl)
theorem y1u:SumOne J 163 zkj:=mkT z77 z75 fun pts v news hp=>by
 unfold zkj at hp
 split at hp
 ·exact fin3 (y7e ..) hp
 ·cases hp
def zzs  : Option (Nat)→Option (AV×List Blk)
 | some r=>some ((.v (.one (.flt .f64 r))),[])
 | none=>none
def zzk:List PT→Option (Bool×AV×List Blk)
 | [.one (.s (.flt .f64 x))]=>sF zzs (ze2 x)
 | _=>none
theorem ycg:ev8 Γ0 168 [.one (.s (.flt .f64 a0))]=zzs (ze2 a0):=tr2 (y8y a0 zzs rfl (fun c0_=>some c0_)) (by kernel_rfl)
theorem yb0:SumOne J 168 zzk:=mkT z77 z75 fun pts v news hp=>by
 unfold zzk at hp
 split at hp
 ·exact fin3 (ycg ..) hp
 ·cases hp
def tb1:List (Nat×(List PT→Option (Bool×AV×List Blk))):=(35,zjr)::(52,zq9)::(65,zn5)::(68,zth)::(71,zid)::(84,zke)::(117,ziq)::(118,zjh)::(134,zmb)::(142,zd2)::(151,zpf)::(152,zgv)::(158,zzw)::(162,ztd)::(163,zkj)::(168,zzk)::tb0
def lt1:List ((Nat×Nat)×(Nat→St→Option (Bool×LO))):=lt0
def Γ1:Ctx:=⟨tyTab,fnTab,tblSum tb1,tblLp lt1⟩
theorem z68:SumL J tb1:=SumL.cons y10 (SumL.cons y6z (SumL.cons y3f (SumL.cons y8p (SumL.cons zz8 (SumL.cons y11 (SumL.cons zzd (SumL.cons y1y (SumL.cons y3v (SumL.cons ztj (SumL.cons y6y (SumL.cons zwv (SumL.cons yan (SumL.cons y7v (SumL.cons y1u (SumL.cons yb0 (z77))))))))))))))))
theorem z6b:LpL J fnTab lt1:=z75
def zog  : Option (Nat×Bool)→Option (AV×List Blk)
 | some r=>some ((.tup [(.one (.flt .f32 r.1)),(.one (.bool r.2))]),[])
 | none=>none
def zon:List PT→Option (Bool×AV×List Blk)
 | [.one (.s (.flt .f32 x))]=>sF zog (z6a x)
 | _=>none
theorem y9h:ev8 Γ1 59 [.one (.s (.flt .f32 a0))]=zog (z6a a0):=tr2 (y2e a0 zog rfl (fun c0_ c1_=>some (c0_,c1_))) (by kernel_rfl)
theorem y4b:SumOne J 59 zon:=mkT z68 z6b fun pts v news hp=>by
 unfold zon at hp
 split at hp
 ·exact fin3 (y9h ..) hp
 ·cases hp
def zk9  : Option (Int)→Option (AV×List Blk)
 | some r=>some ((.v (.one (.int .i64 r))),[])
 | none=>none
def zjm:List PT→Option (Bool×AV×List Blk)
 | [.agg [.row 1 q1s (.fl .f32 q25),.row 1 q1y (.fl .f32 q28),.row 1 q1z (.fl .f32 q29)],.one (.s (.int .i64 q2j))]=>sF zk9 (z5w q1s q25 q1y q28 q1z q29 q2j)
 | _=>none
theorem y7d:ev8 Γ1 70 [.agg [.row 1 a0 (.fl .f32 g1),.row 1 a2 (.fl .f32 g3),.row 1 a4 (.fl .f32 g5)],.one (.s (.int .i64 c6))]=zk9 (z5w a0 g1 a2 g3 a4 g5 c6):=tr2 (zyy a0 g1 a2 g3 a4 g5 c6 zk9 rfl (fun c0_=>some c0_)) (by kernel_rfl)
theorem y1m:SumOne J 70 zjm:=mkT z68 z6b fun pts v news hp=>by
 unfold zjm at hp
 split at hp
 ·exact fin3 (y7d ..) hp
 ·cases hp
def zko  : Option (Nat×Bool)→Option (AV×List Blk)
 | some r=>some ((.tup [(.one (.flt .f32 r.1)),(.one (.bool r.2))]),[])
 | none=>none
def zjq:List PT→Option (Bool×AV×List Blk)
 | [.one (.s (.flt .f32 x))]=>sF zko (z4l x)
 | _=>none
theorem y7m:ev8 Γ1 72 [.one (.s (.flt .f32 a0))]=zko (z4l a0):=tr2 (zym a0 zko rfl (fun c0_ c1_=>some (c0_,c1_))) (by kernel_rfl)
theorem y1w:SumOne J 72 zjq:=mkT z68 z6b fun pts v news hp=>by
 unfold zjq at hp
 split at hp
 ·exact fin3 (y7m ..) hp
 ·cases hp
def zmg  : Option (Bool)→Option (AV×List Blk)
 | some r=>some ((.v (.one (.bool r))),[])
 | none=>none
def zmp:List PT→Option (Bool×AV×List Blk)
 | [.one (.s (.flt .f32 x))]=>sF zmg (z6i x)
 | _=>none
theorem y7s:ev8 Γ1 83 [.one (.s (.flt .f32 a0))]=zmg (z6i a0):=tr2 (y0w a0 zmg rfl (fun c0_=>some c0_)) (by kernel_rfl)
theorem y3b:SumOne J 83 zmp:=mkT z68 z6b fun pts v news hp=>by
 unfold zmp at hp
 split at hp
 ·exact fin3 (y7s ..) hp
 ·cases hp
def zo2  : Option (Bool)→Option (AV×List Blk)
 | some r=>some ((.v (.one (.bool r))),[])
 | none=>none
def zoo:List PT→Option (Bool×AV×List Blk)
 | [.one (.s (.flt .f32 x))]=>sF zo2 (z78 x)
 | _=>none
theorem y95:ev8 Γ1 90 [.one (.s (.flt .f32 a0))]=zo2 (z78 a0):=tr2 (y2c a0 zo2 rfl (fun c0_=>some c0_)) (by kernel_rfl)
theorem y4p:SumOne J 90 zoo:=mkT z68 z6b fun pts v news hp=>by
 unfold zoo at hp
 split at hp
 ·exact fin3 (y95 ..) hp
 ·cases hp
def zeo  : Option (Bool)→Option (AV×List Blk)
 | some r=>some ((.v (.one (.bool r))),[])
 | none=>none
def zdo:List PT→Option (Bool×AV×List Blk)
 | [.one (.s (.flt .f32 x))]=>sF zeo (z3k x)
 | _=>none
theorem zze:ev8 Γ1 115 [.one (.s (.flt .f32 a0))]=zeo (z3k a0):=tr2 (zsu a0 zeo rfl (fun c0_=>some c0_)) (by kernel_rfl)
theorem zts:SumOne J 115 zdo:=mkT z68 z6b fun pts v news hp=>by
 unfold zdo at hp
 split at hp
 ·exact fin3 (zze ..) hp
 ·cases hp
def zjs  : Option (Bool)→Option (AV×List Blk)
 | some r=>some ((.v (.one (.bool r))),[])
 | none=>none
def zje:List PT→Option (Bool×AV×List Blk)
 | [.agg [.s (.flt .f32 q2p),.s (.flt .f32 q2r),.s (.flt .f32 q2s)],.agg [.s (.flt .f32 q36),.s (.flt .f32 q3b),.s (.flt .f32 q3a)]]=>sF zjs (z60 q2p q2r q2s q36 q3b q3a)
 | _=>none
theorem y79:ev8 Γ1 119 [.agg [.s (.flt .f32 a0),.s (.flt .f32 a1),.s (.flt .f32 a2)],.agg [.s (.flt .f32 a3),.s (.flt .f32 a4),.s (.flt .f32 a5)]]=zjs (z60 a0 a1 a2 a3 a4 a5):=tr2 (zyl a0 a1 a2 a3 a4 a5 zjs rfl (fun c0_=>some c0_)) (by kernel_rfl)
theorem y0v:SumOne J 119 zje:=mkT z68 z6b fun pts v news hp=>by
 unfold zje at hp
 split at hp
 ·exact fin3 (y79 ..) hp
 ·cases hp
def zm0  : Option (Bool)→Option (AV×List Blk)
 | some r=>some ((.v (.one (.bool r))),[])
 | none=>none
def zm3:List PT→Option (Bool×AV×List Blk)
 | [.one (.s (.flt .f32 x))]=>sF zm0 (z6j x)
 | _=>none
theorem y8t:ev8 Γ1 121 [.one (.s (.flt .f32 a0))]=zm0 (z6j a0):=tr2 (y1j a0 zm0 rfl (fun c0_=>some c0_)) (by kernel_rfl)
theorem y3k:SumOne J 121 zm3:=mkT z68 z6b fun pts v news hp=>by
 unfold zm3 at hp
 split at hp
 ·exact fin3 (y8t ..) hp
 ·cases hp
def zlu  : Option (Bool)→Option (AV×List Blk)
 | some r=>some ((.v (.one (.bool r))),[])
 | none=>none
def zn6:List PT→Option (Bool×AV×List Blk)
 | [.ptr [.row 1 q00 (.fl .f32 q03),.row 1 q02 (.fl .f32 q04),.row 1 q01 (.fl .f32 q05),.row 3 q06 (.fl .f32 q07),.s (.int .i64 q0c),.s (.flt .f32 q0k),.s (.flt .f32 q0j)],.one (.s (.int .i64 i)),.one (.s (.flt .f32 q0l))]=>sF zlu (z6l q00 q03 q02 q04 q01 q05 q06 q07 q0c q0k q0j i q0l)
 | _=>none
theorem y7w:ev8 Γ1 128 [.ptr [.row 1 a0 (.fl .f32 g1),.row 1 a2 (.fl .f32 g3),.row 1 a4 (.fl .f32 g5),.row 3 a6 (.fl .f32 g7),.s (.int .i64 c8),.s (.flt .f32 a9),.s (.flt .f32 a10)],.one (.s (.int .i64 c11)),.one (.s (.flt .f32 a12))]=zlu (z6l a0 g1 a2 g3 a4 g5 a6 g7 c8 a9 a10 c11 a12):=tr2 (y22 a0 g1 a2 g3 a4 g5 a6 g7 c8 a9 a10 c11 a12 zlu rfl (fun c0_=>some c0_)) (by kernel_rfl)
theorem y2w:SumOne J 128 zn6:=mkT z68 z6b fun pts v news hp=>by
 unfold zn6 at hp
 split at hp
 ·exact fin3 (y7w ..) hp
 ·cases hp
def zpx  : Option (Nat×Nat×Bool)→Option (AV×List Blk)
 | some r=>some ((.tup [(.one (.flt .f32 r.1)),(.one (.flt .f32 r.2.1)),(.one (.bool r.2.2))]),[])
 | none=>none
def zq5:List PT→Option (Bool×AV×List Blk)
 | [.one (.s (.flt .f32 x)),.one (.s (.flt .f32 y))]=>sF zpx (z5m x y)
 | _=>none
theorem yao:ev8 Γ1 131 [.one (.s (.flt .f32 a0)),.one (.s (.flt .f32 a1))]=zpx (z5m a0 a1):=tr2 (y4f a0 a1 zpx rfl (fun c0_ c1_ c2_=>some (c0_,c1_,c2_))) (by kernel_rfl)
theorem y75:SumOne J 131 zq5:=mkT z68 z6b fun pts v news hp=>by
 unfold zq5 at hp
 split at hp
 ·exact fin3 (yao ..) hp
 ·cases hp
def zge  : Option (Bool)→Option (AV×List Blk)
 | some r=>some ((.v (.one (.bool r))),[])
 | none=>none
def zg9:List PT→Option (Bool×AV×List Blk)
 | [.one (.s (.flt .f32 x))]=>sF zge (z4d x)
 | _=>none
theorem y2s:ev8 Γ1 153 [.one (.s (.flt .f32 a0))]=zge (z4d a0):=tr2 (zvx a0 zge rfl (fun c0_=>some c0_)) (by kernel_rfl)
theorem zws:SumOne J 153 zg9:=mkT z68 z6b fun pts v news hp=>by
 unfold zg9 at hp
 split at hp
 ·exact fin3 (y2s ..) hp
 ·cases hp
def zbd  : Option (Bool)→Option (AV×List Blk)
 | some r=>some ((.v (.one (.bool r))),[])
 | none=>none
def zbj:List PT→Option (Bool×AV×List Blk)
 | [.agg [.row 1 q00 (.fl .f32 q03),.row 1 q02 (.fl .f32 q04),.row 1 q01 (.fl .f32 q05),.row 3 q06 (.fl .f32 q07),.s (.int .i64 q0c),.s (.flt .f32 q0k),.s (.flt .f32 q0j)],.one (.s (.int .i64 i))]=>sF zbd (z2q q00 q03 q02 q04 q01 q05 q06 q07 q0c q0k q0j i)
 | _=>none
theorem zw4:ev8 Γ1 155 [.agg [.row 1 a0 (.fl .f32 g1),.row 1 a2 (.fl .f32 g3),.row 1 a4 (.fl .f32 g5),.row 3 a6 (.fl .f32 g7),.s (.int .i64 c8),.s (.flt .f32 a9),.s (.flt .f32 a10)],.one (.s (.int .i64 c11))]=zbd (z2q a0 g1 a2 g3 a4 g5 a6 g7 c8 a9 a10 c11):=tr2 (zpn a0 g1 a2 g3 a4 g5 a6 g7 c8 a9 a10 c11 zbd rfl (fun c0_=>some c0_)) (by kernel_rfl)
theorem zrl:SumOne J 155 zbj:=mkT z68 z6b fun pts v news hp=>by
 unfold zbj at hp
 split at hp
 ·exact fin3 (zw4 ..) hp
 ·cases hp
def zpk  : Option (Bool)→Option (AV×List Blk)
 | some r=>some ((.v (.one (.bool r))),[])
 | none=>none
def zpj:List PT→Option (Bool×AV×List Blk)
 | [.one (.s (.flt .f32 q1p))]=>sF zpk (z8e q1p)
 | _=>none
theorem yap:ev8 Γ1 156 [.one (.s (.flt .f32 a0))]=zpk (z8e a0):=tr2 (y5p a0 zpk rfl (fun c0_=>some c0_)) (by kernel_rfl)
theorem y6l:SumOne J 156 zpj:=mkT z68 z6b fun pts v news hp=>by
 unfold zpj at hp
 split at hp
 ·exact fin3 (yap ..) hp
 ·cases hp
def zpq  : Option (Bool)→Option (AV×List Blk)
 | some r=>some ((.v (.one (.bool r))),[])
 | none=>none
def zpw:List PT→Option (Bool×AV×List Blk)
 | [.one (.s (.flt .f64 x))]=>sF zpq (z8d x)
 | _=>none
theorem yaw:ev8 Γ1 159 [.one (.s (.flt .f64 a0))]=zpq (z8d a0):=tr2 (y5j a0 zpq rfl (fun c0_=>some c0_)) (by kernel_rfl)
theorem y7l:SumOne J 159 zpw:=mkT z68 z6b fun pts v news hp=>by
 unfold zpw at hp
 split at hp
 ·exact fin3 (yaw ..) hp
 ·cases hp
def z8j:St:=(.mk [(x0V 0 0 a0 1),(x0S 3 1 a1 1),(x0I 4 c2)] [(x0L g3),(x0T g4)])
def zcl:St:=(.mk [(x0V 0 0 a0 1),(x0S 3 1 a1 1),(x0I 4 c3),(x0B 11 e4)] [(x0L g2),(x0T g5)])
def ze4:Option ((Int×Bool×(List Nat)))→Option (Ex×St)
 | none=>none
 | some r=>some ((.exit 0),(zcl a0 a1 g2 r.1 r.2.1 r.2.2))
def zkx (x:Option ((Int×Bool×(List Nat)))):LO:=(.one (.exit 0) (zcl a0 a1 g2 (x.getD default).1 (x.getD default).2.1 (x.getD default).2.2))
def zv4:Bool×LO:=sL (zkx a0 a1 g3) (z14 a0 a1 g3 big c2 g4)
def zll:Nat→St→Option (Bool×LO):=lpT 1 (pSt [(x1V 0 0 1),(x1S 3 1 1),(x1I 4)] [x1L,x1T]) (fun hs=>zv4 (hN hs 0) (hN hs 1) (hI hs 2) (hLn hs 3) (hLn hs 4))
theorem zy6:∀ x:Option ((Int×Bool×(List Nat))),x.isSome=true→(ze4 a0 a1 g2) x=some (pick (zkx a0 a1 g2 x))
 | none,h=>by cases h
 | some r,_=>rfl
theorem zzf (K:Ex→St→Option (Ex×St)):ev9 Γ1 45 3 1 fi45 (z8j a0 a1 c2 g3 g4) K=z1x a0 a1 g3 c2 g4 (fun i' b1'=>K .normal (z8j a0 a1 i' g3 b1')) (fun c0_ c1_ c2_=>K (.exit 0) (zcl a0 a1 g3 c0_ c1_ c2_)):=by kernel_rfl
theorem zzr:∀ (n:Nat) (i:Int) (b1:List Nat),iter 45 3 1 (ev9 Γ1 45 3 1 fi45) n (z8j a0 a1 i g2 b1) (fun e st=>some (e,st))=(ze4 a0 a1 g2) (z14 a0 a1 g2 n i b1):=by
 intro n
 induction n with
 | zero=>intros;rfl
 | succ n ih=>
  intro i b1
  refine Eq.trans (iter_succ ..) (Eq.trans (zzf ..) (Eq.trans ?_ (zsb a0 a1 g2 i b1 (ze4 a0 a1 g2) rfl (fun i' b1'=>z14 a0 a1 g2 n i' b1') (fun c0_ c1_ c2_=>some (c0_,c1_,c2_)))))
  exact congrArg (fun kn_=>z1x a0 a1 g2 i b1 kn_ _) (funext fun i'=>funext fun b1'=>ih ..)
theorem zu5:LoopOne J fnTab 45 3 zll:=lpK z68 z6b (fi:=fi45) (by kernel_rfl) (by kernel_rfl) (q:=fun hs=>(z8j (hN hs 0) (hN hs 1) (hI hs 2) (hLn hs 3) (hLn hs 4))) (fun hs=>by kernel_rfl) fun hs h1=>Eq.trans (zzr (hN hs 0) (hN hs 1) (hLn hs 3) big (hI hs 2) (hLn hs 4)) (zy6 (hN hs 0) (hN hs 1) (hLn hs 3) _ h1)
def z72:St:=(.mk [(x0V 1 4 a0 1),(x0P 2 5 7),(x0F 5 a1),(x0I 6 c2)] [(x0L g3),(x0L g4),(x0L g5),(x0L g6),(x0L g7),(x0R true 0 1 2 3 a8 a9 a10 a11 c12 a13 a14)])
def z9f:St:=(.mk [(x0V 1 4 a0 1),(x0P 2 5 7),(x0F 5 a13),(x0I 6 c14),(x0B 11 e15)] [(x0L g1),(x0L g2),(x0L g3),(x0L g4),(x0L g5),(x0R true 0 1 2 3 a6 a7 a8 a9 c10 a11 a12)])
def za1:Option ((Nat×Int×Bool))→Option (Ex×St)
 | none=>none
 | some r=>some ((.exit 0),(z9f a0 g1 g2 g3 g4 g5 a6 a7 a8 a9 c10 a11 a12 r.1 r.2.1 r.2.2))
def zgh (x:Option ((Nat×Int×Bool))):LO:=(.one (.exit 0) (z9f a0 g1 g2 g3 g4 g5 a6 a7 a8 a9 c10 a11 a12 (x.getD default).1 (x.getD default).2.1 (x.getD default).2.2))
def zrm:Bool×LO:=sL (zgh a0 g3 g4 g5 g6 g7 a8 a9 a10 a11 c12 a13 a14) (z0d a0 g6 g7 a11 big a1 c2)
def zhk:Nat→St→Option (Bool×LO):=lpT 5 (pSt [(x1V 1 4 1),(x1P 2 5 7),(x1F 5),(x1I 6)] [x1L,x1L,x1L,x1L,x1L,(x1R true 0 1 2 3)]) (fun hs=>zrm (hN hs 0) (hN hs 1) (hI hs 2) (hLn hs 3) (hLn hs 4) (hLn hs 5) (hLn hs 6) (hLn hs 7) (hN hs 8) (hN hs 9) (hN hs 10) (hN hs 11) (hI hs 12) (hN hs 13) (hN hs 14))
theorem zu8:∀ x:Option ((Nat×Int×Bool)),x.isSome=true→(za1 a0 g1 g2 g3 g4 g5 a6 a7 a8 a9 c10 a11 a12) x=some (pick (zgh a0 g1 g2 g3 g4 g5 a6 a7 a8 a9 c10 a11 a12 x))
 | none,h=>by cases h
 | some r,_=>rfl
theorem zu7 (K:Ex→St→Option (Ex×St)):ev9 Γ1 60 3 5 fi60 (z72 a0 a1 c2 g3 g4 g5 g6 g7 a8 a9 a10 a11 c12 a13 a14) K=z19 a0 g6 g7 a11 a1 c2 (fun all' i'=>K .normal (z72 a0 all' i' g3 g4 g5 g6 g7 a8 a9 a10 a11 c12 a13 a14)) (fun c0_ c1_ c2_=>K (.exit 0) (z9f a0 g3 g4 g5 g6 g7 a8 a9 a10 a11 c12 a13 a14 c0_ c1_ c2_)):=by kernel_rfl
theorem zty:∀ (n all:Nat) (i:Int),iter 60 3 5 (ev9 Γ1 60 3 5 fi60) n (z72 a0 all i g1 g2 g3 g4 g5 a6 a7 a8 a9 c10 a11 a12) (fun e st=>some (e,st))=(za1 a0 g1 g2 g3 g4 g5 a6 a7 a8 a9 c10 a11 a12) (z0d a0 g4 g5 a9 n all i):=by
 intro n
 induction n with
 | zero=>intros;rfl
 | succ n ih=>
  intro all i
  refine Eq.trans (iter_succ ..) (Eq.trans (zu7 ..) (Eq.trans ?_ (zp3 a0 g4 g5 a9 all i (za1 a0 g1 g2 g3 g4 g5 a6 a7 a8 a9 c10 a11 a12) rfl (fun all' i'=>z0d a0 g4 g5 a9 n all' i') (fun c0_ c1_ c2_=>some (c0_,c1_,c2_)))))
  exact congrArg (fun kn_=>z19 a0 g4 g5 a9 all i kn_ _) (funext fun all'=>funext fun i'=>ih ..)
theorem zpr:LoopOne J fnTab 60 3 zhk:=lpK z68 z6b (fi:=fi60) (by kernel_rfl) (by kernel_rfl) (q:=fun hs=>(z72 (hN hs 0) (hN hs 1) (hI hs 2) (hLn hs 3) (hLn hs 4) (hLn hs 5) (hLn hs 6) (hLn hs 7) (hN hs 8) (hN hs 9) (hN hs 10) (hN hs 11) (hI hs 12) (hN hs 13) (hN hs 14))) (fun hs=>by kernel_rfl) fun hs h1=>Eq.trans (zty (hN hs 0) (hLn hs 3) (hLn hs 4) (hLn hs 5) (hLn hs 6) (hLn hs 7) (hN hs 8) (hN hs 9) (hN hs 10) (hN hs 11) (hI hs 12) (hN hs 13) (hN hs 14) big (hN hs 1) (hI hs 2)) (zu8 (hN hs 0) (hLn hs 3) (hLn hs 4) (hLn hs 5) (hLn hs 6) (hLn hs 7) (hN hs 8) (hN hs 9) (hN hs 10) (hN hs 11) (hI hs 12) (hN hs 13) (hN hs 14) _ h1)
def zdt:St:=(.mk [(x0P 0 4 7),(x0V 1 5 a0 1),(x0F 5 a1),(x0I 6 c2)] [(x0L g3),(x0L g4),(x0L g5),(x0L g6),(x0R false 0 1 2 3 a7 a8 a9 a10 c11 a12 a13),(x0L g14)])
def zi6:St:=(.mk [(x0P 0 4 7),(x0V 1 5 a0 1),(x0F 5 a13),(x0I 6 c14),(x0B 12 e15)] [(x0L g1),(x0L g2),(x0L g3),(x0L g4),(x0R false 0 1 2 3 a5 a6 a7 a8 c9 a10 a11),(x0L g12)])
def zj9:Option ((Nat×Int×Bool))→Option (Ex×St)
 | none=>none
 | some r=>some ((.exit 0),(zi6 a0 g1 g2 g3 g4 a5 a6 a7 a8 c9 a10 a11 g12 r.1 r.2.1 r.2.2))
def zqs (x:Option ((Nat×Int×Bool))):LO:=(.one (.exit 0) (zi6 a0 g1 g2 g3 g4 a5 a6 a7 a8 c9 a10 a11 g12 (x.getD default).1 (x.getD default).2.1 (x.getD default).2.2))
def y32:Bool×LO:=sL (zqs a0 g3 g4 g5 g6 a7 a8 a9 a10 c11 a12 a13 g14) (z0x a0 g6 a10 g14 big a1 c2)
def ztk:Nat→St→Option (Bool×LO):=lpT 6 (pSt [(x1P 0 4 7),(x1V 1 5 1),(x1F 5),(x1I 6)] [x1L,x1L,x1L,x1L,(x1R false 0 1 2 3),x1L]) (fun hs=>y32 (hN hs 0) (hN hs 1) (hI hs 2) (hLn hs 3) (hLn hs 4) (hLn hs 5) (hLn hs 6) (hN hs 7) (hN hs 8) (hN hs 9) (hN hs 10) (hI hs 11) (hN hs 12) (hN hs 13) (hLn hs 14))
theorem y6c:∀ x:Option ((Nat×Int×Bool)),x.isSome=true→(zj9 a0 g1 g2 g3 g4 a5 a6 a7 a8 c9 a10 a11 g12) x=some (pick (zqs a0 g1 g2 g3 g4 a5 a6 a7 a8 c9 a10 a11 g12 x))
 | none,h=>by cases h
 | some r,_=>rfl
theorem y6q (K:Ex→St→Option (Ex×St)):ev9 Γ1 73 3 6 fi73 (zdt a0 a1 c2 g3 g4 g5 g6 a7 a8 a9 a10 c11 a12 a13 g14) K=z3n a0 g6 a10 g14 a1 c2 (fun sum' i'=>K .normal (zdt a0 sum' i' g3 g4 g5 g6 a7 a8 a9 a10 c11 a12 a13 g14)) (fun c0_ c1_ c2_=>K (.exit 0) (zi6 a0 g3 g4 g5 g6 a7 a8 a9 a10 c11 a12 a13 g14 c0_ c1_ c2_)):=by kernel_rfl
theorem y78:∀ (n sum:Nat) (i:Int),iter 73 3 6 (ev9 Γ1 73 3 6 fi73) n (zdt a0 sum i g1 g2 g3 g4 a5 a6 a7 a8 c9 a10 a11 g12) (fun e st=>some (e,st))=(zj9 a0 g1 g2 g3 g4 a5 a6 a7 a8 c9 a10 a11 g12) (z0x a0 g4 a8 g12 n sum i):=by
 intro n
 induction n with
 | zero=>intros;rfl
 | succ n ih=>
  intro sum i
  refine Eq.trans (iter_succ ..) (Eq.trans (y6q ..) (Eq.trans ?_ (zyv a0 g4 a8 g12 sum i (zj9 a0 g1 g2 g3 g4 a5 a6 a7 a8 c9 a10 a11 g12) rfl (fun sum' i'=>z0x a0 g4 a8 g12 n sum' i') (fun c0_ c1_ c2_=>some (c0_,c1_,c2_)))))
  exact congrArg (fun kn_=>z3n a0 g4 a8 g12 sum i kn_ _) (funext fun sum'=>funext fun i'=>ih ..)
theorem y1h:LoopOne J fnTab 73 3 ztk:=lpK z68 z6b (fi:=fi73) (by kernel_rfl) (by kernel_rfl) (q:=fun hs=>(zdt (hN hs 0) (hN hs 1) (hI hs 2) (hLn hs 3) (hLn hs 4) (hLn hs 5) (hLn hs 6) (hN hs 7) (hN hs 8) (hN hs 9) (hN hs 10) (hI hs 11) (hN hs 12) (hN hs 13) (hLn hs 14))) (fun hs=>by kernel_rfl) fun hs h1=>Eq.trans (y78 (hN hs 0) (hLn hs 3) (hLn hs 4) (hLn hs 5) (hLn hs 6) (hN hs 7) (hN hs 8) (hN hs 9) (hN hs 10) (hI hs 11) (hN hs 12) (hN hs 13) (hLn hs 14) big (hN hs 1) (hI hs 2)) (y6c (hN hs 0) (hLn hs 3) (hLn hs 4) (hLn hs 5) (hLn hs 6) (hN hs 7) (hN hs 8) (hN hs 9) (hN hs 10) (hI hs 11) (hN hs 12) (hN hs 13) (hLn hs 14) _ h1)
def z4v:St:=(.mk [(x0V 0 0 a0 1),(x0B 1 e1),(x0I 7 c2),(x0I 8 c3)] [(.mk false (.bl m4))])
def z6z(sn:Nat)(v:Bool)(t7:Int)(b0:List Bool)(c0_:Int):St:=(.mk [(x0I 4 c0_)] [(.mk false (.bl b0))])
def z6y:St:=(.mk [(x0V 0 0 a0 1),(x0B 1 e1),(x0I 7 c2),(x0I 8 c4),(x0B 9 e5)] [(.mk false (.bl m3))])
def z7c:Option ((Int)⊕(Int×Bool))→Option (Ex×St)
 | none=>none
 | some (Sum.inl r)=>some (.ret,(z6z a0 e1 c2 m3 r))
 | some (Sum.inr r)=>some ((.exit 0),(z6y a0 e1 c2 m3 r.1 r.2))
def zbr (x:Option ((Int)⊕(Int×Bool))):LO:=(.two (oL x) (.one .ret (z6z a0 e1 c2 m3 ((tL x).getD default))) (.one (.exit 0) (z6y a0 e1 c2 m3 ((tR x).getD default).1 ((tR x).getD default).2)))
def zmi:Bool×LO:=sL (zbr a0 e1 c2 m4) (z04 a0 e1 c2 m4 big c3)
def zcz:Nat→St→Option (Bool×LO):=lpT 1 (pSt [(x1V 0 0 1),(x1B 1),(x1I 7),(x1I 8)] [(pBlk false pBl)]) (fun hs=>zmi (hN hs 0) (hB hs 1) (hI hs 2) (hI hs 3) (hLb hs 4))
theorem znu:∀ x:Option ((Int)⊕(Int×Bool)),x.isSome=true→(z7c a0 e1 c2 m3) x=some (pick (zbr a0 e1 c2 m3 x))
 | none,h=>by cases h
 | some (Sum.inl r),_=>rfl
 | some (Sum.inr r),_=>rfl
theorem zor (K:Ex→St→Option (Ex×St)):ev9 Γ1 113 2 1 fi113 (z4v a0 e1 c2 c3 m4) K=z0u a0 e1 c2 m4 c3 (fun t8'=>K .normal (z4v a0 e1 c2 t8' m4)) (fun c0_=>K .ret (z6z a0 e1 c2 m4 c0_)) (fun c0_ c1_=>K (.exit 0) (z6y a0 e1 c2 m4 c0_ c1_)):=by kernel_rfl
theorem znr:∀ (n:Nat) (t8:Int),iter 113 2 1 (ev9 Γ1 113 2 1 fi113) n (z4v a0 e1 c2 t8 m3) (fun e st=>some (e,st))=(z7c a0 e1 c2 m3) (z04 a0 e1 c2 m3 n t8):=by
 intro n
 induction n with
 | zero=>intros;rfl
 | succ n ih=>
  intro t8
  refine Eq.trans (iter_succ ..) (Eq.trans (zor ..) (Eq.trans ?_ (zjx a0 e1 c2 m3 t8 (z7c a0 e1 c2 m3) rfl (fun t8'=>z04 a0 e1 c2 m3 n t8') (fun c0_=>some (Sum.inl c0_)) (fun c0_ c1_=>some (Sum.inr (c0_,c1_))))))
  exact congrArg (fun kn_=>z0u a0 e1 c2 m3 t8 kn_ _ _) (funext fun t8'=>ih ..)
theorem zl8:LoopOne J fnTab 113 2 zcz:=lpK z68 z6b (fi:=fi113) (by kernel_rfl) (by kernel_rfl) (q:=fun hs=>(z4v (hN hs 0) (hB hs 1) (hI hs 2) (hI hs 3) (hLb hs 4))) (fun hs=>by kernel_rfl) fun hs h1=>Eq.trans (znr (hN hs 0) (hB hs 1) (hI hs 2) (hLb hs 4) big (hI hs 3)) (znu (hN hs 0) (hB hs 1) (hI hs 2) (hLb hs 4) _ h1)
def tb2:List (Nat×(List PT→Option (Bool×AV×List Blk))):=(59,zon)::(70,zjm)::(72,zjq)::(83,zmp)::(90,zoo)::(115,zdo)::(119,zje)::(121,zm3)::(128,zn6)::(131,zq5)::(153,zg9)::(155,zbj)::(156,zpj)::(159,zpw)::tb1
def lt2:List ((Nat×Nat)×(Nat→St→Option (Bool×LO))):=((45,3),zll)::((60,3),zhk)::((73,3),ztk)::((113,2),zcz)::lt1
def Γ2:Ctx:=⟨tyTab,fnTab,tblSum tb2,tblLp lt2⟩
theorem zf2:SumL J tb2:=SumL.cons y4b (SumL.cons y1m (SumL.cons y1w (SumL.cons y3b (SumL.cons y4p (SumL.cons zts (SumL.cons y0v (SumL.cons y3k (SumL.cons y2w (SumL.cons y75 (SumL.cons zws (SumL.cons zrl (SumL.cons y6l (SumL.cons y7l (z68))))))))))))))
theorem zf3:LpL J fnTab lt2:=LpL.cons zu5 (LpL.cons zpr (LpL.cons y1h (LpL.cons zl8 (z6b))))
def zof  : Option (Int)→Option (AV×List Blk)
 | some r=>some ((.v (.one (.int .i64 r))),[])
 | none=>none
def zo0:List PT→Option (Bool×AV×List Blk)
 | [.agg [.row 1 q0x (.fl .f32 q1b),.row 1 q13 (.fl .f32 q1f),.row 1 q14 (.fl .f32 q1e),.row 3 q1o (.fl .f32 q1v),.s (.int .i64 q27),.s (.flt .f32 q2c),.s (.flt .f32 q2d)],.one (.s (.int .i64 q2j))]=>sF zof (z7l q0x q1b q13 q1f q14 q1e q1o q1v q27 q2c q2d q2j)
 | _=>none
theorem y9l:ev8 Γ2 32 [.agg [.row 1 a0 (.fl .f32 g1),.row 1 a2 (.fl .f32 g3),.row 1 a4 (.fl .f32 g5),.row 3 a6 (.fl .f32 g7),.s (.int .i64 c8),.s (.flt .f32 a9),.s (.flt .f32 a10)],.one (.s (.int .i64 c11))]=zof (z7l a0 g1 a2 g3 a4 g5 a6 g7 c8 a9 a10 c11):=tr2 (y26 a0 g1 a2 g3 a4 g5 a6 g7 c8 a9 a10 c11 zof rfl (fun c0_=>some c0_)) (by kernel_rfl)
theorem y5q:SumOne J 32 zo0:=mkT zf2 zf3 fun pts v news hp=>by
 unfold zo0 at hp
 split at hp
 ·exact fin3 (y9l ..) hp
 ·cases hp
def zi5  : Option (Nat×(List Nat))→Option (AV×List Blk)
 | some r=>some ((.v (.one (.sl 0 0 r.1 1))),[(.mk true (.fl .f32 r.2))])
 | none=>none
def zii:List PT→Option (Bool×AV×List Blk)
 | [.one (.row 1 a_n (.fl .f32 a))]=>sF zi5 (z3z a_n a)
 | _=>none
theorem y4w:ev8 Γ2 45 [.one (.row 1 a0 (.fl .f32 g1))]=zi5 (z3z a0 g1):=tr2 (zx1 a0 g1 zi5 rfl (fun c0_ c1_=>some (c0_,c1_))) (by kernel_rfl)
theorem zye:SumOne J 45 zii:=mkT zf2 zf3 fun pts v news hp=>by
 unfold zii at hp
 split at hp
 ·exact fin3 (y4w ..) hp
 ·cases hp
def zef  : Option (Nat)→Option (AV×List Blk)
 | some r=>some ((.v (.one (.flt .f32 r))),[])
 | none=>none
def ze8:List PT→Option (Bool×AV×List Blk)
 | [.agg [.row 1 q00 (.fl .f32 q03),.row 1 q02 (.fl .f32 q04),.row 1 q01 (.fl .f32 q05),.row 3 q06 (.fl .f32 q07),.s (.int .i64 q0c),.s (.flt .f32 q0k),.s (.flt .f32 q0j)],.one (.row 1 q1t (.fl .f32 q26))]=>sF zef (z3m q00 q03 q02 q04 q01 q05 q06 q07 q0c q0k q0j q1t q26)
 | _=>none
theorem zzp:ev8 Γ2 60 [.agg [.row 1 a0 (.fl .f32 g1),.row 1 a2 (.fl .f32 g3),.row 1 a4 (.fl .f32 g5),.row 3 a6 (.fl .f32 g7),.s (.int .i64 c8),.s (.flt .f32 a9),.s (.flt .f32 a10)],.one (.row 1 a11 (.fl .f32 g12))]=zef (z3m a0 g1 a2 g3 a4 g5 a6 g7 c8 a9 a10 a11 g12):=tr2 (zt4 a0 g1 a2 g3 a4 g5 a6 g7 c8 a9 a10 a11 g12 zef rfl (fun c0_=>some c0_)) (by kernel_rfl)
theorem ztx:SumOne J 60 ze8:=mkT zf2 zf3 fun pts v news hp=>by
 unfold ze8 at hp
 split at hp
 ·exact fin3 (zzp ..) hp
 ·cases hp
def zps  : Option (Nat)→Option (AV×List Blk)
 | some r=>some ((.v (.one (.flt .f32 r))),[])
 | none=>none
def zq1:List PT→Option (Bool×AV×List Blk)
 | [.ptr [.row 1 q00 (.fl .f32 q03),.row 1 q02 (.fl .f32 q04),.row 1 q01 (.fl .f32 q05),.row 3 q06 (.fl .f32 q07),.s (.int .i64 q0c),.s (.flt .f32 q0k),.s (.flt .f32 q0j)],.one (.row 1 q1t (.fl .f32 q26))]=>sF zps (z8g q00 q03 q02 q04 q01 q05 q06 q07 q0c q0k q0j q1t q26)
 | _=>none
theorem yam:ev8 Γ2 73 [.ptr [.row 1 a0 (.fl .f32 g1),.row 1 a2 (.fl .f32 g3),.row 1 a4 (.fl .f32 g5),.row 3 a6 (.fl .f32 g7),.s (.int .i64 c8),.s (.flt .f32 a9),.s (.flt .f32 a10)],.one (.row 1 a11 (.fl .f32 g12))]=zps (z8g a0 g1 a2 g3 a4 g5 a6 g7 c8 a9 a10 a11 g12):=tr2 (y51 a0 g1 a2 g3 a4 g5 a6 g7 c8 a9 a10 a11 g12 zps rfl (fun c0_=>some c0_)) (by kernel_rfl)
theorem y7h:SumOne J 73 zq1:=mkT zf2 zf3 fun pts v news hp=>by
 unfold zq1 at hp
 split at hp
 ·exact fin3 (yam ..) hp
 ·cases hp
def z8n  : Option (Int)→Option (AV×List Blk)
 | some r=>some ((.v (.one (.int .i64 r))),[])
 | none=>none
def z8o:List PT→Option (Bool×AV×List Blk)
 | [.one (.row 1 s_n (.bl s)),.one (.s (.bool v))]=>sF z8n (z1z s_n s v)
 | _=>none
theorem zr9:ev8 Γ2 113 [.one (.row 1 a0 (.bl m1)),.one (.s (.bool e2))]=z8n (z1z a0 m1 e2):=tr2 (zn8 a0 m1 e2 z8n rfl (fun c0_=>some c0_)) (by kernel_rfl)
theorem zob:SumOne J 113 z8o:=mkT zf2 zf3 fun pts v news hp=>by
 unfold z8o at hp
 split at hp
 ·exact fin3 (zr9 ..) hp
 ·cases hp
def zif  : Option (Bool)→Option (AV×List Blk)
 | some r=>some ((.v (.one (.bool r))),[])
 | none=>none
def zik:List PT→Option (Bool×AV×List Blk)
 | [.one (.s (.flt .f32 x))]=>sF zif (z4z x)
 | _=>none
theorem y4t:ev8 Γ2 154 [.one (.s (.flt .f32 a0))]=zif (z4z a0):=tr2 (zxp a0 zif rfl (fun c0_=>some c0_)) (by kernel_rfl)
theorem zyz:SumOne J 154 zik:=mkT zf2 zf3 fun pts v news hp=>by
 unfold zik at hp
 split at hp
 ·exact fin3 (y4t ..) hp
 ·cases hp
def zt8  : Option (Nat)→Option (AV×List Blk)
 | some r=>some ((.v (.one (.flt .f64 r))),[])
 | none=>none
def zrs:List PT→Option (Bool×AV×List Blk)
 | [.one (.s (.flt .f64 x))]=>sF zt8 (z9i x)
 | _=>none
theorem ybg:ev8 Γ2 174 [.one (.s (.flt .f64 a0))]=zt8 (z9i a0):=tr2 (y64 a0 zt8 rfl (fun c0_=>some c0_)) (by kernel_rfl)
theorem y80:SumOne J 174 zrs:=mkT zf2 zf3 fun pts v news hp=>by
 unfold zrs at hp
 split at hp
 ·exact fin3 (ybg ..) hp
 ·cases hp
def z90:St:=(.mk [(x0V 0 0 a0 1),(x0V 1 1 a1 1),(x0I 5 c2)] [(x0L g3),(x0L g4)])
def zd5(an bn:Nat)(b0 b1:List Nat):St:=(.mk [(x0B 4 false)] [(x0L b0),(x0L b1)])
def zdb:St:=(.mk [(x0V 0 0 a0 1),(x0V 1 1 a1 1),(x0I 5 c4),(x0B 14 e5)] [(x0L g2),(x0L g3)])
def zeb:Option ((Unit)⊕(Int×Bool))→Option (Ex×St)
 | none=>none
 | some (Sum.inl r)=>some (.ret,(zd5 a0 a1 g2 g3))
 | some (Sum.inr r)=>some ((.exit 0),(zdb a0 a1 g2 g3 r.1 r.2))
def zkv (x:Option ((Unit)⊕(Int×Bool))):LO:=(.two (oL x) (.one .ret (zd5 a0 a1 g2 g3)) (.one (.exit 0) (zdb a0 a1 g2 g3 ((tR x).getD default).1 ((tR x).getD default).2)))
def zvz:Bool×LO:=sL (zkv a0 a1 g3 g4) (z12 a0 a1 g3 g4 big c2)
def zli:Nat→St→Option (Bool×LO):=lpT 2 (pSt [(x1V 0 0 1),(x1V 1 1 1),(x1I 5)] [x1L,x1L]) (fun hs=>zvz (hN hs 0) (hN hs 1) (hI hs 2) (hLn hs 3) (hLn hs 4))
theorem zyb:∀ x:Option ((Unit)⊕(Int×Bool)),x.isSome=true→(zeb a0 a1 g2 g3) x=some (pick (zkv a0 a1 g2 g3 x))
 | none,h=>by cases h
 | some (Sum.inl r),_=>rfl
 | some (Sum.inr r),_=>rfl
theorem zya (K:Ex→St→Option (Ex×St)):ev9 Γ2 37 4 2 fi37 (z90 a0 a1 c2 g3 g4) K=z21 a0 a1 g3 g4 c2 (fun i'=>K .normal (z90 a0 a1 i' g3 g4)) (fun _=>K .ret (zd5 a0 a1 g3 g4)) (fun c0_ c1_=>K (.exit 0) (zdb a0 a1 g3 g4 c0_ c1_)):=by kernel_rfl
theorem zyh:∀ (n:Nat) (i:Int),iter 37 4 2 (ev9 Γ2 37 4 2 fi37) n (z90 a0 a1 i g2 g3) (fun e st=>some (e,st))=(zeb a0 a1 g2 g3) (z12 a0 a1 g2 g3 n i):=by
 intro n
 induction n with
 | zero=>intros;rfl
 | succ n ih=>
  intro i
  refine Eq.trans (iter_succ ..) (Eq.trans (zya ..) (Eq.trans ?_ (ztb a0 a1 g2 g3 i (zeb a0 a1 g2 g3) rfl (fun i'=>z12 a0 a1 g2 g3 n i') (fun _=>some (Sum.inl ())) (fun c0_ c1_=>some (Sum.inr (c0_,c1_))))))
  exact congrArg (fun kn_=>z21 a0 a1 g2 g3 i kn_ _ _) (funext fun i'=>ih ..)
theorem zub:LoopOne J fnTab 37 4 zli:=lpK zf2 zf3 (fi:=fi37) (by kernel_rfl) (by kernel_rfl) (q:=fun hs=>(z90 (hN hs 0) (hN hs 1) (hI hs 2) (hLn hs 3) (hLn hs 4))) (fun hs=>by kernel_rfl) fun hs h1=>Eq.trans (zyh (hN hs 0) (hN hs 1) (hLn hs 3) (hLn hs 4) big (hI hs 2)) (zyb (hN hs 0) (hN hs 1) (hLn hs 3) (hLn hs 4) _ h1)
def z8q:St:=(.mk [(x0V 0 0 a0 3),(x0S 3 1 a1 3),(x0I 4 c2)] [(x0L g3),(x0T g4)])
def zcv:St:=(.mk [(x0V 0 0 a0 3),(x0S 3 1 a1 3),(x0I 4 c3),(x0B 11 e4)] [(x0L g2),(x0T g5)])
def zdy:Option ((Int×Bool×(List Nat)))→Option (Ex×St)
 | none=>none
 | some r=>some ((.exit 0),(zcv a0 a1 g2 r.1 r.2.1 r.2.2))
def zl3 (x:Option ((Int×Bool×(List Nat)))):LO:=(.one (.exit 0) (zcv a0 a1 g2 (x.getD default).1 (x.getD default).2.1 (x.getD default).2.2))
def zvp:Bool×LO:=sL (zl3 a0 a1 g3) (z0m a0 a1 g3 big c2 g4)
def zmy:Nat→St→Option (Bool×LO):=lpT 1 (pSt [(x1V 0 0 3),(x1S 3 1 3),(x1I 4)] [x1L,x1T]) (fun hs=>zvp (hN hs 0) (hN hs 1) (hI hs 2) (hLn hs 3) (hLn hs 4))
theorem zzi:∀ x:Option ((Int×Bool×(List Nat))),x.isSome=true→(zdy a0 a1 g2) x=some (pick (zl3 a0 a1 g2 x))
 | none,h=>by cases h
 | some r,_=>rfl
theorem zyg (K:Ex→St→Option (Ex×St)):ev9 Γ2 75 3 1 fi75 (z8q a0 a1 c2 g3 g4) K=z1y a0 a1 g3 c2 g4 (fun i' b1'=>K .normal (z8q a0 a1 i' g3 b1')) (fun c0_ c1_ c2_=>K (.exit 0) (zcv a0 a1 g3 c0_ c1_ c2_)):=by kernel_rfl
theorem zzy:∀ (n:Nat) (i:Int) (b1:List Nat),iter 75 3 1 (ev9 Γ2 75 3 1 fi75) n (z8q a0 a1 i g2 b1) (fun e st=>some (e,st))=(zdy a0 a1 g2) (z0m a0 a1 g2 n i b1):=by
 intro n
 induction n with
 | zero=>intros;rfl
 | succ n ih=>
  intro i b1
  refine Eq.trans (iter_succ ..) (Eq.trans (zyg ..) (Eq.trans ?_ (zsr a0 a1 g2 i b1 (zdy a0 a1 g2) rfl (fun i' b1'=>z0m a0 a1 g2 n i' b1') (fun c0_ c1_ c2_=>some (c0_,c1_,c2_)))))
  exact congrArg (fun kn_=>z1y a0 a1 g2 i b1 kn_ _) (funext fun i'=>funext fun b1'=>ih ..)
theorem zu3:LoopOne J fnTab 75 3 zmy:=lpK zf2 zf3 (fi:=fi75) (by kernel_rfl) (by kernel_rfl) (q:=fun hs=>(z8q (hN hs 0) (hN hs 1) (hI hs 2) (hLn hs 3) (hLn hs 4))) (fun hs=>by kernel_rfl) fun hs h1=>Eq.trans (zzy (hN hs 0) (hN hs 1) (hLn hs 3) big (hI hs 2) (hLn hs 4)) (zzi (hN hs 0) (hN hs 1) (hLn hs 3) _ h1)
def z7o:St:=(.mk [(x0B 4 e0),(5,(.v (.one (.flt .f64 a1)))),(6,(.v (.one (.flt .f64 a2)))),(7,(.v (.one (.flt .f64 a3)))),(x0I 8 c4)] [])
def za4:St:=(.mk [(x0B 4 e0),(5,(.v (.one (.flt .f64 a1)))),(6,(.v (.one (.flt .f64 a2)))),(7,(.v (.one (.flt .f64 a3)))),(x0I 8 c4),(x0B 44 e5)] [])
def zbm:Option ((Nat×Int×Bool))→Option (Ex×St)
 | none=>none
 | some r=>some ((.exit 0),(za4 e0 a1 a2 r.1 r.2.1 r.2.2))
def zhm (x:Option ((Nat×Int×Bool))):LO:=(.one (.exit 0) (za4 e0 a1 a2 (x.getD default).1 (x.getD default).2.1 (x.getD default).2.2))
def zrx:Bool×LO:=sL (zhm e0 a1 a2) (z0j a2 big a3 c4)
def zir:Nat→St→Option (Bool×LO):=lpT 0 (pSt [(x1B 4),(pTm 5 (pV (pOne (pFlt .f64)))),(pTm 6 (pV (pOne (pFlt .f64)))),(pTm 7 (pV (pOne (pFlt .f64)))),(x1I 8)] []) (fun hs=>zrx (hB hs 0) (hN hs 1) (hN hs 2) (hN hs 3) (hI hs 4))
theorem zvh:∀ x:Option ((Nat×Int×Bool)),x.isSome=true→(zbm e0 a1 a2) x=some (pick (zhm e0 a1 a2 x))
 | none,h=>by cases h
 | some r,_=>rfl
theorem zw5 (K:Ex→St→Option (Ex×St)):ev9 Γ2 164 17 0 fi164 (z7o e0 a1 a2 a3 c4) K=z1j a2 a3 c4 (fun t7' t8'=>K .normal (z7o e0 a1 a2 t7' t8')) (fun c0_ c1_ c2_=>K (.exit 0) (za4 e0 a1 a2 c0_ c1_ c2_)):=by kernel_rfl
theorem zvk:∀ (n t7:Nat) (t8:Int),iter 164 17 0 (ev9 Γ2 164 17 0 fi164) n (z7o e0 a1 a2 t7 t8) (fun e st=>some (e,st))=(zbm e0 a1 a2) (z0j a2 n t7 t8):=by
 intro n
 induction n with
 | zero=>intros;rfl
 | succ n ih=>
  intro t7 t8
  refine Eq.trans (iter_succ ..) (Eq.trans (zw5 ..) (Eq.trans ?_ (zqb a2 t7 t8 (zbm e0 a1 a2) rfl (fun t7' t8'=>z0j a2 n t7' t8') (fun c0_ c1_ c2_=>some (c0_,c1_,c2_)))))
  exact congrArg (fun kn_=>z1j a2 t7 t8 kn_ _) (funext fun t7'=>funext fun t8'=>ih ..)
theorem zri:LoopOne J fnTab 164 17 zir:=lpK zf2 zf3 (fi:=fi164) (by kernel_rfl) (by kernel_rfl) (q:=fun hs=>(z7o (hB hs 0) (hN hs 1) (hN hs 2) (hN hs 3) (hI hs 4))) (fun hs=>by kernel_rfl) fun hs h1=>Eq.trans (zvk (hB hs 0) (hN hs 1) (hN hs 2) big (hN hs 3) (hI hs 4)) (zvh (hB hs 0) (hN hs 1) (hN hs 2) _ h1)
def tb3:List (Nat×(List PT→Option (Bool×AV×List Blk))):=(32,zo0)::(45,zii)::(60,ze8)::(73,zq1)::(113,z8o)::(154,zik)::(174,zrs)::tb2
def lt3:List ((Nat×Nat)×(Nat→St→Option (Bool×LO))):=((37,4),zli)::((75,3),zmy)::((164,17),zir)::lt2
def Γ3:Ctx:=⟨tyTab,fnTab,tblSum tb3,tblLp lt3⟩
theorem zf5:SumL J tb3:=SumL.cons y5q (SumL.cons zye (SumL.cons ztx (SumL.cons y7h (SumL.cons zob (SumL.cons zyz (SumL.cons y80 (zf2)))))))
theorem zf0:LpL J fnTab lt3:=LpL.cons zub (LpL.cons zu3 (LpL.cons zri (zf3)))
def zhp  : Option (Bool)→Option (AV×List Blk)
 | some r=>some ((.v (.one (.bool r))),[])
 | none=>none
def zig:List PT→Option (Bool×AV×List Blk)
 | [.one (.row 1 a_n (.fl .f32 a)),.one (.row 1 b_n (.fl .f32 b))]=>sF zhp (z51 a_n a b_n b)
 | _=>none
theorem y4k:ev8 Γ3 37 [.one (.row 1 a0 (.fl .f32 g1)),.one (.row 1 a2 (.fl .f32 g3))]=zhp (z51 a0 g1 a2 g3):=tr2 (zwi a0 g1 a2 g3 zhp rfl (fun c0_=>some c0_)) (by kernel_rfl)
theorem zz2:SumOne J 37 zig:=mkT zf5 zf0 fun pts v news hp=>by
 unfold zig at hp
 split at hp
 ·exact fin3 (y4k ..) hp
 ·cases hp
def z79  : Option (Bool)→Option (AV×List Blk)
 | some r=>some ((.v (.one (.bool r))),[])
 | none=>none
def z7d:List PT→Option (Bool×AV×List Blk)
 | [.one (.row 1 s_n (.bl s)),.one (.s (.bool v))]=>sF z79 (z1c s_n s v)
 | _=>none
theorem zol:ev8 Γ3 58 [.one (.row 1 a0 (.bl m1)),.one (.s (.bool e2))]=z79 (z1c a0 m1 e2):=tr2 (zkq a0 m1 e2 z79 rfl (fun c0_=>some c0_)) (by kernel_rfl)
theorem zl6:SumOne J 58 z7d:=mkT zf5 zf0 fun pts v news hp=>by
 unfold z7d at hp
 split at hp
 ·exact fin3 (zol ..) hp
 ·cases hp
def zk8  : Option (Nat×Nat×Nat×(List Nat)×(List Nat)×(List Nat))→Option (AV×List Blk)
 | some r=>some ((.v (.agg [(.sl 0 0 r.1 1),(.sl 1 0 r.2.1 1),(.sl 2 0 r.2.2.1 1)])),[(.mk true (.fl .f32 r.2.2.2.1)),(.mk true (.fl .f32 r.2.2.2.2.1)),(.mk true (.fl .f32 r.2.2.2.2.2))])
 | none=>none
def zk7:List PT→Option (Bool×AV×List Blk)
 | [.agg [.row 1 q1s (.fl .f32 q25),.row 1 q1y (.fl .f32 q28),.row 1 q1z (.fl .f32 q29)]]=>sF zk8 (z1s q1s q25 q1y q28 q1z q29)
 | _=>none
theorem y6i:ev8 Γ3 74 [.agg [.row 1 a0 (.fl .f32 g1),.row 1 a2 (.fl .f32 g3),.row 1 a4 (.fl .f32 g5)]]=zk8 (z1s a0 g1 a2 g3 a4 g5):=tr2 (zzj a0 g1 a2 g3 a4 g5 zk8 rfl (fun c0_ c1_ c2_ c3_ c4_ c5_=>some (c0_,c1_,c2_,c3_,c4_,c5_))) (by kernel_rfl)
theorem y0n:SumOne J 74 zk7:=mkT zf5 zf0 fun pts v news hp=>by
 unfold zk7 at hp
 split at hp
 ·exact fin3 (y6i ..) hp
 ·cases hp
def zim  : Option (Nat×(List Nat))→Option (AV×List Blk)
 | some r=>some ((.v (.one (.sl 0 0 r.1 3))),[(.mk true (.fl .f32 r.2))])
 | none=>none
def zi2:List PT→Option (Bool×AV×List Blk)
 | [.one (.row 3 a_n (.fl .f32 a))]=>sF zim (z3y a_n a)
 | _=>none
theorem y4j:ev8 Γ3 75 [.one (.row 3 a0 (.fl .f32 g1))]=zim (z3y a0 g1):=tr2 (zxo a0 g1 zim rfl (fun c0_ c1_=>some (c0_,c1_))) (by kernel_rfl)
theorem zyp:SumOne J 75 zi2:=mkT zf5 zf0 fun pts v news hp=>by
 unfold zi2 at hp
 split at hp
 ·exact fin3 (y4j ..) hp
 ·cases hp
def zgx  : Option (Nat)→Option (AV×List Blk)
 | some r=>some ((.v (.one (.flt .f64 r))),[])
 | none=>none
def zgm:List PT→Option (Bool×AV×List Blk)
 | [.one (.s (.flt .f64 q1m))]=>sF zgx (z23 q1m)
 | _=>none
theorem y38:ev8 Γ3 164 [.one (.s (.flt .f64 a0))]=zgx (z23 a0):=tr2 (zvq a0 zgx rfl (fun c0_=>some c0_)) (by kernel_rfl)
theorem zww:SumOne J 164 zgm:=mkT zf5 zf0 fun pts v news hp=>by
 unfold zgm at hp
 split at hp
 ·exact fin3 (y38 ..) hp
 ·cases hp
def zi3  : Option (Nat)→Option (AV×List Blk)
 | some r=>some ((.v (.one (.flt .f64 r))),[])
 | none=>none
def zih:List PT→Option (Bool×AV×List Blk)
 | [.one (.s (.flt .f64 q2k))]=>sF zi3 (z59 q2k)
 | _=>none
theorem y4v:ev8 Γ3 169 [.one (.s (.flt .f64 a0))]=zi3 (z59 a0):=tr2 (zwe a0 zi3 rfl (fun c0_=>some c0_)) (by kernel_rfl)
theorem zzg:SumOne J 169 zih:=mkT zf5 zf0 fun pts v news hp=>by
 unfold zih at hp
 split at hp
 ·exact fin3 (y4v ..) hp
 ·cases hp
def z8m:St:=(.mk [(x0V 0 0 a0 3),(x0V 1 1 a1 3),(x0I 5 c2)] [(x0L g3),(x0L g4)])
def zcu(an bn:Nat)(b0 b1:List Nat):St:=(.mk [(x0B 4 false)] [(x0L b0),(x0L b1)])
def zcw:St:=(.mk [(x0V 0 0 a0 3),(x0V 1 1 a1 3),(x0I 5 c4),(x0B 14 e5)] [(x0L g2),(x0L g3)])
def ze3:Option ((Unit)⊕(Int×Bool))→Option (Ex×St)
 | none=>none
 | some (Sum.inl r)=>some (.ret,(zcu a0 a1 g2 g3))
 | some (Sum.inr r)=>some ((.exit 0),(zcw a0 a1 g2 g3 r.1 r.2))
def zl4 (x:Option ((Unit)⊕(Int×Bool))):LO:=(.two (oL x) (.one .ret (zcu a0 a1 g2 g3)) (.one (.exit 0) (zcw a0 a1 g2 g3 ((tR x).getD default).1 ((tR x).getD default).2)))
def zw8:Bool×LO:=sL (zl4 a0 a1 g3 g4) (z11 a0 a1 g3 g4 big c2)
def zlc:Nat→St→Option (Bool×LO):=lpT 2 (pSt [(x1V 0 0 3),(x1V 1 1 3),(x1I 5)] [x1L,x1L]) (fun hs=>zw8 (hN hs 0) (hN hs 1) (hI hs 2) (hLn hs 3) (hLn hs 4))
theorem zyi:∀ x:Option ((Unit)⊕(Int×Bool)),x.isSome=true→(ze3 a0 a1 g2 g3) x=some (pick (zl4 a0 a1 g2 g3 x))
 | none,h=>by cases h
 | some (Sum.inl r),_=>rfl
 | some (Sum.inr r),_=>rfl
theorem zzu (K:Ex→St→Option (Ex×St)):ev9 Γ3 77 4 2 fi77 (z8m a0 a1 c2 g3 g4) K=z20 a0 a1 g3 g4 c2 (fun i'=>K .normal (z8m a0 a1 i' g3 g4)) (fun _=>K .ret (zcu a0 a1 g3 g4)) (fun c0_ c1_=>K (.exit 0) (zcw a0 a1 g3 g4 c0_ c1_)):=by kernel_rfl
theorem zzo:∀ (n:Nat) (i:Int),iter 77 4 2 (ev9 Γ3 77 4 2 fi77) n (z8m a0 a1 i g2 g3) (fun e st=>some (e,st))=(ze3 a0 a1 g2 g3) (z11 a0 a1 g2 g3 n i):=by
 intro n
 induction n with
 | zero=>intros;rfl
 | succ n ih=>
  intro i
  refine Eq.trans (iter_succ ..) (Eq.trans (zzu ..) (Eq.trans ?_ (zsz a0 a1 g2 g3 i (ze3 a0 a1 g2 g3) rfl (fun i'=>z11 a0 a1 g2 g3 n i') (fun _=>some (Sum.inl ())) (fun c0_ c1_=>some (Sum.inr (c0_,c1_))))))
  exact congrArg (fun kn_=>z20 a0 a1 g2 g3 i kn_ _ _) (funext fun i'=>ih ..)
theorem zuj:LoopOne J fnTab 77 4 zlc:=lpK zf5 zf0 (fi:=fi77) (by kernel_rfl) (by kernel_rfl) (q:=fun hs=>(z8m (hN hs 0) (hN hs 1) (hI hs 2) (hLn hs 3) (hLn hs 4))) (fun hs=>by kernel_rfl) fun hs h1=>Eq.trans (zzo (hN hs 0) (hN hs 1) (hLn hs 3) (hLn hs 4) big (hI hs 2)) (zyi (hN hs 0) (hN hs 1) (hLn hs 3) (hLn hs 4) _ h1)
def zg2:St:=(.mk [(x0P 0 3 3),(x0I 3 c0),(x0I 4 c1)] [(x0L g2),(x0L g3),(x0L g4),(.mk false (.cells [(.vw 0 0 a5 1),(.vw 1 0 a6 1),(.vw 2 0 a7 1)]))])
def zjb(t3:Int)(b0 b1 b2:List Nat)(q1r q23 q24:Nat):St:=(.mk [(x0B 2 false)] [(x0L b0),(x0L b1),(x0L b2),(.mk false (.cells [(.vw 0 0 q1r 1),(.vw 1 0 q23 1),(.vw 2 0 q24 1)]))])
def zjy:St:=(.mk [(x0P 0 3 3),(x0I 3 c0),(x0I 4 c7),(x0B 36 e8)] [(x0L g1),(x0L g2),(x0L g3),(.mk false (.cells [(.vw 0 0 a4 1),(.vw 1 0 a5 1),(.vw 2 0 a6 1)]))])
def zn2:Option ((Unit)⊕(Int×Bool))→Option (Ex×St)
 | none=>none
 | some (Sum.inl r)=>some (.ret,(zjb c0 g1 g2 g3 a4 a5 a6))
 | some (Sum.inr r)=>some ((.exit 0),(zjy c0 g1 g2 g3 a4 a5 a6 r.1 r.2))
def zt9 (x:Option ((Unit)⊕(Int×Bool))):LO:=(.two (oL x) (.one .ret (zjb c0 g1 g2 g3 a4 a5 a6)) (.one (.exit 0) (zjy c0 g1 g2 g3 a4 a5 a6 ((tR x).getD default).1 ((tR x).getD default).2)))
def y4o:Bool×LO:=sL (zt9 c0 g2 g3 g4 a5 a6 a7) (z1r c0 g2 g3 g4 a5 a6 a7 big c1)
def zut:Nat→St→Option (Bool×LO):=lpT 4 (pSt [(x1P 0 3 3),(x1I 3),(x1I 4)] [x1L,x1L,x1L,(pBlk false (pCells [(pVw 0 (liN 0) 1),(pVw 1 (liN 0) 1),(pVw 2 (liN 0) 1)]))]) (fun hs=>y4o (hI hs 0) (hI hs 1) (hLn hs 2) (hLn hs 3) (hLn hs 4) (hN hs 5) (hN hs 6) (hN hs 7))
theorem y7z:∀ x:Option ((Unit)⊕(Int×Bool)),x.isSome=true→(zn2 c0 g1 g2 g3 a4 a5 a6) x=some (pick (zt9 c0 g1 g2 g3 a4 a5 a6 x))
 | none,h=>by cases h
 | some (Sum.inl r),_=>rfl
 | some (Sum.inr r),_=>rfl
theorem y88 (K:Ex→St→Option (Ex×St)):ev9 Γ3 120 5 4 fi120 (zg2 c0 c1 g2 g3 g4 a5 a6 a7) K=z46 c0 g2 g3 g4 a5 a6 a7 c1 (fun t4'=>K .normal (zg2 c0 t4' g2 g3 g4 a5 a6 a7)) (fun _=>K .ret (zjb c0 g2 g3 g4 a5 a6 a7)) (fun c0_ c1_=>K (.exit 0) (zjy c0 g2 g3 g4 a5 a6 a7 c0_ c1_)):=by kernel_rfl
theorem y7r:∀ (n:Nat) (t4:Int),iter 120 5 4 (ev9 Γ3 120 5 4 fi120) n (zg2 c0 t4 g1 g2 g3 a4 a5 a6) (fun e st=>some (e,st))=(zn2 c0 g1 g2 g3 a4 a5 a6) (z1r c0 g1 g2 g3 a4 a5 a6 n t4):=by
 intro n
 induction n with
 | zero=>intros;rfl
 | succ n ih=>
  intro t4
  refine Eq.trans (iter_succ ..) (Eq.trans (y88 ..) (Eq.trans ?_ (y1b c0 g1 g2 g3 a4 a5 a6 t4 (zn2 c0 g1 g2 g3 a4 a5 a6) rfl (fun t4'=>z1r c0 g1 g2 g3 a4 a5 a6 n t4') (fun _=>some (Sum.inl ())) (fun c0_ c1_=>some (Sum.inr (c0_,c1_))))))
  exact congrArg (fun kn_=>z46 c0 g1 g2 g3 a4 a5 a6 t4 kn_ _ _) (funext fun t4'=>ih ..)
theorem y2f:LoopOne J fnTab 120 5 zut:=lpK zf5 zf0 (fi:=fi120) (by kernel_rfl) (by kernel_rfl) (q:=fun hs=>(zg2 (hI hs 0) (hI hs 1) (hLn hs 2) (hLn hs 3) (hLn hs 4) (hN hs 5) (hN hs 6) (hN hs 7))) (fun hs=>by kernel_rfl) fun hs h1=>Eq.trans (y7r (hI hs 0) (hLn hs 2) (hLn hs 3) (hLn hs 4) (hN hs 5) (hN hs 6) (hN hs 7) big (hI hs 1)) (y7z (hI hs 0) (hLn hs 2) (hLn hs 3) (hLn hs 4) (hN hs 5) (hN hs 6) (hN hs 7) _ h1)
def z1k:St:=(.mk [(x0V 0 0 a0 1),(1,(.v (.one (.fn 115 [])))),(x0I 7 c1),(x0I 8 c2)] [(x0L g3)])
def z2o(sn:Nat)(t7:Int)(b0:List Nat)(c0_:Int):St:=(.mk [(x0I 4 c0_)] [(x0L b0)])
def z2j:St:=(.mk [(x0V 0 0 a0 1),(1,(.v (.one (.fn 115 [])))),(x0I 7 c1),(x0I 8 c3),(x0B 9 e4)] [(x0L g2)])
def z2u:Option ((Int)⊕(Int×Bool))→Option (Ex×St)
 | none=>none
 | some (Sum.inl r)=>some (.ret,(z2o a0 c1 g2 r))
 | some (Sum.inr r)=>some ((.exit 0),(z2j a0 c1 g2 r.1 r.2))
def z5e (x:Option ((Int)⊕(Int×Bool))):LO:=(.two (oL x) (.one .ret (z2o a0 c1 g2 ((tL x).getD default))) (.one (.exit 0) (z2j a0 c1 g2 ((tR x).getD default).1 ((tR x).getD default).2)))
def za9:Bool×LO:=sL (z5e a0 c1 g3) (z01 a0 c1 g3 big c2)
def z5h:Nat→St→Option (Bool×LO):=lpT 1 (pSt [(x1V 0 0 1),(pTm 1 (pV (pOne (pFn 115 [])))),(x1I 7),(x1I 8)] [x1L]) (fun hs=>za9 (hN hs 0) (hI hs 1) (hI hs 2) (hLn hs 3))
theorem zba:∀ x:Option ((Int)⊕(Int×Bool)),x.isSome=true→(z2u a0 c1 g2) x=some (pick (z5e a0 c1 g2 x))
 | none,h=>by cases h
 | some (Sum.inl r),_=>rfl
 | some (Sum.inr r),_=>rfl
theorem zbk (K:Ex→St→Option (Ex×St)):ev9 Γ3 146 2 1 fi146 (z1k a0 c1 c2 g3) K=z0a a0 c1 g3 c2 (fun t8'=>K .normal (z1k a0 c1 t8' g3)) (fun c0_=>K .ret (z2o a0 c1 g3 c0_)) (fun c0_ c1_=>K (.exit 0) (z2j a0 c1 g3 c0_ c1_)):=by kernel_rfl
theorem zb6:∀ (n:Nat) (t8:Int),iter 146 2 1 (ev9 Γ3 146 2 1 fi146) n (z1k a0 c1 t8 g2) (fun e st=>some (e,st))=(z2u a0 c1 g2) (z01 a0 c1 g2 n t8):=by
 intro n
 induction n with
 | zero=>intros;rfl
 | succ n ih=>
  intro t8
  refine Eq.trans (iter_succ ..) (Eq.trans (zbk ..) (Eq.trans ?_ (z9m a0 c1 g2 t8 (z2u a0 c1 g2) rfl (fun t8'=>z01 a0 c1 g2 n t8') (fun c0_=>some (Sum.inl c0_)) (fun c0_ c1_=>some (Sum.inr (c0_,c1_))))))
  exact congrArg (fun kn_=>z0a a0 c1 g2 t8 kn_ _ _) (funext fun t8'=>ih ..)
theorem z9w:LoopOne J fnTab 146 2 z5h:=lpK zf5 zf0 (fi:=fi146) (by kernel_rfl) (by kernel_rfl) (q:=fun hs=>(z1k (hN hs 0) (hI hs 1) (hI hs 2) (hLn hs 3))) (fun hs=>by kernel_rfl) fun hs h1=>Eq.trans (zb6 (hN hs 0) (hI hs 1) (hLn hs 3) big (hI hs 2)) (zba (hN hs 0) (hI hs 1) (hLn hs 3) _ h1)
def z1p:St:=(.mk [(x0V 0 0 a0 1),(1,(.v (.one (.fn 153 [])))),(x0I 7 c1),(x0I 8 c2)] [(x0L g3)])
def z2x(sn:Nat)(t7:Int)(b0:List Nat)(c0_:Int):St:=(.mk [(x0I 4 c0_)] [(x0L b0)])
def z2v:St:=(.mk [(x0V 0 0 a0 1),(1,(.v (.one (.fn 153 [])))),(x0I 7 c1),(x0I 8 c3),(x0B 9 e4)] [(x0L g2)])
def z3a:Option ((Int)⊕(Int×Bool))→Option (Ex×St)
 | none=>none
 | some (Sum.inl r)=>some (.ret,(z2x a0 c1 g2 r))
 | some (Sum.inr r)=>some ((.exit 0),(z2v a0 c1 g2 r.1 r.2))
def z5o (x:Option ((Int)⊕(Int×Bool))):LO:=(.two (oL x) (.one .ret (z2x a0 c1 g2 ((tL x).getD default))) (.one (.exit 0) (z2v a0 c1 g2 ((tR x).getD default).1 ((tR x).getD default).2)))
def zbn:Bool×LO:=sL (z5o a0 c1 g3) (z02 a0 c1 g3 big c2)
def z63:Nat→St→Option (Bool×LO):=lpT 1 (pSt [(x1V 0 0 1),(pTm 1 (pV (pOne (pFn 153 [])))),(x1I 7),(x1I 8)] [x1L]) (fun hs=>zbn (hN hs 0) (hI hs 1) (hI hs 2) (hLn hs 3))
theorem zcq:∀ x:Option ((Int)⊕(Int×Bool)),x.isSome=true→(z3a a0 c1 g2) x=some (pick (z5o a0 c1 g2 x))
 | none,h=>by cases h
 | some (Sum.inl r),_=>rfl
 | some (Sum.inr r),_=>rfl
theorem zd3 (K:Ex→St→Option (Ex×St)):ev9 Γ3 146 2 1 fi146 (z1p a0 c1 c2 g3) K=z0b a0 c1 g3 c2 (fun t8'=>K .normal (z1p a0 c1 t8' g3)) (fun c0_=>K .ret (z2x a0 c1 g3 c0_)) (fun c0_ c1_=>K (.exit 0) (z2v a0 c1 g3 c0_ c1_)):=by kernel_rfl
theorem zct:∀ (n:Nat) (t8:Int),iter 146 2 1 (ev9 Γ3 146 2 1 fi146) n (z1p a0 c1 t8 g2) (fun e st=>some (e,st))=(z3a a0 c1 g2) (z02 a0 c1 g2 n t8):=by
 intro n
 induction n with
 | zero=>intros;rfl
 | succ n ih=>
  intro t8
  refine Eq.trans (iter_succ ..) (Eq.trans (zd3 ..) (Eq.trans ?_ (za0 a0 c1 g2 t8 (z3a a0 c1 g2) rfl (fun t8'=>z02 a0 c1 g2 n t8') (fun c0_=>some (Sum.inl c0_)) (fun c0_ c1_=>some (Sum.inr (c0_,c1_))))))
  exact congrArg (fun kn_=>z0b a0 c1 g2 t8 kn_ _ _) (funext fun t8'=>ih ..)
theorem zau:LoopOne J fnTab 146 2 z63:=lpK zf5 zf0 (fi:=fi146) (by kernel_rfl) (by kernel_rfl) (q:=fun hs=>(z1p (hN hs 0) (hI hs 1) (hI hs 2) (hLn hs 3))) (fun hs=>by kernel_rfl) fun hs h1=>Eq.trans (zct (hN hs 0) (hI hs 1) (hLn hs 3) big (hI hs 2)) (zcq (hN hs 0) (hI hs 1) (hLn hs 3) _ h1)
def tb4:List (Nat×(List PT→Option (Bool×AV×List Blk))):=(37,zig)::(58,z7d)::(74,zk7)::(75,zi2)::(164,zgm)::(169,zih)::tb3
def lt4:List ((Nat×Nat)×(Nat→St→Option (Bool×LO))):=((77,4),zlc)::((120,5),zut)::((146,2),z5h)::((146,2),z63)::lt3
def Γ4:Ctx:=⟨tyTab,fnTab,tblSum tb4,tblLp lt4⟩
theorem ziu:SumL J tb4:=SumL.cons zz2 (SumL.cons zl6 (SumL.cons y0n (SumL.cons zyp (SumL.cons zww (SumL.cons zzg (zf5))))))
theorem ziw:LpL J fnTab lt4:=LpL.cons zuj (LpL.cons y2f (LpL.cons z9w (LpL.cons zau (zf0))))
def znv:Option (Nat×Nat×Nat×Nat×(List Nat)×(List Nat)×(List Nat)×(List Nat))→Option (AV×List Blk)
 | some r=>some ((.v (.agg [(.sl 0 0 r.1 1),(.sl 1 0 r.2.1 1),(.sl 2 0 r.2.2.1 1),(.sl 3 0 r.2.2.2.1 3),(.int .i64 c0),(.flt .f32 a1),(.flt .f32 a2)])),[(.mk true (.fl .f32 r.2.2.2.2.1)),(.mk true (.fl .f32 r.2.2.2.2.2.1)),(.mk true (.fl .f32 r.2.2.2.2.2.2.1)),(.mk true (.fl .f32 r.2.2.2.2.2.2.2))])
 | none=>none
def zot:List PT→Option (Bool×AV×List Blk)
 | [.agg [.row 1 q0x (.fl .f32 q1b),.row 1 q13 (.fl .f32 q1f),.row 1 q14 (.fl .f32 q1e),.row 3 q1o (.fl .f32 q1v),.s (.int .i64 q27),.s (.flt .f32 q2c),.s (.flt .f32 q2d)]]=>sF (znv q27 q2c q2d) (z1o q0x q1b q13 q1f q14 q1e q1o q1v q27 q2c q2d)
 | _=>none
theorem y8u:ev8 Γ4 34 [.agg [.row 1 a0 (.fl .f32 g1),.row 1 a2 (.fl .f32 g3),.row 1 a4 (.fl .f32 g5),.row 3 a6 (.fl .f32 g7),.s (.int .i64 c8),.s (.flt .f32 a9),.s (.flt .f32 a10)]]=(znv c8 a9 a10) (z1o a0 g1 a2 g3 a4 g5 a6 g7 c8 a9 a10):=tr2 (y30 a0 g1 a2 g3 a4 g5 a6 g7 c8 a9 a10 (znv c8 a9 a10) rfl (fun c0_ c1_ c2_ c3_ c4_ c5_ c6_ c7_=>some (c0_,c1_,c2_,c3_,c4_,c5_,c6_,c7_))) (by kernel_rfl)
theorem y4i:SumOne J 34 zot:=mkT ziu ziw fun pts v news hp=>by
 unfold zot at hp
 split at hp
 ·exact fin3 (y8u ..) hp
 ·cases hp
def zkg  : Option (Bool)→Option (AV×List Blk)
 | some r=>some ((.v (.one (.bool r))),[])
 | none=>none
def zja:List PT→Option (Bool×AV×List Blk)
 | [.agg [.row 1 q1s (.fl .f32 q25),.row 1 q1y (.fl .f32 q28),.row 1 q1z (.fl .f32 q29)],.agg [.row 1 q2z (.fl .f32 q37),.row 1 q33 (.fl .f32 q3c),.row 1 q32 (.fl .f32 q39)]]=>sF zkg (z5x q1s q25 q1y q28 q1z q29 q2z q37 q33 q3c q32 q39)
 | _=>none
theorem y73:ev8 Γ4 76 [.agg [.row 1 a0 (.fl .f32 g1),.row 1 a2 (.fl .f32 g3),.row 1 a4 (.fl .f32 g5)],.agg [.row 1 a6 (.fl .f32 g7),.row 1 a8 (.fl .f32 g9),.row 1 a10 (.fl .f32 g11)]]=zkg (z5x a0 g1 a2 g3 a4 g5 a6 g7 a8 g9 a10 g11):=tr2 (zzh a0 g1 a2 g3 a4 g5 a6 g7 a8 g9 a10 g11 zkg rfl (fun c0_=>some c0_)) (by kernel_rfl)
theorem y1k:SumOne J 76 zja:=mkT ziu ziw fun pts v news hp=>by
 unfold zja at hp
 split at hp
 ·exact fin3 (y73 ..) hp
 ·cases hp
def zi9  : Option (Bool)→Option (AV×List Blk)
 | some r=>some ((.v (.one (.bool r))),[])
 | none=>none
def zib:List PT→Option (Bool×AV×List Blk)
 | [.one (.row 3 a_n (.fl .f32 a)),.one (.row 3 b_n (.fl .f32 b))]=>sF zi9 (z55 a_n a b_n b)
 | _=>none
theorem y5d:ev8 Γ4 77 [.one (.row 3 a0 (.fl .f32 g1)),.one (.row 3 a2 (.fl .f32 g3))]=zi9 (z55 a0 g1 a2 g3):=tr2 (zwf a0 g1 a2 g3 zi9 rfl (fun c0_=>some c0_)) (by kernel_rfl)
theorem zyd:SumOne J 77 zib:=mkT ziu ziw fun pts v news hp=>by
 unfold zib at hp
 split at hp
 ·exact fin3 (y5d ..) hp
 ·cases hp
def zs7  : Option (Bool)→Option (AV×List Blk)
 | some r=>some ((.v (.one (.bool r))),[])
 | none=>none
def zt0:List PT→Option (Bool×AV×List Blk)
 | [.ptr [.row 1 q0b (.fl .f32 q0h),.row 1 q1a (.fl .f32 q1k),.row 1 q19 (.fl .f32 q1l)]]=>sF zs7 (z9k q0b q0h q1a q1k q19 q1l)
 | _=>none
theorem ybn:ev8 Γ4 120 [.ptr [.row 1 a0 (.fl .f32 g1),.row 1 a2 (.fl .f32 g3),.row 1 a4 (.fl .f32 g5)]]=zs7 (z9k a0 g1 a2 g3 a4 g5):=tr2 (y6t a0 g1 a2 g3 a4 g5 zs7 rfl (fun c0_=>some c0_)) (by kernel_rfl)
theorem y89:SumOne J 120 zt0:=mkT ziu ziw fun pts v news hp=>by
 unfold zt0 at hp
 split at hp
 ·exact fin3 (ybn ..) hp
 ·cases hp
def z3h  : Option (Int)→Option (AV×List Blk)
 | some r=>some ((.v (.one (.int .i64 r))),[])
 | none=>none
def z3f:List PT→Option (Bool×AV×List Blk)
 | [.one (.row 1 s_n (.fl .f32 s)),.fn 115 []]=>sF z3h (z0l s_n s)
 | _=>none
theorem zde:ev8 Γ4 146 [.one (.row 1 a0 (.fl .f32 g1)),.fn 115 []]=z3h (z0l a0 g1):=tr2 (zat a0 g1 z3h rfl (fun c0_=>some c0_)) (by kernel_rfl)
theorem zbb:SumOne J 146 z3f:=mkT ziu ziw fun pts v news hp=>by
 unfold z3f at hp
 split at hp
 ·exact fin3 (zde ..) hp
 ·cases hp
def z3r  : Option (Int)→Option (AV×List Blk)
 | some r=>some ((.v (.one (.int .i64 r))),[])
 | none=>none
def z3s:List PT→Option (Bool×AV×List Blk)
 | [.one (.row 1 s_n (.fl .f32 s)),.fn 153 []]=>sF z3r (z0o s_n s)
 | _=>none
theorem zf1:ev8 Γ4 146 [.one (.row 1 a0 (.fl .f32 g1)),.fn 153 []]=z3r (z0o a0 g1):=tr2 (zbs a0 g1 z3r rfl (fun c0_=>some c0_)) (by kernel_rfl)
theorem zcs:SumOne J 146 z3s:=mkT ziu ziw fun pts v news hp=>by
 unfold z3s at hp
 split at hp
 ·exact fin3 (zf1 ..) hp
 ·cases hp
def zo7  : Option (Nat)→Option (AV×List Blk)
 | some r=>some ((.v (.one (.flt .f32 r))),[])
 | none=>none
def zov:List PT→Option (Bool×AV×List Blk)
 | [.one (.s (.flt .f32 x))]=>sF zo7 (z62 x)
 | _=>none
theorem y97:ev8 Γ4 148 [.one (.s (.flt .f32 a0))]=zo7 (z62 a0):=tr2 (y3e a0 zo7 rfl (fun c0_=>some c0_)) (by kernel_rfl)
theorem y4l:SumOne J 148 zov:=mkT ziu ziw fun pts v news hp=>by
 unfold zov at hp
 split at hp
 ·exact fin3 (y97 ..) hp
 ·cases hp
def z1u:St:=(.mk [(x0V 0 0 a0 1),(1,(.v (.one (.fn 154 [])))),(x0I 7 c1),(x0I 8 c2)] [(x0L g3)])
def z39(sn:Nat)(t7:Int)(b0:List Nat)(c0_:Int):St:=(.mk [(x0I 4 c0_)] [(x0L b0)])
def z33:St:=(.mk [(x0V 0 0 a0 1),(1,(.v (.one (.fn 154 [])))),(x0I 7 c1),(x0I 8 c3),(x0B 9 e4)] [(x0L g2)])
def z3d:Option ((Int)⊕(Int×Bool))→Option (Ex×St)
 | none=>none
 | some (Sum.inl r)=>some (.ret,(z39 a0 c1 g2 r))
 | some (Sum.inr r)=>some ((.exit 0),(z33 a0 c1 g2 r.1 r.2))
def z64 (x:Option ((Int)⊕(Int×Bool))):LO:=(.two (oL x) (.one .ret (z39 a0 c1 g2 ((tL x).getD default))) (.one (.exit 0) (z33 a0 c1 g2 ((tR x).getD default).1 ((tR x).getD default).2)))
def zbw:Bool×LO:=sL (z64 a0 c1 g3) (z03 a0 c1 g3 big c2)
def z6f:Nat→St→Option (Bool×LO):=lpT 1 (pSt [(x1V 0 0 1),(pTm 1 (pV (pOne (pFn 154 [])))),(x1I 7),(x1I 8)] [x1L]) (fun hs=>zbw (hN hs 0) (hI hs 1) (hI hs 2) (hLn hs 3))
theorem zdg:∀ x:Option ((Int)⊕(Int×Bool)),x.isSome=true→(z3d a0 c1 g2) x=some (pick (z64 a0 c1 g2 x))
 | none,h=>by cases h
 | some (Sum.inl r),_=>rfl
 | some (Sum.inr r),_=>rfl
theorem zdi (K:Ex→St→Option (Ex×St)):ev9 Γ4 146 2 1 fi146 (z1u a0 c1 c2 g3) K=z0c a0 c1 g3 c2 (fun t8'=>K .normal (z1u a0 c1 t8' g3)) (fun c0_=>K .ret (z39 a0 c1 g3 c0_)) (fun c0_ c1_=>K (.exit 0) (z33 a0 c1 g3 c0_ c1_)):=by kernel_rfl
theorem zdh:∀ (n:Nat) (t8:Int),iter 146 2 1 (ev9 Γ4 146 2 1 fi146) n (z1u a0 c1 t8 g2) (fun e st=>some (e,st))=(z3d a0 c1 g2) (z03 a0 c1 g2 n t8):=by
 intro n
 induction n with
 | zero=>intros;rfl
 | succ n ih=>
  intro t8
  refine Eq.trans (iter_succ ..) (Eq.trans (zdi ..) (Eq.trans ?_ (zao a0 c1 g2 t8 (z3d a0 c1 g2) rfl (fun t8'=>z03 a0 c1 g2 n t8') (fun c0_=>some (Sum.inl c0_)) (fun c0_ c1_=>some (Sum.inr (c0_,c1_))))))
  exact congrArg (fun kn_=>z0c a0 c1 g2 t8 kn_ _ _) (funext fun t8'=>ih ..)
theorem zbe:LoopOne J fnTab 146 2 z6f:=lpK ziu ziw (fi:=fi146) (by kernel_rfl) (by kernel_rfl) (q:=fun hs=>(z1u (hN hs 0) (hI hs 1) (hI hs 2) (hLn hs 3))) (fun hs=>by kernel_rfl) fun hs h1=>Eq.trans (zdh (hN hs 0) (hI hs 1) (hLn hs 3) big (hI hs 2)) (zdg (hN hs 0) (hI hs 1) (hLn hs 3) _ h1)
def tb5:List (Nat×(List PT→Option (Bool×AV×List Blk))):=(34,zot)::(76,zja)::(77,zib)::(120,zt0)::(146,z3f)::(146,z3s)::(148,zov)::tb4
def lt5:List ((Nat×Nat)×(Nat→St→Option (Bool×LO))):=((146,2),z6f)::lt4
def Γ5:Ctx:=⟨tyTab,fnTab,tblSum tb5,tblLp lt5⟩
theorem zxa:SumL J tb5:=SumL.cons y4i (SumL.cons y1k (SumL.cons zyd (SumL.cons y89 (SumL.cons zbb (SumL.cons zcs (SumL.cons y4l (ziu)))))))
theorem zxu:LpL J fnTab lt5:=LpL.cons zbe (ziw)
def zox  : Option (Bool)→Option (AV×List Blk)
 | some r=>some ((.v (.one (.bool r))),[])
 | none=>none
def znx:List PT→Option (Bool×AV×List Blk)
 | [.agg [.row 1 q0x (.fl .f32 q1b),.row 1 q13 (.fl .f32 q1f),.row 1 q14 (.fl .f32 q1e),.row 3 q1o (.fl .f32 q1v),.s (.int .i64 q27),.s (.flt .f32 q2c),.s (.flt .f32 q2d)],.agg [.row 1 q2f (.fl .f32 q2l),.row 1 q2h (.fl .f32 q2n),.row 1 q2g (.fl .f32 q2o),.row 3 q2q (.fl .f32 q31),.s (.int .i64 q3d),.s (.flt .f32 q3g),.s (.flt .f32 q3h)]]=>sF zox (z7j q0x q1b q13 q1f q14 q1e q1o q1v q27 q2c q2d q2f q2l q2h q2n q2g q2o q2q q31 q3d q3g q3h)
 | _=>none
theorem ya4:ev8 Γ5 36 [.agg [.row 1 a0 (.fl .f32 g1),.row 1 a2 (.fl .f32 g3),.row 1 a4 (.fl .f32 g5),.row 3 a6 (.fl .f32 g7),.s (.int .i64 c8),.s (.flt .f32 a9),.s (.flt .f32 a10)],.agg [.row 1 a11 (.fl .f32 g12),.row 1 a13 (.fl .f32 g14),.row 1 a15 (.fl .f32 g16),.row 3 a17 (.fl .f32 g18),.s (.int .i64 c19),.s (.flt .f32 a20),.s (.flt .f32 a21)]]=zox (z7j a0 g1 a2 g3 a4 g5 a6 g7 c8 a9 a10 a11 g12 a13 g14 a15 g16 a17 g18 c19 a20 a21):=tr2 (y25 a0 g1 a2 g3 a4 g5 a6 g7 c8 a9 a10 a11 g12 a13 g14 a15 g16 a17 g18 c19 a20 a21 zox rfl (fun c0_=>some c0_)) (by kernel_rfl)
theorem y4y:SumOne J 36 znx:=mkT zxa zxu fun pts v news hp=>by
 unfold znx at hp
 split at hp
 ·exact fin3 (ya4 ..) hp
 ·cases hp
def z40  : Option (Int)→Option (AV×List Blk)
 | some r=>some ((.v (.one (.int .i64 r))),[])
 | none=>none
def z41:List PT→Option (Bool×AV×List Blk)
 | [.one (.row 1 s_n (.fl .f32 s)),.fn 154 []]=>sF z40 (z0q s_n s)
 | _=>none
theorem zfl:ev8 Γ5 146 [.one (.row 1 a0 (.fl .f32 g1)),.fn 154 []]=z40 (z0q a0 g1):=tr2 (zcr a0 g1 z40 rfl (fun c0_=>some c0_)) (by kernel_rfl)
theorem zdd:SumOne J 146 z41:=mkT zxa zxu fun pts v news hp=>by
 unfold z41 at hp
 split at hp
 ·exact fin3 (zfl ..) hp
 ·cases hp
def zs8  : Option (Nat)→Option (AV×List Blk)
 | some r=>some ((.v (.one (.flt .f64 r))),[])
 | none=>none
def ztf:List PT→Option (Bool×AV×List Blk)
 | [.one (.s (.flt .f64 x))]=>sF zs8 (z9h x)
 | _=>none
theorem ybi:ev8 Γ5 175 [.one (.s (.flt .f64 a0))]=zs8 (z9h a0):=tr2 (y6e a0 zs8 rfl (fun c0_=>some c0_)) (by kernel_rfl)
theorem y7y:SumOne J 175 ztf:=mkT zxa zxu fun pts v news hp=>by
 unfold ztf at hp
 split at hp
 ·exact fin3 (ybi ..) hp
 ·cases hp
def zha:St:=(.mk [(x0B 4 e0),(5,(.v (.one (.flt .f64 a1)))),(6,(.v (.one (.flt .f64 a2)))),(7,(.v (.one (.flt .f64 a3)))),(8,(.v (.one (.flt .f64 a4))))] [])
def zm4:St:=(.mk [(x0B 4 e0),(5,(.v (.one (.flt .f64 a1)))),(6,(.v (.one (.flt .f64 a2)))),(7,(.v (.one (.flt .f64 a3)))),(8,(.v (.one (.flt .f64 a4)))),(x0B 25 e5)] [])
def znt:Option ((Nat×Nat×Bool))→Option (Ex×St)
 | none=>none
 | some r=>some ((.exit 0),(zm4 e0 a1 a2 r.1 r.2.1 r.2.2))
def zul (x:Option ((Nat×Nat×Bool))):LO:=(.one (.exit 0) (zm4 e0 a1 a2 (x.getD default).1 (x.getD default).2.1 (x.getD default).2.2))
def y7g:Bool×LO:=sL (zul e0 a1 a2) (z1q a2 big a3 a4)
def zxm:Nat→St→Option (Bool×LO):=lpT 0 (pSt [(x1B 4),(pTm 5 (pV (pOne (pFlt .f64)))),(pTm 6 (pV (pOne (pFlt .f64)))),(pTm 7 (pV (pOne (pFlt .f64)))),(pTm 8 (pV (pOne (pFlt .f64))))] []) (fun hs=>y7g (hB hs 0) (hN hs 1) (hN hs 2) (hN hs 3) (hN hs 4))
theorem y9o:∀ x:Option ((Nat×Nat×Bool)),x.isSome=true→(znt e0 a1 a2) x=some (pick (zul e0 a1 a2 x))
 | none,h=>by cases h
 | some r,_=>rfl
theorem y92 (K:Ex→St→Option (Ex×St)):ev9 Γ5 160 9 0 fi160 (zha e0 a1 a2 a3 a4) K=z4s a2 a3 a4 (fun p' k'=>K .normal (zha e0 a1 a2 p' k')) (fun c0_ c1_ c2_=>K (.exit 0) (zm4 e0 a1 a2 c0_ c1_ c2_)):=by kernel_rfl
theorem y9z:∀ (n p k:Nat),iter 160 9 0 (ev9 Γ5 160 9 0 fi160) n (zha e0 a1 a2 p k) (fun e st=>some (e,st))=(znt e0 a1 a2) (z1q a2 n p k):=by
 intro n
 induction n with
 | zero=>intros;rfl
 | succ n ih=>
  intro p k
  refine Eq.trans (iter_succ ..) (Eq.trans (y92 ..) (Eq.trans ?_ (y39 a2 p k (znt e0 a1 a2) rfl (fun p' k'=>z1q a2 n p' k') (fun c0_ c1_ c2_=>some (c0_,c1_,c2_)))))
  exact congrArg (fun kn_=>z4s a2 p k kn_ _) (funext fun p'=>funext fun k'=>ih ..)
theorem y4a:LoopOne J fnTab 160 9 zxm:=lpK zxa zxu (fi:=fi160) (by kernel_rfl) (by kernel_rfl) (q:=fun hs=>(zha (hB hs 0) (hN hs 1) (hN hs 2) (hN hs 3) (hN hs 4))) (fun hs=>by kernel_rfl) fun hs h1=>Eq.trans (y9z (hB hs 0) (hN hs 1) (hN hs 2) big (hN hs 3) (hN hs 4)) (y9o (hB hs 0) (hN hs 1) (hN hs 2) _ h1)
def tb6:List (Nat×(List PT→Option (Bool×AV×List Blk))):=(36,znx)::(146,z41)::(175,ztf)::tb5
def lt6:List ((Nat×Nat)×(Nat→St→Option (Bool×LO))):=((160,9),zxm)::lt5
def Γ6:Ctx:=⟨tyTab,fnTab,tblSum tb6,tblLp lt6⟩
theorem zm8:SumL J tb6:=SumL.cons y4y (SumL.cons zdd (SumL.cons y7y (zxa)))
theorem zmn:LpL J fnTab lt6:=LpL.cons y4a (zxu)
def z2s  : Option (Bool)→Option (AV×List Blk)
 | some r=>some ((.v (.one (.bool r))),[])
 | none=>none
def z2t:List PT→Option (Bool×AV×List Blk)
 | [.one (.row 1 s_n (.fl .f32 s)),.fn 115 []]=>sF z2s (z0g s_n s)
 | _=>none
theorem zb7:ev8 Γ6 114 [.one (.row 1 a0 (.fl .f32 g1)),.fn 115 []]=z2s (z0g a0 g1):=tr2 (z9g a0 g1 z2s rfl (fun c0_=>some c0_)) (by kernel_rfl)
theorem z9t:SumOne J 114 z2t:=mkT zm8 zmn fun pts v news hp=>by
 unfold z2t at hp
 split at hp
 ·exact fin3 (zb7 ..) hp
 ·cases hp
def z3c  : Option (Bool)→Option (AV×List Blk)
 | some r=>some ((.v (.one (.bool r))),[])
 | none=>none
def z37:List PT→Option (Bool×AV×List Blk)
 | [.one (.row 1 s_n (.fl .f32 s)),.fn 153 []]=>sF z3c (z0i s_n s)
 | _=>none
theorem zcx:ev8 Γ6 114 [.one (.row 1 a0 (.fl .f32 g1)),.fn 153 []]=z3c (z0i a0 g1):=tr2 (za7 a0 g1 z3c rfl (fun c0_=>some c0_)) (by kernel_rfl)
theorem zaf:SumOne J 114 z37:=mkT zm8 zmn fun pts v news hp=>by
 unfold z37 at hp
 split at hp
 ·exact fin3 (zcx ..) hp
 ·cases hp
def z3e  : Option (Bool)→Option (AV×List Blk)
 | some r=>some ((.v (.one (.bool r))),[])
 | none=>none
def z3g:List PT→Option (Bool×AV×List Blk)
 | [.one (.row 1 s_n (.fl .f32 s)),.fn 154 []]=>sF z3e (z0k s_n s)
 | _=>none
theorem zdf:ev8 Γ6 114 [.one (.row 1 a0 (.fl .f32 g1)),.fn 154 []]=z3e (z0k a0 g1):=tr2 (zac a0 g1 z3e rfl (fun c0_=>some c0_)) (by kernel_rfl)
theorem zbl:SumOne J 114 z3g:=mkT zm8 zmn fun pts v news hp=>by
 unfold z3g at hp
 split at hp
 ·exact fin3 (zdf ..) hp
 ·cases hp
def zvd  : Option (Nat)→Option (AV×List Blk)
 | some r=>some ((.v (.one (.flt .f64 r))),[])
 | none=>none
def zve:List PT→Option (Bool×AV×List Blk)
 | [.one (.s (.flt .f64 q2k))]=>sF zvd (zb8 q2k)
 | _=>none
theorem ybq:ev8 Γ6 160 [.one (.s (.flt .f64 a0))]=zvd (zb8 a0):=tr2 (y7q a0 zvd rfl (fun c0_=>some c0_)) (by kernel_rfl)
theorem y8z:SumOne J 160 zve:=mkT zm8 zmn fun pts v news hp=>by
 unfold zve at hp
 split at hp
 ·exact fin3 (ybq ..) hp
 ·cases hp
def zjo  : Option (Nat)→Option (AV×List Blk)
 | some r=>some ((.v (.one (.flt .f32 r))),[])
 | none=>none
def zjz:List PT→Option (Bool×AV×List Blk)
 | [.one (.s (.flt .f32 x))]=>sF zjo (z5s x)
 | _=>none
theorem y6x:ev8 Γ6 170 [.one (.s (.flt .f32 a0))]=zjo (z5s a0):=tr2 (zz1 a0 zjo rfl (fun c0_=>some c0_)) (by kernel_rfl)
theorem y1v:SumOne J 170 zjz:=mkT zm8 zmn fun pts v news hp=>by
 unfold zjz at hp
 split at hp
 ·exact fin3 (y6x ..) hp
 ·cases hp
def zoa  : Option (Nat)→Option (AV×List Blk)
 | some r=>some ((.v (.one (.flt .f32 r))),[])
 | none=>none
def zoi:List PT→Option (Bool×AV×List Blk)
 | [.one (.s (.flt .f32 x))]=>sF zoa (z7h x)
 | _=>none
theorem y9b:ev8 Γ6 181 [.one (.s (.flt .f32 a0))]=zoa (z7h a0):=tr2 (y2i a0 zoa rfl (fun c0_=>some c0_)) (by kernel_rfl)
theorem y5m:SumOne J 181 zoi:=mkT zm8 zmn fun pts v news hp=>by
 unfold zoi at hp
 split at hp
 ·exact fin3 (y9b ..) hp
 ·cases hp
def zfv:St:=(.mk [(x0P 0 4 7),(x0F 4 a0),(x0I 57 c1),(x0I 58 c2)] [(x0L g3),(x0L g4),(x0L g5),(x0L g6),(x0R false 0 1 2 3 a7 a8 a9 a10 c11 a12 a13)])
def zk5(t57:Int)(b0 b1 b2 b3:List Nat)(q16 q15 q17 q0q:Nat)(q1j:Int)(q1i q18:Nat):St:=(.mk [(x0B 2 false)] [(x0L b0),(x0L b1),(x0L b2),(x0L b3),(x0R false 0 1 2 3 q16 q15 q17 q0q q1j q1i q18)])
def zjj:St:=(.mk [(x0P 0 4 7),(x0F 4 a12),(x0I 57 c0),(x0I 58 c13),(x0B 59 e14)] [(x0L g1),(x0L g2),(x0L g3),(x0L g4),(x0R false 0 1 2 3 a5 a6 a7 a8 c9 a10 a11)])
def zm2:Option ((Unit)⊕(Nat×Int×Bool))→Option (Ex×St)
 | none=>none
 | some (Sum.inl r)=>some (.ret,(zk5 c0 g1 g2 g3 g4 a5 a6 a7 a8 c9 a10 a11))
 | some (Sum.inr r)=>some ((.exit 0),(zjj c0 g1 g2 g3 g4 a5 a6 a7 a8 c9 a10 a11 r.1 r.2.1 r.2.2))
def zrt (x:Option ((Unit)⊕(Nat×Int×Bool))):LO:=(.two (oL x) (.one .ret (zk5 c0 g1 g2 g3 g4 a5 a6 a7 a8 c9 a10 a11)) (.one (.exit 0) (zjj c0 g1 g2 g3 g4 a5 a6 a7 a8 c9 a10 a11 ((tR x).getD default).1 ((tR x).getD default).2.1 ((tR x).getD default).2.2)))
def y4u:Bool×LO:=sL (zrt c1 g3 g4 g5 g6 a7 a8 a9 a10 c11 a12 a13) (z0z c1 g6 a10 a13 big a0 c2)
def zuw:Nat→St→Option (Bool×LO):=lpT 5 (pSt [(x1P 0 4 7),(x1F 4),(x1I 57),(x1I 58)] [x1L,x1L,x1L,x1L,(x1R false 0 1 2 3)]) (fun hs=>y4u (hN hs 0) (hI hs 1) (hI hs 2) (hLn hs 3) (hLn hs 4) (hLn hs 5) (hLn hs 6) (hN hs 7) (hN hs 8) (hN hs 9) (hN hs 10) (hI hs 11) (hN hs 12) (hN hs 13))
theorem y8m:∀ x:Option ((Unit)⊕(Nat×Int×Bool)),x.isSome=true→(zm2 c0 g1 g2 g3 g4 a5 a6 a7 a8 c9 a10 a11) x=some (pick (zrt c0 g1 g2 g3 g4 a5 a6 a7 a8 c9 a10 a11 x))
 | none,h=>by cases h
 | some (Sum.inl r),_=>rfl
 | some (Sum.inr r),_=>rfl
theorem y87 (K:Ex→St→Option (Ex×St)):ev9 Γ6 82 6 5 fi82 (zfv a0 c1 c2 g3 g4 g5 g6 a7 a8 a9 a10 c11 a12 a13) K=z44 c1 g6 a10 a13 a0 c2 (fun t4' t58'=>K .normal (zfv t4' c1 t58' g3 g4 g5 g6 a7 a8 a9 a10 c11 a12 a13)) (fun _=>K .ret (zk5 c1 g3 g4 g5 g6 a7 a8 a9 a10 c11 a12 a13)) (fun c0_ c1_ c2_=>K (.exit 0) (zjj c1 g3 g4 g5 g6 a7 a8 a9 a10 c11 a12 a13 c0_ c1_ c2_)):=by kernel_rfl
theorem y81:∀ (n t4:Nat) (t58:Int),iter 82 6 5 (ev9 Γ6 82 6 5 fi82) n (zfv t4 c0 t58 g1 g2 g3 g4 a5 a6 a7 a8 c9 a10 a11) (fun e st=>some (e,st))=(zm2 c0 g1 g2 g3 g4 a5 a6 a7 a8 c9 a10 a11) (z0z c0 g4 a8 a11 n t4 t58):=by
 intro n
 induction n with
 | zero=>intros;rfl
 | succ n ih=>
  intro t4 t58
  refine Eq.trans (iter_succ ..) (Eq.trans (y87 ..) (Eq.trans ?_ (y0x c0 g4 a8 a11 t4 t58 (zm2 c0 g1 g2 g3 g4 a5 a6 a7 a8 c9 a10 a11) rfl (fun t4' t58'=>z0z c0 g4 a8 a11 n t4' t58') (fun _=>some (Sum.inl ())) (fun c0_ c1_ c2_=>some (Sum.inr (c0_,c1_,c2_))))))
  exact congrArg (fun kn_=>z44 c0 g4 a8 a11 t4 t58 kn_ _ _) (funext fun t4'=>funext fun t58'=>ih ..)
theorem y3m:LoopOne J fnTab 82 6 zuw:=lpK zm8 zmn (fi:=fi82) (by kernel_rfl) (by kernel_rfl) (q:=fun hs=>(zfv (hN hs 0) (hI hs 1) (hI hs 2) (hLn hs 3) (hLn hs 4) (hLn hs 5) (hLn hs 6) (hN hs 7) (hN hs 8) (hN hs 9) (hN hs 10) (hI hs 11) (hN hs 12) (hN hs 13))) (fun hs=>by kernel_rfl) fun hs h1=>Eq.trans (y81 (hI hs 1) (hLn hs 3) (hLn hs 4) (hLn hs 5) (hLn hs 6) (hN hs 7) (hN hs 8) (hN hs 9) (hN hs 10) (hI hs 11) (hN hs 12) (hN hs 13) big (hN hs 0) (hI hs 2)) (y8m (hI hs 1) (hLn hs 3) (hLn hs 4) (hLn hs 5) (hLn hs 6) (hN hs 7) (hN hs 8) (hN hs 9) (hN hs 10) (hI hs 11) (hN hs 12) (hN hs 13) _ h1)
def tb7:List (Nat×(List PT→Option (Bool×AV×List Blk))):=(114,z2t)::(114,z37)::(114,z3g)::(160,zve)::(170,zjz)::(181,zoi)::tb6
def lt7:List ((Nat×Nat)×(Nat→St→Option (Bool×LO))):=((82,6),zuw)::lt6
def Γ7:Ctx:=⟨tyTab,fnTab,tblSum tb7,tblLp lt7⟩
theorem zsi:SumL J tb7:=SumL.cons z9t (SumL.cons zaf (SumL.cons zbl (SumL.cons y8z (SumL.cons y1v (SumL.cons y5m (zm8))))))
theorem zsx:LpL J fnTab lt7:=LpL.cons y3m (zmn)
def zgl  : Option (Bool)→Option (AV×List Blk)
 | some r=>some ((.v (.one (.bool r))),[])
 | none=>none
def zgi:List PT→Option (Bool×AV×List Blk)
 | [.one (.row 1 q1t (.fl .f32 q26))]=>sF zgl (z1m q1t q26)
 | _=>none
theorem y37:ev8 Γ7 64 [.one (.row 1 a0 (.fl .f32 g1))]=zgl (z1m a0 g1):=tr2 (zvc a0 g1 zgl rfl (fun c0_=>some c0_)) (by kernel_rfl)
theorem zxi:SumOne J 64 zgi:=mkT zsi zsx fun pts v news hp=>by
 unfold zgi at hp
 split at hp
 ·exact fin3 (y37 ..) hp
 ·cases hp
def zt3  : Option (Bool)→Option (AV×List Blk)
 | some r=>some ((.v (.one (.bool r))),[])
 | none=>none
def zs9:List PT→Option (Bool×AV×List Blk)
 | [.ptr [.row 1 q08 (.fl .f32 q0d),.row 1 q0a (.fl .f32 q0f),.row 1 q09 (.fl .f32 q0e),.row 3 q0g (.fl .f32 q0i),.s (.int .i64 q0n),.s (.flt .f32 q0u),.s (.flt .f32 q0t)]]=>sF zt3 (z98 q08 q0d q0a q0f q09 q0e q0g q0i q0n q0u q0t)
 | _=>none
theorem yb8:ev8 Γ7 82 [.ptr [.row 1 a0 (.fl .f32 g1),.row 1 a2 (.fl .f32 g3),.row 1 a4 (.fl .f32 g5),.row 3 a6 (.fl .f32 g7),.s (.int .i64 c8),.s (.flt .f32 a9),.s (.flt .f32 a10)]]=zt3 (z98 a0 g1 a2 g3 a4 g5 a6 g7 c8 a9 a10):=tr2 (y7i a0 g1 a2 g3 a4 g5 a6 g7 c8 a9 a10 zt3 rfl (fun c0_=>some c0_)) (by kernel_rfl)
theorem y7u:SumOne J 82 zs9:=mkT zsi zsx fun pts v news hp=>by
 unfold zs9 at hp
 split at hp
 ·exact fin3 (yb8 ..) hp
 ·cases hp
def zkc  : Option (Bool)→Option (AV×List Blk)
 | some r=>some ((.v (.one (.bool r))),[])
 | none=>none
def zkb:List PT→Option (Bool×AV×List Blk)
 | [.one (.row 1 q1t (.fl .f32 q26))]=>sF zkc (z4m q1t q26)
 | _=>none
theorem y7o:ev8 Γ7 132 [.one (.row 1 a0 (.fl .f32 g1))]=zkc (z4m a0 g1):=tr2 (zyf a0 g1 zkc rfl (fun c0_=>some c0_)) (by kernel_rfl)
theorem y18:SumOne J 132 zkb:=mkT zsi zsx fun pts v news hp=>by
 unfold zkb at hp
 split at hp
 ·exact fin3 (y7o ..) hp
 ·cases hp
def zmr  : Option (Bool)→Option (AV×List Blk)
 | some r=>some ((.v (.one (.bool r))),[])
 | none=>none
def zlo:List PT→Option (Bool×AV×List Blk)
 | [.one (.row 1 q1t (.fl .f32 q26))]=>sF zmr (z6o q1t q26)
 | _=>none
theorem y8l:ev8 Γ7 133 [.one (.row 1 a0 (.fl .f32 g1))]=zmr (z6o a0 g1):=tr2 (y0k a0 g1 zmr rfl (fun c0_=>some c0_)) (by kernel_rfl)
theorem y31:SumOne J 133 zlo:=mkT zsi zsx fun pts v news hp=>by
 unfold zlo at hp
 split at hp
 ·exact fin3 (y8l ..) hp
 ·cases hp
def zkf  : Option (Nat)→Option (AV×List Blk)
 | some r=>some ((.v (.one (.flt .f32 r))),[])
 | none=>none
def zkd:List PT→Option (Bool×AV×List Blk)
 | [.one (.s (.flt .f32 x))]=>sF zkf (z5y x)
 | _=>none
theorem y6j:ev8 Γ7 141 [.one (.s (.flt .f32 a0))]=zkf (z5y a0):=tr2 (zyr a0 zkf rfl (fun c0_=>some c0_)) (by kernel_rfl)
theorem y1f:SumOne J 141 zkd:=mkT zsi zsx fun pts v news hp=>by
 unfold zkd at hp
 split at hp
 ·exact fin3 (y6j ..) hp
 ·cases hp
def tb8:List (Nat×(List PT→Option (Bool×AV×List Blk))):=(64,zgi)::(82,zs9)::(132,zkb)::(133,zlo)::(141,zkd)::tb7
def lt8:List ((Nat×Nat)×(Nat→St→Option (Bool×LO))):=lt7
def Γ8:Ctx:=⟨tyTab,fnTab,tblSum tb8,tblLp lt8⟩
theorem zsp:SumL J tb8:=SumL.cons zxi (SumL.cons y7u (SumL.cons y18 (SumL.cons y31 (SumL.cons y1f (zsi)))))
theorem zsf:LpL J fnTab lt8:=zsx
def zic  : Option (Nat×Nat×Bool)→Option (AV×List Blk)
 | some r=>some ((.tup [(.one (.flt .f32 r.1)),(.one (.flt .f32 r.2.1)),(.one (.bool r.2.2))]),[])
 | none=>none
def zi7:List PT→Option (Bool×AV×List Blk)
 | [.one (.s (.flt .f32 x)),.one (.s (.flt .f32 y))]=>sF zic (z31 x y)
 | _=>none
theorem y4c:ev8 Γ8 107 [.one (.s (.flt .f32 a0)),.one (.s (.flt .f32 a1))]=zic (z31 a0 a1):=tr2 (zxz a0 a1 zic rfl (fun c0_ c1_ c2_=>some (c0_,c1_,c2_))) (by kernel_rfl)
theorem zyo:SumOne J 107 zi7:=mkT zsp zsf fun pts v news hp=>by
 unfold zi7 at hp
 split at hp
 ·exact fin3 (y4c ..) hp
 ·cases hp
def zhs  : Option (Bool)→Option (AV×List Blk)
 | some r=>some ((.v (.one (.bool r))),[])
 | none=>none
def zi4:List PT→Option (Bool×AV×List Blk)
 | [.ptr [.row 1 q00 (.fl .f32 q03),.row 1 q02 (.fl .f32 q04),.row 1 q01 (.fl .f32 q05),.row 3 q06 (.fl .f32 q07),.s (.int .i64 q0c),.s (.flt .f32 q0k),.s (.flt .f32 q0j)],.one (.s (.int .i64 i))]=>sF zhs (z54 q00 q03 q02 q04 q01 q05 q06 q07 q0c q0k q0j i)
 | _=>none
theorem y53:ev8 Γ8 127 [.ptr [.row 1 a0 (.fl .f32 g1),.row 1 a2 (.fl .f32 g3),.row 1 a4 (.fl .f32 g5),.row 3 a6 (.fl .f32 g7),.s (.int .i64 c8),.s (.flt .f32 a9),.s (.flt .f32 a10)],.one (.s (.int .i64 c11))]=zhs (z54 a0 g1 a2 g3 a4 g5 a6 g7 c8 a9 a10 c11):=tr2 (zy2 a0 g1 a2 g3 a4 g5 a6 g7 c8 a9 a10 c11 zhs rfl (fun c0_=>some c0_)) (by kernel_rfl)
theorem zy5:SumOne J 127 zi4:=mkT zsp zsf fun pts v news hp=>by
 unfold zi4 at hp
 split at hp
 ·exact fin3 (y53 ..) hp
 ·cases hp
def zcy  : Option (Nat)→Option (AV×List Blk)
 | some r=>some ((.v (.one (.flt .f32 r))),[])
 | none=>none
def zd7:List PT→Option (Bool×AV×List Blk)
 | [.agg [.row 1 q00 (.fl .f32 q03),.row 1 q02 (.fl .f32 q04),.row 1 q01 (.fl .f32 q05),.row 3 q06 (.fl .f32 q07),.s (.int .i64 q0c),.s (.flt .f32 q0k),.s (.flt .f32 q0j)],.one (.s (.int .i64 i)),.one (.s (.flt .f32 q1p))]=>sF zcy (z34 q00 q03 q02 q04 q01 q05 q06 q07 q0c q0k q0j i q1p)
 | _=>none
theorem zxr:ev8 Γ8 143 [.agg [.row 1 a0 (.fl .f32 g1),.row 1 a2 (.fl .f32 g3),.row 1 a4 (.fl .f32 g5),.row 3 a6 (.fl .f32 g7),.s (.int .i64 c8),.s (.flt .f32 a9),.s (.flt .f32 a10)],.one (.s (.int .i64 c11)),.one (.s (.flt .f32 a12))]=zcy (z34 a0 g1 a2 g3 a4 g5 a6 g7 c8 a9 a10 c11 a12):=tr2 (zrc a0 g1 a2 g3 a4 g5 a6 g7 c8 a9 a10 c11 a12 zcy rfl (fun c0_=>some c0_)) (by kernel_rfl)
theorem zt1:SumOne J 143 zd7:=mkT zsp zsf fun pts v news hp=>by
 unfold zd7 at hp
 split at hp
 ·exact fin3 (zxr ..) hp
 ·cases hp
def z1a:St:=(.mk [(x0V 0 0 a0 1),(1,(.v (.one (.fn 171 [(.ptr 4 0 1)])))),(x0I 7 c1),(x0I 8 c2)] [(x0L g3),(x0L g4),(x0L g5),(.mk true (.cells [(.vw 0 0 a6 1),(.vw 1 0 a7 1),(.vw 2 0 a8 1)])),(.mk true (.cells [(.flt .f32 a9)]))])
def z2e(sn:Nat)(t7:Int)(b0 b1 b2:List Nat)(q1r q23 q24 b4:Nat)(c0_:Int):St:=(.mk [(x0I 4 c0_)] [(x0L b0),(x0L b1),(x0L b2),(.mk true (.cells [(.vw 0 0 q1r 1),(.vw 1 0 q23 1),(.vw 2 0 q24 1)])),(.mk true (.cells [(.flt .f32 b4)]))])
def z2d:St:=(.mk [(x0V 0 0 a0 1),(1,(.v (.one (.fn 171 [(.ptr 4 0 1)])))),(x0I 7 c1),(x0I 8 c9),(x0B 9 e10)] [(x0L g2),(x0L g3),(x0L g4),(.mk true (.cells [(.vw 0 0 a5 1),(.vw 1 0 a6 1),(.vw 2 0 a7 1)])),(.mk true (.cells [(.flt .f32 a8)]))])
def z2m:Option ((Int)⊕(Int×Bool))→Option (Ex×St)
 | none=>none
 | some (Sum.inl r)=>some (.ret,(z2e a0 c1 g2 g3 g4 a5 a6 a7 a8 r))
 | some (Sum.inr r)=>some ((.exit 0),(z2d a0 c1 g2 g3 g4 a5 a6 a7 a8 r.1 r.2))
def z4x (x:Option ((Int)⊕(Int×Bool))):LO:=(.two (oL x) (.one .ret (z2e a0 c1 g2 g3 g4 a5 a6 a7 a8 ((tL x).getD default))) (.one (.exit 0) (z2d a0 c1 g2 g3 g4 a5 a6 a7 a8 ((tR x).getD default).1 ((tR x).getD default).2)))
def z9x:Bool×LO:=sL (z4x a0 c1 g3 g4 g5 a6 a7 a8 a9) (z00 a0 c1 g3 a9 big c2)
def z5b:Nat→St→Option (Bool×LO):=lpT 5 (pSt [(x1V 0 0 1),(pTm 1 (pV (pOne (pFn 171 [(pPtr 4 (liN 0) 1)])))),(x1I 7),(x1I 8)] [x1L,x1L,x1L,(pBlk true (pCells [(pVw 0 (liN 0) 1),(pVw 1 (liN 0) 1),(pVw 2 (liN 0) 1)])),(pBlk true (pCells [(pFlt .f32)]))]) (fun hs=>z9x (hN hs 0) (hI hs 1) (hI hs 2) (hLn hs 3) (hLn hs 4) (hLn hs 5) (hN hs 6) (hN hs 7) (hN hs 8) (hN hs 9))
theorem zb0:∀ x:Option ((Int)⊕(Int×Bool)),x.isSome=true→(z2m a0 c1 g2 g3 g4 a5 a6 a7 a8) x=some (pick (z4x a0 c1 g2 g3 g4 a5 a6 a7 a8 x))
 | none,h=>by cases h
 | some (Sum.inl r),_=>rfl
 | some (Sum.inr r),_=>rfl
theorem zai (K:Ex→St→Option (Ex×St)):ev9 Γ8 146 2 5 fi146 (z1a a0 c1 c2 g3 g4 g5 a6 a7 a8 a9) K=z09 a0 c1 g3 a9 c2 (fun t8'=>K .normal (z1a a0 c1 t8' g3 g4 g5 a6 a7 a8 a9)) (fun c0_=>K .ret (z2e a0 c1 g3 g4 g5 a6 a7 a8 a9 c0_)) (fun c0_ c1_=>K (.exit 0) (z2d a0 c1 g3 g4 g5 a6 a7 a8 a9 c0_ c1_)):=by kernel_rfl
theorem zam:∀ (n:Nat) (t8:Int),iter 146 2 5 (ev9 Γ8 146 2 5 fi146) n (z1a a0 c1 t8 g2 g3 g4 a5 a6 a7 a8) (fun e st=>some (e,st))=(z2m a0 c1 g2 g3 g4 a5 a6 a7 a8) (z00 a0 c1 g2 a8 n t8):=by
 intro n
 induction n with
 | zero=>intros;rfl
 | succ n ih=>
  intro t8
  refine Eq.trans (iter_succ ..) (Eq.trans (zai ..) (Eq.trans ?_ (z94 a0 c1 g2 a8 t8 (z2m a0 c1 g2 g3 g4 a5 a6 a7 a8) rfl (fun t8'=>z00 a0 c1 g2 a8 n t8') (fun c0_=>some (Sum.inl c0_)) (fun c0_ c1_=>some (Sum.inr (c0_,c1_))))))
  exact congrArg (fun kn_=>z09 a0 c1 g2 a8 t8 kn_ _ _) (funext fun t8'=>ih ..)
theorem z9l:LoopOne J fnTab 146 2 z5b:=lpK zsp zsf (fi:=fi146) (by kernel_rfl) (by kernel_rfl) (q:=fun hs=>(z1a (hN hs 0) (hI hs 1) (hI hs 2) (hLn hs 3) (hLn hs 4) (hLn hs 5) (hN hs 6) (hN hs 7) (hN hs 8) (hN hs 9))) (fun hs=>by kernel_rfl) fun hs h1=>Eq.trans (zam (hN hs 0) (hI hs 1) (hLn hs 3) (hLn hs 4) (hLn hs 5) (hN hs 6) (hN hs 7) (hN hs 8) (hN hs 9) big (hI hs 2)) (zb0 (hN hs 0) (hI hs 1) (hLn hs 3) (hLn hs 4) (hLn hs 5) (hN hs 6) (hN hs 7) (hN hs 8) (hN hs 9) _ h1)
def zck:St:=(.mk [(x0P 0 3 3),(x0F 8 a0),(x0I 9 c1),(x0I 10 c2)] [(x0L g3),(x0L g4),(x0L g5),(.mk false (.cells [(.vw 0 0 a6 1),(.vw 1 0 a7 1),(.vw 2 0 a8 1)]))])
def zgs:St:=(.mk [(x0P 0 3 3),(x0F 8 a0),(x0I 9 c1),(x0I 10 c8),(x0B 36 e9)] [(x0L g2),(x0L g3),(x0L g4),(.mk false (.cells [(.vw 0 0 a5 1),(.vw 1 0 a6 1),(.vw 2 0 a7 1)]))])
def zht:Option ((Int×Bool))→Option (Ex×St)
 | none=>none
 | some r=>some ((.exit 0),(zgs a0 c1 g2 g3 g4 a5 a6 a7 r.1 r.2))
def zp9 (x:Option ((Int×Bool))):LO:=(.one (.exit 0) (zgs a0 c1 g2 g3 g4 a5 a6 a7 (x.getD default).1 (x.getD default).2))
def y1s:Bool×LO:=sL (zp9 a0 c1 g3 g4 g5 a6 a7 a8) (z1f a0 g3 a6 big c2)
def zqc:Nat→St→Option (Bool×LO):=lpT 4 (pSt [(x1P 0 3 3),(x1F 8),(x1I 9),(x1I 10)] [x1L,x1L,x1L,(pBlk false (pCells [(pVw 0 (liN 0) 1),(pVw 1 (liN 0) 1),(pVw 2 (liN 0) 1)]))]) (fun hs=>y1s (hN hs 0) (hI hs 1) (hI hs 2) (hLn hs 3) (hLn hs 4) (hLn hs 5) (hN hs 6) (hN hs 7) (hN hs 8))
theorem y56:∀ x:Option ((Int×Bool)),x.isSome=true→(zht a0 c1 g2 g3 g4 a5 a6 a7) x=some (pick (zp9 a0 c1 g2 g3 g4 a5 a6 a7 x))
 | none,h=>by cases h
 | some r,_=>rfl
theorem y5f (K:Ex→St→Option (Ex×St)):ev9 Γ8 176 4 4 fi176 (zck a0 c1 c2 g3 g4 g5 a6 a7 a8) K=z2z a0 g3 a6 c2 (fun t10'=>K .normal (zck a0 c1 t10' g3 g4 g5 a6 a7 a8)) (fun c0_ c1_=>K (.exit 0) (zgs a0 c1 g3 g4 g5 a6 a7 a8 c0_ c1_)):=by kernel_rfl
theorem y47:∀ (n:Nat) (t10:Int),iter 176 4 4 (ev9 Γ8 176 4 4 fi176) n (zck a0 c1 t10 g2 g3 g4 a5 a6 a7) (fun e st=>some (e,st))=(zht a0 c1 g2 g3 g4 a5 a6 a7) (z1f a0 g2 a5 n t10):=by
 intro n
 induction n with
 | zero=>intros;rfl
 | succ n ih=>
  intro t10
  refine Eq.trans (iter_succ ..) (Eq.trans (y5f ..) (Eq.trans ?_ (zwo a0 g2 a5 t10 (zht a0 c1 g2 g3 g4 a5 a6 a7) rfl (fun t10'=>z1f a0 g2 a5 n t10') (fun c0_ c1_=>some (c0_,c1_)))))
  exact congrArg (fun kn_=>z2z a0 g2 a5 t10 kn_ _) (funext fun t10'=>ih ..)
theorem zzc:LoopOne J fnTab 176 4 zqc:=lpK zsp zsf (fi:=fi176) (by kernel_rfl) (by kernel_rfl) (q:=fun hs=>(zck (hN hs 0) (hI hs 1) (hI hs 2) (hLn hs 3) (hLn hs 4) (hLn hs 5) (hN hs 6) (hN hs 7) (hN hs 8))) (fun hs=>by kernel_rfl) fun hs h1=>Eq.trans (y47 (hN hs 0) (hI hs 1) (hLn hs 3) (hLn hs 4) (hLn hs 5) (hN hs 6) (hN hs 7) (hN hs 8) big (hI hs 2)) (y56 (hN hs 0) (hI hs 1) (hLn hs 3) (hLn hs 4) (hLn hs 5) (hN hs 6) (hN hs 7) (hN hs 8) _ h1)
def tb9:List (Nat×(List PT→Option (Bool×AV×List Blk))):=(107,zi7)::(127,zi4)::(143,zd7)::tb8
def lt9:List ((Nat×Nat)×(Nat→St→Option (Bool×LO))):=((146,2),z5b)::((176,4),zqc)::lt8
def Γ9:Ctx:=⟨tyTab,fnTab,tblSum tb9,tblLp lt9⟩
theorem zxs:SumL J tb9:=SumL.cons zyo (SumL.cons zy5 (SumL.cons zt1 (zsp)))
theorem zxj:LpL J fnTab lt9:=LpL.cons z9l (LpL.cons zzc (zsf))
def zq3  : Option (Bool)→Option (AV×List Blk)
 | some r=>some ((.v (.one (.bool r))),[])
 | none=>none
def zq7:List PT→Option (Bool×AV×List Blk)
 | [.ptr [.row 1 q00 (.fl .f32 q03),.row 1 q02 (.fl .f32 q04),.row 1 q01 (.fl .f32 q05),.row 3 q06 (.fl .f32 q07),.s (.int .i64 q0c),.s (.flt .f32 q0k),.s (.flt .f32 q0j)],.one (.s (.int .i64 i)),.one (.s (.flt .f32 q0z)),.one (.s (.flt .f32 q0r)),.one (.s (.flt .f32 q0l))]=>sF zq3 (z8a q00 q03 q02 q04 q01 q05 q06 q07 q0c q0k q0j i q0z q0r q0l)
 | _=>none
theorem yau:ev8 Γ9 87 [.ptr [.row 1 a0 (.fl .f32 g1),.row 1 a2 (.fl .f32 g3),.row 1 a4 (.fl .f32 g5),.row 3 a6 (.fl .f32 g7),.s (.int .i64 c8),.s (.flt .f32 a9),.s (.flt .f32 a10)],.one (.s (.int .i64 c11)),.one (.s (.flt .f32 a12)),.one (.s (.flt .f32 a13)),.one (.s (.flt .f32 a14))]=zq3 (z8a a0 g1 a2 g3 a4 g5 a6 g7 c8 a9 a10 c11 a12 a13 a14):=tr2 (y4m a0 g1 a2 g3 a4 g5 a6 g7 c8 a9 a10 c11 a12 a13 a14 zq3 rfl (fun c0_=>some c0_)) (by kernel_rfl)
theorem y6p:SumOne J 87 zq7:=mkT zxs zxj fun pts v news hp=>by
 unfold zq7 at hp
 split at hp
 ·exact fin3 (yau ..) hp
 ·cases hp
def zb4  : Option (Int×Int×Nat×Nat×Nat)→Option (AV×List Blk)
 | some r=>some ((.tup [(.one (.int .i64 r.1)),(.one (.int .i64 r.2.1)),(.one (.flt .f32 r.2.2.1)),(.one (.flt .f32 r.2.2.2.1)),(.one (.flt .f32 r.2.2.2.2))]),[])
 | none=>none
def zbi:List PT→Option (Bool×AV×List Blk)
 | [.agg [.row 1 q0b (.fl .f32 q0h),.row 1 q1a (.fl .f32 q1k),.row 1 q19 (.fl .f32 q1l)],.one (.s (.flt .f32 x1))]=>sF zb4 (z0t q0b q0h q1a q1k q19 q1l x1)
 | _=>none
theorem zvb:ev8 Γ9 161 [.agg [.row 1 a0 (.fl .f32 g1),.row 1 a2 (.fl .f32 g3),.row 1 a4 (.fl .f32 g5)],.one (.s (.flt .f32 a6))]=zb4 (z0t a0 g1 a2 g3 a4 g5 a6):=tr2 (zph a0 g1 a2 g3 a4 g5 a6 zb4 rfl (fun c0_ c1_ c2_ c3_ c4_=>some (c0_,c1_,c2_,c3_,c4_))) (by kernel_rfl)
theorem zr8:SumOne J 161 zbi:=mkT zxs zxj fun pts v news hp=>by
 unfold zbi at hp
 split at hp
 ·exact fin3 (zvb ..) hp
 ·cases hp
def znw  : Option (Int×Int×Nat×Nat)→Option (AV×List Blk)
 | some r=>some ((.tup [(.one (.int .i64 r.1)),(.one (.int .i64 r.2.1)),(.one (.flt .f32 r.2.2.1)),(.one (.flt .f32 r.2.2.2))]),[])
 | none=>none
def zou:List PT→Option (Bool×AV×List Blk)
 | [.ptr [.row 1 q0b (.fl .f32 q0h),.row 1 q1a (.fl .f32 q1k),.row 1 q19 (.fl .f32 q1l)],.one (.s (.flt .f32 x1))]=>sF znw (z36 q0b q0h q1a q1k q19 q1l x1)
 | _=>none
theorem y8v:ev8 Γ9 176 [.ptr [.row 1 a0 (.fl .f32 g1),.row 1 a2 (.fl .f32 g3),.row 1 a4 (.fl .f32 g5)],.one (.s (.flt .f32 a6))]=znw (z36 a0 g1 a2 g3 a4 g5 a6):=tr2 (y36 a0 g1 a2 g3 a4 g5 a6 znw rfl (fun c0_ c1_ c2_ c3_=>some (c0_,c1_,c2_,c3_))) (by kernel_rfl)
theorem y4r:SumOne J 176 zou:=mkT zxs zxj fun pts v news hp=>by
 unfold zou at hp
 split at hp
 ·exact fin3 (y8v ..) hp
 ·cases hp
def z7q:St:=(.mk [(x0P 1 3 3),(x0V 42 0 a0 1),(x0I 43 c1),(x0I 44 c2)] [(x0L g3),(x0L g4),(x0L g5),(.mk true (.cells [(.vw 0 0 a6 1),(.vw 1 0 a7 1),(.vw 2 0 a8 1)]))])
def zab(q2y:Nat)(t43:Int)(b0 b1 b2:List Nat)(q1r q23 q24:Nat):St:=(.mk [(x0B 2 false)] [(x0L b0),(x0L b1),(x0L b2)])
def za8:St:=(.mk [(x0P 1 3 3),(x0V 42 0 a0 1),(x0I 43 c1),(x0I 44 c8),(x0B 45 e9)] [(x0L g2),(x0L g3),(x0L g4),(.mk true (.cells [(.vw 0 0 a5 1),(.vw 1 0 a6 1),(.vw 2 0 a7 1)]))])
def zbo:Option ((Unit)⊕(Int×Bool))→Option (Ex×St)
 | none=>none
 | some (Sum.inl r)=>some (.ret,(zab a0 c1 g2 g3 g4 a5 a6 a7))
 | some (Sum.inr r)=>some ((.exit 0),(za8 a0 c1 g2 g3 g4 a5 a6 a7 r.1 r.2))
def zhg (x:Option ((Unit)⊕(Int×Bool))):LO:=(.two (oL x) (.one .ret (zab a0 c1 g2 g3 g4 a5 a6 a7)) (.one (.exit 0) (za8 a0 c1 g2 g3 g4 a5 a6 a7 ((tR x).getD default).1 ((tR x).getD default).2)))
def zrz:Bool×LO:=sL (zhg a0 c1 g3 g4 g5 a6 a7 a8) (z0p a0 c1 g3 a6 big c2)
def ziv:Nat→St→Option (Bool×LO):=lpT 3 (pSt [(x1P 1 3 3),(x1V 42 0 1),(x1I 43),(x1I 44)] [x1L,x1L,x1L,(pBlk true (pCells [(pVw 0 (liN 0) 1),(pVw 1 (liN 0) 1),(pVw 2 (liN 0) 1)]))]) (fun hs=>zrz (hN hs 0) (hI hs 1) (hI hs 2) (hLn hs 3) (hLn hs 4) (hLn hs 5) (hN hs 6) (hN hs 7) (hN hs 8))
theorem zvi:∀ x:Option ((Unit)⊕(Int×Bool)),x.isSome=true→(zbo a0 c1 g2 g3 g4 a5 a6 a7) x=some (pick (zhg a0 c1 g2 g3 g4 a5 a6 a7 x))
 | none,h=>by cases h
 | some (Sum.inl r),_=>rfl
 | some (Sum.inr r),_=>rfl
theorem zvr (K:Ex→St→Option (Ex×St)):ev9 Γ9 89 5 3 fi89 (z7q a0 c1 c2 g3 g4 g5 a6 a7 a8) K=z1l a0 c1 g3 a6 c2 (fun t44'=>K .normal (z7q a0 c1 t44' g3 g4 g5 a6 a7 a8)) (fun _=>K .ret (zab a0 c1 g3 g4 g5 a6 a7 a8)) (fun c0_ c1_=>K (.exit 0) (za8 a0 c1 g3 g4 g5 a6 a7 a8 c0_ c1_)):=by kernel_rfl
theorem zvv:∀ (n:Nat) (t44:Int),iter 89 5 3 (ev9 Γ9 89 5 3 fi89) n (z7q a0 c1 t44 g2 g3 g4 a5 a6 a7) (fun e st=>some (e,st))=(zbo a0 c1 g2 g3 g4 a5 a6 a7) (z0p a0 c1 g2 a5 n t44):=by
 intro n
 induction n with
 | zero=>intros;rfl
 | succ n ih=>
  intro t44
  refine Eq.trans (iter_succ ..) (Eq.trans (zvr ..) (Eq.trans ?_ (zpt a0 c1 g2 a5 t44 (zbo a0 c1 g2 g3 g4 a5 a6 a7) rfl (fun t44'=>z0p a0 c1 g2 a5 n t44') (fun _=>some (Sum.inl ())) (fun c0_ c1_=>some (Sum.inr (c0_,c1_))))))
  exact congrArg (fun kn_=>z1l a0 c1 g2 a5 t44 kn_ _ _) (funext fun t44'=>ih ..)
theorem zrb:LoopOne J fnTab 89 5 ziv:=lpK zxs zxj (fi:=fi89) (by kernel_rfl) (by kernel_rfl) (q:=fun hs=>(z7q (hN hs 0) (hI hs 1) (hI hs 2) (hLn hs 3) (hLn hs 4) (hLn hs 5) (hN hs 6) (hN hs 7) (hN hs 8))) (fun hs=>by kernel_rfl) fun hs h1=>Eq.trans (zvv (hN hs 0) (hI hs 1) (hLn hs 3) (hLn hs 4) (hLn hs 5) (hN hs 6) (hN hs 7) (hN hs 8) big (hI hs 2)) (zvi (hN hs 0) (hI hs 1) (hLn hs 3) (hLn hs 4) (hLn hs 5) (hN hs 6) (hN hs 7) (hN hs 8) _ h1)
def tb10:List (Nat×(List PT→Option (Bool×AV×List Blk))):=(87,zq7)::(161,zbi)::(176,zou)::tb9
def lt10:List ((Nat×Nat)×(Nat→St→Option (Bool×LO))):=((89,5),ziv)::lt9
def Γ10:Ctx:=⟨tyTab,fnTab,tblSum tb10,tblLp lt10⟩
theorem zy0:SumL J tb10:=SumL.cons y6p (SumL.cons zr8 (SumL.cons y4r (zxs)))
theorem zxx:LpL J fnTab lt10:=LpL.cons zrb (zxj)
def zfn  : Option (Bool)→Option (AV×List Blk)
 | some r=>some ((.v (.one (.bool r))),[])
 | none=>none
def zfd:List PT→Option (Bool×AV×List Blk)
 | [.agg [.row 1 q0b (.fl .f32 q0h),.row 1 q1a (.fl .f32 q1k),.row 1 q19 (.fl .f32 q1l)]]=>sF zfn (z43 q0b q0h q1a q1k q19 q1l)
 | _=>none
theorem y0o:ev8 Γ10 89 [.agg [.row 1 a0 (.fl .f32 g1),.row 1 a2 (.fl .f32 g3),.row 1 a4 (.fl .f32 g5)]]=zfn (z43 a0 g1 a2 g3 a4 g5):=tr2 (zu1 a0 g1 a2 g3 a4 g5 zfn rfl (fun c0_=>some c0_)) (by kernel_rfl)
theorem zvu:SumOne J 89 zfd:=mkT zy0 zxx fun pts v news hp=>by
 unfold zfd at hp
 split at hp
 ·exact fin3 (y0o ..) hp
 ·cases hp
def zij  : Option (Nat)→Option (AV×List Blk)
 | some r=>some ((.v (.one (.flt .f32 r))),[])
 | none=>none
def zio:List PT→Option (Bool×AV×List Blk)
 | [.agg [.row 1 q1c (.fl .f32 q1u),.row 1 q1g (.fl .f32 q21),.row 1 q1h (.fl .f32 q20)],.one (.row 1 q1t (.fl .f32 q26)),.one (.s (.flt .f32 q2b))]=>sF zij (z57 q1c q1u q1g q21 q1h q20 q1t q26 q2b)
 | _=>none
theorem y5l:ev8 Γ10 144 [.agg [.row 1 a0 (.fl .f32 g1),.row 1 a2 (.fl .f32 g3),.row 1 a4 (.fl .f32 g5)],.one (.row 1 a6 (.fl .f32 g7)),.one (.s (.flt .f32 a8))]=zij (z57 a0 g1 a2 g3 a4 g5 a6 g7 a8):=tr2 (zx2 a0 g1 a2 g3 a4 g5 a6 g7 a8 zij rfl (fun c0_=>some c0_)) (by kernel_rfl)
theorem zzq:SumOne J 144 zio:=mkT zy0 zxx fun pts v news hp=>by
 unfold zio at hp
 split at hp
 ·exact fin3 (y5l ..) hp
 ·cases hp
def ztg  : Option (Nat)→Option (AV×List Blk)
 | some r=>some ((.v (.one (.flt .f32 r))),[])
 | none=>none
def zss:List PT→Option (Bool×AV×List Blk)
 | [.ptr [.row 1 q1c (.fl .f32 q1u),.row 1 q1g (.fl .f32 q21),.row 1 q1h (.fl .f32 q20)],.one (.row 1 q1t (.fl .f32 q26)),.one (.s (.flt .f32 q2b))]=>sF ztg (z9b q1c q1u q1g q21 q1h q20 q1t q26 q2b)
 | _=>none
theorem yb7:ev8 Γ10 172 [.ptr [.row 1 a0 (.fl .f32 g1),.row 1 a2 (.fl .f32 g3),.row 1 a4 (.fl .f32 g5)],.one (.row 1 a6 (.fl .f32 g7)),.one (.s (.flt .f32 a8))]=ztg (z9b a0 g1 a2 g3 a4 g5 a6 g7 a8):=tr2 (y72 a0 g1 a2 g3 a4 g5 a6 g7 a8 ztg rfl (fun c0_=>some c0_)) (by kernel_rfl)
theorem y7t:SumOne J 172 zss:=mkT zy0 zxx fun pts v news hp=>by
 unfold zss at hp
 split at hp
 ·exact fin3 (yb7 ..) hp
 ·cases hp
def tb11:List (Nat×(List PT→Option (Bool×AV×List Blk))):=(89,zfd)::(144,zio)::(172,zss)::tb10
def lt11:List ((Nat×Nat)×(Nat→St→Option (Bool×LO))):=lt10
def Γ11:Ctx:=⟨tyTab,fnTab,tblSum tb11,tblLp lt11⟩
theorem zxe:SumL J tb11:=SumL.cons zvu (SumL.cons zzq (SumL.cons y7t (zy0)))
theorem zx6:LpL J fnTab lt11:=zxx
def zfr  : Option (Nat×Nat)→Option (AV×List Blk)
 | some r=>some ((.tup [(.one (.flt .f32 r.1)),(.one (.flt .f32 r.2))]),[])
 | none=>none
def zfj:List PT→Option (Bool×AV×List Blk)
 | [.agg [.row 1 q00 (.fl .f32 q03),.row 1 q02 (.fl .f32 q04),.row 1 q01 (.fl .f32 q05),.row 3 q06 (.fl .f32 q07),.s (.int .i64 q0c),.s (.flt .f32 q0k),.s (.flt .f32 q0j)],.one (.s (.int .i64 i)),.one (.s (.flt .f32 q1p)),.one (.s (.flt .f32 q0l))]=>sF zfr (z28 q00 q03 q02 q04 q01 q05 q06 q07 q0c q0k q0j i q1p q0l)
 | _=>none
theorem y0u:ev8 Γ11 106 [.agg [.row 1 a0 (.fl .f32 g1),.row 1 a2 (.fl .f32 g3),.row 1 a4 (.fl .f32 g5),.row 3 a6 (.fl .f32 g7),.s (.int .i64 c8),.s (.flt .f32 a9),.s (.flt .f32 a10)],.one (.s (.int .i64 c11)),.one (.s (.flt .f32 a12)),.one (.s (.flt .f32 a13))]=zfr (z28 a0 g1 a2 g3 a4 g5 a6 g7 c8 a9 a10 c11 a12 a13):=tr2 (ztr a0 g1 a2 g3 a4 g5 a6 g7 c8 a9 a10 c11 a12 a13 zfr rfl (fun c0_ c1_=>some (c0_,c1_))) (by kernel_rfl)
theorem zvf:SumOne J 106 zfj:=mkT zxe zx6 fun pts v news hp=>by
 unfold zfj at hp
 split at hp
 ·exact fin3 (y0u ..) hp
 ·cases hp
def zo3  : Option (Nat)→Option (AV×List Blk)
 | some r=>some ((.v (.one (.flt .f32 r))),[])
 | none=>none
def zny:List PT→Option (Bool×AV×List Blk)
 | [.ptr [.row 1 q1c (.fl .f32 q1u),.row 1 q1g (.fl .f32 q21),.row 1 q1h (.fl .f32 q20)],.one (.s (.flt .f32 q2b))]=>sF zo3 (z7i q1c q1u q1g q21 q1h q20 q2b)
 | _=>none
theorem ya7:ev8 Γ11 165 [.ptr [.row 1 a0 (.fl .f32 g1),.row 1 a2 (.fl .f32 g3),.row 1 a4 (.fl .f32 g5)],.one (.s (.flt .f32 a6))]=zo3 (z7i a0 g1 a2 g3 a4 g5 a6):=tr2 (y2b a0 g1 a2 g3 a4 g5 a6 zo3 rfl (fun c0_=>some c0_)) (by kernel_rfl)
theorem y5n:SumOne J 165 zny:=mkT zxe zx6 fun pts v news hp=>by
 unfold zny at hp
 split at hp
 ·exact fin3 (ya7 ..) hp
 ·cases hp
def zom  : Option (Nat)→Option (AV×List Blk)
 | some r=>some ((.v (.one (.flt .f32 r))),[])
 | none=>none
def zo8:List PT→Option (Bool×AV×List Blk)
 | [.ptr [.row 1 q1c (.fl .f32 q1u),.row 1 q1g (.fl .f32 q21),.row 1 q1h (.fl .f32 q20)],.one (.s (.flt .f32 q2b))]=>sF zom (z7f q1c q1u q1g q21 q1h q20 q2b)
 | _=>none
theorem y96:ev8 Γ11 166 [.ptr [.row 1 a0 (.fl .f32 g1),.row 1 a2 (.fl .f32 g3),.row 1 a4 (.fl .f32 g5)],.one (.s (.flt .f32 a6))]=zom (z7f a0 g1 a2 g3 a4 g5 a6):=tr2 (y35 a0 g1 a2 g3 a4 g5 a6 zom rfl (fun c0_=>some c0_)) (by kernel_rfl)
theorem y55:SumOne J 166 zo8:=mkT zxe zx6 fun pts v news hp=>by
 unfold zo8 at hp
 split at hp
 ·exact fin3 (y96 ..) hp
 ·cases hp
def tb12:List (Nat×(List PT→Option (Bool×AV×List Blk))):=(106,zfj)::(165,zny)::(166,zo8)::tb11
def lt12:List ((Nat×Nat)×(Nat→St→Option (Bool×LO))):=lt11
def Γ12:Ctx:=⟨tyTab,fnTab,tblSum tb12,tblLp lt12⟩
theorem zwg:SumL J tb12:=SumL.cons zvf (SumL.cons y5n (SumL.cons y55 (zxe)))
theorem zxw:LpL J fnTab lt12:=zx6
def zfp  : Option (Nat×Nat)→Option (AV×List Blk)
 | some r=>some ((.tup [(.one (.flt .f32 r.1)),(.one (.flt .f32 r.2))]),[])
 | none=>none
def zfi:List PT→Option (Bool×AV×List Blk)
 | [.agg [.row 1 q00 (.fl .f32 q03),.row 1 q02 (.fl .f32 q04),.row 1 q01 (.fl .f32 q05),.row 3 q06 (.fl .f32 q07),.s (.int .i64 q0c),.s (.flt .f32 q0k),.s (.flt .f32 q0j)],.one (.s (.int .i64 i)),.one (.s (.flt .f32 q1p)),.one (.s (.flt .f32 q0l))]=>sF zfp (z2y q00 q03 q02 q04 q01 q05 q06 q07 q0c q0k q0j i q1p q0l)
 | _=>none
theorem y20:ev8 Γ12 105 [.agg [.row 1 a0 (.fl .f32 g1),.row 1 a2 (.fl .f32 g3),.row 1 a4 (.fl .f32 g5),.row 3 a6 (.fl .f32 g7),.s (.int .i64 c8),.s (.flt .f32 a9),.s (.flt .f32 a10)],.one (.s (.int .i64 c11)),.one (.s (.flt .f32 a12)),.one (.s (.flt .f32 a13))]=zfp (z2y a0 g1 a2 g3 a4 g5 a6 g7 c8 a9 a10 c11 a12 a13):=tr2 (zua a0 g1 a2 g3 a4 g5 a6 g7 c8 a9 a10 c11 a12 a13 zfp rfl (fun c0_ c1_=>some (c0_,c1_))) (by kernel_rfl)
theorem zvs:SumOne J 105 zfi:=mkT zwg zxw fun pts v news hp=>by
 unfold zfi at hp
 split at hp
 ·exact fin3 (y20 ..) hp
 ·cases hp
def zk4  : Option (Nat×Nat)→Option (AV×List Blk)
 | some r=>some ((.tup [(.one (.flt .f32 r.1)),(.one (.flt .f32 r.2))]),[])
 | none=>none
def zka:List PT→Option (Bool×AV×List Blk)
 | [.ptr [.row 1 q00 (.fl .f32 q03),.row 1 q02 (.fl .f32 q04),.row 1 q01 (.fl .f32 q05),.row 3 q06 (.fl .f32 q07),.s (.int .i64 q0c),.s (.flt .f32 q0k),.s (.flt .f32 q0j)],.one (.s (.int .i64 i)),.one (.s (.flt .f32 q1p)),.one (.s (.flt .f32 q0l))]=>sF zk4 (z4g q00 q03 q02 q04 q01 q05 q06 q07 q0c q0k q0j i q1p q0l)
 | _=>none
theorem y6h:ev8 Γ12 150 [.ptr [.row 1 a0 (.fl .f32 g1),.row 1 a2 (.fl .f32 g3),.row 1 a4 (.fl .f32 g5),.row 3 a6 (.fl .f32 g7),.s (.int .i64 c8),.s (.flt .f32 a9),.s (.flt .f32 a10)],.one (.s (.int .i64 c11)),.one (.s (.flt .f32 a12)),.one (.s (.flt .f32 a13))]=zk4 (z4g a0 g1 a2 g3 a4 g5 a6 g7 c8 a9 a10 c11 a12 a13):=tr2 (zzt a0 g1 a2 g3 a4 g5 a6 g7 c8 a9 a10 c11 a12 a13 zk4 rfl (fun c0_ c1_=>some (c0_,c1_))) (by kernel_rfl)
theorem y0m:SumOne J 150 zka:=mkT zwg zxw fun pts v news hp=>by
 unfold zka at hp
 split at hp
 ·exact fin3 (y6h ..) hp
 ·cases hp
def z8t:St:=(.mk [(x0P 1 4 7),(x0F 4 a0),(x0V 43 3 a1 3),(x0I 44 c2),(x0I 45 c3)] [(x0L g4),(x0L g5),(x0L g6),(x0L g7),(x0R true 0 1 2 3 a8 a9 a10 a11 c12 a13 a14)])
def zda(q2w:Nat)(t44:Int)(b0 b1 b2 b3:List Nat)(q16 q15 q17 q0q:Nat)(q1j:Int)(q1i q18:Nat):St:=(.mk [(x0B 2 false)] [(x0L b0),(x0L b1),(x0L b2),(x0L b3)])
def zco:St:=(.mk [(x0P 1 4 7),(x0F 4 a13),(x0V 43 3 a0 3),(x0I 44 c1),(x0I 45 c14),(x0B 46 e15)] [(x0L g2),(x0L g3),(x0L g4),(x0L g5),(x0R true 0 1 2 3 a6 a7 a8 a9 c10 a11 a12)])
def zep:Option ((Unit)⊕(Nat×Int×Bool))→Option (Ex×St)
 | none=>none
 | some (Sum.inl r)=>some (.ret,(zda a0 c1 g2 g3 g4 g5 a6 a7 a8 a9 c10 a11 a12))
 | some (Sum.inr r)=>some ((.exit 0),(zco a0 c1 g2 g3 g4 g5 a6 a7 a8 a9 c10 a11 a12 r.1 r.2.1 r.2.2))
def zkz (x:Option ((Unit)⊕(Nat×Int×Bool))):LO:=(.two (oL x) (.one .ret (zda a0 c1 g2 g3 g4 g5 a6 a7 a8 a9 c10 a11 a12)) (.one (.exit 0) (zco a0 c1 g2 g3 g4 g5 a6 a7 a8 a9 c10 a11 a12 ((tR x).getD default).1 ((tR x).getD default).2.1 ((tR x).getD default).2.2)))
def zvn:Bool×LO:=sL (zkz a1 c2 g4 g5 g6 g7 a8 a9 a10 a11 c12 a13 a14) (z0f a1 c2 g7 a14 big a0 c3)
def zly:Nat→St→Option (Bool×LO):=lpT 4 (pSt [(x1P 1 4 7),(x1F 4),(x1V 43 3 3),(x1I 44),(x1I 45)] [x1L,x1L,x1L,x1L,(x1R true 0 1 2 3)]) (fun hs=>zvn (hN hs 0) (hN hs 1) (hI hs 2) (hI hs 3) (hLn hs 4) (hLn hs 5) (hLn hs 6) (hLn hs 7) (hN hs 8) (hN hs 9) (hN hs 10) (hN hs 11) (hI hs 12) (hN hs 13) (hN hs 14))
theorem zys:∀ x:Option ((Unit)⊕(Nat×Int×Bool)),x.isSome=true→(zep a0 c1 g2 g3 g4 g5 a6 a7 a8 a9 c10 a11 a12) x=some (pick (zkz a0 c1 g2 g3 g4 g5 a6 a7 a8 a9 c10 a11 a12 x))
 | none,h=>by cases h
 | some (Sum.inl r),_=>rfl
 | some (Sum.inr r),_=>rfl
theorem zyj (K:Ex→St→Option (Ex×St)):ev9 Γ12 51 6 4 fi51 (z8t a0 a1 c2 c3 g4 g5 g6 g7 a8 a9 a10 a11 c12 a13 a14) K=z22 a1 c2 g7 a14 a0 c3 (fun t4' t45'=>K .normal (z8t t4' a1 c2 t45' g4 g5 g6 g7 a8 a9 a10 a11 c12 a13 a14)) (fun _=>K .ret (zda a1 c2 g4 g5 g6 g7 a8 a9 a10 a11 c12 a13 a14)) (fun c0_ c1_ c2_=>K (.exit 0) (zco a1 c2 g4 g5 g6 g7 a8 a9 a10 a11 c12 a13 a14 c0_ c1_ c2_)):=by kernel_rfl
theorem zyu:∀ (n t4:Nat) (t45:Int),iter 51 6 4 (ev9 Γ12 51 6 4 fi51) n (z8t t4 a0 c1 t45 g2 g3 g4 g5 a6 a7 a8 a9 c10 a11 a12) (fun e st=>some (e,st))=(zep a0 c1 g2 g3 g4 g5 a6 a7 a8 a9 c10 a11 a12) (z0f a0 c1 g5 a12 n t4 t45):=by
 intro n
 induction n with
 | zero=>intros;rfl
 | succ n ih=>
  intro t4 t45
  refine Eq.trans (iter_succ ..) (Eq.trans (zyj ..) (Eq.trans ?_ (ztl a0 c1 g5 a12 t4 t45 (zep a0 c1 g2 g3 g4 g5 a6 a7 a8 a9 c10 a11 a12) rfl (fun t4' t45'=>z0f a0 c1 g5 a12 n t4' t45') (fun _=>some (Sum.inl ())) (fun c0_ c1_ c2_=>some (Sum.inr (c0_,c1_,c2_))))))
  exact congrArg (fun kn_=>z22 a0 c1 g5 a12 t4 t45 kn_ _ _) (funext fun t4'=>funext fun t45'=>ih ..)
theorem zu9:LoopOne J fnTab 51 6 zly:=lpK zwg zxw (fi:=fi51) (by kernel_rfl) (by kernel_rfl) (q:=fun hs=>(z8t (hN hs 0) (hN hs 1) (hI hs 2) (hI hs 3) (hLn hs 4) (hLn hs 5) (hLn hs 6) (hLn hs 7) (hN hs 8) (hN hs 9) (hN hs 10) (hN hs 11) (hI hs 12) (hN hs 13) (hN hs 14))) (fun hs=>by kernel_rfl) fun hs h1=>Eq.trans (zyu (hN hs 1) (hI hs 2) (hLn hs 4) (hLn hs 5) (hLn hs 6) (hLn hs 7) (hN hs 8) (hN hs 9) (hN hs 10) (hN hs 11) (hI hs 12) (hN hs 13) (hN hs 14) big (hN hs 0) (hI hs 3)) (zys (hN hs 1) (hI hs 2) (hLn hs 4) (hLn hs 5) (hLn hs 6) (hLn hs 7) (hN hs 8) (hN hs 9) (hN hs 10) (hN hs 11) (hI hs 12) (hN hs 13) (hN hs 14) _ h1)
def tb13:List (Nat×(List PT→Option (Bool×AV×List Blk))):=(105,zfi)::(150,zka)::tb12
def lt13:List ((Nat×Nat)×(Nat→St→Option (Bool×LO))):=((51,6),zly)::lt12
def Γ13:Ctx:=⟨tyTab,fnTab,tblSum tb13,tblLp lt13⟩
theorem zxy:SumL J tb13:=SumL.cons zvs (SumL.cons y0m (zwg))
theorem zwc:LpL J fnTab lt13:=LpL.cons zu9 (zxw)
def zhn  : Option (Bool)→Option (AV×List Blk)
 | some r=>some ((.v (.one (.bool r))),[])
 | none=>none
def zhy:List PT→Option (Bool×AV×List Blk)
 | [.agg [.row 1 q08 (.fl .f32 q0d),.row 1 q0a (.fl .f32 q0f),.row 1 q09 (.fl .f32 q0e),.row 3 q0g (.fl .f32 q0i),.s (.int .i64 q0n),.s (.flt .f32 q0u),.s (.flt .f32 q0t)]]=>sF zhn (z56 q08 q0d q0a q0f q09 q0e q0g q0i q0n q0u q0t)
 | _=>none
theorem y4z:ev8 Γ13 51 [.agg [.row 1 a0 (.fl .f32 g1),.row 1 a2 (.fl .f32 g3),.row 1 a4 (.fl .f32 g5),.row 3 a6 (.fl .f32 g7),.s (.int .i64 c8),.s (.flt .f32 a9),.s (.flt .f32 a10)]]=zhn (z56 a0 g1 a2 g3 a4 g5 a6 g7 c8 a9 a10):=tr2 (zxt a0 g1 a2 g3 a4 g5 a6 g7 c8 a9 a10 zhn rfl (fun c0_=>some c0_)) (by kernel_rfl)
theorem zy4:SumOne J 51 zhy:=mkT zxy zwc fun pts v news hp=>by
 unfold zhy at hp
 split at hp
 ·exact fin3 (y4z ..) hp
 ·cases hp
def znp  : Option (Nat×Nat×Nat×Nat)→Option (AV×List Blk)
 | some r=>some ((.tup [(.one (.flt .f32 r.1)),(.one (.flt .f32 r.2.1)),(.one (.flt .f32 r.2.2.1)),(.one (.flt .f32 r.2.2.2))]),[])
 | none=>none
def zoh:List PT→Option (Bool×AV×List Blk)
 | [.ptr [.row 1 q00 (.fl .f32 q03),.row 1 q02 (.fl .f32 q04),.row 1 q01 (.fl .f32 q05),.row 3 q06 (.fl .f32 q07),.s (.int .i64 q0c),.s (.flt .f32 q0k),.s (.flt .f32 q0j)],.one (.s (.int .i64 i)),.one (.s (.flt .f32 q1p)),.one (.s (.flt .f32 q0l))]=>sF znp (z3v q00 q03 q02 q04 q01 q05 q06 q07 q0c q0k q0j i q1p q0l)
 | _=>none
theorem y90:ev8 Γ13 130 [.ptr [.row 1 a0 (.fl .f32 g1),.row 1 a2 (.fl .f32 g3),.row 1 a4 (.fl .f32 g5),.row 3 a6 (.fl .f32 g7),.s (.int .i64 c8),.s (.flt .f32 a9),.s (.flt .f32 a10)],.one (.s (.int .i64 c11)),.one (.s (.flt .f32 a12)),.one (.s (.flt .f32 a13))]=znp (z3v a0 g1 a2 g3 a4 g5 a6 g7 c8 a9 a10 c11 a12 a13):=tr2 (y2u a0 g1 a2 g3 a4 g5 a6 g7 c8 a9 a10 c11 a12 a13 znp rfl (fun c0_ c1_ c2_ c3_=>some (c0_,c1_,c2_,c3_))) (by kernel_rfl)
theorem y5g:SumOne J 130 zoh:=mkT zxy zwc fun pts v news hp=>by
 unfold zoh at hp
 split at hp
 ·exact fin3 (y90 ..) hp
 ·cases hp
def zeh  : Option (Nat)→Option (AV×List Blk)
 | some r=>some ((.v (.one (.flt .f32 r))),[])
 | none=>none
def zdm:List PT→Option (Bool×AV×List Blk)
 | [.agg [.row 1 q00 (.fl .f32 q03),.row 1 q02 (.fl .f32 q04),.row 1 q01 (.fl .f32 q05),.row 3 q06 (.fl .f32 q07),.s (.int .i64 q0c),.s (.flt .f32 q0k),.s (.flt .f32 q0j)],.one (.s (.int .i64 i)),.one (.s (.flt .f32 q1p)),.one (.s (.flt .f32 q0z)),.one (.s (.flt .f32 q0r)),.one (.s (.flt .f32 q0l))]=>sF zeh (z2l q00 q03 q02 q04 q01 q05 q06 q07 q0c q0k q0j i q1p q0z q0r q0l)
 | _=>none
theorem zz3:ev8 Γ13 157 [.agg [.row 1 a0 (.fl .f32 g1),.row 1 a2 (.fl .f32 g3),.row 1 a4 (.fl .f32 g5),.row 3 a6 (.fl .f32 g7),.s (.int .i64 c8),.s (.flt .f32 a9),.s (.flt .f32 a10)],.one (.s (.int .i64 c11)),.one (.s (.flt .f32 a12)),.one (.s (.flt .f32 a13)),.one (.s (.flt .f32 a14)),.one (.s (.flt .f32 a15))]=zeh (z2l a0 g1 a2 g3 a4 g5 a6 g7 c8 a9 a10 c11 a12 a13 a14 a15):=tr2 (zto a0 g1 a2 g3 a4 g5 a6 g7 c8 a9 a10 c11 a12 a13 a14 a15 zeh rfl (fun c0_=>some c0_)) (by kernel_rfl)
theorem zu4:SumOne J 157 zdm:=mkT zxy zwc fun pts v news hp=>by
 unfold zdm at hp
 split at hp
 ·exact fin3 (zz3 ..) hp
 ·cases hp
def tb14:List (Nat×(List PT→Option (Bool×AV×List Blk))):=(51,zhy)::(130,zoh)::(157,zdm)::tb13
def lt14:List ((Nat×Nat)×(Nat→St→Option (Bool×LO))):=lt13
def Γ14:Ctx:=⟨tyTab,fnTab,tblSum tb14,tblLp lt14⟩
theorem y3y:SumL J tb14:=SumL.cons zy4 (SumL.cons y5g (SumL.cons zu4 (zxy)))
theorem y3z:LpL J fnTab lt14:=zwc
def zoq  : Option (Bool)→Option (AV×List Blk)
 | some r=>some ((.v (.one (.bool r))),[])
 | none=>none
def zow:List PT→Option (Bool×AV×List Blk)
 | [.agg [.row 1 q00 (.fl .f32 q03),.row 1 q02 (.fl .f32 q04),.row 1 q01 (.fl .f32 q05),.row 3 q06 (.fl .f32 q07),.s (.int .i64 q0c),.s (.flt .f32 q0k),.s (.flt .f32 q0j)],.one (.s (.int .i64 i)),.one (.s (.flt .f32 q0z)),.one (.s (.flt .f32 q0r)),.one (.s (.flt .f32 q0l))]=>sF zoq (z7e q00 q03 q02 q04 q01 q05 q06 q07 q0c q0k q0j i q0z q0r q0l)
 | _=>none
theorem y8w:ev8 Γ14 139 [.agg [.row 1 a0 (.fl .f32 g1),.row 1 a2 (.fl .f32 g3),.row 1 a4 (.fl .f32 g5),.row 3 a6 (.fl .f32 g7),.s (.int .i64 c8),.s (.flt .f32 a9),.s (.flt .f32 a10)],.one (.s (.int .i64 c11)),.one (.s (.flt .f32 a12)),.one (.s (.flt .f32 a13)),.one (.s (.flt .f32 a14))]=zoq (z7e a0 g1 a2 g3 a4 g5 a6 g7 c8 a9 a10 c11 a12 a13 a14):=tr2 (y3c a0 g1 a2 g3 a4 g5 a6 g7 c8 a9 a10 c11 a12 a13 a14 zoq rfl (fun c0_=>some c0_)) (by kernel_rfl)
theorem y50:SumOne J 139 zow:=mkT y3y y3z fun pts v news hp=>by
 unfold zow at hp
 split at hp
 ·exact fin3 (y8w ..) hp
 ·cases hp
def zhx  : Option (Nat)→Option (AV×List Blk)
 | some r=>some ((.v (.one (.flt .f32 r))),[])
 | none=>none
def zi0:List PT→Option (Bool×AV×List Blk)
 | [.ptr [.row 1 q00 (.fl .f32 q03),.row 1 q02 (.fl .f32 q04),.row 1 q01 (.fl .f32 q05),.row 3 q06 (.fl .f32 q07),.s (.int .i64 q0c),.s (.flt .f32 q0k),.s (.flt .f32 q0j)],.one (.s (.int .i64 i)),.one (.s (.flt .f32 q1p)),.one (.s (.flt .f32 q0z)),.one (.s (.flt .f32 q0r)),.one (.s (.flt .f32 q0l))]=>sF zhx (z30 q00 q03 q02 q04 q01 q05 q06 q07 q0c q0k q0j i q1p q0z q0r q0l)
 | _=>none
theorem y4s:ev8 Γ14 149 [.ptr [.row 1 a0 (.fl .f32 g1),.row 1 a2 (.fl .f32 g3),.row 1 a4 (.fl .f32 g5),.row 3 a6 (.fl .f32 g7),.s (.int .i64 c8),.s (.flt .f32 a9),.s (.flt .f32 a10)],.one (.s (.int .i64 c11)),.one (.s (.flt .f32 a12)),.one (.s (.flt .f32 a13)),.one (.s (.flt .f32 a14)),.one (.s (.flt .f32 a15))]=zhx (z30 a0 g1 a2 g3 a4 g5 a6 g7 c8 a9 a10 c11 a12 a13 a14 a15):=tr2 (zxn a0 g1 a2 g3 a4 g5 a6 g7 c8 a9 a10 c11 a12 a13 a14 a15 zhx rfl (fun c0_=>some c0_)) (by kernel_rfl)
theorem zyw:SumOne J 149 zi0:=mkT y3y y3z fun pts v news hp=>by
 unfold zi0 at hp
 split at hp
 ·exact fin3 (y4s ..) hp
 ·cases hp
def tb15:List (Nat×(List PT→Option (Bool×AV×List Blk))):=(139,zow)::(149,zi0)::tb14
def lt15:List ((Nat×Nat)×(Nat→St→Option (Bool×LO))):=lt14
def Γ15:Ctx:=⟨tyTab,fnTab,tblSum tb15,tblLp lt15⟩
theorem y99:SumL J tb15:=SumL.cons y50 (SumL.cons zyw (y3y))
theorem y9s:LpL J fnTab lt15:=y3z
def zjv  : Option (Nat×Bool)→Option (AV×List Blk)
 | some r=>some ((.tup [(.one (.flt .f32 r.1)),(.one (.bool r.2))]),[])
 | none=>none
def zkn:List PT→Option (Bool×AV×List Blk)
 | [.agg [.row 1 q00 (.fl .f32 q03),.row 1 q02 (.fl .f32 q04),.row 1 q01 (.fl .f32 q05),.row 3 q06 (.fl .f32 q07),.s (.int .i64 q0c),.s (.flt .f32 q0k),.s (.flt .f32 q0j)],.one (.s (.int .i64 i)),.one (.s (.flt .f32 q1p)),.one (.s (.flt .f32 q0z)),.one (.s (.flt .f32 q0r)),.one (.s (.flt .f32 q0l))]=>sF zjv (z4h q00 q03 q02 q04 q01 q05 q06 q07 q0c q0k q0j i q1p q0z q0r q0l)
 | _=>none
theorem y6u:ev8 Γ15 140 [.agg [.row 1 a0 (.fl .f32 g1),.row 1 a2 (.fl .f32 g3),.row 1 a4 (.fl .f32 g5),.row 3 a6 (.fl .f32 g7),.s (.int .i64 c8),.s (.flt .f32 a9),.s (.flt .f32 a10)],.one (.s (.int .i64 c11)),.one (.s (.flt .f32 a12)),.one (.s (.flt .f32 a13)),.one (.s (.flt .f32 a14)),.one (.s (.flt .f32 a15))]=zjv (z4h a0 g1 a2 g3 a4 g5 a6 g7 c8 a9 a10 c11 a12 a13 a14 a15):=tr2 (zza a0 g1 a2 g3 a4 g5 a6 g7 c8 a9 a10 c11 a12 a13 a14 a15 zjv rfl (fun c0_ c1_=>some (c0_,c1_))) (by kernel_rfl)
theorem y0r:SumOne J 140 zkn:=mkT y99 y9s fun pts v news hp=>by
 unfold zkn at hp
 split at hp
 ·exact fin3 (y6u ..) hp
 ·cases hp
def tb16:List (Nat×(List PT→Option (Bool×AV×List Blk))):=(140,zkn)::tb15
def lt16:List ((Nat×Nat)×(Nat→St→Option (Bool×LO))):=lt15
def Γ16:Ctx:=⟨tyTab,fnTab,tblSum tb16,tblLp lt16⟩
theorem yac:SumL J tb16:=SumL.cons y0r (y99)
theorem y9j:LpL J fnTab lt16:=y9s
def z9q:St:=(.mk [(x0P 0 4 7),(x0I 1 c0),(x0F 2 a1),(x0F 3 a2),(x0F 4 a3),(x0F 12 a4),(x0F 13 a5),(x0I 14 c6)] [(x0L g7),(x0L g8),(x0L g9),(x0L g10),(x0R false 0 1 2 3 a11 a12 a13 a14 c15 a16 a17)])
def zej(i:Int)(q0z q0r q0l:Nat)(b0 b1 b2 b3:List Nat)(q16 q15 q17 q0q:Nat)(q1j:Int)(q1i q18:Nat):St:=(.mk [(x0F 10 0),(x0B 11 false)] [(x0L b0),(x0L b1),(x0L b2),(x0L b3),(x0R false 0 1 2 3 q16 q15 q17 q0q q1j q1i q18)])
def zev:St:=(.mk [(x0P 0 4 7),(x0I 1 c0),(x0F 2 a1),(x0F 3 a2),(x0F 4 a3),(x0F 12 a15),(x0F 13 a16),(x0I 14 c17),(x0B 18 e18)] [(x0L g4),(x0L g5),(x0L g6),(x0L g7),(x0R false 0 1 2 3 a8 a9 a10 a11 c12 a13 a14)])
def zfc:Option ((Unit)⊕(Nat×Nat×Int×Bool))→Option (Ex×St)
 | none=>none
 | some (Sum.inl r)=>some (.ret,(zej c0 a1 a2 a3 g4 g5 g6 g7 a8 a9 a10 a11 c12 a13 a14))
 | some (Sum.inr r)=>some ((.exit 0),(zev c0 a1 a2 a3 g4 g5 g6 g7 a8 a9 a10 a11 c12 a13 a14 r.1 r.2.1 r.2.2.1 r.2.2.2))
def zmj (x:Option ((Unit)⊕(Nat×Nat×Int×Bool))):LO:=(.two (oL x) (.one .ret (zej c0 a1 a2 a3 g4 g5 g6 g7 a8 a9 a10 a11 c12 a13 a14)) (.one (.exit 0) (zev c0 a1 a2 a3 g4 g5 g6 g7 a8 a9 a10 a11 c12 a13 a14 ((tR x).getD default).1 ((tR x).getD default).2.1 ((tR x).getD default).2.2.1 ((tR x).getD default).2.2.2)))
def zwx:Bool×LO:=sL (zmj c0 a1 a2 a3 g7 g8 g9 g10 a11 a12 a13 a14 c15 a16 a17) (z0h c0 a1 a2 a3 g7 g8 g9 g10 a11 a12 a13 a14 c15 a16 a17 big a4 a5 c6)
def znf:Nat→St→Option (Bool×LO):=lpT 5 (pSt [(x1P 0 4 7),(x1I 1),(x1F 2),(x1F 3),(x1F 4),(x1F 12),(x1F 13),(x1I 14)] [x1L,x1L,x1L,x1L,(x1R false 0 1 2 3)]) (fun hs=>zwx (hI hs 0) (hN hs 1) (hN hs 2) (hN hs 3) (hN hs 4) (hN hs 5) (hI hs 6) (hLn hs 7) (hLn hs 8) (hLn hs 9) (hLn hs 10) (hN hs 11) (hN hs 12) (hN hs 13) (hN hs 14) (hI hs 15) (hN hs 16) (hN hs 17))
theorem y15:∀ x:Option ((Unit)⊕(Nat×Nat×Int×Bool)),x.isSome=true→(zfc c0 a1 a2 a3 g4 g5 g6 g7 a8 a9 a10 a11 c12 a13 a14) x=some (pick (zmj c0 a1 a2 a3 g4 g5 g6 g7 a8 a9 a10 a11 c12 a13 a14 x))
 | none,h=>by cases h
 | some (Sum.inl r),_=>rfl
 | some (Sum.inr r),_=>rfl
theorem y1x (K:Ex→St→Option (Ex×St)):ev9 Γ16 129 4 5 fi129 (z9q c0 a1 a2 a3 a4 a5 c6 g7 g8 g9 g10 a11 a12 a13 a14 c15 a16 a17) K=z29 c0 a1 a2 a3 g7 g8 g9 g10 a11 a12 a13 a14 c15 a16 a17 a4 a5 c6 (fun low' q22' k'=>K .normal (z9q c0 a1 a2 a3 low' q22' k' g7 g8 g9 g10 a11 a12 a13 a14 c15 a16 a17)) (fun _=>K .ret (zej c0 a1 a2 a3 g7 g8 g9 g10 a11 a12 a13 a14 c15 a16 a17)) (fun c0_ c1_ c2_ c3_=>K (.exit 0) (zev c0 a1 a2 a3 g7 g8 g9 g10 a11 a12 a13 a14 c15 a16 a17 c0_ c1_ c2_ c3_)):=by kernel_rfl
theorem y19:∀ (n low q22:Nat) (k:Int),iter 129 4 5 (ev9 Γ16 129 4 5 fi129) n (z9q c0 a1 a2 a3 low q22 k g4 g5 g6 g7 a8 a9 a10 a11 c12 a13 a14) (fun e st=>some (e,st))=(zfc c0 a1 a2 a3 g4 g5 g6 g7 a8 a9 a10 a11 c12 a13 a14) (z0h c0 a1 a2 a3 g4 g5 g6 g7 a8 a9 a10 a11 c12 a13 a14 n low q22 k):=by
 intro n
 induction n with
 | zero=>intros;rfl
 | succ n ih=>
  intro low q22 k
  refine Eq.trans (iter_succ ..) (Eq.trans (y1x ..) (Eq.trans ?_ (zui c0 a1 a2 a3 g4 g5 g6 g7 a8 a9 a10 a11 c12 a13 a14 low q22 k (zfc c0 a1 a2 a3 g4 g5 g6 g7 a8 a9 a10 a11 c12 a13 a14) rfl (fun low' q22' k'=>z0h c0 a1 a2 a3 g4 g5 g6 g7 a8 a9 a10 a11 c12 a13 a14 n low' q22' k') (fun _=>some (Sum.inl ())) (fun c0_ c1_ c2_ c3_=>some (Sum.inr (c0_,c1_,c2_,c3_))))))
  exact congrArg (fun kn_=>z29 c0 a1 a2 a3 g4 g5 g6 g7 a8 a9 a10 a11 c12 a13 a14 low q22 k kn_ _ _) (funext fun low'=>funext fun q22'=>funext fun k'=>ih ..)
theorem zv9:LoopOne J fnTab 129 4 znf:=lpK yac y9j (fi:=fi129) (by kernel_rfl) (by kernel_rfl) (q:=fun hs=>(z9q (hI hs 0) (hN hs 1) (hN hs 2) (hN hs 3) (hN hs 4) (hN hs 5) (hI hs 6) (hLn hs 7) (hLn hs 8) (hLn hs 9) (hLn hs 10) (hN hs 11) (hN hs 12) (hN hs 13) (hN hs 14) (hI hs 15) (hN hs 16) (hN hs 17))) (fun hs=>by kernel_rfl) fun hs h1=>Eq.trans (y19 (hI hs 0) (hN hs 1) (hN hs 2) (hN hs 3) (hLn hs 7) (hLn hs 8) (hLn hs 9) (hLn hs 10) (hN hs 11) (hN hs 12) (hN hs 13) (hN hs 14) (hI hs 15) (hN hs 16) (hN hs 17) big (hN hs 4) (hN hs 5) (hI hs 6)) (y15 (hI hs 0) (hN hs 1) (hN hs 2) (hN hs 3) (hLn hs 7) (hLn hs 8) (hLn hs 9) (hLn hs 10) (hN hs 11) (hN hs 12) (hN hs 13) (hN hs 14) (hI hs 15) (hN hs 16) (hN hs 17) _ h1)
def tb17:List (Nat×(List PT→Option (Bool×AV×List Blk))):=tb16
def lt17:List ((Nat×Nat)×(Nat→St→Option (Bool×LO))):=((129,4),znf)::lt16
def Γ17:Ctx:=⟨tyTab,fnTab,tblSum tb17,tblLp lt17⟩
theorem y3w:SumL J tb17:=yac
theorem y44:LpL J fnTab lt17:=LpL.cons zv9 (y9j)
def zjp  : Option (Nat×Bool)→Option (AV×List Blk)
 | some r=>some ((.tup [(.one (.flt .f32 r.1)),(.one (.bool r.2))]),[])
 | none=>none
def zk0:List PT→Option (Bool×AV×List Blk)
 | [.ptr [.row 1 q00 (.fl .f32 q03),.row 1 q02 (.fl .f32 q04),.row 1 q01 (.fl .f32 q05),.row 3 q06 (.fl .f32 q07),.s (.int .i64 q0c),.s (.flt .f32 q0k),.s (.flt .f32 q0j)],.one (.s (.int .i64 i)),.one (.s (.flt .f32 q0z)),.one (.s (.flt .f32 q0r)),.one (.s (.flt .f32 q0l))]=>sF zjp (z4b q00 q03 q02 q04 q01 q05 q06 q07 q0c q0k q0j i q0z q0r q0l)
 | _=>none
theorem y7b:ev8 Γ17 129 [.ptr [.row 1 a0 (.fl .f32 g1),.row 1 a2 (.fl .f32 g3),.row 1 a4 (.fl .f32 g5),.row 3 a6 (.fl .f32 g7),.s (.int .i64 c8),.s (.flt .f32 a9),.s (.flt .f32 a10)],.one (.s (.int .i64 c11)),.one (.s (.flt .f32 a12)),.one (.s (.flt .f32 a13)),.one (.s (.flt .f32 a14))]=zjp (z4b a0 g1 a2 g3 a4 g5 a6 g7 c8 a9 a10 c11 a12 a13 a14):=tr2 (zz7 a0 g1 a2 g3 a4 g5 a6 g7 c8 a9 a10 c11 a12 a13 a14 zjp rfl (fun c0_ c1_=>some (c0_,c1_))) (by kernel_rfl)
theorem y1q:SumOne J 129 zk0:=mkT y3w y44 fun pts v news hp=>by
 unfold zk0 at hp
 split at hp
 ·exact fin3 (y7b ..) hp
 ·cases hp
def zed:St:=(.mk [(x0I 1 c0),(x0F 2 a1),(x0F 3 a2),(x0F 4 a3),(x0P 5 4 7),(x0F 12 a4),(x0F 13 a5),(x0I 24 c6)] [(x0L g7),(x0L g8),(x0L g9),(x0L g10),(x0R true 0 1 2 3 a11 a12 a13 a14 c15 a16 a17)])
def zie(i:Int)(q0z q0r q0l:Nat)(b0 b1 b2 b3:List Nat)(q16 q15 q17 q0q:Nat)(q1j:Int)(q1i q18:Nat):St:=(.mk [(x0F 10 0),(x0B 11 false)] [(x0L b0),(x0L b1),(x0L b2),(x0L b3)])
def zhu:St:=(.mk [(x0I 1 c0),(x0F 2 a1),(x0F 3 a2),(x0F 4 a3),(x0P 5 4 7),(x0F 12 a15),(x0F 13 a16),(x0I 24 c17),(x0B 25 e18)] [(x0L g4),(x0L g5),(x0L g6),(x0L g7),(x0R true 0 1 2 3 a8 a9 a10 a11 c12 a13 a14)])
def zk1:Option ((Unit)⊕(Nat×Nat×Int×Bool))→Option (Ex×St)
 | none=>none
 | some (Sum.inl r)=>some (.ret,(zie c0 a1 a2 a3 g4 g5 g6 g7 a8 a9 a10 a11 c12 a13 a14))
 | some (Sum.inr r)=>some ((.exit 0),(zhu c0 a1 a2 a3 g4 g5 g6 g7 a8 a9 a10 a11 c12 a13 a14 r.1 r.2.1 r.2.2.1 r.2.2.2))
def zqy (x:Option ((Unit)⊕(Nat×Nat×Int×Bool))):LO:=(.two (oL x) (.one .ret (zie c0 a1 a2 a3 g4 g5 g6 g7 a8 a9 a10 a11 c12 a13 a14)) (.one (.exit 0) (zhu c0 a1 a2 a3 g4 g5 g6 g7 a8 a9 a10 a11 c12 a13 a14 ((tR x).getD default).1 ((tR x).getD default).2.1 ((tR x).getD default).2.2.1 ((tR x).getD default).2.2.2)))
def y3l:Bool×LO:=sL (zqy c0 a1 a2 a3 g7 g8 g9 g10 a11 a12 a13 a14 c15 a16 a17) (z0s c0 a1 a2 a3 g7 g8 g9 g10 a11 a12 a13 a14 c15 a16 a17 big a4 a5 c6)
def zta:Nat→St→Option (Bool×LO):=lpT 4 (pSt [(x1I 1),(x1F 2),(x1F 3),(x1F 4),(x1P 5 4 7),(x1F 12),(x1F 13),(x1I 24)] [x1L,x1L,x1L,x1L,(x1R true 0 1 2 3)]) (fun hs=>y3l (hI hs 0) (hN hs 1) (hN hs 2) (hN hs 3) (hN hs 4) (hN hs 5) (hI hs 6) (hLn hs 7) (hLn hs 8) (hLn hs 9) (hLn hs 10) (hN hs 11) (hN hs 12) (hN hs 13) (hN hs 14) (hI hs 15) (hN hs 16) (hN hs 17))
theorem y65:∀ x:Option ((Unit)⊕(Nat×Nat×Int×Bool)),x.isSome=true→(zk1 c0 a1 a2 a3 g4 g5 g6 g7 a8 a9 a10 a11 c12 a13 a14) x=some (pick (zqy c0 a1 a2 a3 g4 g5 g6 g7 a8 a9 a10 a11 c12 a13 a14 x))
 | none,h=>by cases h
 | some (Sum.inl r),_=>rfl
 | some (Sum.inr r),_=>rfl
theorem y7f (K:Ex→St→Option (Ex×St)):ev9 Γ17 104 5 4 fi104 (zed c0 a1 a2 a3 a4 a5 c6 g7 g8 g9 g10 a11 a12 a13 a14 c15 a16 a17) K=z3p c0 a1 a2 a3 g7 g8 g9 g10 a11 a12 a13 a14 c15 a16 a17 a4 a5 c6 (fun low' q22' t24'=>K .normal (zed c0 a1 a2 a3 low' q22' t24' g7 g8 g9 g10 a11 a12 a13 a14 c15 a16 a17)) (fun _=>K .ret (zie c0 a1 a2 a3 g7 g8 g9 g10 a11 a12 a13 a14 c15 a16 a17)) (fun c0_ c1_ c2_ c3_=>K (.exit 0) (zhu c0 a1 a2 a3 g7 g8 g9 g10 a11 a12 a13 a14 c15 a16 a17 c0_ c1_ c2_ c3_)):=by kernel_rfl
theorem y6w:∀ (n low q22:Nat) (t24:Int),iter 104 5 4 (ev9 Γ17 104 5 4 fi104) n (zed c0 a1 a2 a3 low q22 t24 g4 g5 g6 g7 a8 a9 a10 a11 c12 a13 a14) (fun e st=>some (e,st))=(zk1 c0 a1 a2 a3 g4 g5 g6 g7 a8 a9 a10 a11 c12 a13 a14) (z0s c0 a1 a2 a3 g4 g5 g6 g7 a8 a9 a10 a11 c12 a13 a14 n low q22 t24):=by
 intro n
 induction n with
 | zero=>intros;rfl
 | succ n ih=>
  intro low q22 t24
  refine Eq.trans (iter_succ ..) (Eq.trans (y7f ..) (Eq.trans ?_ (zyx c0 a1 a2 a3 g4 g5 g6 g7 a8 a9 a10 a11 c12 a13 a14 low q22 t24 (zk1 c0 a1 a2 a3 g4 g5 g6 g7 a8 a9 a10 a11 c12 a13 a14) rfl (fun low' q22' t24'=>z0s c0 a1 a2 a3 g4 g5 g6 g7 a8 a9 a10 a11 c12 a13 a14 n low' q22' t24') (fun _=>some (Sum.inl ())) (fun c0_ c1_ c2_ c3_=>some (Sum.inr (c0_,c1_,c2_,c3_))))))
  exact congrArg (fun kn_=>z3p c0 a1 a2 a3 g4 g5 g6 g7 a8 a9 a10 a11 c12 a13 a14 low q22 t24 kn_ _ _) (funext fun low'=>funext fun q22'=>funext fun t24'=>ih ..)
theorem y0j:LoopOne J fnTab 104 5 zta:=lpK y3w y44 (fi:=fi104) (by kernel_rfl) (by kernel_rfl) (q:=fun hs=>(zed (hI hs 0) (hN hs 1) (hN hs 2) (hN hs 3) (hN hs 4) (hN hs 5) (hI hs 6) (hLn hs 7) (hLn hs 8) (hLn hs 9) (hLn hs 10) (hN hs 11) (hN hs 12) (hN hs 13) (hN hs 14) (hI hs 15) (hN hs 16) (hN hs 17))) (fun hs=>by kernel_rfl) fun hs h1=>Eq.trans (y6w (hI hs 0) (hN hs 1) (hN hs 2) (hN hs 3) (hLn hs 7) (hLn hs 8) (hLn hs 9) (hLn hs 10) (hN hs 11) (hN hs 12) (hN hs 13) (hN hs 14) (hI hs 15) (hN hs 16) (hN hs 17) big (hN hs 4) (hN hs 5) (hI hs 6)) (y65 (hI hs 0) (hN hs 1) (hN hs 2) (hN hs 3) (hLn hs 7) (hLn hs 8) (hLn hs 9) (hLn hs 10) (hN hs 11) (hN hs 12) (hN hs 13) (hN hs 14) (hI hs 15) (hN hs 16) (hN hs 17) _ h1)
def tb18:List (Nat×(List PT→Option (Bool×AV×List Blk))):=(129,zk0)::tb17
def lt18:List ((Nat×Nat)×(Nat→St→Option (Bool×LO))):=((104,5),zta)::lt17
def Γ18:Ctx:=⟨tyTab,fnTab,tblSum tb18,tblLp lt18⟩
theorem y42:SumL J tb18:=SumL.cons y1q (y3w)
theorem y41:LpL J fnTab lt18:=LpL.cons y0j (y44)
def zji  : Option (Nat×Nat×Bool)→Option (AV×List Blk)
 | some r=>some ((.tup [(.one (.flt .f32 r.1)),(.one (.flt .f32 r.2.1)),(.one (.bool r.2.2))]),[])
 | none=>none
def zjg:List PT→Option (Bool×AV×List Blk)
 | [.ptr [.row 1 q08 (.fl .f32 q0d),.row 1 q0a (.fl .f32 q0f),.row 1 q09 (.fl .f32 q0e),.row 3 q0g (.fl .f32 q0i),.s (.int .i64 q0n),.s (.flt .f32 q0u),.s (.flt .f32 q0t)],.one (.s (.int .i64 x1)),.one (.s (.flt .f32 x2)),.one (.s (.flt .f32 x3)),.one (.s (.flt .f32 x4)),.one (.s (.flt .f32 x5))]=>sF zji (z1t q08 q0d q0a q0f q09 q0e q0g q0i q0n q0u q0t x1 x2 x3 x4 x5)
 | _=>none
theorem y74:ev8 Γ18 88 [.ptr [.row 1 a0 (.fl .f32 g1),.row 1 a2 (.fl .f32 g3),.row 1 a4 (.fl .f32 g5),.row 3 a6 (.fl .f32 g7),.s (.int .i64 c8),.s (.flt .f32 a9),.s (.flt .f32 a10)],.one (.s (.int .i64 c11)),.one (.s (.flt .f32 a12)),.one (.s (.flt .f32 a13)),.one (.s (.flt .f32 a14)),.one (.s (.flt .f32 a15))]=zji (z1t a0 g1 a2 g3 a4 g5 a6 g7 c8 a9 a10 c11 a12 a13 a14 a15):=tr2 (zyn a0 g1 a2 g3 a4 g5 a6 g7 c8 a9 a10 c11 a12 a13 a14 a15 zji rfl (fun c0_ c1_ c2_=>some (c0_,c1_,c2_))) (by kernel_rfl)
theorem y1z:SumOne J 88 zjg:=mkT y42 y41 fun pts v news hp=>by
 unfold zjg at hp
 split at hp
 ·exact fin3 (y74 ..) hp
 ·cases hp
def zq0  : Option (Nat×Bool)→Option (AV×List Blk)
 | some r=>some ((.tup [(.one (.flt .f32 r.1)),(.one (.bool r.2))]),[])
 | none=>none
def zq6:List PT→Option (Bool×AV×List Blk)
 | [.agg [.row 1 q00 (.fl .f32 q03),.row 1 q02 (.fl .f32 q04),.row 1 q01 (.fl .f32 q05),.row 3 q06 (.fl .f32 q07),.s (.int .i64 q0c),.s (.flt .f32 q0k),.s (.flt .f32 q0j)],.one (.s (.int .i64 i)),.one (.s (.flt .f32 q0z)),.one (.s (.flt .f32 q0r)),.one (.s (.flt .f32 q0l))]=>sF zq0 (z6v q00 q03 q02 q04 q01 q05 q06 q07 q0c q0k q0j i q0z q0r q0l)
 | _=>none
theorem yar:ev8 Γ18 104 [.agg [.row 1 a0 (.fl .f32 g1),.row 1 a2 (.fl .f32 g3),.row 1 a4 (.fl .f32 g5),.row 3 a6 (.fl .f32 g7),.s (.int .i64 c8),.s (.flt .f32 a9),.s (.flt .f32 a10)],.one (.s (.int .i64 c11)),.one (.s (.flt .f32 a12)),.one (.s (.flt .f32 a13)),.one (.s (.flt .f32 a14))]=zq0 (z6v a0 g1 a2 g3 a4 g5 a6 g7 c8 a9 a10 c11 a12 a13 a14):=tr2 (y4q a0 g1 a2 g3 a4 g5 a6 g7 c8 a9 a10 c11 a12 a13 a14 zq0 rfl (fun c0_ c1_=>some (c0_,c1_))) (by kernel_rfl)
theorem y7p:SumOne J 104 zq6:=mkT y42 y41 fun pts v news hp=>by
 unfold zq6 at hp
 split at hp
 ·exact fin3 (yar ..) hp
 ·cases hp
def tb19:List (Nat×(List PT→Option (Bool×AV×List Blk))):=(88,zjg)::(104,zq6)::tb18
def lt19:List ((Nat×Nat)×(Nat→St→Option (Bool×LO))):=lt18
def Γ19:Ctx:=⟨tyTab,fnTab,tblSum tb19,tblLp lt19⟩
theorem y9v:SumL J tb19:=SumL.cons y1z (SumL.cons y7p (y42))
theorem y9w:LpL J fnTab lt19:=y41
def zey  : Option (Nat×Nat×Bool)→Option (AV×List Blk)
 | some r=>some ((.tup [(.one (.flt .f32 r.1)),(.one (.flt .f32 r.2.1)),(.one (.bool r.2.2))]),[])
 | none=>none
def z8p:List PT→Option (Bool×AV×List Blk)
 | [.agg [.row 1 q08 (.fl .f32 q0d),.row 1 q0a (.fl .f32 q0f),.row 1 q09 (.fl .f32 q0e),.row 3 q0g (.fl .f32 q0i),.s (.int .i64 q0n),.s (.flt .f32 q0u),.s (.flt .f32 q0t)],.one (.s (.int .i64 x1)),.one (.s (.flt .f32 x2)),.one (.s (.flt .f32 x3)),.one (.s (.flt .f32 x4)),.one (.s (.flt .f32 x5))]=>sF zey (z1h q08 q0d q0a q0f q09 q0e q0g q0i q0n q0u q0t x1 x2 x3 x4 x5)
 | _=>none
theorem y02:ev8 Γ19 56 [.agg [.row 1 a0 (.fl .f32 g1),.row 1 a2 (.fl .f32 g3),.row 1 a4 (.fl .f32 g5),.row 3 a6 (.fl .f32 g7),.s (.int .i64 c8),.s (.flt .f32 a9),.s (.flt .f32 a10)],.one (.s (.int .i64 c11)),.one (.s (.flt .f32 a12)),.one (.s (.flt .f32 a13)),.one (.s (.flt .f32 a14)),.one (.s (.flt .f32 a15))]=zey (z1h a0 g1 a2 g3 a4 g5 a6 g7 c8 a9 a10 c11 a12 a13 a14 a15):=tr2 (zsn a0 g1 a2 g3 a4 g5 a6 g7 c8 a9 a10 c11 a12 a13 a14 a15 zey rfl (fun c0_ c1_ c2_=>some (c0_,c1_,c2_))) (by kernel_rfl)
theorem zhh:SumOne J 56 z8p:=mkT y9v y9w fun pts v news hp=>by
 unfold z8p at hp
 split at hp
 ·exact fin3 (y02 ..) hp
 ·cases hp
def tb20:List (Nat×(List PT→Option (Bool×AV×List Blk))):=(56,z8p)::tb19
def lt20:List ((Nat×Nat)×(Nat→St→Option (Bool×LO))):=lt19
def Γ20:Ctx:=⟨tyTab,fnTab,tblSum tb20,tblLp lt20⟩
theorem zrr:SumL J tb20:=SumL.cons zhh (y9v)
theorem y3x:LpL J fnTab lt20:=y9w
def zeq:St:=(.mk [(x0P 0 4 7),(x0F 1 a0),(x0F 2 a1),(x0F 3 a2),(x0F 4 a3),(x0S 13 5 a4 1),(x0S 14 6 a5 1),(x0I 15 c6)] [(x0L g7),(x0L g8),(x0L g9),(x0L g10),(x0R false 0 1 2 3 a11 a12 a13 a14 c15 a16 a17),(x0T g18),(x0T g19)])
def zho(t1 t2 t3 t4:Nat)(b0 b1 b2 b3:List Nat)(q16 q15 q17 q0q:Nat)(q1j:Int)(q1i q18:Nat):St:=(.mk [(10,(.v (.one .nilsl))),(11,(.v (.one .nilsl))),(x0B 12 false)] [(x0L b0),(x0L b1),(x0L b2),(x0L b3),(x0R false 0 1 2 3 q16 q15 q17 q0q q1j q1i q18)])
def zhq:St:=(.mk [(x0P 0 4 7),(x0F 1 a0),(x0F 2 a1),(x0F 3 a2),(x0F 4 a3),(x0S 13 5 a15 1),(x0S 14 6 a16 1),(x0I 15 c17),(x0B 35 e18)] [(x0L g4),(x0L g5),(x0L g6),(x0L g7),(x0R false 0 1 2 3 a8 a9 a10 a11 c12 a13 a14),(x0T g19),(x0T g20)])
def zjw:Option ((Unit)⊕(Nat×Nat×Int×Bool×(List Nat)×(List Nat)))→Option (Ex×St)
 | none=>none
 | some (Sum.inl r)=>some (.ret,(zho a0 a1 a2 a3 g4 g5 g6 g7 a8 a9 a10 a11 c12 a13 a14))
 | some (Sum.inr r)=>some ((.exit 0),(zhq a0 a1 a2 a3 g4 g5 g6 g7 a8 a9 a10 a11 c12 a13 a14 r.1 r.2.1 r.2.2.1 r.2.2.2.1 r.2.2.2.2.1 r.2.2.2.2.2))
def zqp (x:Option ((Unit)⊕(Nat×Nat×Int×Bool×(List Nat)×(List Nat)))):LO:=(.two (oL x) (.one .ret (zho a0 a1 a2 a3 g4 g5 g6 g7 a8 a9 a10 a11 c12 a13 a14)) (.one (.exit 0) (zhq a0 a1 a2 a3 g4 g5 g6 g7 a8 a9 a10 a11 c12 a13 a14 ((tR x).getD default).1 ((tR x).getD default).2.1 ((tR x).getD default).2.2.1 ((tR x).getD default).2.2.2.1 ((tR x).getD default).2.2.2.2.1 ((tR x).getD default).2.2.2.2.2)))
def y3n:Bool×LO:=sL (zqp a0 a1 a2 a3 g7 g8 g9 g10 a11 a12 a13 a14 c15 a16 a17) (z0e a0 a1 a2 a3 g7 g8 g9 g10 a11 a12 a13 a14 c15 a16 a17 big a4 a5 c6 g18 g19)
def zsk:Nat→St→Option (Bool×LO):=lpT 5 (pSt [(x1P 0 4 7),(x1F 1),(x1F 2),(x1F 3),(x1F 4),(x1S 13 5 1),(x1S 14 6 1),(x1I 15)] [x1L,x1L,x1L,x1L,(x1R false 0 1 2 3),x1T,x1T]) (fun hs=>y3n (hN hs 0) (hN hs 1) (hN hs 2) (hN hs 3) (hN hs 4) (hN hs 5) (hI hs 6) (hLn hs 7) (hLn hs 8) (hLn hs 9) (hLn hs 10) (hN hs 11) (hN hs 12) (hN hs 13) (hN hs 14) (hI hs 15) (hN hs 16) (hN hs 17) (hLn hs 18) (hLn hs 19))
theorem y7k:∀ x:Option ((Unit)⊕(Nat×Nat×Int×Bool×(List Nat)×(List Nat))),x.isSome=true→(zjw a0 a1 a2 a3 g4 g5 g6 g7 a8 a9 a10 a11 c12 a13 a14) x=some (pick (zqp a0 a1 a2 a3 g4 g5 g6 g7 a8 a9 a10 a11 c12 a13 a14 x))
 | none,h=>by cases h
 | some (Sum.inl r),_=>rfl
 | some (Sum.inr r),_=>rfl
theorem y71 (K:Ex→St→Option (Ex×St)):ev9 Γ20 50 6 5 fi50 (zeq a0 a1 a2 a3 a4 a5 c6 g7 g8 g9 g10 a11 a12 a13 a14 c15 a16 a17 g18 g19) K=z3o a0 a1 a2 a3 g7 g8 g9 g10 a11 a12 a13 a14 c15 a16 a17 a4 a5 c6 g18 g19 (fun q2u' q2v' t15' b5' b6'=>K .normal (zeq a0 a1 a2 a3 q2u' q2v' t15' g7 g8 g9 g10 a11 a12 a13 a14 c15 a16 a17 b5' b6')) (fun _=>K .ret (zho a0 a1 a2 a3 g7 g8 g9 g10 a11 a12 a13 a14 c15 a16 a17)) (fun c0_ c1_ c2_ c3_ c4_ c5_=>K (.exit 0) (zhq a0 a1 a2 a3 g7 g8 g9 g10 a11 a12 a13 a14 c15 a16 a17 c0_ c1_ c2_ c3_ c4_ c5_)):=by kernel_rfl
theorem y68:∀ (n q2u q2v:Nat) (t15:Int) (b5 b6:List Nat),iter 50 6 5 (ev9 Γ20 50 6 5 fi50) n (zeq a0 a1 a2 a3 q2u q2v t15 g4 g5 g6 g7 a8 a9 a10 a11 c12 a13 a14 b5 b6) (fun e st=>some (e,st))=(zjw a0 a1 a2 a3 g4 g5 g6 g7 a8 a9 a10 a11 c12 a13 a14) (z0e a0 a1 a2 a3 g4 g5 g6 g7 a8 a9 a10 a11 c12 a13 a14 n q2u q2v t15 b5 b6):=by
 intro n
 induction n with
 | zero=>intros;rfl
 | succ n ih=>
  intro q2u q2v t15 b5 b6
  refine Eq.trans (iter_succ ..) (Eq.trans (y71 ..) (Eq.trans ?_ (zz0 a0 a1 a2 a3 g4 g5 g6 g7 a8 a9 a10 a11 c12 a13 a14 q2u q2v t15 b5 b6 (zjw a0 a1 a2 a3 g4 g5 g6 g7 a8 a9 a10 a11 c12 a13 a14) rfl (fun q2u' q2v' t15' b5' b6'=>z0e a0 a1 a2 a3 g4 g5 g6 g7 a8 a9 a10 a11 c12 a13 a14 n q2u' q2v' t15' b5' b6') (fun _=>some (Sum.inl ())) (fun c0_ c1_ c2_ c3_ c4_ c5_=>some (Sum.inr (c0_,c1_,c2_,c3_,c4_,c5_))))))
  exact congrArg (fun kn_=>z3o a0 a1 a2 a3 g4 g5 g6 g7 a8 a9 a10 a11 c12 a13 a14 q2u q2v t15 b5 b6 kn_ _ _) (funext fun q2u'=>funext fun q2v'=>funext fun t15'=>funext fun b5'=>funext fun b6'=>ih ..)
theorem y24:LoopOne J fnTab 50 6 zsk:=lpK zrr y3x (fi:=fi50) (by kernel_rfl) (by kernel_rfl) (q:=fun hs=>(zeq (hN hs 0) (hN hs 1) (hN hs 2) (hN hs 3) (hN hs 4) (hN hs 5) (hI hs 6) (hLn hs 7) (hLn hs 8) (hLn hs 9) (hLn hs 10) (hN hs 11) (hN hs 12) (hN hs 13) (hN hs 14) (hI hs 15) (hN hs 16) (hN hs 17) (hLn hs 18) (hLn hs 19))) (fun hs=>by kernel_rfl) fun hs h1=>Eq.trans (y68 (hN hs 0) (hN hs 1) (hN hs 2) (hN hs 3) (hLn hs 7) (hLn hs 8) (hLn hs 9) (hLn hs 10) (hN hs 11) (hN hs 12) (hN hs 13) (hN hs 14) (hI hs 15) (hN hs 16) (hN hs 17) big (hN hs 4) (hN hs 5) (hI hs 6) (hLn hs 18) (hLn hs 19)) (y7k (hN hs 0) (hN hs 1) (hN hs 2) (hN hs 3) (hLn hs 7) (hLn hs 8) (hLn hs 9) (hLn hs 10) (hN hs 11) (hN hs 12) (hN hs 13) (hN hs 14) (hI hs 15) (hN hs 16) (hN hs 17) _ h1)
def tb21:List (Nat×(List PT→Option (Bool×AV×List Blk))):=tb20
def lt21:List ((Nat×Nat)×(Nat→St→Option (Bool×LO))):=((50,6),zsk)::lt20
def Γ21:Ctx:=⟨tyTab,fnTab,tblSum tb21,tblLp lt21⟩
theorem ya3:SumL J tb21:=zrr
theorem y93:LpL J fnTab lt21:=LpL.cons y24 (y3x)
def zq8  : Option (Nat×Nat×Bool×(List Nat)×(List Nat))→Option (AV×List Blk)
 | some r=>some ((.tup [(.one (.sl 0 0 r.1 1)),(.one (.sl 1 0 r.2.1 1)),(.one (.bool r.2.2.1))]),[(.mk true (.fl .f32 r.2.2.2.1)),(.mk true (.fl .f32 r.2.2.2.2))])
 | none=>none
def zq4:List PT→Option (Bool×AV×List Blk)
 | [.ptr [.row 1 q08 (.fl .f32 q0d),.row 1 q0a (.fl .f32 q0f),.row 1 q09 (.fl .f32 q0e),.row 3 q0g (.fl .f32 q0i),.s (.int .i64 q0n),.s (.flt .f32 q0u),.s (.flt .f32 q0t)],.one (.s (.flt .f32 x1)),.one (.s (.flt .f32 x2)),.one (.s (.flt .f32 x3)),.one (.s (.flt .f32 x4))]=>sF zq8 (z3t q08 q0d q0a q0f q09 q0e q0g q0i q0n q0u q0t x1 x2 x3 x4)
 | _=>none
theorem yb2:ev8 Γ21 50 [.ptr [.row 1 a0 (.fl .f32 g1),.row 1 a2 (.fl .f32 g3),.row 1 a4 (.fl .f32 g5),.row 3 a6 (.fl .f32 g7),.s (.int .i64 c8),.s (.flt .f32 a9),.s (.flt .f32 a10)],.one (.s (.flt .f32 a11)),.one (.s (.flt .f32 a12)),.one (.s (.flt .f32 a13)),.one (.s (.flt .f32 a14))]=zq8 (z3t a0 g1 a2 g3 a4 g5 a6 g7 c8 a9 a10 a11 a12 a13 a14):=tr2 (y54 a0 g1 a2 g3 a4 g5 a6 g7 c8 a9 a10 a11 a12 a13 a14 zq8 rfl (fun c0_ c1_ c2_ c3_ c4_=>some (c0_,c1_,c2_,c3_,c4_))) (by kernel_rfl)
theorem y7j:SumOne J 50 zq4:=mkT ya3 y93 fun pts v news hp=>by
 unfold zq4 at hp
 split at hp
 ·exact fin3 (yb2 ..) hp
 ·cases hp
def tb23:List (Nat×(List PT→Option (Bool×AV×List Blk))):=(50,zq4)::tb21
def lt23:List ((Nat×Nat)×(Nat→St→Option (Bool×LO))):=lt21
def Γ23:Ctx:=⟨tyTab,fnTab,tblSum tb23,tblLp lt23⟩
theorem yaa:SumL J tb23:=SumL.cons y7j (ya3)
theorem y91:LpL J fnTab lt23:=y93
def z9o:St:=(.mk [(x0P 0 4 7),(x0S 13 5 a0 1),(x0I 29 c1),(x0I 30 c2)] [(x0L g3),(x0L g4),(x0L g5),(x0L g6),(x0R false 0 1 2 3 a7 a8 a9 a10 c11 a12 a13),(x0T g14)])
def zdr:St:=(.mk [(x0P 0 4 7),(x0S 13 5 a0 1),(x0I 29 c1),(x0I 30 c13),(x0B 31 e14)] [(x0L g2),(x0L g3),(x0L g4),(x0L g5),(x0R false 0 1 2 3 a6 a7 a8 a9 c10 a11 a12),(x0T g15)])
def zfm:Option ((Int×Bool×(List Nat)))→Option (Ex×St)
 | none=>none
 | some r=>some ((.exit 0),(zdr a0 c1 g2 g3 g4 g5 a6 a7 a8 a9 c10 a11 a12 r.1 r.2.1 r.2.2))
def zlz (x:Option ((Int×Bool×(List Nat)))):LO:=(.one (.exit 0) (zdr a0 c1 g2 g3 g4 g5 a6 a7 a8 a9 c10 a11 a12 (x.getD default).1 (x.getD default).2.1 (x.getD default).2.2))
def zwy:Bool×LO:=sL (zlz a0 c1 g3 g4 g5 g6 a7 a8 a9 a10 c11 a12 a13) (z10 a0 c1 g6 a10 big c2 g14)
end
end Go.Proofs.YtijjhfailnmeoaaGreat
