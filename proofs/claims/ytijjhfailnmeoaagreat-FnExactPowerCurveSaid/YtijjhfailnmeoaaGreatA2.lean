import Derived.Conc.CrowdRun
import Derived.Conc.Beside
import Derived.Conc.Starve
import Derived.Below
import Derived.Conc.WgGenN3
import Derived.Conc.WgWords
import Derived.Test.YtijjhfailnmeoaaGreatA1
set_option linter.unusedVariables false
set_option linter.unusedSimpArgs false
set_option linter.unusedSectionVars false
namespace Go.Rf
open Go Go.Conc Go.ConcN
open Go.ConcR (KK wgBlock WgAt stA smA rd wr mk Payload DC0 Bk g_of_ofEvents)
inductive Tr where
 | leaf
 | node (f:World→Tr)
def Tr.sub(a b:Tr):Prop:=∃ f w,b=.node f∧a=f w
theorem Tr.wf:WellFounded Tr.sub:=⟨fun t=>by
 induction t with
 | leaf=>exact⟨_,fun y ⟨f,w,h,_⟩=>by cases h⟩
 | node f ih=>exact⟨_,fun y ⟨f',w,h,e⟩=>by cases h;subst e;exact ih w⟩⟩
def Tr.ofNat:Nat→Tr
 | 0=>.leaf
 | n+1=>.node fun _=>ofNat n
theorem Tr.ofNat_sub(n:Nat):Tr.sub (.ofNat n) (.ofNat (n+1)):=⟨_,default,rfl,rfl⟩
def VLt(J:Nat)(f' f:Nat→Tr):Prop:=∃ i,i<J∧Tr.sub (f' i) (f i)∧∀ k,k≠i→f' k=f k
theorem u7s:∀ J,WellFounded (VLt J)
 | 0=>⟨fun f=>⟨_,fun f' ⟨i,h,_⟩=>by omega⟩⟩
 | J+1=>⟨fun f=>by
  have key:∀ τ:Tr,∀ f:Nat→Tr,f J=τ→Acc (VLt (J+1)) f:=by
   intro τ
   induction τ using Tr.wf.induction with
   | _ τ ihτ=>
    intro f
    induction f using (u7s J).induction with
    | _ f ihf=>
     intro hf
     refine⟨_,fun f' ⟨i,hi,hs,ho⟩ => ?_⟩
     by_cases e:i=J
     ·subst e
      exact ihτ (f' i) (hf▸hs) f' rfl
     ·exact ihf f' ⟨i,by omega,hs,ho⟩ (by rw[ho J (fun h=>e h.symm)];exact hf)
  exact key _ f rfl⟩
abbrev Ms:=Nat×(Nat→Tr)×Nat×Tr
def OLt:Nat×Tr→Nat×Tr→Prop:=Prod.Lex Nat.lt Tr.sub
def MLt(J:Nat):Ms→Ms→Prop:=Prod.Lex Nat.lt (Prod.Lex (VLt J) OLt)
theorem uee(J:Nat):WellFounded (MLt J):=(Prod.lex Nat.lt_wfRel (Prod.lex ⟨VLt J,u7s J⟩ (Prod.lex Nat.lt_wfRel ⟨Tr.sub,Tr.wf⟩))).wf
theorem ltNN{a b:Nat}(h:a<b):Nat.lt a b:=h
theorem ucy{J a a':Nat}{μ:Ms} {x y:(Nat→Tr)×Nat×Tr} (h:MLt J μ (a,x)) (h':a<a'):MLt J μ (a',y):=by
 obtain⟨m,z⟩:=μ
 rcases Prod.lex_def.1 h with h1 | ⟨h1,_⟩
 ·exact Prod.Lex.left _ _ (Nat.lt_trans h1 h')
 ·exact Prod.Lex.left _ _ (ltNN (by simp only at h1;omega))
structure Ph where
 P:Program
 ty:TypeId
 Wg:Nat
 /-- how many goroutines were there -/
 b:Nat
 /-- how many workers -/
 n:Nat
 /-- the blocks below were there -/
 N0:Nat
 /-- the groups that were -/
 Z:Nat→Prop
 /-- the rows that are written -/
 Row:Nat→Prop
 /-- the cells that worker i writes -/
 M:Nat→Addr→Prop
 /-- what worker i has achieved -/
 Fin:Nat→World→Prop
 w0:World
def shp(w:World)(k:Nat):Option (TypeId×(Nat×Nat)×Nat):=match w.heap[k]? with
 | some (.cells c e f)=>some (e,f,c.size)
 | _=>none
theorem u97{w w':World}{k:Nat} (h:w'.heap[k]? = w.heap[k]?):shp w' k=shp w k:=by unfold shp;rw[h]
namespace Ph
variable (A:Ph)
def Old(k:Nat):Prop:=k<A.N0∧k≠A.Wg∧¬ A.Row k
def Ro(k:Nat):Prop:=A.Old k∧¬ A.Z k
def Live(w:World):Prop:=WgLive A.ty A.Wg w
def no(_:Addr):Prop:=False
structure Geo:Prop where
 wg:A.Wg<A.N0
 wgr:¬ A.Row A.Wg
 wgz:¬ A.Z A.Wg
 row:∀ k,A.Row k→k<A.N0∧¬ A.Z k
 z:∀ k,A.Z k→k<A.N0
 m:∀ i a,A.M i a→A.Row a.block
 apart:∀ i i' a,A.M i a→A.M i' a→i=i'
 b:1≤A.b
 n:A.n<2147483648
 n0:A.N0≤A.w0.heap.size
structure RK (S:Nat→Prop) (m:Addr→Prop) (w w₁:World):Prop where
 tape:w₁.tape=w.tape
 os:w₁.os=w.os
 output:w₁.output=w.output
 size:w.heap.size≤w₁.heap.size
 blk:∀ k,k<w.heap.size→S k∨A.Old k→w₁.heap[k]? = w.heap[k]?
 shape:∀ k,A.Row k→shp w₁ k=shp w k
 cel:∀ a,m a→w₁.cell? a=w.cell? a
 live:A.Live w→A.Live w₁
variable {A}
theorem RK.refl(S:Nat→Prop)(m:Addr→Prop)(w:World):A.RK S m w w:=⟨rfl,rfl,rfl,Nat.le_refl _,fun _ _ _=>rfl,fun _ _=>rfl,fun _ _=>rfl,id⟩
theorem RK.trans{S:Nat→Prop}{m:Addr→Prop}{a b c:World}(h:A.RK S m a b)(k:A.RK S m b c):A.RK S m a c:=
 ⟨k.tape.trans h.tape,k.os.trans h.os,k.output.trans h.output,Nat.le_trans h.size k.size,fun i hi hs=>(k.blk i (Nat.lt_of_lt_of_le hi h.size) hs).trans (h.blk i hi hs),fun i hi=>(k.shape i hi).trans (h.shape i hi),fun i hi=>(k.cel i hi).trans (h.cel i hi),k.live∘h.live⟩
theorem RK.at(S:Nat→Prop)(m:Addr→Prop)(w:World)(d:Nat):A.RK S m w (w.at d):=⟨rfl,rfl,rfl,Nat.le_refl _,fun _ _ _=>rfl,fun _ _=>rfl,fun _ _=>rfl,id⟩
theorem RK.mono{S S':Nat→Prop}{m m':Addr→Prop}{w w₁:World}(h:A.RK S m w w₁)(hs:∀ k,S' k→S k)(hm:∀ a,m' a→m a):A.RK S' m' w w₁:=
 ⟨h.tape,h.os,h.output,h.size,fun k hk x=>h.blk k hk (x.imp (hs k) id),h.shape,fun a x=>h.cel a (hm a x),h.live⟩
theorem RK.of_wg(G:A.Geo){S:Nat→Prop}{m:Addr→Prop}{w w₁:World}(hS:¬ S A.Wg)(hm:∀ a,m a→A.Row a.block)(h:Aside A.Wg w w₁)(hl:A.Live w₁):A.RK S m w w₁:=by
 have ne:∀ k,S k∨A.Old k→k≠A.Wg:=fun k hk e=>by
  subst e
  exact hk.elim hS fun x=>x.2.1 rfl
 exact⟨h.tape,h.os,h.output,Nat.le_of_eq h.size.symm,fun k _ hs=>h.block k (ne k hs),fun k hk=>u97 (h.block k fun e=>G.wgr (e▸hk)),
  fun a ha=>cell_of_block' (h.block a.block fun e=>G.wgr (e▸hm a ha)),fun _=>hl⟩
where cell_of_block' {w w₁:World} {a:Addr} (e:w₁.heap[a.block]? = w.heap[a.block]?):w₁.cell? a=w.cell? a:=by unfold World.cell?;rw[e]
variable (A)
def EvK(main:Bool)(S:Nat→Prop)(m:Addr→Prop)(e:Event):Prop:=
 (∃ a wr,e=⟨.cell a,wr,false⟩∧(S a.block∨m a∨(wr=false∧A.Ro a.block))) ∨
 ((∀ x,(MemAct.ofEvent e).touch? = some x→ShN A.Wg x.loc∧x.kind≠.plain∧(main=false→x.kind≠.said))∧e.loc≠.mark .disable∧e.loc≠.mark .enable∧∀ a,e.loc≠.mark (.release a))
structure GK (main:Bool) (S:Nat→Prop) (m:Addr→Prop) (w w':World) (es:Array Event):Prop where
 tape:w'.tape=w.tape
 os:w'.os=w.os
 output:w'.output=w.output
 size:w.heap.size≤w'.heap.size
 out:∀ k,k<w.heap.size→¬ S k→¬ A.Row k→w'.heap[k]? = w.heap[k]?
 shape:∀ k,A.Row k→shp w' k=shp w k
 cel:∀ a,A.Row a.block→¬ m a→w'.cell? a=w.cell? a
 ev:∀ e∈es,A.EvK main (Grow S w.heap.size w'.heap.size) m e
variable {A}
theorem GK.rk(G:A.Geo){main:Bool}{S S':Nat→Prop}{m m':Addr→Prop}{w w':World}{es:Array Event}(h:A.GK main S m w w' es)(hN:A.N0≤w.heap.size)
  (hS:∀ k,S k→A.N0≤k) (hS':∀ k,S' k→A.N0≤k) (hd:∀ k,S' k→¬ S k) (hm':∀ a,m' a→A.Row a.block) (hmd:∀ a,m' a→¬ m a):A.RK S' m' w w':=by
 refine⟨h.tape,h.os,h.output,h.size,fun k hk hs => ?_,h.shape,fun a ha=>h.cel a (hm' a ha) (hmd a ha),fun ⟨st,sm,hl⟩=>⟨st,sm,?_⟩⟩
 ·rcases hs with hs | hs
  ·refine h.out k hk (hd k hs) fun hr => ?_
   have:=(G.row k hr).1
   have:=hS' k hs
   omega
  ·exact h.out k hk (fun hx=>by have:=hS k hx;have:=hs.1;omega) hs.2.2
 ·unfold WgAt at *
  rw[h.out A.Wg (by have:=G.wg;omega) (fun hx=>by have:=hS _ hx;have:=G.wg;omega) G.wgr]
  exact hl
theorem GK.still{main:Bool}{S:Nat→Prop}{m:Addr→Prop}{w:World}:A.GK main S m w w #[]:=⟨rfl,rfl,rfl,Nat.le_refl _,fun _ _ _ _=>rfl,fun _ _=>rfl,fun _ _ _=>rfl,by simp⟩
variable (A)
def Wk(main:Bool)(m:Addr→Prop) (Stop:(Nat→Prop)→Goroutine→World→Prop):Tr→(Nat→Prop)→Goroutine→World→Prop
 | .leaf,S,g,w=>∀ w₁,A.RK S m w w₁→Stop S g w₁
 | .node f,S,g,w=>(∀ w₁,A.RK S m w w₁→Stop S g w₁) ∨
  (g.status=.running∧∀ w₁,A.RK S m w w₁→∃ g' w' es,stepG A.P main g w₁=.go g' w' es∧A.GK main S m w₁ w' es∧Wk main m Stop (f w₁) (Grow S w₁.heap.size w'.heap.size) g' w')
def MW(main:Bool)(m:Addr→Prop) (Stop:(Nat→Prop)→Goroutine→World→Prop) (S:Nat→Prop) (g:Goroutine) (w:World):Prop:=∃ τ,A.Wk main m Stop τ S g w
variable {A}
section
variable {main:Bool} {m:Addr→Prop} {Stop Stop':(Nat→Prop)→Goroutine→World→Prop}
theorem Wk.rely:∀ {τ:Tr} {S:Nat→Prop} {g:Goroutine} {w w₁:World},A.Wk main m Stop τ S g w→A.RK S m w w₁→A.Wk main m Stop τ S g w₁
 | .leaf,S,g,w,w₁,h,hr=>fun w₂ h₂=>h w₂ (hr.trans h₂)
 | .node f,S,g,w,w₁,h,hr=>h.imp (fun h w₂ h₂=>h w₂ (hr.trans h₂)) fun ⟨hs,h⟩=>⟨hs,fun w₂ h₂=>h w₂ (hr.trans h₂)⟩
theorem Wk.stop{τ:Tr}{S:Nat→Prop}{g:Goroutine}{w:World}(h:∀ w₁,A.RK S m w w₁→Stop S g w₁):A.Wk main m Stop τ S g w:=by
 cases τ with
 | leaf=>exact h
 | node f=>exact .inl h
theorem Wk.cases{τ:Tr}{S:Nat→Prop}{g:Goroutine}{w:World}(h:A.Wk main m Stop τ S g w):(∀ w₁,A.RK S m w w₁→Stop S g w₁) ∨
  (g.status=.running∧∃ g' w' es τ',Tr.sub τ' τ∧stepG A.P main g w=.go g' w' es∧A.GK main S m w w' es∧A.Wk main m Stop τ' (Grow S w.heap.size w'.heap.size) g' w'):=by
 cases τ with
 | leaf=>exact .inl h
 | node f=>
  refine h.imp id fun ⟨hs,h⟩=>⟨hs,?_⟩
  obtain⟨g',w',es,h1,h2,h3⟩:=h w (RK.refl S m w)
  exact⟨g',w',es,f w,⟨f,w,rfl,rfl⟩,h1,h2,h3⟩
theorem Wk.running(hst:∀ S g w,Stop S g w→g.status=.running){τ:Tr}{S:Nat→Prop}{g:Goroutine}{w:World}(h:A.Wk main m Stop τ S g w):g.status=.running:=
 h.cases.elim (fun h=>hst _ _ _ (h w (RK.refl S m w))) fun h=>h.1
theorem Wk.congr{τ:Tr}:∀ {S S':Nat→Prop} {g:Goroutine} {w:World},A.Wk main m Stop τ S g w→(∀ k,S k↔S' k)→A.Wk main m Stop τ S' g w:=fun h e=>by
 have:_=_:=funext fun k=>propext (e k)
 rw[← this];exact h
theorem MW.step{S:Nat→Prop}{g:Goroutine}{w:World}(hs:g.status=.running) (h:∀ w₁,A.RK S m w w₁→∃ g' w' es,stepG A.P main g w₁=.go g' w' es∧A.GK main S m w₁ w' es∧A.MW main m Stop (Grow S w₁.heap.size w'.heap.size) g' w'):A.MW main m Stop S g w:=by
 have:∃ f:World→Tr,∀ w₁,A.RK S m w w₁→∃ g' w' es,stepG A.P main g w₁=.go g' w' es∧A.GK main S m w₁ w' es∧A.Wk main m Stop (f w₁) (Grow S w₁.heap.size w'.heap.size) g' w':=by
  have h':∀ w₁,∃ τ,A.RK S m w w₁→∃ g' w' es,stepG A.P main g w₁=.go g' w' es∧A.GK main S m w₁ w' es∧A.Wk main m Stop τ (Grow S w₁.heap.size w'.heap.size) g' w':=by
   intro w₁
   by_cases hr:A.RK S m w w₁
   ·obtain⟨g',w',es,h1,h2,τ,h3⟩:=h w₁ hr
    exact⟨τ,fun _=>⟨g',w',es,h1,h2,h3⟩⟩
   ·exact⟨.leaf,fun x=>(hr x).elim⟩
  exact⟨fun w₁=>(h' w₁).choose,fun w₁=>(h' w₁).choose_spec⟩
 obtain⟨f,hf⟩:=this
 exact⟨.node f,.inr ⟨hs,hf⟩⟩
theorem MW.bind:∀ {τ:Tr} {S:Nat→Prop} {g:Goroutine} {w:World},A.Wk main m Stop τ S g w→(∀ S g w,Stop S g w→A.MW main m Stop' S g w)→A.MW main m Stop' S g w
 | .leaf,S,g,w,h,hb=>hb _ _ _ (h w (RK.refl S m w))
 | .node f,S,g,w,h,hb=>by
  rcases h with h | ⟨hs,h⟩
  ·exact hb _ _ _ (h w (RK.refl S m w))
  ·refine MW.step hs fun w₁ hr => ?_
   obtain⟨g',w',es,h1,h2,h3⟩:=h w₁ hr
   exact⟨g',w',es,h1,h2,MW.bind h3 hb⟩
end
end Ph
end Go.Rf
namespace Go.Rf
open Go Go.Conc Go.ConcN
open Go.ConcR (KK wgBlock WgAt stA smA rd wr mk Payload DC0 Bk g_of_ofEvents ofEvent_loc_mark ofEvent_cell)
theorem udk{Sh:Loc→Prop}{Own Own' Rd:Nat→Loc→Prop}{t:Trace}{j:Nat}(h:CT Sh Own Rd t j)
  (h1:∀ k,1≤k→k≤j→∀ l,Own' k l→Own k l∨∀ i x,touchAt t i=some x→x.loc≠l) (h2:∀ k,1≤k→k≤j→∀ l,Own k l→Own' k l):CT Sh Own' Rd t j:=
 ⟨h.quiet,fun k k1 kj l hl=>(h1 k k1 kj l hl).elim (h.own k k1 kj l) fun hn i a ha e=>absurd e (hn i a ha),h.rd,
  fun l hs hl=>h.free l hs fun k k1 kj=>⟨fun x=>(hl k k1 kj).1 (h2 k k1 kj l x),(hl k k1 kj).2⟩,fun l hs hl=>h.mine l hs fun k k1 kj x=>hl k k1 kj (h2 k k1 kj l x),h.nr,h.gs⟩
theorem u2n{t:Trace}{g:Nat}{fn:FuncId}{pos:String}{es:Array Event}{i:Nat}{x:Touch} (h:touchAt (t++MemOp.ofEvents g fn pos es) i=some x) :
  touchAt t i=some x∨∃ e∈es,(MemAct.ofEvent e).touch? = some x:=by
 obtain⟨op,hop,hx⟩:=touch_of h
 rcases getElem?_append_cases hop with⟨_,h'⟩ | ⟨_,h'⟩
 ·exact .inl (by rw[touchAt_of h'];exact hx)
 ·obtain⟨e,he,rfl⟩:=Go.Conc.mem_ofEvents h'
  exact .inr ⟨e,he,hx⟩
namespace Ph
variable (A:Ph)
def EvT(main:Bool)(S:Nat→Prop)(m:Addr→Prop)(e:Event):Prop:=
 (∀ x,(MemAct.ofEvent e).touch? = some x→(∃ a,x.loc=.cell a∧x.kind=.plain∧(S a.block∨m a∨(x.write=false∧A.Ro a.block))) ∨
  (ShN A.Wg x.loc∧x.kind≠.plain∧(main=false→x.kind≠.said)))∧∀ a,e.loc≠.mark (.release a)
variable {A}
theorem EvK.evT{main:Bool}{S:Nat→Prop}{m:Addr→Prop}{e:Event}(h:A.EvK main S m e):A.EvT main S m e:=by
 rcases h with⟨a,wr,rfl,h⟩ | ⟨h,_,_,hr⟩
 ·refine⟨fun x hx=>.inl ⟨a,?_⟩,fun a' e=>by cases e⟩
  simp only[ofEvent_cell,MemAct.touch?,Option.some.injEq] at hx
  subst hx
  exact⟨rfl,rfl,h⟩
 ·exact⟨fun x hx=>.inr (h x hx),hr⟩
theorem ubm{main:Bool}{S:Nat→Prop}{m:Addr→Prop}{e:Event}(h:Bk A.Wg e):A.EvT main S m e:=by
 rcases h with h1 | h1 | ⟨a,wr,rfl,ha⟩
 ·refine⟨fun x hx => ?_,fun a e=>by rw[h1] at e;cases e⟩
  simp only[ofEvent_loc_mark h1] at hx;cases hx
 ·refine⟨fun x hx => ?_,fun a e=>by rw[h1] at e;cases e⟩
  simp only[ofEvent_loc_mark h1] at hx;cases hx
 ·refine⟨fun x hx => ?_,fun a e=>by cases e⟩
  simp only[ofEvent_cell,MemAct.touch?,Option.some.injEq] at hx
  subst hx
  exact .inr ⟨⟨a,rfl,ha⟩,by simp,by simp⟩
theorem u58{main:Bool}{S:Nat→Prop}{m:Addr→Prop}{e:Event} (h:(MemAct.ofEvent e).touch? = none) (hr:∀ a,e.loc≠.mark (.release a)):A.EvT main S m e:=
 ⟨fun x hx=>absurd hx (by rw[h];simp),hr⟩
variable (A) [Payload]
abbrev none2:Nat→Loc→Prop:=fun _ _=>False
def AtR0(i:Nat)(S:Nat→Prop)(g:Goroutine)(w:World):Prop:=
 g.status=.running∧A.Fin i w∧∃ C,(S C∨A.Old C)∧∃ g',stepG A.P false g w=.go g' w #[Go.ConcR.mk (.releaseMerge (stA A.Wg))]∧∃ m,Goes A.P false (RW A.ty A.Wg C 1 0 0) DC0 (AtK1 A.P A.ty A.Wg C 1 0 1) m g' w
inductive Sit (i:Nat):Nat→Tr→(Nat→Prop)→Nat→Goroutine→World→Prop
 | r0 {τ:Tr} {S:Nat→Prop} {g:Goroutine} {w:World}:A.Wk false (A.M i) (A.AtR0 i) τ S g w→Sit i 7 τ S 0 g w
 | lo {C:Nat} {v:Value} {s m d:Nat} {S:Nat→Prop} {g:Goroutine} {w:World}:s≤6→(S C∨A.Old C)→C<w.heap.size→WSit A.P A.ty A.Wg C 1 none2 none2 0 1 v s m d g w→A.Fin i w→Sit i s (.ofNat m) S d g w
variable {A}
theorem RK.rw{S:Nat→Prop}{m:Addr→Prop}{w w₁:World}{C:Nat}(h:A.RK S m w w₁)(hS:S C∨A.Old C)(hC:C<w.heap.size):RW A.ty A.Wg C 1 0 0 w w₁:=by
 have e:=h.blk C hC hS
 exact⟨fun b hb=>by omega,h.live,fun ⟨cs,hc,hn⟩=>⟨cs,e.trans hc,hn⟩,by unfold World.cell?;rw[e]⟩
theorem Sit.rely{i s d:Nat}{τ:Tr}{S:Nat→Prop}{g:Goroutine}{w w₁:World} (hF:∀ w w₁,A.RK S (A.M i) w w₁→A.Fin i w→A.Fin i w₁) (h:A.Sit i s τ S d g w) (hr:A.RK S (A.M i) w w₁):A.Sit i s τ S d g w₁:=by
 cases h with
 | r0 h=>exact .r0 (h.rely hr)
 | lo h1 h2 h3 h4 h5=>exact .lo h1 h2 (Nat.lt_of_lt_of_le h3 hr.size) (h4.rely (hr.rw h2 h3)) (hF _ _ hr h5)
theorem Sit.status{i s d:Nat}{τ:Tr}{S:Nat→Prop}{g:Goroutine}{w:World}(h:A.Sit i s τ S d g w):g.status=.running∨g.status=.finished:=by
 cases h with
 | r0 h=>exact .inl (h.running fun _ _ _ x=>x.1)
 | lo h1 h2 h3 h4 h5=>exact h4.status
theorem Sit.woken{i s d:Nat}{τ:Tr}{S:Nat→Prop}{g:Goroutine}{w:World}(h:A.Sit i s τ S d g w)(a a':Goroutine)(w':World):Go.Conc.woken A.P a a' w' g=g:=by
 unfold Go.Conc.woken
 split
 ·exact again_running _ h.status
 ·rfl
variable (A)
section
variable (Xt:Goroutine→Prop) (Anch:(Nat→Prop)→Goroutine→World→Prop)
abbrev MM (Stop:(Nat→Prop)→Goroutine→World→Prop):=A.MW true Ph.no Stop
def AtAcq(S:Nat→Prop)(g:Goroutine)(w:World):Prop:=g.status=.running∧∃ g',stepG A.P true g w=.go g' w #[Go.ConcR.mk (.acquire (stA A.Wg))]∧Xt g'
def AtKe(S:Nat→Prop)(g:Goroutine)(w:World):Prop:=g.status=.running∧∃ g',stepG A.P true g w=.go g' w #[Go.ConcR.mk .enable]∧A.MM (A.AtAcq Xt) S g' w
def AtW4(S:Nat→Prop)(g:Goroutine)(w:World):Prop:=g.status=.running∧(WgAt A.ty A.Wg w 0 0→∃ g',stepG A.P true g w=.go g' w #[rd (stA A.Wg)]∧A.MM (A.AtKe Xt) S g' w)
def AtW3(S:Nat→Prop)(g:Goroutine)(w:World):Prop:=
 g.status=.running∧g.offers=none∧((∃ st,WgAt A.ty A.Wg w st 0)→stepG A.P true g w=.go { g with status:=.blocked } w #[]) ∧
  (WgAt A.ty A.Wg w 0 1→∃ g',stepG A.P true g w=.go g' (w.setCell (smA A.Wg) (.int .u32 0)) (semEvents (smA A.Wg))∧A.MM (A.AtW4 Xt) S g' (w.setCell (smA A.Wg) (.int .u32 0)))
def AtW2(vs:Nat)(S:Nat→Prop)(g:Goroutine)(w:World):Prop:=
 g.status=.running∧∀ v:Nat,v<2147483648→WgAt A.ty A.Wg w (v*KK) 0 →
  (v=vs→∃ g',stepG A.P true g w=.go g' (w.setCell (stA A.Wg) (.int .u64 (v*KK+1))) #[rd (stA A.Wg),wr (stA A.Wg)]∧A.MM (A.AtW3 Xt) S g' (w.setCell (stA A.Wg) (.int .u64 (v*KK+1)))) ∧
  (v≠vs→∃ g',stepG A.P true g w=.go g' w #[rd (stA A.Wg)]∧A.MM Anch S g' w)
def AtW1(S:Nat→Prop)(g:Goroutine)(w:World):Prop:=
 g.status=.running∧∀ v:Nat,v<2147483648→WgAt A.ty A.Wg w (v*KK) 0→∃ g',stepG A.P true g w=.go g' w #[rd (stA A.Wg)] ∧
  (v=0→A.MM (A.AtKe Xt) S g' w)∧(v≠0→A.MM (A.AtW2 Xt Anch v) S g' w)
def AtKd(S:Nat→Prop)(g:Goroutine)(w:World):Prop:=g.status=.running∧∃ g',stepG A.P true g w=.go g' w #[Go.ConcR.mk .disable]∧A.MM Anch S g' w
def AtGoS(j:Nat) (Next:(Nat→Prop)→Goroutine→World→Prop) (S:Nat→Prop) (g:Goroutine) (w:World):Prop:=
 g.status=.running∧∃ g' child Sc,stepG A.P true g w=.spawn g' child w #[]∧(∀ k,Sc k→S k)∧A.MW false (A.M j) (A.AtR0 j) Sc child w∧Next (fun k=>S k∧¬ Sc k) g' w
def AtKeS(j:Nat) (Next:(Nat→Prop)→Goroutine→World→Prop) (S:Nat→Prop) (g:Goroutine) (w:World):Prop:=
 g.status=.running∧∃ g',stepG A.P true g w=.go g' w #[Go.ConcR.mk .enable]∧A.MM (A.AtGoS j Next) S g' w
def AtA1(j:Nat) (Next:(Nat→Prop)→Goroutine→World→Prop) (S:Nat→Prop) (g:Goroutine) (w:World):Prop:=
 g.status=.running∧∀ v:Nat,v<2147483647→WgAt A.ty A.Wg w (v*KK) 0 →
  ∃ g',stepG A.P true g w=.go g' (w.setCell (stA A.Wg) (.int .u64 ((v+1)*KK))) #[rd (stA A.Wg),wr (stA A.Wg)]∧A.MM (A.AtKeS j Next) S g' (w.setCell (stA A.Wg) (.int .u64 ((v+1)*KK)))
def AtKdS(j:Nat) (Next:(Nat→Prop)→Goroutine→World→Prop) (S:Nat→Prop) (g:Goroutine) (w:World):Prop:=
 g.status=.running∧∃ g',stepG A.P true g w=.go g' w #[Go.ConcR.mk .disable]∧A.MM (A.AtA1 j Next) S g' w
def Spawns:Nat→(Nat→Prop)→Goroutine→World→Prop
 | 0,S,g,w=>A.MM (A.AtKd Anch) S g w
 | r+1,S,g,w=>A.MM (A.AtKdS (A.n-(r+1)) (Spawns r)) S g w
abbrev WW (Stop:(Nat→Prop)→Goroutine→World→Prop):=A.Wk true Ph.no Stop
inductive MSit:CTag→Nat→Tr→(Nat→Prop)→Nat→Goroutine→World→Prop
 | skd {r:Nat} {τ:Tr} {S:Nat→Prop} {g:Goroutine} {w:World}:r<A.n→A.WW (A.AtKdS (A.n-(r+1)) (A.Spawns Anch r)) τ S g w→MSit (.sp r 5) (A.n-(r+1)) τ S 0 g w
 | sa1 {r:Nat} {τ:Tr} {S:Nat→Prop} {g:Goroutine} {w:World}:r<A.n→A.WW (A.AtA1 (A.n-(r+1)) (A.Spawns Anch r)) τ S g w→MSit (.sp r 4) (A.n-(r+1)) τ S 1 g w
 | ske {r:Nat} {τ:Tr} {S:Nat→Prop} {g:Goroutine} {w:World}:r<A.n→A.WW (A.AtKeS (A.n-(r+1)) (A.Spawns Anch r)) τ S g w→MSit (.sp r 3) (A.n-(r+1)) τ S 1 g w
 | sgo {r:Nat} {τ:Tr} {S:Nat→Prop} {g:Goroutine} {w:World}:r<A.n→A.WW (A.AtGoS (A.n-(r+1)) (A.Spawns Anch r)) τ S g w→MSit (.sp r 2) (A.n-(r+1)) τ S 0 g w
 | kd {τ:Tr} {S:Nat→Prop} {g:Goroutine} {w:World}:A.WW (A.AtKd Anch) τ S g w→MSit .kd A.n τ S 0 g w
 | anch {τ:Tr} {S:Nat→Prop} {g:Goroutine} {w:World}:A.WW Anch τ S g w→MSit .anch A.n τ S 1 g w
 | w1 {τ:Tr} {S:Nat→Prop} {g:Goroutine} {w:World}:A.WW (A.AtW1 Xt Anch) τ S g w→MSit .w1 A.n τ S 1 g w
 | w2 {vs:Nat} {τ:Tr} {S:Nat→Prop} {g:Goroutine} {w:World}:A.WW (A.AtW2 Xt Anch vs) τ S g w→MSit (.w2 vs) A.n τ S 1 g w
 | w3 {τ:Tr} {S:Nat→Prop} {g:Goroutine} {w:World}:A.WW (A.AtW3 Xt) τ S g w→MSit .w3 A.n τ S 1 g w
 | blk {τ:Tr} {S:Nat→Prop} {g:Goroutine} {w:World}:(∀ w₁,A.RK S Ph.no w w₁→A.AtW3 Xt S g w₁)→MSit .blk A.n τ S 1 { g with status:=.blocked } w
 | w4 {τ:Tr} {S:Nat→Prop} {g:Goroutine} {w:World}:A.WW (A.AtW4 Xt) τ S g w→MSit .w4 A.n τ S 1 g w
 | ke {τ:Tr} {S:Nat→Prop} {g:Goroutine} {w:World}:A.WW (A.AtKe Xt) τ S g w→MSit .ke A.n τ S 1 g w
 | acq {τ:Tr} {S:Nat→Prop} {g:Goroutine} {w:World}:A.WW (A.AtAcq Xt) τ S g w→MSit .acq A.n τ S 0 g w
end
variable {A}
section
variable {Xt:Goroutine→Prop} {Anch:(Nat→Prop)→Goroutine→World→Prop} {tag:CTag} {j d:Nat} {τ:Tr} {S:Nat→Prop} {a:Goroutine} {w w₁ w':World}
theorem MSit.rely(h:A.MSit Xt Anch tag j τ S d a w)(hr:A.RK S Ph.no w w₁):A.MSit Xt Anch tag j τ S d a w₁:=by
 cases h with
 | skd hn h=>exact .skd hn (h.rely hr)
 | sa1 hn h=>exact .sa1 hn (h.rely hr)
 | ske hn h=>exact .ske hn (h.rely hr)
 | sgo hn h=>exact .sgo hn (h.rely hr)
 | kd h=>exact .kd (h.rely hr)
 | anch h=>exact .anch (h.rely hr)
 | w1 h=>exact .w1 (h.rely hr)
 | w2 h=>exact .w2 (h.rely hr)
 | w3 h=>exact .w3 (h.rely hr)
 | blk h=>exact .blk fun w₂ h₂=>h w₂ (hr.trans h₂)
 | w4 h=>exact .w4 (h.rely hr)
 | ke h=>exact .ke (h.rely hr)
 | acq h=>exact .acq (h.rely hr)
theorem MSit.status(hAr:∀ S g w,Anch S g w→g.status=.running)(h:A.MSit Xt Anch tag j τ S d a w):(a.status=.running∧tag≠.blk)∨(a.status=.blocked∧tag=.blk):=by
 cases h with
 | skd _ h=>exact .inl ⟨h.running fun _ _ _ x=>x.1,by simp⟩
 | sa1 _ h=>exact .inl ⟨h.running fun _ _ _ x=>x.1,by simp⟩
 | ske _ h=>exact .inl ⟨h.running fun _ _ _ x=>x.1,by simp⟩
 | sgo _ h=>exact .inl ⟨h.running fun _ _ _ x=>x.1,by simp⟩
 | kd h=>exact .inl ⟨h.running fun _ _ _ x=>x.1,by simp⟩
 | anch h=>exact .inl ⟨h.running hAr,by simp⟩
 | w1 h=>exact .inl ⟨h.running fun _ _ _ x=>x.1,by simp⟩
 | w2 h=>exact .inl ⟨h.running fun _ _ _ x=>x.1,by simp⟩
 | w3 h=>exact .inl ⟨h.running fun _ _ _ x=>x.1,by simp⟩
 | blk h=>exact .inr ⟨rfl,rfl⟩
 | w4 h=>exact .inl ⟨h.running fun _ _ _ x=>x.1,by simp⟩
 | ke h=>exact .inl ⟨h.running fun _ _ _ x=>x.1,by simp⟩
 | acq h=>exact .inl ⟨h.running fun _ _ _ x=>x.1,by simp⟩
theorem MSit.wokenBy(hAr:∀ S g w,Anch S g w→g.status=.running)(h:A.MSit Xt Anch tag j τ S d a w)(hr:A.RK S Ph.no w w')(g g':Goroutine) :
  ∃ tag' τ',A.MSit Xt Anch tag' j τ' S d (Go.Conc.woken A.P g g' w' a) w'∧(tag'=tag∨(tag=.blk∧tag'=.w3))∧(mayWake A.P g=true→g'.status=.running→tag'≠.blk):=by
 have h':=h.rely hr
 unfold Go.Conc.woken
 split
 ·rcases h'.status hAr with⟨hs,hne⟩ | ⟨_,rfl⟩
  ·exact⟨tag,τ,by rw[again_running _ (.inl hs)];exact h',.inl rfl,fun _ _=>hne⟩
  ·cases h' with
   | blk hb=>
    rename_i g0
    have h3:=hb w' (RK.refl _ _ w')
    exact⟨.w3,Tr.leaf,by rw[Go.ConcR.again_blocked h3.1 h3.2.1];exact .w3 (Wk.stop hb),.inr ⟨rfl,rfl⟩,fun _ _=>by simp⟩
 ·rename_i hc
  exact⟨tag,τ,h',.inl rfl,fun h1 h2=>absurd (by simp[h1,h2]) hc⟩
theorem MSit.bound(h:A.MSit Xt Anch tag j τ S d a w):j+pend tag≤A.n:=by
 cases h<;>simp only[pend]<;>(try simp)<;>omega
end
end Ph
end Go.Rf
namespace Go.Rf
open Go Go.Conc Go.ConcN
open Go.ConcR (KK wgBlock WgAt stA smA rd wr mk Payload DC0 Bk g_of_ofEvents ofEvent_loc_mark ofEvent_cell)
namespace Ph
variable (A:Ph) [Payload]
def Sh(l:Loc):Prop:=∃ a,l=.cell a∧(A.Z a.block∨a.block=A.Wg)
def Own(S:Nat→Nat→Prop)(k:Nat)(l:Loc):Prop:=A.b≤k∧∃ a,l=.cell a∧(S (k-A.b) a.block∨A.M (k-A.b) a)
def Rd(k:Nat)(l:Loc):Prop:=A.b≤k∧∃ a,l=.cell a∧A.Ro a.block
def nob(_:Nat):Prop:=False
structure Sets (j:Nat) (w:World) (S:Nat→Nat→Prop) (S0:Nat→Prop):Prop where
 rng:∀ i k,S i k→A.N0≤k∧k<w.heap.size
 none:∀ i,j≤i→∀ k,¬ S i k
 dis:∀ i i' k,S i k→S i' k→i=i'
 rng0:∀ k,S0 k→A.N0≤k∧k<w.heap.size
 dis0:∀ i k,S i k→¬ S0 k
structure TrI (bj:Nat) (w:World) (t:Trace) (S:Nat→Nat→Prop):Prop where
 ct:CT A.Sh (A.Own S) A.Rd t bj
 norel:∀ op∈t,∀ a,op.act≠.mark (.release a)
 low:∀ i x,touchAt t i=some x→x.loc.low w.heap.size
 pl:∀ i x,touchAt t i=some x→¬ A.Sh x.loc→x.kind≠.atomic∧x.loc.isMemory=true
 over:∀ i g,t.g? i=some g→g≠0→g<A.b→t.counts i→∃ q,t.g? q=some 0∧HappensBefore t i q
structure Com (j:Nat) (gs:Array Goroutine) (w:World) (t:Trace) (D:Nat→WD) (d0:Nat) (τ:Nat→Tr) (S:Nat→Nat→Prop) (S0:Nat→Prop):Prop where
 size:gs.size=A.b+j
 jn:j≤A.n
 old:∀ i,0<i→i<A.b→∃ g m,gs[i]? = some g∧τ i=.ofNat m∧QuitsD A.P m (Deaf t i) g
 wk:∀ i,i<j→∃ g,gs[A.b+i]? = some g∧A.Sit i (D i).stage (τ (A.b+i)) (S i) (D i).deaf g w
 tr:A.TrI (A.b+j-1) w t S
 deaf0:Deaf t 0=d0
 deafW:∀ i,i<j→Deaf t (A.b+i)=(D i).deaf
 rel:∀ i,i<j→(D i).stage≤6→∃ r,RelBy (stA A.Wg) t (A.b+i) r
 sets:A.Sets j w S S0
 world:A.RK nob Ph.no A.w0 w
def FinOk:Prop:=∀ i S w w₁,A.RK S (A.M i) w w₁→A.Fin i w→A.Fin i w₁
variable {A} {j:Nat} {gs:Array Goroutine} {w w':World} {t:Trace} {D:Nat→WD} {d0:Nat} {τ:Nat→Tr} {S:Nat→Nat→Prop} {S0:Nat→Prop}
omit [Payload] in
theorem u3x(G:A.Geo)(hs:A.Sets j w S S0):Apart A.Sh (A.Own S) A.Rd:=by
 have hN:∀ {i k},S i k→A.N0≤k:=fun h=>(hs.rng _ _ h).1
 have hR:∀ {i a},A.M i a→a.block<A.N0:=fun h=>(G.row _ (G.m _ _ h)).1
 refine⟨fun k k' l h1 h2 => ?_,fun k k' l h1 h2 => ?_,fun k l h1 h2 => ?_,fun k l h1 h2 => ?_⟩
 ·obtain⟨b1,a,rfl,h1⟩:=h1
  obtain⟨b2,a',e,h2⟩:=h2
  cases e
  have:k-A.b=k'-A.b:=by
   rcases h1 with h1 | h1<;>rcases h2 with h2 | h2
   ·exact hs.dis _ _ _ h1 h2
   ·have:=hN h1;have:=hR h2;omega
   ·have:=hR h1;have:=hN h2;omega
   ·exact G.apart _ _ _ h1 h2
  omega
 ·obtain⟨_,a,rfl,h1⟩:=h1
  obtain⟨_,a',e,h2⟩:=h2
  cases e
  rcases h1 with h1 | h1
  ·have:=hN h1;have:=h2.1.1;omega
  ·exact h2.1.2.2 (G.m _ _ h1)
 ·obtain⟨_,a,rfl,h1⟩:=h1
  obtain⟨a',e,h2⟩:=h2
  cases e
  rcases h1 with h1 | h1
  ·have:=hN h1
   rcases h2 with h2 | h2
   ·have:=G.z _ h2;omega
   ·have:=G.wg;omega
  ·rcases h2 with h2 | h2
   ·exact (G.row _ (G.m _ _ h1)).2 h2
   ·exact G.wgr (h2▸G.m _ _ h1)
 ·obtain⟨_,a,rfl,h1⟩:=h1
  obtain⟨a',e,h2⟩:=h2
  cases e
  exact h2.elim h1.2 h1.1.2.1
omit [Payload] in
theorem u99{l:Loc}(h:ShN A.Wg l):A.Sh l:=by
 obtain⟨a,rfl,h⟩:=h
 exact⟨a,rfl,.inr h⟩
omit [Payload] in
theorem ueg{i:Nat}{fn:FuncId}{pos:String}{es:Array Event} (h:∀ e∈es,A.EvT false (S i) (A.M i) e):∀ op∈MemOp.ofEvents (A.b+i) fn pos es,OkW A.Sh (A.Own S) A.Rd (A.b+i) op:=by
 intro op hop
 obtain⟨e,he,rfl⟩:=Go.Conc.mem_ofEvents hop
 refine⟨rfl,fun x hx => ?_⟩
 rcases (h e he).1 x hx with⟨a,h1,h2,h3⟩ | ⟨h1,h2,h3⟩
 ·rcases h3 with h3 | h3 | ⟨h3,h4⟩
  ·exact .inr (.inl ⟨by omega,a,h1,.inl (by rw[Nat.add_sub_cancel_left];exact h3)⟩)
  ·exact .inr (.inl ⟨by omega,a,h1,.inr (by rw[Nat.add_sub_cancel_left];exact h3)⟩)
  ·exact .inr (.inr ⟨⟨by omega,a,h1,h4⟩,h3⟩)
 ·exact .inl ⟨u99 h1,h2,h3 rfl⟩
omit [Payload] in
theorem ueo(G:A.Geo)(hs:A.Sets j w S S0){bj:Nat}{S0':Nat→Prop}(hg:∀ k,S0' k→A.N0≤k∧∀ i,¬ S i k){fn:FuncId}{pos:String}{es:Array Event}(h:∀ e∈es,A.EvT true S0' Ph.no e):∀ op∈MemOp.ofEvents 0 fn pos es,Ok0 A.Sh (A.Own S) A.Rd bj op:=by
 intro op hop
 obtain⟨e,he,rfl⟩:=Go.Conc.mem_ofEvents hop
 refine⟨rfl,fun x hx => ?_⟩
 rcases (h e he).1 x hx with⟨a,h1,h2,h3⟩ | ⟨h1,h2,h3⟩
 ·refine .inr ⟨?_,?_,?_⟩
  ·rw[h1]
   rintro⟨a',e,hz⟩
   cases e
   rcases h3 with h3 | h3 | ⟨_,h3⟩
   ·have:=(hg _ h3).1
    rcases hz with hz | hz
    ·have:=G.z _ hz;omega
    ·have:=G.wg;omega
   ·exact h3.elim
   ·exact hz.elim h3.2 h3.1.2.1
  ·rw[h1]
   rintro k _ _ ⟨_,a',e,ho⟩
   cases e
   rcases h3 with h3 | h3 | ⟨_,h3⟩
   ·rcases ho with ho | ho
    ·exact (hg _ h3).2 _ ho
    ·have:=(hg _ h3).1;have:=(G.row _ (G.m _ _ ho)).1;omega
   ·exact h3.elim
   ·rcases ho with ho | ho
    ·have:=(hs.rng _ _ ho).1;have:=h3.1.1;omega
    ·exact h3.1.2.2 (G.m _ _ ho)
  ·rw[h1]
   rintro hw k _ _ ⟨_,a',e,ho⟩
   cases e
   rcases h3 with h3 | h3 | ⟨h3,_⟩
   ·have:=(hg _ h3).1;have:=ho.1.1;omega
   ·exact h3.elim
   ·rw[h3] at hw;cases hw
 ·exact .inl ⟨u99 h1,h2⟩
omit [Payload] in
theorem low_mono{l:Loc}{n n':Nat}(h:n≤n')(hl:l.low n):l.low n':=Loc.low_mono h hl
omit [Payload] in
theorem udy(G:A.Geo){main:Bool}{S:Nat→Prop}{m:Addr→Prop}(hS:∀ k,S k→k<w.heap.size)(hm:∀ a,m a→A.Row a.block)(hN:A.N0≤w.heap.size){e:Event}(h:A.EvT main S m e){x:Touch} (hx:(MemAct.ofEvent e).touch? = some x):x.loc.low w.heap.size:=by
 rcases h.1 x hx with⟨a,h1,h2,h3⟩ | ⟨⟨a,h1,h2⟩,_⟩
 ·rw[h1]
  rcases h3 with h3 | h3 | ⟨_,h3⟩
  ·exact hS _ h3
  ·exact Nat.lt_of_lt_of_le (G.row _ (hm _ h3)).1 hN
  ·exact Nat.lt_of_lt_of_le h3.1.1 hN
 ·rw[h1]
  show a.block<w.heap.size
  rw[h2]
  exact Nat.lt_of_lt_of_le G.wg hN
omit [Payload] in
theorem ueq{main:Bool}{S:Nat→Prop}{m:Addr→Prop}{e:Event}(h:A.EvT main S m e){x:Touch} (hx:(MemAct.ofEvent e).touch? = some x) (hn:¬ A.Sh x.loc):x.kind≠.atomic∧x.loc.isMemory=true:=by
 rcases h.1 x hx with⟨a,h1,h2,h3⟩ | ⟨h1,h2,_⟩
 ·rw[h1,h2];exact⟨by simp,rfl⟩
 ·exact absurd (u99 h1) hn
omit [Payload] in
theorem u80{u:Trace}(h:∀ i g,t.g? i=some g→g≠0→g<A.b→t.counts i→∃ q,t.g? q=some 0∧HappensBefore t i q)
  (hu:∀ op∈u,op.g=0∨A.b≤op.g∨op.act.touch? = none):∀ i g,(t++u).g? i=some g→g≠0→g<A.b→(t++u).counts i→∃ q,(t++u).g? q=some 0∧HappensBefore (t++u) i q:=by
 intro i g hg hne hb hc
 obtain⟨op,ho,hog⟩:=Option.map_eq_some_iff.1 hg
 rcases getElem?_append_cases ho with⟨hlt,ho'⟩ | ⟨_,hou⟩
 ·obtain⟨q,h1,h2⟩:=h i g (by simp[Trace.g?,ho',hog]) hne hb ((counts_old hlt).1 hc)
  have hq:q<t.size:=by
   unfold Trace.g? at h1
   obtain⟨z,hz,_⟩:=Option.map_eq_some_iff.1 h1
   exact lt_size_of_getElem? hz
  exact⟨q,by rw[g?_old hq];exact h1,hb_app u h2⟩
 ·rcases hu op hou with h0 | h0 | h0
  ·omega
  ·omega
  ·obtain⟨x,hx,_⟩:=hc
   rw[show (t++u).act? i=some op.act by simp[Trace.act?,ho]] at hx
   simp only[Option.bind_some] at hx
   rw[h0] at hx;cases hx
omit [Payload] in
theorem TrI.step(G:A.Geo){bj:Nat}(h:A.TrI bj w t S){S':Nat→Nat→Prop}{g:Nat}{main:Bool}{Sg:Nat→Prop}{m:Addr→Prop}{fn:FuncId}{pos:String}{es:Array Event}
  (hct:CT A.Sh (A.Own S') A.Rd (t++MemOp.ofEvents g fn pos es) bj) (hsz:w.heap.size≤w'.heap.size) (hN:A.N0≤w.heap.size)
  (hS:∀ k,Sg k→k<w'.heap.size) (hm:∀ a,m a→A.Row a.block) (hev:∀ e∈es,A.EvT main Sg m e) (hg:g=0∨A.b≤g∨∀ e∈es,(MemAct.ofEvent e).touch? = none):A.TrI bj w' (t++MemOp.ofEvents g fn pos es) S':=by
 refine⟨hct,fun op hop a => ?_,fun i x hx => ?_,fun i x hx hn => ?_,u80 h.over fun op hop => ?_⟩
 ·rcases Array.mem_append.1 hop with hop | hop
  ·exact h.norel op hop a
  ·obtain⟨e,he,rfl⟩:=Go.Conc.mem_ofEvents hop
   exact fun e'=>(hev e he).2 a (Go.ConcR.loc_of_ofEvent e')
 ·rcases u2n hx with h1 | ⟨e,he,h1⟩
  ·exact low_mono hsz (h.low i x h1)
  ·exact udy G hS hm (Nat.le_trans hN hsz) (hev e he) h1
 ·rcases u2n hx with h1 | ⟨e,he,h1⟩
  ·exact h.pl i x h1 hn
  ·exact ueq (hev e he) h1 hn
 ·obtain⟨e,he,rfl⟩:=Go.Conc.mem_ofEvents hop
  rcases hg with h0 | h0 | h0
  ·exact .inl h0
  ·exact .inr (.inl h0)
  ·exact .inr (.inr (h0 e he))
theorem Com.at(hF:A.FinOk)(h:A.Com j gs w t D d0 τ S S0)(d:Nat):A.Com j gs (w.at d) t D d0 τ S S0:=
 ⟨h.size,h.jn,h.old,fun i hi=>let ⟨g,hg,hs⟩:=h.wk i hi;⟨g,hg,hs.rely (hF i _) (RK.at _ _ w d)⟩,⟨h.tr.ct,h.tr.norel,h.tr.low,h.tr.pl,h.tr.over⟩,h.deaf0,h.deafW,h.rel,
  ⟨h.sets.rng,h.sets.none,h.sets.dis,h.sets.rng0,h.sets.dis0⟩,h.world.trans (RK.at _ _ w d)⟩
omit [Payload] in
theorem Sets.growW(G:A.Geo)(h:A.Sets j w S S0)(hN:A.N0≤w.heap.size){i:Nat}(hi:i<j)(hsz:w.heap.size≤w'.heap.size):A.Sets j w' (upd S i (Grow (S i) w.heap.size w'.heap.size)) S0:=by
 have key:∀ a k,upd S i (Grow (S i) w.heap.size w'.heap.size) a k→S a k∨(a=i∧w.heap.size≤k∧k<w'.heap.size):=by
  intro a k hk
  by_cases e:a=i
  ·subst e
   rw[upd_same] at hk
   exact hk.imp id fun x=>⟨rfl,x⟩
  ·rw[upd_ne S _ e] at hk
   exact .inl hk
 refine⟨fun a k hk => ?_,fun a ha k hk => ?_,fun a a' k hk hk' => ?_,fun k hk => ?_,fun a k hk h0 => ?_⟩
 ·rcases key a k hk with h1 | ⟨_,h1,h2⟩
  ·have:=h.rng a k h1;omega
  ·omega
 ·rcases key a k hk with h1 | ⟨h1,_⟩
  ·exact h.none a ha k h1
  ·omega
 ·rcases key a k hk with h1 | ⟨h1,h2,_⟩<;>rcases key a' k hk' with h3 | ⟨h3,h4,_⟩
  ·exact h.dis _ _ _ h1 h3
  ·have:=h.rng a k h1;omega
  ·have:=h.rng a' k h3;omega
  ·omega
 ·have:=h.rng0 k hk;omega
 ·rcases key a k hk with h1 | ⟨h1,h2,_⟩
  ·exact h.dis0 a k h1 h0
  ·have:=h.rng0 k h0;omega
omit [Payload] in
theorem Sets.grow0(h:A.Sets j w S S0)(hN:A.N0≤w.heap.size)(hsz:w.heap.size≤w'.heap.size):A.Sets j w' S (Grow S0 w.heap.size w'.heap.size):=by
 refine⟨fun a k hk => ?_,h.none,h.dis,fun k hk => ?_,fun a k hk h0 => ?_⟩
 ·have:=h.rng a k hk;omega
 ·rcases hk with hk | hk
  ·have:=h.rng0 k hk;omega
  ·omega
 ·have:=h.rng a k hk
  rcases h0 with h0 | h0
  ·exact h.dis0 a k hk h0
  ·omega
theorem Com.stepW(G:A.Geo)(hF:A.FinOk)(h:A.Com j gs w t D d0 τ S S0){i:Nat}(hi:i<j){g g':Goroutine}{fn:FuncId}{pos:String}{es:Array Event}{s' dd':Nat}{τ':Tr}
  (hw:A.RK nob Ph.no w w') (hrw:∀ i',i'<j→i'≠i→A.RK (S i') (A.M i') w w')
  (hs':A.Sit i s' τ' (Grow (S i) w.heap.size w'.heap.size) dd' g' w')
  (hev:∀ e∈es,A.EvT false (Grow (S i) w.heap.size w'.heap.size) (A.M i) e)
  (hdeaf:deafBehind (D i).deaf es=dd')
  (hrel:s'≤6→∃ r,RelBy (stA A.Wg) (t++MemOp.ofEvents (A.b+i) fn pos es) (A.b+i) r) :
  A.Com j ((gs.map (woken A.P g g' w')).setIfInBounds (A.b+i) g') w' (t++MemOp.ofEvents (A.b+i) fn pos es) (upd D i ⟨s',0,dd'⟩) d0 (upd τ (A.b+i) τ') (upd S i (Grow (S i) w.heap.size w'.heap.size)) S0:=by
 have hb:=G.b
 have hN:A.N0≤w.heap.size:=Nat.le_trans G.n0 h.world.size
 have hsets:=h.sets.growW G hN hi hw.size
 have hfresh:∀ i' x,touchAt t i'=some x→∀ a:Addr,w.heap.size≤a.block→x.loc≠.cell a:=fun i' x hx a ha e=>by
  have:=h.tr.low i' x hx
  rw[e] at this
  exact absurd this (Nat.not_lt.2 ha)
 have hct0:CT A.Sh (A.Own (upd S i (Grow (S i) w.heap.size w'.heap.size))) A.Rd t (A.b+j-1):=by
  refine udk h.tr.ct (fun k _ _ l hl => ?_) fun k _ _ l hl => ?_
  ·obtain⟨hk,a,rfl,ha⟩:=hl
   by_cases e:k-A.b=i
   ·rw[e,upd_same] at ha
    rcases ha with (ha | ha) | ha
    ·exact .inl ⟨hk,a,rfl,.inl (by rw[e];exact ha)⟩
    ·exact .inr fun i' x hx=>hfresh i' x hx a ha.1
    ·exact .inl ⟨hk,a,rfl,.inr (by rw[e];exact ha)⟩
   ·rw[upd_ne S _ e] at ha
    exact .inl ⟨hk,a,rfl,ha⟩
  ·obtain⟨hk,a,rfl,ha⟩:=hl
   refine⟨hk,a,rfl,?_⟩
   by_cases e:k-A.b=i
   ·rw[e,upd_same]
    rw[e] at ha
    exact ha.imp .inl id
   ·rw[upd_ne S _ e];exact ha
 have hev':∀ e∈es,A.EvT false ((upd S i (Grow (S i) w.heap.size w'.heap.size)) i) (A.M i) e:=by rw[upd_same];exact hev
 have hct:=hct0.appW (u3x G hsets) (k:=A.b+i) (by omega) (by omega) (ueg (fn:=fn) (pos:=pos) hev')
 refine⟨by simp[h.size],h.jn,fun a a0 ab => ?_,fun a ha => ?_,h.tr.step G hct hw.size hN (fun k hk=>(hsets.rng i k (by rw[upd_same];exact hk)).2) (fun a ha=>G.m i a ha) hev (.inr (.inl (by omega))),
  by rw[Deaf_other t (by omega) _ g_of_ofEvents,h.deaf0],fun a ha => ?_,fun a ha hst => ?_,hsets,h.world.trans hw⟩
 ·obtain⟨x,m,h1,h2,h3⟩:=h.old a a0 ab
  refine⟨x,m,?_,?_,?_⟩
  ·rw[get_map_set _ _ _ _ (by omega),h1,Option.map_some,woken_quitsD h3]
  ·rw[upd_ne τ _ (by omega)];exact h2
  ·rw[Deaf_other t (by omega) _ g_of_ofEvents];exact h3
 ·by_cases e:a=i
  ·subst e
   exact⟨g',get_map_set_same _ _ _ (by rw[h.size];omega),by rw[upd_same,upd_same,upd_same];exact hs'⟩
  ·obtain⟨x,hx,hsx⟩:=h.wk a ha
   refine⟨x,by rw[get_map_set _ _ _ _ (by omega),hx,Option.map_some,hsx.woken],?_⟩
   rw[upd_ne D _ e,upd_ne τ _ (by omega),upd_ne S _ e]
   exact hsx.rely (hF a _) (hrw a ha e)
 ·by_cases e:a=i
  ·subst e;rw[Deaf_own,h.deafW a ha,upd_same];exact hdeaf
  ·rw[Deaf_other t (by omega) _ g_of_ofEvents,h.deafW a ha,upd_ne D _ e]
 ·by_cases e:a=i
  ·subst e;rw[upd_same] at hst;exact hrel hst
  ·rw[upd_ne D _ e] at hst
   obtain⟨r,hr⟩:=h.rel a ha hst
   exact⟨r,hr.appOther g_of_ofEvents (by omega)⟩
theorem Com.step0(G:A.Geo)(hF:A.FinOk)(h:A.Com j gs w t D d0 τ S S0){a a':Goroutine}{fn:FuncId}{pos:String}{es:Array Event}
  (hw:A.RK nob Ph.no w w') (hrw:∀ i,i<j→A.RK (S i) (A.M i) w w') (hev:∀ e∈es,A.EvT true (Grow S0 w.heap.size w'.heap.size) Ph.no e) :
  A.Com j ((gs.map (woken A.P a a' w')).setIfInBounds 0 a') w' (t++MemOp.ofEvents 0 fn pos es) D (deafBehind d0 es) τ S (Grow S0 w.heap.size w'.heap.size):=by
 have hb:=G.b
 have hN:A.N0≤w.heap.size:=Nat.le_trans G.n0 h.world.size
 have hsets:=h.sets.grow0 hN hw.size
 have hct:=h.tr.ct.app0 (u3x G h.sets) (ueo (fn:=fn) (pos:=pos) G h.sets (S0':=Grow S0 w.heap.size w'.heap.size) (fun k hk=>⟨(hsets.rng0 k hk).1,fun i hx=>hsets.dis0 i k hx hk⟩) hev)
 refine⟨by simp[h.size],h.jn,fun i i0 ib => ?_,fun i hi => ?_,h.tr.step G hct hw.size hN (fun k hk=>(hsets.rng0 k hk).2) (fun a ha=>ha.elim) hev (.inl rfl),by rw[Deaf_own,h.deaf0],fun i hi=>by rw[Deaf_other t (by omega) _ g_of_ofEvents,h.deafW i hi],
  fun i hi hst => ?_,hsets,h.world.trans hw⟩
 ·obtain⟨x,m,h1,h2,h3⟩:=h.old i i0 ib
  exact⟨x,m,by rw[get_map_set _ _ _ _ (by omega),h1,Option.map_some,woken_quitsD h3],h2,by rw[Deaf_other t (by omega) _ g_of_ofEvents];exact h3⟩
 ·obtain⟨x,hx,hsx⟩:=h.wk i hi
  exact⟨x,by rw[get_map_set _ _ _ _ (by omega),hx,Option.map_some,hsx.woken],hsx.rely (hF i _) (hrw i hi)⟩
 ·obtain⟨r,hr⟩:=h.rel i hi hst
  exact⟨r,hr.appOther g_of_ofEvents (by omega)⟩
theorem Com.stepO(G:A.Geo)(hF:A.FinOk)(h:A.Com j gs w t D d0 τ S S0){i:Nat}(hi0:0<i)(hib:i<A.b){g g':Goroutine}{fn:FuncId}{pos:String}{es:Array Event}{m:Nat}
  (hm:∀ e∈es,Event.mute e=true) (hq:QuitsD A.P m (deafBehind (Deaf t i) es) g') :
  A.Com j ((gs.map (woken A.P g g' w)).setIfInBounds i g') w (t++MemOp.ofEvents i fn pos es) D d0 (upd τ i (.ofNat m)) S S0:=by
 have hN:A.N0≤w.heap.size:=Nat.le_trans G.n0 h.world.size
 have hnt:∀ e∈es,(MemAct.ofEvent e).touch? = none:=fun e he=>touch_mute (hm e he)
 have hnr:∀ e∈es,∀ a,e.loc≠.mark (.release a):=fun e he a hx=>by
  have:=hm e he
  obtain⟨l,wr,sy⟩:=e
  simp only at hx
  subst hx
  simp[Event.mute] at this
 have hev:∀ e∈es,A.EvT false nob Ph.no e:=fun e he=>u58 (hnt e he) (hnr e he)
 have hct:=h.tr.ct.appW (u3x G h.sets) (k:=i) (u:=MemOp.ofEvents i fn pos es) (by omega) (by omega) (fun op hop=>by
  obtain⟨e,he,rfl⟩:=Go.Conc.mem_ofEvents hop
  exact⟨rfl,fun x hx=>by simp only[hnt e he] at hx;cases hx⟩)
 refine⟨by simp[h.size],h.jn,fun a a0 ab => ?_,fun a ha => ?_,h.tr.step G hct (Nat.le_refl _) hN (fun k hk=>hk.elim) (fun a ha=>ha.elim) hev (.inr (.inr hnt)),
  by rw[Deaf_other t (by omega) _ g_of_ofEvents,h.deaf0],fun a ha=>by rw[Deaf_other t (by omega) _ g_of_ofEvents,h.deafW a ha],fun a ha hst => ?_,h.sets,h.world⟩
 ·by_cases e:a=i
  ·subst e
   exact⟨g',m,get_map_set_same _ _ _ (by rw[h.size];omega),by rw[upd_same],by rw[Deaf_own];exact hq⟩
  ·obtain⟨x,m',h1,h2,h3⟩:=h.old a a0 ab
   exact⟨x,m',by rw[get_map_set _ _ _ _ (fun x=>e x.symm),h1,Option.map_some,woken_quitsD h3],by rw[upd_ne τ _ e];exact h2,by rw[Deaf_other t (by omega) _ g_of_ofEvents];exact h3⟩
 ·obtain⟨x,hx,hsx⟩:=h.wk a ha
  exact⟨x,by rw[get_map_set _ _ _ _ (by omega),hx,Option.map_some,hsx.woken],by rw[upd_ne τ _ (by omega)];exact hsx⟩
 ·obtain⟨r,hr⟩:=h.rel a ha hst
  exact⟨r,hr.appOther g_of_ofEvents (by omega)⟩
theorem Com.spawn(G:A.Geo)(hF:A.FinOk)(h:A.Com j gs w t D 0 τ S S0)(hj:j<A.n){a' child:Goroutine}{x y:MemOp}{Sc:Nat→Prop}{τ':Tr} (hx:x.g=0∧x.act=.go (A.b+j)) (hy:y.g=A.b+j∧y.act=.start)
  (hsc:∀ k,Sc k→S0 k) (hc:A.Wk false (A.M j) (A.AtR0 j) τ' Sc child w) :
  A.Com (j+1) ((gs.setIfInBounds 0 a').push child) w (t++#[x,y]) (upd D j ⟨7,0,0⟩) 0 (upd τ (A.b+j) τ') (upd S j Sc) (fun k=>S0 k∧¬ Sc k):=by
 have hb:=G.b
 have hm:∀ op∈#[x,y],op=x∨op=y:=by intro op hop;simpa using hop
 have hst:∀ op∈#[x,y],op.act≠.mark .disable∧op.act≠.mark .enable:=by
  intro op hop
  rcases hm op hop with rfl | rfl
  ·rw[hx.2];exact⟨by simp,by simp⟩
  ·rw[hy.2];exact⟨by simp,by simp⟩
 have hnt:∀ op∈#[x,y],op.act.touch? = none:=by
  intro op hop
  rcases hm op hop with rfl | rfl
  ·rw[hx.2];rfl
  ·rw[hy.2];rfl
 have hsets:A.Sets (j+1) w (upd S j Sc) (fun k=>S0 k∧¬ Sc k):=by
  have key:∀ a k,upd S j Sc a k→S a k∨(a=j∧Sc k):=fun a k hk=>by
   by_cases e:a=j
   ·subst e;rw[upd_same] at hk;exact .inr ⟨rfl,hk⟩
   ·rw[upd_ne S _ e] at hk;exact .inl hk
  refine⟨fun a k hk => ?_,fun a ha k hk => ?_,fun a a' k hk hk' => ?_,fun k hk=>h.sets.rng0 k hk.1,fun a k hk h0 => ?_⟩
  ·rcases key a k hk with h1 | ⟨_,h1⟩
   ·exact h.sets.rng a k h1
   ·exact h.sets.rng0 k (hsc k h1)
  ·rcases key a k hk with h1 | ⟨h1,_⟩
   ·exact h.sets.none a (by omega) k h1
   ·omega
  ·rcases key a k hk with h1 | ⟨h1,h2⟩<;>rcases key a' k hk' with h3 | ⟨h3,h4⟩
   ·exact h.sets.dis _ _ _ h1 h3
   ·exact absurd (hsc k h4) (h.sets.dis0 a k h1)
   ·exact absurd (hsc k h2) (h.sets.dis0 a' k h3)
   ·omega
  ·rcases key a k hk with h1 | ⟨h1,h2⟩
   ·exact h.sets.dis0 a k h1 h0.1
   ·exact h0.2 h2
 have hct0:CT A.Sh (A.Own (upd S j Sc)) A.Rd t (A.b+j-1):=by
  refine udk h.tr.ct (fun k _ kj l hl=>.inl ?_) fun k _ kj l hl => ?_
  ·obtain⟨hk,a,rfl,ha⟩:=hl
   rw[upd_ne S _ (by omega)] at ha
   exact⟨hk,a,rfl,ha⟩
  ·obtain⟨hk,a,rfl,ha⟩:=hl
   refine⟨hk,a,rfl,?_⟩
   rw[upd_ne S _ (by omega)];exact ha
 have e1:A.b+j-1+1=A.b+j:=by omega
 have hct:=hct0.fork (u3x G hsets) (x:=x) (y:=y) (by rw[e1];exact hx) (by rw[e1];exact hy) h.deaf0
 rw[e1] at hct
 have htouch:∀ i z,touchAt (t++#[x,y]) i=some z→touchAt t i=some z:=fun i z hz=>by
  obtain⟨op,hop,hz'⟩:=touch_of hz
  rcases getElem?_append_cases hop with⟨_,h'⟩ | ⟨_,h'⟩
  ·rw[touchAt_of h'];exact hz'
  ·rw[hnt op h'] at hz';cases hz'
 refine⟨by simp[h.size];omega,hj,fun i i0 ib => ?_,fun i hi => ?_,⟨by rw[show A.b+(j+1)-1=A.b+j by omega];exact hct,fun op hop a => ?_,fun i z hz=>h.tr.low i z (htouch i z hz),fun i z hz=>h.tr.pl i z (htouch i z hz),u80 h.tr.over fun op hop=>.inr (.inr (hnt op hop))⟩,
  by rw[Deaf_still t 0 _ hst,h.deaf0],fun i hi => ?_,fun i hi hs => ?_,hsets,h.world⟩
 ·obtain⟨z,m,h1,h2,h3⟩:=h.old i i0 ib
  refine⟨z,m,?_,by rw[upd_ne τ _ (by omega)];exact h2,by rw[Deaf_still t i _ hst];exact h3⟩
  rw[Array.getElem?_push_lt (by simp[h.size];omega),← Array.getElem?_eq_getElem,Array.getElem?_setIfInBounds_ne (by omega)]
  exact h1
 ·rcases Nat.lt_or_ge i j with hlt | hge
  ·obtain⟨g,hg,hsg⟩:=h.wk i hlt
   refine⟨g,?_,by rw[upd_ne D _ (by omega),upd_ne τ _ (by omega),upd_ne S _ (by omega)];exact hsg⟩
   rw[Array.getElem?_push_lt (by simp[h.size];omega),← Array.getElem?_eq_getElem,Array.getElem?_setIfInBounds_ne (by omega)]
   exact hg
  ·obtain rfl:i=j:=by omega
   refine⟨child,?_,by rw[upd_same,upd_same,upd_same];exact .r0 hc⟩
   rw[show A.b+i=(gs.setIfInBounds 0 a').size by simp[h.size],Array.getElem?_push_size]
 ·rcases Array.mem_append.1 hop with hop | hop
  ·exact h.tr.norel op hop a
  ·rcases hm op hop with rfl | rfl
   ·rw[hx.2];simp
   ·rw[hy.2];simp
 ·rw[Deaf_still t _ _ hst]
  rcases Nat.lt_or_ge i j with hlt | hge
  ·rw[h.deafW i hlt,upd_ne D _ (by omega)]
  ·obtain rfl:i=j:=by omega
   rw[upd_same]
   exact Deaf_absent fun a op ha e=>by have:=h.tr.ct.gs a op ha;omega
 ·rcases Nat.lt_or_ge i j with hlt | hge
  ·rw[upd_ne D _ (by omega)] at hs
   obtain⟨r,hr⟩:=h.rel i hlt hs
   refine⟨r,hr.appNot fun op hop => ?_⟩
   rcases hm op hop with rfl | rfl
   ·rw[hx.1];omega
   ·rw[hy.1];omega
  ·obtain rfl:i=j:=by omega
   rw[upd_same] at hs
   simp at hs
end Ph
end Go.Rf
namespace Go.Rf
open Go Go.Conc Go.ConcN
open Go.ConcR (KK wgBlock WgAt stA smA rd wr mk Payload DC0 Bk g_of_ofEvents ofEvent_loc_mark ofEvent_cell bk_of_mute)
namespace Ph
def bump:CTag→Nat
 | .w3=>1
 | _=>0
variable (A:Ph) [Payload]
section
variable (Xt:Goroutine→Prop) (Anch:(Nat→Prop)→Goroutine→World→Prop)
def Inv(μ:Ms)(m:Machine)(t:Trace):Prop:=
 ∃ (gs:Array Goroutine) (w:World) (sl:Option (Nat×Nat)) (j:Nat) (D:Nat→WD) (tag:CTag) (τ:Nat→Tr) (τ0:Tr) (S:Nat→Nat→Prop) (S0:Nat→Prop) (d0:Nat) (a:Goroutine) (st sm:Int),
  m=crowd gs w sl∧gs[0]? = some a∧A.MSit Xt Anch tag j τ0 S0 d0 a w∧A.Com j gs w t D d0 τ S S0∧WgAt A.ty A.Wg w st sm∧Go.ConcN.Mode j D tag st sm∧μ=(phi A.n (Vc j D) tag+Ssum j D,τ,bump tag,τ0)
end
variable {A} {Xt:Goroutine→Prop} {Anch:(Nat→Prop)→Goroutine→World→Prop} {j:Nat} {gs:Array Goroutine} {w w':World} {sl:Option (Nat×Nat)} {t:Trace} {D:Nat→WD} {d0:Nat} {τ:Nat→Tr} {τ0:Tr} {S:Nat→Nat→Prop} {S0:Nat→Prop} {tag:CTag} {a:Goroutine} {st sm:Int}
omit [Payload] in
theorem u6e(G:A.Geo)(hs:A.Sets j w S S0):(∀ i,¬ S i A.Wg)∧¬ S0 A.Wg:=⟨fun i h=>by have:=(hs.rng i _ h).1;have:=G.wg;omega,fun h=>by have:=(hs.rng0 _ h).1;have:=G.wg;omega⟩
theorem u3t(G:A.Geo)(hF:A.FinOk)(hAr:∀ S g w,Anch S g w→g.status=.running)
  (ha:gs[0]? = some a) (hcs:A.MSit Xt Anch tag j τ0 S0 d0 a w) (hcom:A.Com j gs w t D d0 τ S S0)
  {i:Nat} (hi:i<j) {g g':Goroutine} {es:Array Event} {s' dd':Nat} {τ':Tr} {st' sm':Int} (hg:gs[A.b+i]? = some g) (hgo:stepG A.P false g w=.go g' w' es)
  (hw:A.RK nob Ph.no w w') (hA2:A.RK S0 Ph.no w w') (hrw:∀ i',i'<j→i'≠i→A.RK (S i') (A.M i') w w')
  (hs':A.Sit i s' τ' (Grow (S i) w.heap.size w'.heap.size) dd' g' w')
  (hev:∀ e∈es,A.EvT false (Grow (S i) w.heap.size w'.heap.size) (A.M i) e)
  (hdeaf:deafBehind (D i).deaf es=dd')
  (hrel:s'≤6→∃ r,RelBy (stA A.Wg) (t++MemOp.ofEvents (A.b+i) g.frame.fn g.frame.place es) (A.b+i) r)
  (hwg:WgAt A.ty A.Wg w' st' sm')
  (hmode:∀ tag',(tag'=tag∨(tag=.blk∧tag'=.w3))→(mayWake A.P g=true→g'.status=.running→tag'≠.blk)→Go.ConcN.Mode j (upd D i ⟨s',0,dd'⟩) tag' st' sm')
  (hlt:(s'<(D i).stage∧cnt ⟨s',0,dd'⟩≤cnt (D i))∨(s'=(D i).stage∧Tr.sub τ' (τ (A.b+i)))) :
  ∃ m₁ ops μ',runT A.P (crowd gs w sl) (A.b+i)=(.next m₁,ops)∧MLt (A.b+A.n) μ' (phi A.n (Vc j D) tag+Ssum j D,τ,bump tag,τ0)∧A.Inv Xt Anch μ' m₁ (t++ops):=by
 have hb:=G.b
 have hne:(A.b+i==0)=false:=by simp;omega
 obtain⟨tag',τ0',hcs',htag,hwk⟩:=hcs.wokenBy hAr hA2 g g'
 have hrun:=runT_crowd_go (P:=A.P) (sl:=sl) (i:=A.b+i) hg (by rw[hne];exact hgo)
 have e1:=sumTo_upd D (⟨s',0,dd'⟩:WD) cnt hi
 have e2:=sumTo_upd D (⟨s',0,dd'⟩:WD) WD.stage hi
 refine⟨_,_,(phi A.n (Vc j (upd D i ⟨s',0,dd'⟩)) tag'+Ssum j (upd D i ⟨s',0,dd'⟩),upd τ (A.b+i) τ',bump tag',τ0'),hrun,?_,
  _,w',sl,j,upd D i ⟨s',0,dd'⟩,tag',upd τ (A.b+i) τ',τ0',upd S i (Grow (S i) w.heap.size w'.heap.size),S0,d0,woken A.P g g' w' a,st',sm',rfl,by rw[get_map_set _ _ _ _ (by omega),ha];rfl,hcs',hcom.stepW G hF hi hw hrw hs' hev hdeaf hrel,hwg,hmode tag' htag hwk,rfl⟩
 rw[phi_retag A.n _ htag]
 simp only[Vc,Ssum] at *
 rcases hlt with⟨h1,h2⟩ | ⟨h1,h2⟩
 ·refine Prod.Lex.left _ _ ?_
  have:=phi_mono A.n (v':=sumTo j fun a=>cnt (upd D i ⟨s',0,dd'⟩ a)) (v:=sumTo j fun a=>cnt (D a)) (by omega) tag
  exact ltNN (by omega)
 ·have ec:cnt (⟨s',0,dd'⟩:WD)=cnt (D i):=by simp only[cnt,h1]
  have ev:(sumTo j fun a=>cnt (upd D i ⟨s',0,dd'⟩ a))=sumTo j fun a=>cnt (D a):=by omega
  have es':(sumTo j fun a=>(upd D i ⟨s',0,dd'⟩ a).stage)=sumTo j fun a=>(D a).stage:=by omega
  rw[ev,es']
  have:=hcom.jn
  refine Prod.Lex.right _ (Prod.Lex.left _ _ ⟨A.b+i,by omega,by rw[upd_same];exact h2,fun k hk=>upd_ne τ _ hk⟩)
theorem ue0(G:A.Geo)(hF:A.FinOk)(hAr:∀ S g w,Anch S g w→g.status=.running)
  (ha:gs[0]? = some a) (hcs:A.MSit Xt Anch tag j τ0 S0 d0 a w) (hcom:A.Com j gs w t D d0 τ S S0) (hwg:WgAt A.ty A.Wg w st sm) (hmode:Go.ConcN.Mode j D tag st sm)
  {i:Nat} (hi0:0<i) (hib:i<A.b) {g:Goroutine} (hg:gs[i]? = some g) (hrun:g.status=.running) :
  ∃ m₁ ops μ',runT A.P (crowd gs w sl) i=(.next m₁,ops)∧MLt (A.b+A.n) μ' (phi A.n (Vc j D) tag+Ssum j D,τ,bump tag,τ0)∧A.Inv Xt Anch μ' m₁ (t++ops):=by
 have hne:(i==0)=false:=by simp;omega
 obtain⟨g₁,m,h1,h2,h3⟩:=hcom.old i hi0 hib
 obtain rfl:g=g₁:=by rw[hg] at h1;exact Option.some.inj h1
 cases m with
 | zero=>rw[h3.1] at hrun;cases hrun
 | succ m=>
  rcases h3 with⟨hf,_⟩ | ⟨_,g',es,hm,hst,hq⟩
  ·rw[hf] at hrun;cases hrun
  obtain⟨tag',τ0',hcs',htag,hwk⟩:=hcs.wokenBy hAr (RK.refl S0 Ph.no w) g g'
  have hrunT:=runT_crowd_go (P:=A.P) (sl:=sl) (i:=i) hg (by rw[hne];exact hst w)
  refine⟨_,_,(phi A.n (Vc j D) tag'+Ssum j D,upd τ i (.ofNat m),bump tag',τ0'),hrunT,?_,
   _,w,sl,j,D,tag',upd τ i (.ofNat m),τ0',S,S0,d0,woken A.P g g' w a,st,sm,rfl,by rw[get_map_set _ _ _ _ (by omega),ha];rfl,hcs',hcom.stepO G hF hi0 hib hm hq,hwg,hmode.retag htag,rfl⟩
  rw[phi_retag A.n _ htag]
  exact Prod.Lex.right _ (Prod.Lex.left _ _ ⟨i,by omega,by rw[upd_same,h2];exact Tr.ofNat_sub m,fun k hk=>upd_ne τ _ hk⟩)
set_option maxHeartbeats 1600000 in
theorem uae(G:A.Geo)(hF:A.FinOk)(hAr:∀ S g w,Anch S g w→g.status=.running)
  (ha:gs[0]? = some a) (hcs:A.MSit Xt Anch tag j τ0 S0 d0 a w) (hcom:A.Com j gs w t D d0 τ S S0) (hwg:WgAt A.ty A.Wg w st sm) (hmode:Go.ConcN.Mode j D tag st sm)
  {i:Nat} (hi:i<j) {g:Goroutine} (hg:gs[A.b+i]? = some g) (hrun:g.status=.running) :
  ∃ m₁ ops μ',runT A.P (crowd gs w sl) (A.b+i)=(.next m₁,ops)∧MLt (A.b+A.n) μ' (phi A.n (Vc j D) tag+Ssum j D,τ,bump tag,τ0)∧A.Inv Xt Anch μ' m₁ (t++ops):=by
 have hN:A.N0≤w.heap.size:=Nat.le_trans G.n0 hcom.world.size
 obtain⟨hSw,hS0w⟩:=u6e G hcom.sets
 obtain⟨g₁,hg₁,hs⟩:=hcom.wk i hi
 obtain rfl:g=g₁:=by rw[hg] at hg₁;exact Option.some.inj hg₁
 generalize hst:(D i).stage=s at hs
 generalize hta:τ (A.b+i)=τi at hs
 generalize hde:(D i).deaf=dd at hs
 have hb:=hcs.bound
 have hn:=G.n
 have hVj:=Vc_le j D
 have hdk:Deaf t (A.b+i)=dd:=by rw[hcom.deafW i hi,hde]
 have nrS:∀ C,S i C∨A.Old C→Grow (S i) w.heap.size w.heap.size C∨A.Old C:=fun C h=>h.imp .inl id
 have ltC:∀ C,S i C∨A.Old C→C<w.heap.size:=fun C h=>h.elim (fun h=>(hcom.sets.rng i C h).2) fun h=>Nat.lt_of_lt_of_le h.1 hN
 cases hs with
 | r0 h=>
  rcases h.cases with hstop | ⟨_,g',w',es,τ',hsub,hgo,hgk,hg'⟩
  ·obtain⟨_,hfin,C,hC,g',hgo,m₂,hk⟩:=hstop w (RK.refl _ _ w)
   exact u3t G hF hAr ha hcs hcom hi hg hgo (RK.refl _ _ w) (RK.refl _ _ w) (fun _ _ _=>RK.refl _ _ w) (.lo (C:=C) (v:=undef) (by omega) (nrS C hC) (ltC C hC) (.k1 hk) hfin)
    (by intro e he;simp at he;subst he;exact u58 rfl (by simp[Go.ConcR.mk])) (by rw[hde];rfl) (fun _=>⟨t.size,RelBy.new hdk _ _⟩) hwg (fun _ ht _=>(hmode.counted hi (by omega) (.inl rfl) _ _).retag ht) (.inl ⟨by omega,by simp[cnt,hst]⟩)
  ·have hN':∀ i k,S i k→A.N0≤k:=fun i k h=>(hcom.sets.rng i k h).1
   have h0N:∀ k,S0 k→A.N0≤k:=fun k h=>(hcom.sets.rng0 k h).1
   have r1:A.RK S0 Ph.no w w':=hgk.rk G hN (hN' i) h0N (fun k h0 hk=>hcom.sets.dis0 i k hk h0) (fun a h=>h.elim) (fun a h=>h.elim)
   have r2:A.RK nob Ph.no w w':=hgk.rk G hN (hN' i) (fun k h=>h.elim) (fun k h _=>h.elim) (fun a h=>h.elim) (fun a h=>h.elim)
   have r3:∀ i',i'<j→i'≠i→A.RK (S i') (A.M i') w w':=fun i' _ hne=>hgk.rk G hN (hN' i) (hN' i') (fun k h1 h2=>hne (hcom.sets.dis _ _ _ h1 h2)) (G.m i') (fun a h1 h2=>hne (G.apart _ _ _ h1 h2))
   have hwg':WgAt A.ty A.Wg w' st sm:=by
    unfold WgAt at *
    rw[hgk.out A.Wg (by have:=G.wg;omega) (hSw i) G.wgr];exact hwg
   have hnd:∀ e∈es,e.loc≠.mark .disable∧e.loc≠.mark .enable:=fun e he=>by
    rcases hgk.ev e he with⟨a,wr,rfl,_⟩ | ⟨_,h1,h2,_⟩
    ·exact⟨by simp,by simp⟩
    ·exact⟨h1,h2⟩
   exact u3t G hF hAr ha hcs hcom hi hg hgo r2 r1 r3 (.r0 hg') (fun e he=>(hgk.ev e he).evT) (by rw[hde];exact deafBehind_idle hnd 0) (fun h=>by omega) hwg'
    (fun _ ht _=>Go.ConcN.Mode.retag (by have:=hmode.same (i:=i) 0 0;rwa [hst] at this) ht) (.inr ⟨hst.symm,by rw[hta];exact hsub⟩)
 | @lo C v s m d _ _ _ h6 hC hCl hws hfin=>
  have bookG:∀ {g':Goroutine} {w':World} {es:Array Event} {s' m' dd':Nat} {st' sm':Int},stepG A.P false g w=.go g' w' es→Aside A.Wg w w'→WgAt A.ty A.Wg w' st' sm'→(∀ e∈es,Bk A.Wg e) →
    (∀ jx e,es[jx]? = some e→(MemAct.ofEvent e).touch? = none∨0<deafBehind dd (es.extract 0 jx))→WSit A.P A.ty A.Wg C 1 none2 none2 0 1 v s' m' dd' g' w'→s'≤6→deafBehind dd es=dd' →
    (∀ tag',(tag'=tag∨(tag=.blk∧tag'=.w3))→(mayWake A.P g=true→g'.status=.running→tag'≠.blk)→Go.ConcN.Mode j (upd D i ⟨s',0,dd'⟩) tag' st' sm')→((s'<s∧cnt ⟨s',0,dd'⟩≤cnt (D i))∨(s'=s∧m'+1=m)) →
    ∃ m₁ ops μ',runT A.P (crowd gs w sl) (A.b+i)=(.next m₁,ops)∧MLt (A.b+A.n) μ' (phi A.n (Vc j D) tag+Ssum j D,τ,bump tag,τ0)∧A.Inv Xt Anch μ' m₁ (t++ops):=by
   intro g' w' es s' m' dd' st' sm' hgo hAs hwg' hbk hd hs' h6' hdd hmode' hlt
   have hsz:w'.heap.size=w.heap.size:=hAs.size
   have rI:A.RK (S i) (A.M i) w w':=RK.of_wg G (hSw i) (G.m i) hAs ⟨_,_,hwg'⟩
   refine u3t G hF hAr ha hcs hcom hi hg hgo (RK.of_wg G (fun h=>h) (fun _ h=>h.elim) hAs ⟨_,_,hwg'⟩) (RK.of_wg G hS0w (fun _ h=>h.elim) hAs ⟨_,_,hwg'⟩) (fun i' _ _=>RK.of_wg G (hSw i') (G.m i') hAs ⟨_,_,hwg'⟩)
    (.lo h6' (hC.imp .inl id) (by rw[hsz];exact hCl) hs' (hF i _ _ _ rI hfin)) (fun e he=>ubm (hbk e he)) (by rw[hde];exact hdd) (fun _=>let ⟨r,hr⟩:=hcom.rel i hi (by omega);⟨r,hr.book hdk _ _ hbk hd⟩) hwg' hmode' ?_
   rcases hlt with⟨h1,h2⟩ | ⟨h1,h2⟩
   ·exact .inl ⟨by rw[hst];exact h1,h2⟩
   ·exact .inr ⟨by rw[hst];exact h1,by rw[hta,← h2];exact Tr.ofNat_sub m'⟩
  have book:∀ {g':Goroutine} {w':World} {es:Array Event} {s' m' dd':Nat} {st' sm':Int},stepG A.P false g w=.go g' w' es→Aside A.Wg w w'→WgAt A.ty A.Wg w' st' sm'→(∀ e∈es,Bk A.Wg e) →
    (∀ jx e,es[jx]? = some e→(MemAct.ofEvent e).touch? = none∨0<deafBehind dd (es.extract 0 jx))→WSit A.P A.ty A.Wg C 1 none2 none2 0 1 v s' m' dd' g' w'→s'≤6→deafBehind dd es=dd' →
    Go.ConcN.Mode j (upd D i ⟨s',0,dd'⟩) tag st' sm'→((s'<s∧cnt ⟨s',0,dd'⟩≤cnt (D i))∨(s'=s∧m'+1=m)) →
    ∃ m₁ ops μ',runT A.P (crowd gs w sl) (A.b+i)=(.next m₁,ops)∧MLt (A.b+A.n) μ' (phi A.n (Vc j D) tag+Ssum j D,τ,bump tag,τ0)∧A.Inv Xt Anch μ' m₁ (t++ops):=
   fun hgo hAs hwg' hbk hd hs' h6' hdd hmode' hlt=>bookG hgo hAs hwg' hbk hd hs' h6' hdd (fun _ ht _=>hmode'.retag ht) hlt
  have idle:∀ {g':Goroutine} {m':Nat},stepG A.P false g w=.go g' w #[]→WSit A.P A.ty A.Wg C 1 none2 none2 0 1 v s m' dd g' w→m'+1=m →
    ∃ m₁ ops μ',runT A.P (crowd gs w sl) (A.b+i)=(.next m₁,ops)∧MLt (A.b+A.n) μ' (phi A.n (Vc j D) tag+Ssum j D,τ,bump tag,τ0)∧A.Inv Xt Anch μ' m₁ (t++ops):=by
   intro g' m' hgo hs' hm
   exact book hgo (.refl A.Wg w) hwg (by simp) (by simp) hs' h6 rfl (by have:=hmode.same (i:=i) 0 dd;rwa [hst] at this) (.inr ⟨rfl,hm⟩)
  cases hws with
  | r0 h=>omega
  | k1 h=>
   rcases Goes.cases h with hstop | ⟨m',rfl,hstep⟩
   ·obtain⟨_,g',hgo,m₂,hk⟩:=hstop w (RW.refl w)
    exact book hgo (.refl A.Wg w) hwg (by intro e he;simp at he;subst he;exact .inl rfl) (by intro jx e he;exact .inl (by have:=Array.mem_of_getElem? he;simp at this;subst this;rfl)) (.d1 hk) (by omega) rfl
     (hmode.counted hi (by omega) (.inr rfl) _ _) (.inl ⟨by omega,by simp[cnt,hst]⟩)
   ·obtain⟨g',w',es,hgo,⟨rfl,rfl⟩,hg'⟩:=hstep w (RW.refl w)
    exact idle hgo (.k1 hg') rfl
  | d1 h=>
   rcases Goes.cases h with hstop | ⟨m',rfl,hstep⟩
   ·obtain⟨_,hall⟩:=hstop w (RW.refl w)
    have hc1:cnt (D i)=1:=by simp[cnt,hst]
    have hV1:1≤Vc j D:=by have:=le_sumTo (f:=fun x=>cnt (D x)) hi;simp only[Vc];omega
    have bk2:∀ e∈#[rd (stA A.Wg),wr (stA A.Wg)],Bk A.Wg e:=by intro e he;simp at he;rcases he with rfl | rfl<;>exact bk_cell _ _ rfl
    have df2:∀ jx e,(#[rd (stA A.Wg),wr (stA A.Wg)]:Array Event)[jx]? = some e→(MemAct.ofEvent e).touch? = none∨0<deafBehind 1 ((#[rd (stA A.Wg),wr (stA A.Wg)]:Array Event).extract 0 jx):=by
     intro jx e he
     match jx,he with
     | 0,_=>exact .inr (by simp[deafBehind])
     | 1,_=>exact .inr (by simp[deafBehind,rd])
     | jx+2,he=>simp at he
    have hq0:cnt (⟨1,0,1⟩:WD)=0:=rfl
    have opq:OpenSt j D→OpenSt j (upd D i ⟨1,0,1⟩):=fun h a ha=>by
     by_cases e:a=i
     ·subst e;rw[upd_same];simp
     ·rw[upd_ne D _ e];exact h a ha
    have hup:=Vc_upd D (⟨1,0,1⟩:WD) hi
    cases hmode with
    | opn h1 h2 h3=>
     obtain⟨v',hv⟩:∃ v',Vc j D+pend tag=v'+1:=⟨Vc j D+pend tag-1,by omega⟩
     rw[hv] at hwg
     have hw1:WgAt A.ty A.Wg w (((v':Nat)+1)*KK+((0:Nat):Int)) 0:=by simpa using hwg
     obtain⟨g',hgo,_,hq⟩:=hall v' 0 (by omega) (by omega) hw1
     obtain⟨q,hq⟩:=hq (by omega)
     have hv':Vc j (upd D i ⟨1,0,1⟩)+pend tag=v':=by omega
     refine book hgo (aside_setCell w (stA A.Wg) _) (hwg.setSt _) bk2 df2 (.quit hq) (by omega) rfl ?_ (.inl ⟨by omega,by simp[cnt]⟩)
     have e:((v':Nat):Int)*KK+((0:Nat):Int)=((Vc j (upd D i ⟨1,0,1⟩)+pend tag:Nat):Int)*KK:=by rw[hv'];simp
     rw[e]
     exact .opn h1 (opq h2) (fun vs ev=>by have:=h3 vs ev;omega)
    | reg h1 h2 h3=>
     obtain⟨v',hv⟩:∃ v',Vc j D=v'+1:=⟨Vc j D-1,by omega⟩
     rw[hv] at hwg
     have hp:pend tag=0:=by cases tag<;>first | rfl | exact h1.elim
     have hw1:WgAt A.ty A.Wg w (((v':Nat)+1)*KK+((1:Nat):Int)) 0:=by simpa using hwg
     obtain⟨g',hgo,hl,hq⟩:=hall v' 1 (by omega) (by omega) hw1
     by_cases hv0:v'=0
     ·subst hv0
      obtain⟨m₂,hk⟩:=hl ⟨rfl,rfl⟩
      refine book hgo (aside_setCell w (stA A.Wg) _) (hwg.setSt _) bk2 df2 (.d2 hk) (by omega) rfl ?_ (.inl ⟨by omega,by simp[cnt]⟩)
      have hoth:∀ a,a<j→a≠i→(D a).stage=1:=fun a ha e=>by
       have c0:=others_uncounted hi hv hc1 a ha e
       have:=h2 a ha
       simp only[cnt] at c0
       split at c0<;>omega
      have:=Go.ConcN.Mode.last (j:=j) (D:=upd D i ⟨4,0,1⟩) (tag:=tag) i h1 hi (by rw[upd_same];simp) (fun a ha e=>by rw[upd_ne D _ e];exact hoth a ha e)
      rw[upd_same] at this
      simpa using this
     ·obtain⟨q,hq⟩:=hq (by omega)
      have hv':Vc j (upd D i ⟨1,0,1⟩)=v':=by omega
      refine book hgo (aside_setCell w (stA A.Wg) _) (hwg.setSt _) bk2 df2 (.quit hq) (by omega) rfl ?_ (.inl ⟨by omega,by simp[cnt]⟩)
      have e:((v':Nat):Int)*KK+((1:Nat):Int)=((Vc j (upd D i ⟨1,0,1⟩):Nat):Int)*KK+1:=by rw[hv'];simp
      rw[e]
      exact .reg h1 (opq h2) (by omega)
    | last L _ h2 h3 h4=>
     by_cases e:i=L
     ·subst e;omega
     ·have:=h4 i hi e;omega
    | sema h2=>have:=h2 i hi;omega
    | fin _ h2=>have:=h2 i hi;omega
   ·obtain⟨g',w',es,hgo,⟨rfl,rfl⟩,hg'⟩:=hstep w (RW.refl w)
    exact idle hgo (.d1 hg') rfl
  | d2 h=>
   rcases Goes.cases h with hstop | ⟨m',rfl,hstep⟩
   ·obtain⟨_,hx⟩:=hstop w (RW.refl w)
    obtain⟨hW3,hoth,rfl,rfl⟩:=hmode.isLast hi (by omega)
    simp only[hst] at hwg
    obtain⟨g',hgo,m₂,hk⟩:=hx (by simpa using hwg)
    refine book hgo (.refl A.Wg w) hwg (by intro e he;simp at he;subst he;exact bk_cell _ _ rfl) (by intro jx e he;match jx,he with | 0,_=>exact .inr (by simp[deafBehind]) | jx+1,he=>simp at he) (.d3 hk) (by omega) rfl ?_ (.inl ⟨by omega,by simp[cnt]⟩)
    have:=Go.ConcN.Mode.last (j:=j) (D:=upd D i ⟨3,0,1⟩) (tag:=tag) i hW3 hi (by rw[upd_same];simp) (fun a ha e=>by rw[upd_ne D _ e];exact hoth a ha e)
    rw[upd_same] at this
    simpa using this
   ·obtain⟨g',w',es,hgo,⟨rfl,rfl⟩,hg'⟩:=hstep w (RW.refl w)
    exact idle hgo (.d2 hg') rfl
  | d3 h=>
   rcases Goes.cases h with hstop | ⟨m',rfl,hstep⟩
   ·obtain⟨_,hx⟩:=hstop w (RW.refl w)
    obtain⟨hW3,hoth,rfl,rfl⟩:=hmode.isLast hi (by omega)
    simp only[hst] at hwg
    obtain⟨g',hgo,m₂,hk⟩:=hx (by simpa using hwg)
    refine book hgo (aside_setCell w (stA A.Wg) _) (hwg.setSt 0) (by intro e he;simp at he;subst he;exact bk_cell _ _ rfl) (by intro jx e he;match jx,he with | 0,_=>exact .inr (by simp[deafBehind]) | jx+1,he=>simp at he) (.d4 hk) (by omega) rfl ?_ (.inl ⟨by omega,by simp[cnt]⟩)
    have:=Go.ConcN.Mode.last (j:=j) (D:=upd D i ⟨2,0,1⟩) (tag:=tag) i hW3 hi (by rw[upd_same];simp) (fun a ha e=>by rw[upd_ne D _ e];exact hoth a ha e)
    rw[upd_same] at this
    simpa using this
   ·obtain⟨g',w',es,hgo,⟨rfl,rfl⟩,hg'⟩:=hstep w (RW.refl w)
    exact idle hgo (.d3 hg') rfl
  | d4 h=>
   rcases Goes.cases h with hstop | ⟨m',rfl,hstep⟩
   ·obtain⟨_,hmw,hx⟩:=hstop w (RW.refl w)
    obtain⟨hW3,hoth,rfl,rfl⟩:=hmode.isLast hi (by omega)
    simp only[hst] at hwg
    obtain⟨g',hgo,q,hq⟩:=hx (by simpa using hwg)
    have hrun':g'.status=.running:=by
     cases q with
     | zero=>exact absurd hq.2 (by decide)
     | succ q=>exact hq.elim (fun x=>absurd x.2 (by decide)) (fun x=>x.1)
    refine bookG hgo (aside_setCell w (smA A.Wg) _) (hwg.setSm 1) (es:=semEvents (smA A.Wg)) ?_ ?_ (.quit hq) (by omega) (by simp[deafBehind,semEvents]) ?_ (.inl ⟨by omega,by simp[cnt]⟩)
    ·intro e he
     simp[semEvents] at he
     rcases he with rfl | rfl | rfl | rfl
     ·exact .inl rfl
     ·exact bk_cell _ _ rfl
     ·exact bk_cell _ _ rfl
     ·exact .inr (.inl rfl)
    ·intro jx e he
     match jx,he with
     | 0,he=>simp[semEvents] at he;subst he;exact .inl rfl
     | 1,_=>exact .inr (by simp[deafBehind,semEvents])
     | 2,_=>exact .inr (by simp[deafBehind,semEvents])
     | 3,he=>simp[semEvents] at he;subst he;exact .inl rfl
     | jx+4,he=>simp[semEvents] at he
    ·intro tag' ht hw
     have hnb:=hw hmw hrun'
     have e3:tag'=.w3:=by
      rcases ht with rfl | ⟨_,rfl⟩
      ·cases tag'<;>first | rfl | exact hW3.elim | exact absurd rfl hnb
      ·rfl
     subst e3
     simp only[if_true]
     exact .sema fun a ha=>by
      by_cases e:a=i
      ·subst e;rw[upd_same]
      ·rw[upd_ne D _ e];exact hoth a ha e
   ·obtain⟨g',w',es,hgo,⟨rfl,rfl⟩,hg'⟩:=hstep w (RW.refl w)
    exact idle hgo (.d4 hg') rfl
  | quit h=>
   cases m with
   | zero=>rw[h.1] at hrun;cases hrun
   | succ q=>
    rcases h with⟨hf,_⟩ | ⟨_,g',es,hmute,hstep,hq⟩
    ·rw[hf] at hrun;cases hrun
    ·have hbk:∀ e∈es,Bk A.Wg e:=fun e he=>bk_of_mute (hmute e he)
     have hno:∀ jx e,es[jx]? = some e→(MemAct.ofEvent e).touch? = none∨0<deafBehind dd (es.extract 0 jx):=fun jx e he=>.inl (touch_mute (hmute e (Array.mem_of_getElem? he)))
     exact book (hstep w) (.refl A.Wg w) hwg hbk hno (.quit hq) (by omega) rfl (by have:=hmode.same (i:=i) 0 (deafBehind dd es);rwa [hst] at this) (.inr ⟨rfl,rfl⟩)
end Ph
end Go.Rf
namespace Go.Rf
open Go Go.Conc Go.ConcN
open Go.ConcR (KK wgBlock WgAt stA smA rd wr mk Payload DC0 Bk g_of_ofEvents ofEvent_loc_mark ofEvent_cell bk_of_mute)
theorem Grow.eq(S:Nat→Prop)(n:Nat):Grow S n n=S:=funext fun k=>propext Grow.refl
def ShZ(Z:Nat→Prop)(l:Loc):Prop:=∃ a,l=.cell a∧Z a.block
abbrev nol:Nat→Loc→Prop:=fun _ _=>False
structure Idle (P:Program) (Z:Nat→Prop) (b:Nat) (gs:Array Goroutine) (w:World) (t:Trace):Prop where
 size:gs.size=b
 b1:1≤b
 old:∀ i,0<i→i<b→∃ g m,gs[i]? = some g∧QuitsD P m (Deaf t i) g
 ct:CT (ShZ Z) nol nol t (b-1)
 norel:∀ op∈t,∀ a,op.act≠.mark (.release a)
 low:∀ i x,touchAt t i=some x→x.loc.low w.heap.size
 pl:∀ i x,touchAt t i=some x→¬ ShZ Z x.loc→x.kind≠.atomic∧x.loc.isMemory=true
 over:t.HandedOver
 hears:Deaf t 0=0
 z:∀ k,Z k→k<w.heap.size
theorem uen{a:Addr}{t:Trace}{k r q:Nat}(hr:RelBy a t k r)(hrq:r<q)(hn:NoRelease a t) (hq:t.act? q=some (.mark (.acquire a))) (hh:t.heard q):∀ i,t.g? i=some k→t.counts i→HappensBefore t i q:=by
 intro i hgi hc
 have edge:HappensBefore t r q:=.single (.inr ⟨.marked hrq (.inr hr.act) hq (fun k _ _=>hn k),hr.heard,hh⟩)
 have hle:i≤r:=Nat.le_of_not_lt fun hlt=>hr.after i hlt hgi hc
 rcases Nat.lt_or_ge i r with hlt | hge
 ·exact .trans (.single (.inl ⟨hlt,k,hgi,hr.g⟩)) edge
 ·obtain rfl:i=r:=by omega
  exact edge
namespace Ph
variable {A:Ph} [Payload] {Xt:Goroutine→Prop} {Anch:(Nat→Prop)→Goroutine→World→Prop} {j:Nat} {gs:Array Goroutine} {w w':World} {sl:Option (Nat×Nat)} {t:Trace} {D:Nat→WD} {d0:Nat} {τ:Nat→Tr} {τ0 τ':Tr} {S:Nat→Nat→Prop} {S0:Nat→Prop} {tag tag':CTag} {a a':Goroutine} {st sm st' sm':Int} {es:Array Event}
def Out(A:Ph)[Payload](Xt:Goroutine→Prop) (Anch:(Nat→Prop)→Goroutine→World→Prop) (K:Machine→Trace→Prop) (r:Stepped×Array MemOp) (μ:Ms) (t:Trace):Prop:=
 ∃ m₁ ops,r=(.next m₁,ops)∧((∃ μ',MLt (A.b+A.n) μ' μ∧A.Inv Xt Anch μ' m₁ (t++ops))∨K m₁ (t++ops))
variable {K:Machine→Trace→Prop}
theorem u68(G:A.Geo)(hF:A.FinOk) (ha:gs[0]? = some a) (hcom:A.Com j gs w t D d0 τ S S0) (hgo:stepG A.P true a w=.go a' w' es)
  (hw:A.RK nob Ph.no w w') (hrw:∀ i,i<j→A.RK (S i) (A.M i) w w') (hev:∀ e∈es,A.EvT true (Grow S0 w.heap.size w'.heap.size) Ph.no e)
  (hcs':A.MSit Xt Anch tag' j τ' (Grow S0 w.heap.size w'.heap.size) (deafBehind d0 es) a' w') (hwg:WgAt A.ty A.Wg w' st' sm') (hmode:Go.ConcN.Mode j D tag' st' sm')
  (hlt:phi A.n (Vc j D) tag'<phi A.n (Vc j D) tag∨(phi A.n (Vc j D) tag'=phi A.n (Vc j D) tag∧OLt (bump tag',τ') (bump tag,τ0))) :
  A.Out Xt Anch K (runT A.P (crowd gs w sl) 0) (phi A.n (Vc j D) tag+Ssum j D,τ,bump tag,τ0) t:=by
 have hb:=G.b
 have hrun:=runT_crowd_go (P:=A.P) (sl:=sl) (i:=0) ha (by simpa using hgo)
 refine⟨_,_,hrun,.inl ⟨(phi A.n (Vc j D) tag'+Ssum j D,τ,bump tag',τ'),?_,_,w',sl,j,D,tag',τ,τ',S,_,deafBehind d0 es,a',st',sm',rfl,get_map_set_same _ _ _ (by rw[hcom.size];omega),hcs',hcom.step0 G hF hw hrw hev,hwg,hmode,rfl⟩⟩
 rcases hlt with h | ⟨h1,h2⟩
 ·exact Prod.Lex.left _ _ (ltNN (by omega))
 ·rw[h1];exact Prod.Lex.right _ (Prod.Lex.right _ h2)
theorem u1w(G:A.Geo)(hF:A.FinOk) (ha:gs[0]? = some a) (hcom:A.Com j gs w t D d0 τ S S0) (hwg:WgAt A.ty A.Wg w st sm) (hmode:Go.ConcN.Mode j D tag st sm)
  (hgo:stepG A.P true a w=.go a' w' es) (hD:A.GK true S0 Ph.no w w' es) (hcs':A.MSit Xt Anch tag j τ' (Grow S0 w.heap.size w'.heap.size) d0 a' w') (hf:Tr.sub τ' τ0) :
  A.Out Xt Anch K (runT A.P (crowd gs w sl) 0) (phi A.n (Vc j D) tag+Ssum j D,τ,bump tag,τ0) t:=by
 have hN:A.N0≤w.heap.size:=Nat.le_trans G.n0 hcom.world.size
 obtain⟨hSw,hS0w⟩:=u6e G hcom.sets
 have h0N:∀ k,S0 k→A.N0≤k:=fun k h=>(hcom.sets.rng0 k h).1
 have hnd:∀ e∈es,e.loc≠.mark .disable∧e.loc≠.mark .enable:=fun e he=>by
  rcases hD.ev e he with⟨a,wr,rfl,_⟩ | ⟨_,h1,h2,_⟩
  ·exact⟨by simp,by simp⟩
  ·exact⟨h1,h2⟩
 have hdf:deafBehind d0 es=d0:=deafBehind_idle hnd d0
 refine u68 G hF ha hcom hgo (hD.rk G hN h0N (fun k h=>h.elim) (fun k h _=>h.elim) (fun a h=>h.elim) (fun a h=>h.elim))
  (fun i _=>hD.rk G hN h0N (fun k h=>(hcom.sets.rng i k h).1) (fun k h1 h2=>hcom.sets.dis0 i k h1 h2) (G.m i) (fun a _ h=>h.elim)) (fun e he=>(hD.ev e he).evT) (by rw[hdf];exact hcs') ?_ hmode (.inr ⟨rfl,Prod.Lex.right _ hf⟩) (st':=st) (sm':=sm)
 unfold WgAt at *
 rw[hD.out A.Wg (by have:=G.wg;omega) hS0w G.wgr];exact hwg
theorem u1v(G:A.Geo)(hF:A.FinOk) (ha:gs[0]? = some a) (hcom:A.Com j gs w t D d0 τ S S0) (hgo:stepG A.P true a w=.go a' w' es) (hAs:Aside A.Wg w w') (hwg':WgAt A.ty A.Wg w' st' sm') (hbk:∀ e∈es,Bk A.Wg e)
  (hcs':A.MSit Xt Anch tag' j τ' S0 (deafBehind d0 es) a' w') (hmode':Go.ConcN.Mode j D tag' st' sm') (hlt:phi A.n (Vc j D) tag'<phi A.n (Vc j D) tag∨(phi A.n (Vc j D) tag'=phi A.n (Vc j D) tag∧OLt (bump tag',τ') (bump tag,τ0))) :
  A.Out Xt Anch K (runT A.P (crowd gs w sl) 0) (phi A.n (Vc j D) tag+Ssum j D,τ,bump tag,τ0) t:=by
 obtain⟨hSw,hS0w⟩:=u6e G hcom.sets
 have e:Grow S0 w.heap.size w'.heap.size=S0:=by rw[hAs.size];exact Grow.eq _ _
 exact u68 G hF ha hcom hgo (RK.of_wg G (fun h=>h) (fun _ h=>h.elim) hAs ⟨_,_,hwg'⟩) (fun i _=>RK.of_wg G (hSw i) (G.m i) hAs ⟨_,_,hwg'⟩) (fun e he=>ubm (hbk e he)) (by rw[e];exact hcs') hwg' hmode' hlt
theorem uc3(G:A.Geo)(hF:A.FinOk) (ha:gs[0]? = some a) (hcom:A.Com A.n gs w t D 1 τ S S0) (hwg:WgAt A.ty A.Wg w st sm) (hmode:Go.ConcN.Mode A.n D .w1 st sm)
  (h:A.WW (A.AtW1 Xt Anch) τ0 S0 a w):A.Out Xt Anch K (runT A.P (crowd gs w sl) 0) (phi A.n (Vc A.n D) .w1+Ssum A.n D,τ,bump .w1,τ0) t:=by
 have hn:=G.n
 rcases h.cases with hstop | ⟨_,a',w',es,τ',hsub,hgo,hD,hg'⟩
 ·obtain⟨_,hall⟩:=hstop w (RK.refl _ _ w)
  obtain⟨ho,rfl,rfl,_⟩:=hmode.open_inv trivial
  have hV:=Vc_le A.n D
  obtain⟨a',hgo,h0,hne⟩:=hall (Vc A.n D) (by omega) (by simpa [pend] using hwg)
  by_cases hv:Vc A.n D=0
  ·obtain⟨m₂,hk⟩:=h0 hv
   refine u1v G hF ha hcom hgo (.refl A.Wg w) hwg bk_rd (tag':=.ke) (.ke hk) ?_ (.inl (by simp only[phi];omega))
   have e:((Vc A.n D+pend .w1:Nat):Int)*KK=0:=by rw[hv];simp[pend]
   rw[e]
   exact .fin trivial (allQuit_of ho hv)
  ·obtain⟨m₂,hk⟩:=hne hv
   exact u1v G hF ha hcom hgo (.refl A.Wg w) hwg bk_rd (tag':=.w2 (Vc A.n D)) (.w2 hk) (hmode.reopen trivial trivial rfl (fun vs e=>by cases e;omega)) (.inl (by simp only[phi];omega))
 ·exact u1w G hF ha hcom hwg hmode hgo hD (.w1 hg') hsub
def Exit(A:Ph)(Xt:Goroutine→Prop)(K:Machine→Trace→Prop):Prop:=
 ∀ gs w t sl g,gs[0]? = some g→Xt g→Idle A.P (fun k=>A.Z k∨k=A.Wg) (A.b+A.n) gs w t→A.RK nob Ph.no A.w0 w→(∀ i,i<A.n→A.Fin i w)→K (crowd gs w sl) t
omit [Payload] in
theorem g?_of {t:Trace} {i:Nat} {x:Touch} (h:touchAt t i=some x):∃ g,t.g? i=some g:=by
 obtain⟨op,ho,_⟩:=touch_of h
 exact⟨op.g,by simp[Trace.g?,ho]⟩
theorem ucs(G:A.Geo)(hF:A.FinOk) (ha:gs[0]? = some a) (hcom:A.Com A.n gs w t D 0 τ S S0) (hq:AllQuit A.n D) (hgo:stepG A.P true a w=.go a' w #[Go.ConcR.mk (.acquire (stA A.Wg))]) (hx:Xt a') (hX:A.Exit Xt K) {μ:Ms} :
  A.Out Xt Anch K (runT A.P (crowd gs w sl) 0) μ t:=by
 have hb:=G.b
 have hN:A.N0≤w.heap.size:=Nat.le_trans G.n0 hcom.world.size
 have hrun:=runT_crowd_go (P:=A.P) (sl:=sl) (i:=0) ha (by simpa using hgo)
 have hev:∀ e∈#[Go.ConcR.mk (.acquire (stA A.Wg))],A.EvT true (Grow S0 w.heap.size w.heap.size) Ph.no e:=by
  intro e he;simp at he;subst he;exact u58 rfl (by simp[Go.ConcR.mk])
 have hcom':=hcom.step0 G hF (a:=a) (a':=a') (fn:=a.frame.fn) (pos:=a.frame.place) (RK.refl _ _ w) (fun i _=>RK.refl _ _ w) hev
 have e1:MemOp.ofEvents 0 a.frame.fn a.frame.place #[Go.ConcR.mk (.acquire (stA A.Wg))]=#[{ g:=0,fn:=a.frame.fn,pos:=a.frame.place,act:=.mark (.acquire (stA A.Wg)) }]:=by rw[ofEvents_eq];simp[Go.ConcR.ofEvent_mk]
 have hy:(t++#[({ g:=0,fn:=a.frame.fn,pos:=a.frame.place,act:=.mark (.acquire (stA A.Wg)) }:MemOp)])[t.size]? = some { g:=0,fn:=a.frame.fn,pos:=a.frame.place,act:=.mark (.acquire (stA A.Wg)) }:=by simp
 generalize hU:MemOp.ofEvents 0 a.frame.fn a.frame.place #[Go.ConcR.mk (.acquire (stA A.Wg))]=u at *
 rw[← e1] at hy
 have q1:(t++u).act? t.size=some (.mark (.acquire (stA A.Wg))):=act?_of hy
 have q2:(t++u).g? t.size=some 0:=by simp only[Trace.g?,hy];rfl
 have q3:(t++u).heard t.size:=⟨0,q2,by rw[deaf_old (Nat.le_refl _)];exact hcom.deaf0⟩
 have hnr:NoRelease (stA A.Wg) (t++u):=fun i hi=>by
  obtain⟨op,ho,hoa⟩:=Option.map_eq_some_iff.1 hi
  exact hcom'.tr.norel op (Array.mem_of_getElem? ho) _ hoa
 have hrel:∀ i,i<A.n→∀ k,(t++u).g? k=some (A.b+i)→(t++u).counts k→HappensBefore (t++u) k t.size:=by
  intro i hi
  obtain⟨r,hr⟩:=hcom.rel i hi (by rw[hq i hi];omega)
  have hr':RelBy (stA A.Wg) (t++u) (A.b+i) r:=by rw[← hU];exact hr.appOther g_of_ofEvents (by omega)
  exact uen hr' (lt_of_act? hr.act) hnr q1 q3
 have hover:(t++u).HandedOver:=by
  intro i g hg hne hc
  by_cases hgb:g<A.b
  ·exact hcom'.tr.over i g hg hne hgb hc
  ·have:g≤A.b+A.n-1:=by
    obtain⟨op,ho,hog⟩:=Option.map_eq_some_iff.1 hg
    rw[← hog];exact hcom'.tr.ct.gs i op ho
   exact⟨t.size,q2,hrel (g-A.b) (by omega) i (by rw[show A.b+(g-A.b)=g by omega];exact hg) hc⟩
 have hknow:∀ l,¬ ShZ (fun k=>A.Z k∨k=A.Wg) l→Perm (t++u) 0 l:=by
  intro l hl i x hx hxl
  obtain⟨g,hg⟩:=g?_of hx
  by_cases h0:g=0
  ·subst h0
   obtain⟨op,ho,hog⟩:=Option.map_eq_some_iff.1 hg
   have:=knows_own ho
   rwa [hog] at this
  ·obtain⟨hk,hm⟩:=hcom'.tr.pl i x hx (by rw[hxl];exact hl)
   obtain⟨q,hq1,hq2⟩:=hover i g hg h0 ⟨x,hx,hm,.inl hk⟩
   obtain⟨z,hz,hzg⟩:=Option.map_eq_some_iff.1 hq1
   exact⟨q,z,hz,hzg,.inr hq2⟩
 refine⟨_,_,hrun,.inr ?_⟩
 refine hX _ w (t++u) sl a' (get_map_set_same _ _ _ (by rw[hcom.size];omega)) hx ⟨hcom'.size,by omega,fun i i0 ib => ?_,⟨hcom'.tr.ct.quiet,fun _ _ _ _ h=>h.elim,fun _ _ _ _ h=>h.elim,fun l hl _=>hknow l hl,fun l hl _=>PermW.of (hknow l hl),hcom'.tr.ct.nr,hcom'.tr.ct.gs⟩,
  hcom'.tr.norel,hcom'.tr.low,hcom'.tr.pl,hover,?_,fun k hk => ?_⟩ hcom'.world fun i hi => ?_
 ·by_cases hib:i<A.b
  ·obtain⟨g,m,h1,_,h3⟩:=hcom'.old i i0 hib
   exact⟨g,m,h1,h3⟩
  ·obtain⟨g,h1,h2⟩:=hcom'.wk (i-A.b) (by omega)
   rw[show A.b+(i-A.b)=i by omega] at h1 h2
   have hst:=hq (i-A.b) (by omega)
   rw[hst] at h2
   generalize τ i=τi at h2
   have hd:=hcom'.deafW (i-A.b) (by omega)
   rw[show A.b+(i-A.b)=i by omega] at hd
   cases h2 with
   | lo _ _ _ h4 _=>exact⟨g,_,h1,by rw[hd];exact h4.quits rfl⟩
 ·rw[hcom'.deaf0];rfl
 ·rcases hk with hk | rfl
  ·exact Nat.lt_of_lt_of_le (G.z k hk) hN
  ·exact Nat.lt_of_lt_of_le G.wg hN
 ·obtain⟨g,h1,h2⟩:=hcom.wk i hi
  have hst:=hq i hi
  rw[hst] at h2
  generalize τ (A.b+i)=τi at h2
  cases h2 with
  | lo _ _ _ _ h5=>exact h5
set_option maxHeartbeats 1600000 in
theorem uar(G:A.Geo)(hF:A.FinOk) (hAn:∀ S g w,Anch S g w→A.MM (A.AtW1 Xt Anch) S g w) (hX:A.Exit Xt K)
  (ha:gs[0]? = some a) (hcs:A.MSit Xt Anch tag j τ0 S0 d0 a w) (hcom:A.Com j gs w t D d0 τ S S0) (hwg:WgAt A.ty A.Wg w st sm) (hmode:Go.ConcN.Mode j D tag st sm) (hrun:a.status=.running) :
  A.Out Xt Anch K (runT A.P (crowd gs w sl) 0) (phi A.n (Vc j D) tag+Ssum j D,τ,bump tag,τ0) t:=by
 have hVj:=Vc_le j D
 have hn:=G.n
 have hb:=G.b
 cases hcs with
 | skd hr h=>
  rcases h.cases with hstop | ⟨_,a',w',es,τ',hsub,hgo,hD,hg'⟩
  ·obtain⟨_,a',hgo,m₂,hk⟩:=hstop w (RK.refl _ _ w)
   exact u1v G hF ha hcom hgo (.refl A.Wg w) hwg bk_dis (.sa1 hr hk) (hmode.reopen trivial trivial rfl (by simp)) (.inl (by simp only[phi];omega))
  ·exact u1w G hF ha hcom hwg hmode hgo hD (.skd hr hg') hsub
 | @sa1 r _ _ _ _ hr h=>
  rcases h.cases with hstop | ⟨_,a',w',es,τ',hsub,hgo,hD,hg'⟩
  ·obtain⟨_,hall⟩:=hstop w (RK.refl _ _ w)
   obtain⟨ho,rfl,rfl,_⟩:=hmode.open_inv trivial
   obtain⟨a',hgo,m₂,hk⟩:=hall (Vc (A.n-(r+1)) D) (by omega) (by simpa [pend] using hwg)
   refine u1v G hF ha hcom hgo (aside_setCell w (stA A.Wg) _) (hwg.setSt _) bk_rw (.ske hr hk) ?_ (.inl (by simp only[phi];omega))
   have e:(((Vc (A.n-(r+1)) D:Nat):Int)+1)*KK=((Vc (A.n-(r+1)) D+pend (.sp r 3):Nat):Int)*KK:=by simp[pend]
   rw[e]
   exact .opn trivial ho (by simp)
  ·exact u1w G hF ha hcom hwg hmode hgo hD (.sa1 hr hg') hsub
 | ske hr h=>
  rcases h.cases with hstop | ⟨_,a',w',es,τ',hsub,hgo,hD,hg'⟩
  ·obtain⟨_,a',hgo,m₂,hk⟩:=hstop w (RK.refl _ _ w)
   exact u1v G hF ha hcom hgo (.refl A.Wg w) hwg bk_en (.sgo hr hk) (hmode.reopen trivial trivial rfl (by simp)) (.inl (by simp only[phi];omega))
  ·exact u1w G hF ha hcom hwg hmode hgo hD (.ske hr hg') hsub
 | @sgo r _ _ _ _ hr h=>
  rcases h.cases with hstop | ⟨_,a',w',es,τ',hsub,hgo,hD,hg'⟩
  ·obtain⟨_,a',child,Sc,hsp,hsc,⟨m₂,hwk⟩,hnext⟩:=hstop w (RK.refl _ _ w)
   obtain⟨ho,rfl,rfl,_⟩:=hmode.open_inv trivial
   have hrun':=runT_crowd_spawn (P:=A.P) (sl:=sl) (i:=0) ha (by simpa using hsp)
   rw[hcom.size] at hrun'
   have hcom':=hcom.spawn G hF (by omega) (a':=a') (x:={ g:=0,fn:=a.frame.fn,pos:=a.frame.place,act:=.go (A.b+(A.n-(r+1))) }) (y:={ g:=A.b+(A.n-(r+1)),fn:=child.frame.fn,pos:=a.frame.place,act:=.start }) ⟨rfl,rfl⟩ ⟨rfl,rfl⟩ hsc hwk
   have eV:Vc (A.n-(r+1)+1) (upd D (A.n-(r+1)) ⟨7,0,0⟩)=Vc (A.n-(r+1)) D+1:=by
    simp only[Vc,sumTo,upd_same]
    rw[sumTo_upd_out D _ cnt (Nat.le_refl _)];rfl
   have eS:Ssum (A.n-(r+1)+1) (upd D (A.n-(r+1)) ⟨7,0,0⟩)=Ssum (A.n-(r+1)) D+7:=by
    simp only[Ssum,sumTo,upd_same]
    rw[sumTo_upd_out D _ WD.stage (Nat.le_refl _)]
   have ho':OpenSt (A.n-(r+1)+1) (upd D (A.n-(r+1)) ⟨7,0,0⟩):=fun i hi=>by
    by_cases e:i=A.n-(r+1)
    ·subst e;rw[upd_same];simp
    ·rw[upd_ne D _ e];exact ho i (by omega)
   have ha':((gs.setIfInBounds 0 a').push child)[0]? = some a':=by
    rw[Array.getElem?_push_lt (by simp[hcom.size];omega),← Array.getElem?_eq_getElem]
    rw[Array.getElem?_setIfInBounds_self_of_lt (by rw[hcom.size];omega)]
   have ej:A.n-(r+1)+1=A.n-r:=by omega
   rw[ej] at hcom' eV eS ho'
   have est:∀ tag',pend tag'=0→((Vc (A.n-(r+1)) D+pend (.sp r 2):Nat):Int)*KK=((Vc (A.n-r) (upd D (A.n-(r+1)) ⟨7,0,0⟩)+pend tag':Nat):Int)*KK:=fun tag' hp=>by rw[eV,hp];simp[pend]
   cases r with
   | zero=>
    obtain⟨m₃,hk⟩:=hnext
    simp only[Nat.sub_zero] at hrun' hcom' eV eS ho' est
    refine⟨_,_,hrun',.inl ⟨(phi A.n (Vc A.n (upd D (A.n-(0+1)) ⟨7,0,0⟩)) .kd+Ssum A.n (upd D (A.n-(0+1)) ⟨7,0,0⟩),_,_,m₃),Prod.Lex.left _ _ (ltNN (by simp only[phi];omega)),
     _,w,sl,A.n,_,.kd,_,m₃,_,_,0,a',_,_,rfl,ha',.kd hk,hcom',hwg,?_,rfl⟩⟩
    rw[est .kd rfl]
    exact .opn trivial ho' (by simp)
   | succ r'=>
    obtain⟨m₃,hk⟩:=hnext
    refine⟨_,_,hrun',.inl ⟨(phi A.n (Vc (A.n-(r'+1)) (upd D (A.n-(r'+1+1)) ⟨7,0,0⟩)) (.sp r' 5)+Ssum (A.n-(r'+1)) (upd D (A.n-(r'+1+1)) ⟨7,0,0⟩),_,_,m₃),Prod.Lex.left _ _ (ltNN (by simp only[phi];omega)),
     _,w,sl,A.n-(r'+1),_,.sp r' 5,_,m₃,_,_,0,a',_,_,rfl,ha',.skd (by omega) hk,hcom',hwg,?_,rfl⟩⟩
    rw[est (.sp r' 5) rfl]
    exact .opn trivial ho' (by simp)
  ·exact u1w G hF ha hcom hwg hmode hgo hD (.sgo hr hg') hsub
 | kd h=>
  rcases h.cases with hstop | ⟨_,a',w',es,τ',hsub,hgo,hD,hg'⟩
  ·obtain⟨_,a',hgo,m₂,hk⟩:=hstop w (RK.refl _ _ w)
   exact u1v G hF ha hcom hgo (.refl A.Wg w) hwg bk_dis (.anch hk) (hmode.reopen trivial trivial rfl (by simp)) (.inl (by simp only[phi];omega))
  ·exact u1w G hF ha hcom hwg hmode hgo hD (.kd hg') hsub
 | anch h=>
  rcases h.cases with hstop | ⟨_,a',w',es,τ',hsub,hgo,hD,hg'⟩
  ·obtain⟨m₂,hk⟩:=hAn S0 a w (hstop w (RK.refl _ _ w))
   obtain⟨m₁,ops,h1,h2⟩:=uc3 (K:=K) (sl:=sl) G hF ha hcom hwg (hmode.reopen trivial trivial rfl (by simp)) hk
   refine⟨m₁,ops,h1,h2.imp (fun ⟨μ',h3,h4⟩=>⟨μ',?_,h4⟩) id⟩
   exact ucy h3 (by simp only[phi];omega)
  ·exact u1w G hF ha hcom hwg hmode hgo hD (.anch hg') hsub
 | w1 h=>exact uc3 G hF ha hcom hwg hmode h
 | @w2 vs _ _ _ _ h=>
  rcases h.cases with hstop | ⟨_,a',w',es,τ',hsub,hgo,hD,hg'⟩
  ·obtain⟨_,hall⟩:=hstop w (RK.refl _ _ w)
   obtain⟨ho,rfl,rfl,hw2⟩:=hmode.open_inv trivial
   obtain⟨hle,h1⟩:=hw2 vs rfl
   obtain⟨hhit,hmiss⟩:=hall (Vc A.n D) (by omega) (by simpa [pend] using hwg)
   by_cases e:Vc A.n D=vs
   ·obtain⟨a',hgo,m₂,hk⟩:=hhit e
    exact u1v G hF ha hcom hgo (aside_setCell w (stA A.Wg) _) (hwg.setSt _) bk_rw (.w3 hk) (.reg trivial ho (by omega)) (.inl (by simp only[phi];omega))
   ·obtain⟨a',hgo,m₂,hk⟩:=hmiss e
    exact u1v G hF ha hcom hgo (.refl A.Wg w) hwg bk_rd (.anch hk) (hmode.reopen trivial trivial rfl (by simp)) (.inl (by simp only[phi];omega))
  ·exact u1w G hF ha hcom hwg hmode hgo hD (.w2 hg') hsub
 | w3 h=>
  rcases h.cases with hstop | ⟨_,a',w',es,τ',hsub,hgo,hD,hg'⟩
  ·obtain⟨_,hoff,hblk,htake⟩:=hstop w (RK.refl _ _ w)
   cases hmode with
   | opn h1 _ _=>exact h1.elim
   | reg h1 h2 h3=>exact u1v G hF ha hcom (hblk ⟨_,hwg⟩) (.refl A.Wg w) hwg (by simp) (.blk (τ:=τ0) hstop) (.reg trivial h2 h3) (.inr ⟨rfl,Prod.Lex.left _ _ (ltNN (by decide))⟩)
   | last L h1 h2 h3 h4=>exact u1v G hF ha hcom (hblk ⟨_,hwg⟩) (.refl A.Wg w) hwg (by simp) (.blk (τ:=τ0) hstop) (.last L trivial h2 h3 h4) (.inr ⟨rfl,Prod.Lex.left _ _ (ltNN (by decide))⟩)
   | sema h2=>
    obtain⟨a',hgo,m₂,hk⟩:=htake hwg
    exact u1v G hF ha hcom hgo (aside_setCell w (smA A.Wg) _) (hwg.setSm 0) bk_sem (.w4 hk) (.fin trivial h2) (.inl (by simp only[phi];omega))
   | fin h1 _=>exact h1.elim
  ·exact u1w G hF ha hcom hwg hmode hgo hD (.w3 hg') hsub
 | blk h=>simp at hrun
 | w4 h=>
  rcases h.cases with hstop | ⟨_,a',w',es,τ',hsub,hgo,hD,hg'⟩
  ·obtain⟨_,hx⟩:=hstop w (RK.refl _ _ w)
   obtain⟨hq,rfl,rfl⟩:=hmode.fin_inv trivial
   obtain⟨a',hgo,m₂,hk⟩:=hx hwg
   exact u1v G hF ha hcom hgo (.refl A.Wg w) hwg bk_rd (.ke hk) (.fin trivial hq) (.inl (by simp only[phi];omega))
  ·exact u1w G hF ha hcom hwg hmode hgo hD (.w4 hg') hsub
 | ke h=>
  rcases h.cases with hstop | ⟨_,a',w',es,τ',hsub,hgo,hD,hg'⟩
  ·obtain⟨_,a',hgo,m₂,hk⟩:=hstop w (RK.refl _ _ w)
   obtain⟨hq,rfl,rfl⟩:=hmode.fin_inv trivial
   exact u1v G hF ha hcom hgo (.refl A.Wg w) hwg bk_en (.acq hk) (.fin trivial hq) (.inl (by simp only[phi];omega))
  ·exact u1w G hF ha hcom hwg hmode hgo hD (.ke hg') hsub
 | acq h=>
  rcases h.cases with hstop | ⟨_,a',w',es,τ',hsub,hgo,hD,hg'⟩
  ·obtain⟨_,a',hgo,hx⟩:=hstop w (RK.refl _ _ w)
   obtain⟨hq,rfl,rfl⟩:=hmode.fin_inv trivial
   exact ucs G hF ha hcom hq hgo hx hX
  ·exact u1w G hF ha hcom hwg hmode hgo hD (.acq hg') hsub
end Ph
end Go.Rf
namespace Go.Rf
open Go Go.Conc Go.ConcN
open Go.ConcR (KK wgBlock WgAt stA smA rd wr mk Payload DC0 Bk g_of_ofEvents ofEvent_loc_mark ofEvent_cell bk_of_mute)
namespace Ph
variable {A:Ph} [Payload] {Xt:Goroutine→Prop} {Anch:(Nat→Prop)→Goroutine→World→Prop} {K:Machine→Trace→Prop}
theorem u6q(G:A.Geo)(hF:A.FinOk)(hAr:∀ S g w,Anch S g w→g.status=.running) (hAn:∀ S g w,Anch S g w→A.MM (A.AtW1 Xt Anch) S g w) (hX:A.Exit Xt K)
  (hK:∀ m m' ops t,stepT A.P m=(.next m',ops)→K m' (t++ops)→K m t):∀ μ m t,A.Inv Xt Anch μ m t→K m t:=by
 intro μ
 induction μ using (uee (A.b+A.n)).induction with
 | _ μ ih=>
  rintro m t ⟨gs,w,sl,j,D,tag,τ,τ0,S,S0,d0,a,st,sm,rfl,ha,hcs,hcom,hwg,hmode,rfl⟩
  have hb:=G.b
  have hawake:∀ g∈gs,awake g:=by
   intro g hg
   obtain⟨i,hi⟩:=Array.mem_iff_getElem?.1 hg
   by_cases h0:i=0
   ·subst h0
    rw[ha] at hi;cases hi
    rcases hcs.status hAr with⟨hs,_⟩ | ⟨hs,_⟩<;>intro tm<;>rw[hs]<;>simp
   ·by_cases hib:i<A.b
    ·obtain⟨g',m,h1,_,h3⟩:=hcom.old i (by omega) hib
     rw[hi] at h1;cases h1
     intro tm
     rcases h3.status with h | h<;>rw[h]<;>simp
    ·have hlt:i-A.b<j:=by have:=(Array.getElem?_eq_some_iff.1 hi).1;rw[hcom.size] at this;omega
     obtain⟨g',hg',hs⟩:=hcom.wk (i-A.b) hlt
     rw[show A.b+(i-A.b)=i by omega,hi] at hg';cases hg'
     intro tm
     rcases hs.status with h | h<;>rw[h]<;>simp
  have running_of:∀ i,i<j→(D i).stage≠1→∃ g,gs[A.b+i]? = some g∧g.status=.running:=by
   intro i hi hne
   obtain⟨g,hg,hs⟩:=hcom.wk i hi
   refine⟨g,hg,?_⟩
   generalize (D i).stage=s at hs hne
   generalize τ (A.b+i)=τi at hs
   generalize (D i).deaf=di at hs
   cases hs with
   | r0 h=>exact h.running fun _ _ _ x=>x.1
   | lo _ _ _ h4 _=>exact h4.running_of hne
  have some1:∃ (i:Nat) (g:Goroutine),gs[i]? = some g∧g.status=.running:=by
   rcases hcs.status hAr with⟨hs,_⟩ | ⟨_,rfl⟩
   ·exact⟨0,a,ha,hs⟩
   ·cases hmode with
    | opn h1 _ _=>exact h1.elim
    | reg _ _ h3=>
     obtain⟨i,hi,h5⟩:=exists_counted h3
     obtain⟨g,hg,hs⟩:=running_of i hi (by omega)
     exact⟨_,g,hg,hs⟩
    | last L _ h2 h3 _=>
     obtain⟨g,hg,hs⟩:=running_of L h2 (by omega)
     exact⟨_,g,hg,hs⟩
    | fin h1 _=>exact h1.elim
  obtain⟨i,g,d,sl',hg,hrun,hstep⟩:=crowd_pick (P:=A.P) (w:=w) (sl:=sl) hawake some1
  have hcs':=hcs.rely (RK.at _ _ w d)
  have hcom':=hcom.at hF d
  have hwg':WgAt A.ty A.Wg (w.at d) st sm:=hwg
  by_cases h0:i=0
  ·subst h0
   rw[ha] at hg;cases hg
   obtain⟨m₁,ops,h1,h2⟩:=uar (K:=K) (sl:=sl') G hF hAn hX ha hcs' hcom' hwg' hmode hrun
   refine hK _ m₁ ops t (hstep.trans h1) (h2.elim (fun ⟨μ',h3,h4⟩=>ih μ' h3 _ _ h4) id)
  ·by_cases hib:i<A.b
   ·obtain⟨m₁,ops,μ',h1,h2,h3⟩:=ue0 (sl:=sl') G hF hAr ha hcs' hcom' hwg' hmode (by omega) hib hg hrun
    exact hK _ m₁ ops t (hstep.trans h1) (ih μ' h2 _ _ h3)
   ·have hlt:i-A.b<j:=by have:=(Array.getElem?_eq_some_iff.1 hg).1;rw[hcom.size] at this;omega
    obtain⟨m₁,ops,μ',h1,h2,h3⟩:=uae (sl:=sl') G hF hAr ha hcs' hcom' hwg' hmode hlt (g:=g) (by rw[show A.b+(i-A.b)=i by omega];exact hg) hrun
    rw[show A.b+(i-A.b)=i by omega] at h1
    exact hK _ m₁ ops t (hstep.trans h1) (ih μ' h2 _ _ h3)
theorem phase(G:A.Geo)(hF:A.FinOk)(hAr:∀ S g w,Anch S g w→g.status=.running) (hAn:∀ S g w,Anch S g w→A.MM (A.AtW1 Xt Anch) S g w) (hX:A.Exit Xt K)
  (hK:∀ m m' ops t,stepT A.P m=(.next m',ops)→K m' (t++ops)→K m t) {gs:Array Goroutine} {a:Goroutine} {sl:Option (Nat×Nat)} {t:Trace}
  (hi:Idle A.P A.Z A.b gs A.w0 t) (hnew:∀ i x,touchAt t i=some x→x.loc.low A.Wg) (ha:gs[0]? = some a) (hwg:WgAt A.ty A.Wg A.w0 0 0) (hs:A.Spawns Anch A.n nob a A.w0):K (crowd gs A.w0 sl) t:=by
 have hb:=G.b
 obtain⟨τ,hτ⟩:∃ τ:Nat→Tr,∀ i,0<i→i<A.b→∃ g m,gs[i]? = some g∧τ i=.ofNat m∧QuitsD A.P m (Deaf t i) g:=by
  have:∀ i,∃ x:Tr,0<i→i<A.b→∃ g m,gs[i]? = some g∧x=.ofNat m∧QuitsD A.P m (Deaf t i) g:=by
   intro i
   by_cases h:0<i∧i<A.b
   ·obtain⟨g,m,h1,h2⟩:=hi.old i h.1 h.2
    exact⟨.ofNat m,fun _ _=>⟨g,m,h1,rfl,h2⟩⟩
   ·exact⟨.leaf,fun h1 h2=>absurd ⟨h1,h2⟩ h⟩
  exact⟨fun i=>(this i).choose,fun i=>(this i).choose_spec⟩
 have hsh:∀ l,¬ A.Sh l→¬ ShZ A.Z l:=fun l h ⟨a,e,hz⟩=>h ⟨a,e,.inl hz⟩
 have hcom:A.Com 0 gs A.w0 t (fun _=>⟨0,0,0⟩) 0 τ (fun _=>nob) nob:=by
  refine⟨hi.size,Nat.zero_le _,hτ,fun i h=>by omega,⟨⟨fun i op x hop hx hl => ?_,fun k k1 kj l hl=>by have:=hl.1;omega,fun k k1 kj l hl=>by have:=hl.1;omega,fun l hl hn=>hi.ct.free l (hsh l hl) fun _ _ _=>⟨id,id⟩,fun l hl hn=>hi.ct.mine l (hsh l hl) fun _ _ _=>id,hi.ct.nr,hi.ct.gs⟩,
   hi.norel,hi.low,fun i x hx hn=>hi.pl i x hx (hsh _ hn),fun i g h1 h2 _ h3=>hi.over i g h1 h2 h3⟩,hi.hears,fun i h=>by omega,fun i h=>by omega,⟨fun _ _ h=>h.elim,fun _ _ _ h=>h,fun _ _ _ h=>h.elim,fun _ h=>h.elim,fun _ _ h=>h.elim⟩,RK.refl _ _ _⟩
  obtain⟨a,e,hz⟩:=hl
  rcases hz with hz | hz
  ·exact hi.ct.quiet i op x hop hx ⟨a,e,hz⟩
  ·have:=hnew i x (by rw[touchAt_of hop];exact hx)
   rw[e] at this
   have:a.block<A.Wg:=this
   omega
 have hV:Vc 0 (fun _=>(⟨0,0,0⟩:WD))=0:=rfl
 have hm:∀ tag,isOpen tag→pend tag=0→(∀ vs,tag≠.w2 vs)→Go.ConcN.Mode 0 (fun _=>(⟨0,0,0⟩:WD)) tag 0 0:=fun tag h1 h2 h3=>by
  have:=Go.ConcN.Mode.opn (j:=0) (D:=fun _=>(⟨0,0,0⟩:WD)) h1 (fun i hi=>by omega) (fun vs e=>absurd e (h3 vs))
  simpa [Vc,sumTo,h2] using this
 cases hn:A.n with
 | zero=>
  rw[hn] at hs
  obtain⟨τ0,hk⟩:=hs
  have hms:A.MSit Xt Anch .kd A.n τ0 nob 0 a A.w0:=.kd hk
  rw[hn] at hms
  exact u6q G hF hAr hAn hX hK _ _ _ ⟨gs,A.w0,sl,0,_,.kd,τ,τ0,_,nob,0,a,0,0,rfl,ha,hms,hcom,hwg,hm .kd trivial rfl (by simp),rfl⟩
 | succ r=>
  rw[hn] at hs
  obtain⟨τ0,hk⟩:=hs
  have hms:=MSit.skd (A:=A) (Xt:=Xt) (by omega) hk
  rw[show A.n-(r+1)=0 by omega] at hms
  exact u6q G hF hAr hAn hX hK _ _ _ ⟨gs,A.w0,sl,0,_,.sp r 5,τ,τ0,_,nob,0,a,0,0,rfl,ha,hms,hcom,hwg,hm (.sp r 5) trivial rfl (by simp),rfl⟩
end Ph
def nob'(_:Nat):Prop:=False
theorem ucu{e:Event}(h:Event.mute e=true):∀ a,e.loc≠.mark (.release a):=fun a hx=>by
 obtain⟨l,wr,sy⟩:=e
 simp only at hx
 subst hx
 simp[Event.mute] at h
section
variable {P:Program} {Z:Nat→Prop} {b:Nat} {gs:Array Goroutine} {w w':World} {t:Trace}
theorem u73(Sh:Loc→Prop):Apart Sh nol nol:=⟨fun _ _ _ h=>h.elim,fun _ _ _ h=>h.elim,fun _ _ h=>h.elim,fun _ _ h=>h.elim⟩
theorem Idle.at(h:Idle P Z b gs w t)(d:Nat):Idle P Z b gs (w.at d) t:=⟨h.size,h.b1,h.old,h.ct,h.norel,h.low,h.pl,h.over,h.hears,h.z⟩
theorem u1u{S R:Nat→Prop}{e:Event}(h:EvIn S R e):(∀ x,(MemAct.ofEvent e).touch? = some x→∃ a,x.loc=.cell a∧x.kind=.plain∧(S a.block∨(R a.block∧x.write=false)))∧e.loc≠.mark .disable∧e.loc≠.mark .enable∧∀ a,e.loc≠.mark (.release a):=by
 rcases h with⟨a,wr,rfl,h⟩ | ⟨m,rfl,h⟩
 ·refine⟨fun x hx => ?_,by simp,by simp,by simp⟩
  simp only[ofEvent_cell,MemAct.touch?,Option.some.injEq] at hx
  subst hx
  exact⟨a,rfl,rfl,h⟩
 ·rcases h with rfl | ⟨f,rfl⟩
  ·exact⟨fun x hx=>by simp[MemAct.ofEvent,MemAct.touch?] at hx,by simp,by simp,by simp⟩
  ·exact⟨fun x hx=>by simp[MemAct.ofEvent,MemAct.touch?] at hx,by simp,by simp,by simp⟩
theorem Idle.step0(h:Idle P Z b gs w t){S:Nat→Prop}(hz:∀ k,Z k→¬ S k)(hS:∀ k,S k→k<w'.heap.size)(hsz:w.heap.size≤w'.heap.size){g g':Goroutine}{fn:FuncId}{pos:String}{es:Array Event}(hev:∀ e∈es,EvIn S nob' e) :
  Idle P Z b ((gs.map (woken P g g' w')).setIfInBounds 0 g') w' (t++MemOp.ofEvents 0 fn pos es):=by
 have hok:∀ op∈MemOp.ofEvents 0 fn pos es,Ok0 (ShZ Z) nol nol (b-1) op:=fun op hop=>by
  obtain⟨e,he,rfl⟩:=Go.Conc.mem_ofEvents hop
  refine⟨rfl,fun x hx=>.inr ⟨?_,fun _ _ _ h=>h,fun _ _ _ _ h=>h⟩⟩
  obtain⟨a,h1,h2,h3⟩:=(u1u (hev e he)).1 x hx
  rw[h1]
  rintro⟨a',e',hz'⟩
  cases e'
  rcases h3 with h3 | ⟨h3,_⟩
  ·exact hz _ hz' h3
  ·exact h3.elim
 refine⟨by simp[h.size],h.b1,fun i i0 ib => ?_,h.ct.app0 (u73 _) hok,fun op hop a => ?_,fun i x hx => ?_,fun i x hx hn => ?_,handedOver_app h.over fun op hop=>.inl (hok op hop).1,?_,fun k hk=>Nat.lt_of_lt_of_le (h.z k hk) hsz⟩
 ·obtain⟨x,m,h1,h2⟩:=h.old i i0 ib
  exact⟨x,m,by rw[get_map_set _ _ _ _ (by omega),h1,Option.map_some,woken_quitsD h2],by rw[Deaf_other t (by omega) _ g_of_ofEvents];exact h2⟩
 ·rcases Array.mem_append.1 hop with hop | hop
  ·exact h.norel op hop a
  ·obtain⟨e,he,rfl⟩:=Go.Conc.mem_ofEvents hop
   exact fun e'=>(u1u (hev e he)).2.2.2 a (Go.ConcR.loc_of_ofEvent e')
 ·rcases u2n hx with h1 | ⟨e,he,h1⟩
  ·exact Loc.low_mono hsz (h.low i x h1)
  ·obtain⟨a,h2,_,h3⟩:=(u1u (hev e he)).1 x h1
   rw[h2]
   rcases h3 with h3 | ⟨h3,_⟩
   ·exact hS _ h3
   ·exact h3.elim
 ·rcases u2n hx with h1 | ⟨e,he,h1⟩
  ·exact h.pl i x h1 hn
  ·obtain⟨a,h2,h3,_⟩:=(u1u (hev e he)).1 x h1
   rw[h2,h3];exact⟨by simp,rfl⟩
 ·rw[Deaf_own,h.hears]
  exact deafBehind_idle (fun e he=>⟨(u1u (hev e he)).2.1,(u1u (hev e he)).2.2.1⟩) 0
theorem Idle.stepO(h:Idle P Z b gs w t){i:Nat}(hi0:0<i)(hib:i<b){g g':Goroutine}{fn:FuncId}{pos:String}{es:Array Event}{m:Nat}
  (hm:∀ e∈es,Event.mute e=true) (hq:QuitsD P m (deafBehind (Deaf t i) es) g'):Idle P Z b ((gs.map (woken P g g' w)).setIfInBounds i g') w (t++MemOp.ofEvents i fn pos es):=by
 have hnt:∀ e∈es,(MemAct.ofEvent e).touch? = none:=fun e he=>touch_mute (hm e he)
 have hold:∀ k x,touchAt (t++MemOp.ofEvents i fn pos es) k=some x→touchAt t k=some x:=fun k x hx=>by
  rcases u2n hx with h1 | ⟨e,he,h1⟩
  ·exact h1
  ·rw[hnt e he] at h1;cases h1
 refine⟨by simp[h.size],h.b1,fun a a0 ab => ?_,h.ct.appW (u73 _) (k:=i) (by omega) (by omega) (fun op hop => ?_),fun op hop a => ?_,fun k x hx=>h.low k x (hold k x hx),fun k x hx=>h.pl k x (hold k x hx),handedOver_app h.over fun op hop=>.inr ?_,
  by rw[Deaf_other t (by omega) _ g_of_ofEvents,h.hears],h.z⟩
 ·by_cases e:a=i
  ·subst e
   exact⟨g',m,get_map_set_same _ _ _ (by rw[h.size];omega),by rw[Deaf_own];exact hq⟩
  ·obtain⟨x,m',h1,h3⟩:=h.old a a0 ab
   exact⟨x,m',by rw[get_map_set _ _ _ _ (fun x=>e x.symm),h1,Option.map_some,woken_quitsD h3],by rw[Deaf_other t (by omega) _ g_of_ofEvents];exact h3⟩
 ·obtain⟨e,he,rfl⟩:=Go.Conc.mem_ofEvents hop
  exact⟨rfl,fun x hx=>by simp only[hnt e he] at hx;cases hx⟩
 ·rcases Array.mem_append.1 hop with hop | hop
  ·exact h.norel op hop a
  ·obtain⟨e,he,rfl⟩:=Go.Conc.mem_ofEvents hop
   exact fun e'=>ucu (hm e he) a (Go.ConcR.loc_of_ofEvent e')
 ·obtain⟨e,he,rfl⟩:=Go.Conc.mem_ofEvents hop
  exact hnt e he
end
def Ends(P:Program)(Post:Value→World→Prop)(m:Machine)(t:Trace):Prop:=
 ∃ N last o w t',runNT P (N+1) m t=(.ended o w,t')∧runN P N m=.next last∧step P last=.ended o w∧Good P Post last o w t'
theorem Ends.back{P:Program}{Post:Value→World→Prop}{m m':Machine}{ops:Array MemOp}{t:Trace} (hs:stepT P m=(.next m',ops)) (h:Ends P Post m' (t++ops)):Ends P Post m t:=by
 obtain⟨n,last,o,w,t',h1,h2,h3,h4⟩:=h
 exact⟨n+1,last,o,w,t',by rw[runNT_succ_next hs];exact h1,by rw[runN_succ_next hs];exact h2,h3,h4⟩
def isCells(W:World)(k:Nat):Prop:=∃ c e f,W.heap[k]? = some (.cells c e f)
structure Ctxt (W:World) (S:Nat→Prop) (w:World) (Z:Nat→Prop):Prop where
 tape:w.tape=W.tape
 os:w.os=W.os
 output:w.output=W.output
 size:W.heap.size≤w.heap.size
 keep:∀ k,k<W.heap.size→¬ S k→w.heap[k]? = W.heap[k]?
 apart:∀ k,Z k→¬ S k
 zW:∀ k,Z k→W.heap.size≤k
 lt:∀ k,S k→k<w.heap.size
 orig:∀ k,S k→k<W.heap.size→isCells W k
section
variable (P:Program) (W:World) (Post:Value→World→Prop)
def MWin(g:Goroutine)(v:World):Prop:=
 ∀ S w Z b gs sl t,Hid S nob' w (v.at w.drawn)→Ctxt W S w Z→gs[0]? = some g→Idle P Z b gs w t→Ends P Post (crowd gs w sl) t
theorem Hid.at{S R:Nat→Prop}{w v:World}(h:Hid S R w v)(d:Nat):Hid S R (w.at d) (v.at d):=⟨h.tape,h.os,h.output,rfl,h.size,h.same,h.ro,h.veil,h.plain⟩
theorem Ctxt.at{S Z:Nat→Prop}{w:World}(h:Ctxt W S w Z)(d:Nat):Ctxt W S (w.at d) Z:=⟨h.tape,h.os,h.output,h.size,h.keep,h.apart,h.zW,h.lt,h.orig⟩
theorem u7l{Z:Nat→Prop}{b:Nat}{g:Goroutine}(hg:g.status=.running):∀ (τ:Nat→Tr) (gs:Array Goroutine) (w:World) (sl:Option (Nat×Nat)) (t:Trace),gs[0]? = some g→Idle P Z b gs w t →
  (∀ i,0<i→i<b→∃ x m,gs[i]? = some x∧τ i=.ofNat m∧QuitsD P m (Deaf t i) x) →
  (∀ gs w₀ d sl₀ sl t,gs[0]? = some g→Idle P Z b gs (w.at d) t→stepT P (crowd gs w₀ sl₀)=runT P (crowd gs (w.at d) sl) 0→Ends P Post (crowd gs w₀ sl₀) t)→Ends P Post (crowd gs w sl) t:=by
 intro τ
 induction τ using (u7s b).induction with
 | _ τ ih=>
  intro gs w sl t h0 hI hτ hend
  have hawake:∀ x∈gs,awake x:=by
   intro x hx
   obtain⟨i,hi⟩:=Array.mem_iff_getElem?.1 hx
   by_cases e:i=0
   ·subst e
    rw[h0] at hi;cases hi
    exact awake_of (.inl hg)
   ·obtain⟨y,m,h1,_,h3⟩:=hτ i (by omega) (by have:=(Array.getElem?_eq_some_iff.1 hi).1;rw[hI.size] at this;exact this)
    rw[hi] at h1;cases h1
    exact awake_of (h3.status.elim .inl fun x=>.inr (.inr x))
  obtain⟨i,x,d,sl',hx,hrun,hstep⟩:=crowd_pick (P:=P) (w:=w) (sl:=sl) hawake ⟨0,g,h0,hg⟩
  by_cases e:i=0
  ·subst e
   exact hend gs w d sl sl' t h0 (hI.at d) hstep
  ·have hib:i<b:=by have:=(Array.getElem?_eq_some_iff.1 hx).1;rw[hI.size] at this;exact this
   obtain⟨y,m,h1,h2,h3⟩:=hτ i (by omega) hib
   obtain rfl:x=y:=by rw[hx] at h1;exact Option.some.inj h1
   cases m with
   | zero=>rw[h3.1] at hrun;cases hrun
   | succ m=>
    rcases h3 with⟨hf,_⟩ | ⟨_,g',es,hm,hst,hq⟩
    ·rw[hf] at hrun;cases hrun
    have hne:(i==0)=false:=by simp;omega
    have hrunT:=runT_crowd_go (P:=P) (sl:=sl') (i:=i) hx (by rw[hne];exact hst (w.at d))
    have hI':=(hI.at d).stepO (g:=x) (fn:=x.frame.fn) (pos:=x.frame.place) (by omega) hib hm hq
    refine Ends.back (hstep.trans hrunT) (ih (upd τ i (.ofNat m)) ⟨i,hib,by rw[upd_same,h2];exact Tr.ofNat_sub m,fun k hk=>upd_ne τ _ hk⟩ _ (w.at d) sl' _ ?_ hI' ?_ fun gs' w₀ d' sl₀ sl'' t' k1 k2 k3=>hend gs' w₀ d' sl₀ sl'' t' k1 k2 k3)
    ·rw[get_map_set _ _ _ _ (by omega),h0,Option.map_some,woken_run hg]
    ·intro a a0 ab
     by_cases e':a=i
     ·subst e'
      exact⟨g',m,get_map_set_same _ _ _ (by rw[hI.size];omega),by rw[upd_same],by rw[Deaf_own];exact hq⟩
     ·obtain⟨z,m',k1,k2,k3⟩:=hτ a a0 ab
      exact⟨z,m',by rw[get_map_set _ _ _ _ (fun x=>e' x.symm),k1,Option.map_some,woken_quitsD k3],by rw[upd_ne τ _ e'];exact k2,by rw[Deaf_other t (by omega) _ g_of_ofEvents];exact k3⟩
end
end Go.Rf
namespace Go.Rf
open Go Go.Conc Go.ConcN
open Go.ConcR (KK wgBlock WgAt stA smA rd wr Payload DC0 Bk g_of_ofEvents ofEvent_loc_mark ofEvent_cell bk_of_mute)
variable (P:Program) (W:World) (Post:Value→World→Prop)
theorem u3o{v w:World}(h:v.drawn=w.drawn):v.at w.drawn=v:=by
 rw[← h];rfl
theorem Ctxt.step{W:World}{S Z:Nat→Prop}{w w':World}(h:Ctxt W S w Z)(hk:Kept S w w')(hZ:∀ k,Z k→k<w.heap.size):Ctxt W (Grow S w.heap.size w'.heap.size) w' Z:=by
 refine⟨hk.tape.trans h.tape,hk.os.trans h.os,hk.output.trans h.output,Nat.le_trans h.size hk.size,fun k hl hn => ?_,fun k hz hs => ?_,h.zW,fun k hs => ?_,fun k hs hl => ?_⟩
 ·have h1:¬ S k:=fun x=>hn (.inl x)
  exact (hk.out k (Nat.lt_of_lt_of_le hl h.size) h1).trans (h.keep k hl h1)
 ·rcases hs with hs | hs
  ·exact h.apart k hz hs
  ·have:=hZ k hz;omega
 ·rcases hs with hs | hs
  ·exact Nat.lt_of_lt_of_le (h.lt k hs) hk.size
  ·exact hs.2
 ·rcases hs with hs | hs
  ·exact h.orig k hs hl
  ·have:=h.size;omega
theorem ubz{fr:Frame}{cs:List Frame}{v:World} (h:∀ v₁,(∃ d,v₁=v.at d)→∃ g' v',OkStep P true (G fr cs) v₁ g' v'∧MWin P W Post g' v'):MWin P W Post (G fr cs) v:=by
 intro S w Z b gs sl t hh hc h0 hI
 obtain⟨τ,hτ⟩:∃ τ:Nat→Tr,∀ i,0<i→i<b→∃ g m,gs[i]? = some g∧τ i=.ofNat m∧QuitsD P m (Deaf t i) g:=by
  have:∀ i,∃ x:Tr,0<i→i<b→∃ g m,gs[i]? = some g∧x=.ofNat m∧QuitsD P m (Deaf t i) g:=by
   intro i
   by_cases h:0<i∧i<b
   ·obtain⟨g,m,h1,h2⟩:=hI.old i h.1 h.2
    exact⟨.ofNat m,fun _ _=>⟨g,m,h1,rfl,h2⟩⟩
   ·exact⟨.leaf,fun h1 h2=>absurd ⟨h1,h2⟩ h⟩
  exact⟨fun i=>(this i).choose,fun i=>(this i).choose_spec⟩
 refine u7l P Post (g:=G fr cs) rfl τ gs w sl t h0 hI hτ fun gs w₀ d sl₀ sl t h0 hI hst => ?_
 obtain⟨g',v',⟨_,hok⟩,hwin⟩:=h (v.at d) ⟨d,rfl⟩
 obtain⟨w',es,hs,hh',hk,hev⟩:=hok S nob' (w.at d) (hh.at d) (fun _ _ h=>h)
 have hrun:=runT_crowd_go (P:=P) (sl:=sl) (i:=0) h0 (show stepG P (0==0) (G fr cs) (w.at d)=_ from hs)
 have hc':=(Ctxt.at W hc d).step hk hI.z
 have hI':=hI.step0 (g:=G fr cs) (g':=g') (fn:=(G fr cs).frame.fn) (pos:=(G fr cs).frame.place) (S:=Grow S (w.at d).heap.size w'.heap.size) hc'.apart hc'.lt hk.size hev
 exact Ends.back (hst.trans hrun) (hwin _ w' Z b _ sl _ (by rw[u3o hh'.drawn];exact hh') hc' (get_map_set_same _ _ _ (by rw[hI.size];exact hI.b1)) hI')
theorem ub1{f:FuncId}{fn:Func}{a:Act}{todo:List Item}{v:World} (hf:P.funcs[f]? = some fn) (hd:a.defers=[]) (ht:Tame P (results fn a.tmps))
  (hr:∀ v₁,(∃ d,v₁=v.at d)→∃ u v',(results fn a.tmps).run P v₁=.ok u v'∧P.inits.idxOf? f=none∧∀ S w Z,Hid S nob' w (v'.at w.drawn)→Ctxt W S w Z→Post u w):MWin P W Post (G { (base f).atR a todo with mode:=.returning } []) v:=by
 intro S w Z b gs sl t hh hc h0 hI
 obtain⟨τ,hτ⟩:∃ τ:Nat→Tr,∀ i,0<i→i<b→∃ g m,gs[i]? = some g∧τ i=.ofNat m∧QuitsD P m (Deaf t i) g:=by
  have:∀ i,∃ x:Tr,0<i→i<b→∃ g m,gs[i]? = some g∧x=.ofNat m∧QuitsD P m (Deaf t i) g:=by
   intro i
   by_cases h:0<i∧i<b
   ·obtain⟨g,m,h1,h2⟩:=hI.old i h.1 h.2
    exact⟨.ofNat m,fun _ _=>⟨g,m,h1,rfl,h2⟩⟩
   ·exact⟨.leaf,fun h1 h2=>absurd ⟨h1,h2⟩ h⟩
  exact⟨fun i=>(this i).choose,fun i=>(this i).choose_spec⟩
 refine u7l P Post rfl τ gs w sl t h0 hI hτ fun gs w₀ d sl₀ sl t h0 hI hst => ?_
 obtain⟨u,v',hru,hi,hpost⟩:=hr (v.at d) ⟨d,rfl⟩
 obtain⟨w',new,h1,hh',hk,hev⟩:=u15 _ ht #[] (hh.at d) (fun _ _ h=>h) hru
 have hc':=(Ctxt.at W hc d).step hk hI.z
 have hs:stepG P true (G { (base f).atR a todo with mode:=.returning } []) (w.at d)=.ended (.done u) w' (seen P f (#[]++new)++#[]):=by
  simp only[G,stepG,unwind,doReturn,Frame.atR,base,hd,hf,h1,GStep.after,hi]
  simp
 have hrun:=runT_many_ended (P:=P) (sl:=sl) (i:=0) h0 (show stepG P (0==0) _ (w.at d)=_ from hs)
 have hev':∀ e∈seen P f (#[]++new)++#[],EvIn (Grow S (w.at d).heap.size w'.heap.size) nob' e:=fun e he=>hev e (by
  simp only[Array.append_empty] at he
  simpa using Conc.mem_seen he)
 have hI':=hI.step0 (g:=default) (g':=default) (fn:=f) (pos:=(G { (base f).atR a todo with mode:=.returning } []).frame.place) (S:=Grow S (w.at d).heap.size w'.heap.size) hc'.apart hc'.lt hk.size hev'
 refine⟨0,_,.done u,w',_,by simp only[runNT,hst,hrun];rfl,rfl,by simp only[step,hst,hrun],u,rfl,hpost _ w' Z (by rw[u3o hh'.drawn];exact hh') hc',hI'.ct.nr,hI'.over,⟨fun x hx => ?_,rfl⟩,fun j x hx hj => ?_⟩
 ·obtain⟨j,hj⟩:=List.mem_iff_getElem?.1 hx
  rw[List.getElem?_drop] at hj
  have hj':gs[1+j]? = some x:=by simpa [crowd] using hj
  have hlt:1+j<b:=by have:=(Array.getElem?_eq_some_iff.1 hj').1;rw[hI.size] at this;exact this
  obtain⟨y,m,k1,k2⟩:=hI.old (1+j) (by omega) hlt
  rw[hj'] at k1;cases k1
  exact⟨_,k2.leaves⟩
 ·have hx':gs[j]? = some x:=hx
  have hlt:j<b:=by have:=(Array.getElem?_eq_some_iff.1 hx').1;rw[hI.size] at this;exact this
  obtain⟨y,m,k1,k2⟩:=hI.old j (by omega) hlt
  rw[hx'] at k1;cases k1
  refine⟨m,?_⟩
  have e:∀ (fn:FuncId) (pos:String) (es:Array Event),(t++MemOp.ofEvents 0 fn pos es).deaf j (t++MemOp.ofEvents 0 fn pos es).size=Deaf t j:=fun fn pos es=>
   Deaf_other t (g:=j) (g':=0) (by omega) _ (fun op hop=>by obtain⟨e,_,rfl⟩:=Go.Conc.mem_ofEvents hop;rfl)
  rw[e]
  exact k2.hears _
def mainJ:Jd P where
 main:=true
 nz v v₁:=∃ d,v₁=v.at d
 nz_ok:=fun ⟨d,e⟩=>by subst e;exact⟨rfl,rfl,rfl,Nat.le_refl _,fun _ _=>rfl⟩
 Win:=MWin P W Post
 rely:=fun ⟨d,e⟩ h=>by subst e;exact h
 step:=ubz P W Post
 root f u v':=P.inits.idxOf? f=none∧∀ S w Z,Hid S nob' w (v'.at w.drawn)→Ctxt W S w Z→Post u w
 done:=ub1 P W Post
theorem u8b{f:FuncId}{vals:Array Value}{v:World}{S:Nat→Prop}(hh:Hid S nob' W v)(hS:∀ k,S k→k<W.heap.size)(hO:∀ k,S k→isCells W k)(hi:P.inits.idxOf? f=none)
  (h:(mainJ P W Post).calls f vals v fun u v'=>∀ S w Z,Hid S nob' w (v'.at w.drawn)→Ctxt W S w Z→Post u w):Ends P Post (solo (G (Frame.enter P f vals .normal) []) W) #[]:=by
 have hw:=h [] fun u v' hp=>⟨hi,hp⟩
 refine hw S W nob' 1 #[G (Frame.enter P f vals .normal) []] none #[] (by rw[u3o hh.drawn];exact hh) ⟨rfl,rfl,rfl,Nat.le_refl _,fun _ _ _=>rfl,fun _ h=>h.elim,fun _ h=>h.elim,hS,fun k hk _=>hO k hk⟩ rfl ?_
 refine⟨rfl,Nat.le_refl _,fun i h1 h2=>by omega,CT.lone (by simp) (by simp),by simp,fun i x hx => ?_,fun i x hx => ?_,fun i g hg => ?_,rfl,fun k h=>h.elim⟩
 ·simp[touchAt,Trace.act?] at hx
 ·simp[touchAt,Trace.act?] at hx
 ·simp[Trace.g?] at hg
end Go.Rf
namespace Go.Rf
open Go Go.Conc Go.ConcN Go.RowKit
section
variable {P:Program} {W:World}
theorem u2i(W:World):Hid (isCells W) nob' W (hideW (isCells W) nob' W):=uc4 (fun _ _ h=>h) (fun k o ⟨c,e,f,h⟩ ho=>by rw[h] at ho;cases ho;rfl) (fun _ h=>h.elim)
theorem u65{ad:Addr}{u:Value}(h:W.cell? ad=some u):(hideW (isCells W) nob' W).cell? ad=some u:=by
 have hc:isCells W ad.block:=by
  unfold World.cell? at h
  split at h
  ·rename_i e;exact⟨_,_,_,e⟩
  ·cases h
 have:=(u2i W).same _ hc
 unfold World.cell? at *
 rw[this];exact h
theorem u3w{p:PV}{v:Value}(h:DA W p v):DA (hideW (isCells W) nob' W) p v:=by
 cases p with
 | s a=>exact h
 | row sz len b=>
  obtain⟨h1,h2,a,cap,h3,h4,h5⟩:=h
  refine⟨h1,h2,a,cap,h3,h4,fun hl => ?_⟩
  obtain⟨B,o,k1,k2,k3⟩:=h5 hl
  refine⟨B,o,k1,by rw[(u2i W).size];exact k2,fun j q hj hq => ?_⟩
  obtain⟨u,g1,g2⟩:=k3 j q hj hq
  exact⟨u,u65 g1,g2⟩
theorem ucm{p:PT}{v:Value}(h:DT W p v):DT (hideW (isCells W) nob' W) p v:=by
 cases p with
 | one p=>exact u3w h
 | agg ps=>
  obtain⟨arr,h1,h2⟩:=h
  exact⟨arr,h1,h2.mono fun _ _ _ h=>u3w h⟩
 | ptr ps=>
  obtain⟨B,o,h1,h2,h3⟩:=h
  refine⟨B,o,h1,by rw[(u2i W).size];exact h2,fun j p hp => ?_⟩
  obtain⟨u,g1,g2⟩:=h3 j p hp
  exact⟨u,u65 g1,u3w g2⟩
 | fn f caps=>
  obtain⟨cs,h1,h2⟩:=h
  exact⟨cs,h1,h2.mono fun _ _ _ h=>u3w h⟩
theorem law_ends{g:FuncId} {F:List PT→Option (Bool×AV×List Blk)} {fi:FnI} (hs:SumOne (mainJ P W fun v w=>v=.bool true∧Below W.heap.size W w) g F) (hf:FnOk P g fi) (hi:P.inits.idxOf? g=none) {pts:List PT} {vals:Array Value} (hv:All2 (DT W) pts vals.toList)
  (hp:F pts=some (true,A1 (.bool true),[])):Ends P (fun v w=>v=.bool true∧Below W.heap.size W w) (solo (G (Frame.enter P g vals .normal) []) W) #[]:=by
 have hh:=u2i W
 refine u8b P W _ (S:=isCells W) hh (fun k ⟨c,e,f,h⟩=>(Array.getElem?_eq_some_iff.1 h).1) (fun k h=>h) hi ?_
 have hres:=hs pts _ _ hp (hideW (isCells W) nob' W) vals (hv.mono fun _ _ _ h=>ucm h)
 rcases hres with⟨_,⟨v,w',h1,h2⟩ | ⟨h1,h2⟩⟩
 ·exfalso
  obtain⟨fn,q1,q2,q3,q4,q5⟩:=hf.ex
  have h5':fn.name ≠ "runtime.NumGoroutine" := by simpa using q5
  simp[callFunc,q1,h5',q2] at h1
 ·refine Jd.calls_mono h2 fun u v' ⟨γ,k1,k2⟩ S w Z hid hc=>⟨k2,?_⟩
  refine⟨hc.os,hc.tape,hc.output,hc.size,fun k hk => ?_⟩
  by_cases hS:S k
  ·have e1:=hid.same k hS
   rw[show (v'.at w.drawn).heap=v'.heap from rfl] at e1
   have e2:=k1.fr.block k (by rw[hh.size];exact hk) fun h=>h
   rw[← e1,e2,hh.same k (hc.orig k hS hk)]
  ·exact hc.keep k hk hS
end
end Go.Rf
namespace Go.Rf
open Go Go.Conc Go.ConcN
open Go.ConcR (KK wgBlock WgAt stA smA rd wr Payload DC0 Bk g_of_ofEvents ofEvent_loc_mark ofEvent_cell bk_of_mute)
structure NzV (v v₁:World):Prop where
 tape:v₁.tape=v.tape
 os:v₁.os=v.os
 output:v₁.output=v.output
 size:v.heap.size≤v₁.heap.size
 old:∀ k,k<v.heap.size→v₁.heap[k]? = v.heap[k]?
 new:∀ k,v.heap.size≤k→k<v₁.heap.size→v₁.heap[k]? = some veil
theorem NzV.refl(v:World):NzV v v:=⟨rfl,rfl,rfl,Nat.le_refl _,fun _ _=>rfl,fun k h1 h2=>by omega⟩
theorem NzV.trans{a b c:World}(h:NzV a b)(k:NzV b c):NzV a c:=
 ⟨k.tape.trans h.tape,k.os.trans h.os,k.output.trans h.output,Nat.le_trans h.size k.size,fun i hi=>(k.old i (Nat.lt_of_lt_of_le hi h.size)).trans (h.old i hi),fun i h1 h2=>by
  rcases Nat.lt_or_ge i b.heap.size with hlt | hge
  ·rw[k.old i hlt];exact h.new i h1 hlt
  ·exact k.new i hge h2⟩
theorem NzV.nz{v v₁:World}(h:NzV v v₁):Nz v v₁:=⟨h.tape,h.os,h.output,h.size,h.old⟩
def extV(v:World)(n d:Nat):World:={ v with heap:=v.heap++Array.replicate (n-v.heap.size) veil,drawn:=d }
theorem u0u(v:World)(n d k:Nat):(extV v n d).heap[k]? = if k<v.heap.size then v.heap[k]? else if k<v.heap.size+(n-v.heap.size) then some veil else none:=by
 unfold extV
 simp only[Array.getElem?_append]
 split
 ·rfl
 ·simp only[Array.getElem?_replicate]
  split<;>split<;>first | rfl | omega
theorem u6d(v:World)(n d:Nat):NzV v (extV v n d):=
 ⟨rfl,rfl,rfl,by simp[extV],fun k hk=>by rw[u0u,if_pos hk],fun k h1 h2=>by
  have:(extV v n d).heap.size=v.heap.size+(n-v.heap.size):=by simp[extV]
  rw[u0u,if_neg (by omega),if_pos (by omega)]⟩
namespace Ph
variable (A:Ph) (main:Bool) (mi:Addr→Prop) (Stop:(Nat→Prop)→Goroutine→World→Prop) (R:Nat→Prop) (Pr:World→Prop)
structure WCtx (S:Nat→Prop) (w:World):Prop where
 pr:Pr w
 rng:∀ k,S k→A.N0≤k∧k<w.heap.size
 live:A.Live w
 world:A.RK nob Ph.no A.w0 w
def WWin(g:Goroutine)(v:World):Prop:=∀ S w v₁,NzV v v₁→Hid S R w (v₁.at w.drawn)→A.WCtx Pr S w→A.MW main mi Stop S g w
structure WOk:Prop where
 geo:A.Geo
 ro:∀ k,R k→A.Ro k
 row:∀ a,mi a→A.Row a.block
 pr:∀ w w',(∀ a,mi a→w'.cell? a=w.cell? a)→Pr w→Pr w'
variable {A main mi Stop R Pr}
theorem WCtx.rely(H:A.WOk mi R Pr){S:Nat→Prop}{w w₁:World}(h:A.WCtx Pr S w)(hr:A.RK S mi w w₁):A.WCtx Pr S w₁:=
 ⟨H.pr _ _ hr.cel h.pr,fun k hk=>⟨(h.rng k hk).1,Nat.lt_of_lt_of_le (h.rng k hk).2 hr.size⟩,hr.live h.live,h.world.trans (hr.mono (fun _ h=>h.elim) (fun _ h=>h.elim))⟩
theorem ubb(H:A.WOk mi R Pr){fr:Frame}{cs:List Frame}{v:World} (h:∀ v₁,NzV v v₁→∃ g' v',OkStep A.P main (G fr cs) v₁ g' v'∧A.WWin main mi Stop R Pr g' v'):A.WWin main mi Stop R Pr (G fr cs) v:=by
 intro S w v₁ hz hh hc
 have G:=H.geo
 refine MW.step rfl fun w₁ hr => ?_
 have hc₁:=hc.rely H hr
 have hsz:v₁.heap.size=w.heap.size:=hh.size
 have hN:A.N0≤w.heap.size:=Nat.le_trans G.n0 hc.world.size
 have hid:Hid S R w₁ (extV v₁ w₁.heap.size w₁.drawn):=by
  have hle:=hr.size
  refine⟨(by show v₁.tape=_;rw[hr.tape];exact hh.tape),(by show v₁.os=_;rw[hr.os];exact hh.os),(by show v₁.output=_;rw[hr.output];exact hh.output),rfl,by simp[extV];omega,fun k hk => ?_,fun k hk => ?_,fun k hl hk hn => ?_,fun k o hk ho => ?_⟩
  ·have:=(hc.rng k hk).2
   rw[u0u,if_pos (by omega),hr.blk k this (.inl hk)]
   exact hh.same k hk
  ·have hk':=(H.ro k hk).1
   have:=hk'.1
   rw[u0u,if_pos (by omega),hr.blk k (by omega) (.inr hk')]
   exact hh.ro k hk
  ·rw[u0u]
   split
   ·rename_i hlt
    exact hh.veil k (by omega) hk hn
   ·rw[if_pos (by omega)]
  ·rw[hr.blk k (hc.rng k hk).2 (.inl hk)] at ho
   exact hh.plain k o hk ho
 have hdis:∀ k,S k→¬ R k:=fun k h1 h2=>by have:=(hc.rng k h1).1;have:=(H.ro k h2).1.1;omega
 obtain⟨g',v',⟨_,hok⟩,hwin⟩:=h _ (hz.trans (u6d v₁ w₁.heap.size w₁.drawn))
 obtain⟨w',es,hs,hh',hk,hev⟩:=hok S R w₁ hid hdis
 have hrow:∀ k,A.Row k→¬ S k:=fun k h1 h2=>by have:=(hc.rng k h2).1;have:=(G.row k h1).1;omega
 have hrl:∀ k,A.Row k→k<w₁.heap.size:=fun k h1=>by have:=(G.row k h1).1;have:=hr.size;omega
 have hsame:∀ k,A.Row k→w'.heap[k]? = w₁.heap[k]? := fun k h1=>hk.out k (hrl k h1) (hrow k h1)
 have hcel:∀ a:Addr,A.Row a.block→w'.cell? a=w₁.cell? a:=fun a h1=>by unfold World.cell?;rw[hsame _ h1]
 have hgk:A.GK main S mi w₁ w' es:=by
  refine⟨hk.tape,hk.os,hk.output,hk.size,fun k h1 h2 _=>hk.out k h1 h2,fun k h1=>u97 (hsame k h1),fun a h1 _=>hcel a h1,fun e he => ?_⟩
  rcases hev e he with⟨a,wr,rfl,ha⟩ | ⟨m,rfl,hm⟩
  ·exact .inl ⟨a,wr,rfl,ha.imp id fun x=>.inr ⟨x.2,H.ro _ x.1⟩⟩
  ·refine .inr ?_
   rcases hm with rfl | ⟨f,rfl⟩
   ·exact⟨fun x hx=>by simp[MemAct.ofEvent,MemAct.touch?] at hx,by simp,by simp,by simp⟩
   ·exact⟨fun x hx=>by simp[MemAct.ofEvent,MemAct.touch?] at hx,by simp,by simp,by simp⟩
 refine⟨g',w',es,hs,hgk,hwin _ w' v' (NzV.refl v') (by rw[u3o hh'.drawn];exact hh') ⟨H.pr _ _ (fun a ha=>hcel a (H.row a ha)) hc₁.pr,fun k hk' => ?_,?_,hc₁.world.trans ?_⟩⟩
 ·rcases hk' with hk' | hk'
  ·exact⟨(hc₁.rng k hk').1,Nat.lt_of_lt_of_le (hc₁.rng k hk').2 hk.size⟩
  ·have:=hr.size
   exact⟨by omega,hk'.2⟩
 ·obtain⟨st,sm,hl⟩:=hc₁.live
  refine⟨st,sm,?_⟩
  unfold WgAt at *
  rw[hk.out A.Wg (by have:=G.wg;have:=hr.size;omega) fun x=>by have:=(hc.rng _ x).1;have:=G.wg;omega]
  exact hl
 ·exact hgk.rk G (by have:=hr.size;omega) (fun k h=>(hc.rng k h).1) (fun k h=>h.elim) (fun k h _=>h.elim) (fun a h=>h.elim) (fun a h=>h.elim)
def phJ(main:Bool) (Stop:(Nat→Prop)→Goroutine→World→Prop) (H:A.WOk mi R Pr):Jd A.P where
 main:=main
 nz:=NzV
 nz_ok:=NzV.nz
 Win:=A.WWin main mi Stop R Pr
 rely:=fun hz h S w v₁ hz₁ hh hc=>h S w v₁ (hz.trans hz₁) hh hc
 step:=ubb H
 root:=fun _ _ _=>False
 done:=fun {f fn a todo v} _ _ _ h=>by
  obtain⟨_,_,_,hf⟩:=h v (NzV.refl v)
  exact hf.elim
end Ph
end Go.Rf
namespace Go.Rf
open Go Go.Conc Go.ConcN
def toCome(n:Nat)(listed:Array Bool):Nat:=(List.range n).countP fun j=>!listed.getD j true
theorem uao{n i:Nat}{listed:Array Bool}(hi:i<n)(h:listed.getD i true=false):toCome n (listed.setIfInBounds i true)+1≤toCome n listed:=by
 unfold toCome
 have hsz:i<listed.size:=by
  rcases Nat.lt_or_ge i listed.size with h' | h'
  ·exact h'
  ·rw[Array.getD_eq_getD_getElem?,Array.getElem?_eq_none h'] at h;cases h
 have hg:∀ j,(listed.setIfInBounds i true).getD j true=if j=i then true else listed.getD j true:=fun j=>by
  simp only[Array.getD_eq_getD_getElem?,Array.getElem?_setIfInBounds]
  by_cases e:i=j
  ·subst e;simp[hsz]
  ·rw[if_neg e,if_neg (fun x=>e x.symm)]
 have key:∀ l:List Nat,i∈l→l.countP (fun j=>!(listed.setIfInBounds i true).getD j true)+1≤l.countP fun j=>!listed.getD j true:=by
  intro l
  have mono:∀ l:List Nat,l.countP (fun j=>!(listed.setIfInBounds i true).getD j true)≤l.countP fun j=>!listed.getD j true:=fun l=>
   List.countP_mono_left fun j _ hj=>by
    rw[hg] at hj
    split at hj
    ·cases hj
    ·exact hj
  induction l with
  | nil=>intro h;cases h
  | cons a l ih=>
   intro hm
   simp only[List.countP_cons]
   rcases List.mem_cons.1 hm with rfl | hm
   ·have:=mono l
    have e1:(!(listed.setIfInBounds i true).getD i true)=false:=by rw[hg];simp
    have e2:(!listed.getD i true)=true:=by rw[h];rfl
    rw[e1,e2]
    simp only[Bool.false_eq_true,if_false,if_true]
    omega
   ·have:=ih hm
    have h2:(if (!(listed.setIfInBounds a true).getD a true)=true then 1 else 0)≤1:=by split<;>omega
    have h3:(if (!(listed.setIfInBounds i true).getD a true)=true then 1 else 0)≤(if (!listed.getD a true)=true then 1 else 0):=by
     rw[hg]
     split<;>split<;>simp_all
    omega
 exact key _ (List.mem_range.2 hi)
theorem ready_mem{md:Region.Mode}{ops:Array Oper}{listed:Array Bool}{i:Nat}(h:i∈Region.ready md ops listed):i<ops.size∧listed.getD i true=false∧∃ o,ops[i]? = some o∧o.after.all (fun e=>!Region.binds md e||listed.getD e.on false)=true:=by
 unfold Region.ready at h
 obtain⟨h1,h2⟩:=List.mem_filter.1 h
 rw[Bool.and_eq_true] at h2
 refine⟨List.mem_range.1 h1,by simpa using h2.1,?_⟩
 cases ho:ops[i]? with
 | none=>rw[ho] at h2;cases h2.2
 | some o=>rw[ho] at h2;exact⟨o,rfl,h2.2⟩
theorem ucj{md:Region.Mode}{ops:Array Oper}{listed:Array Bool}(h:toCome ops.size listed=0):Region.ready md ops listed=[]:=by
 rw[List.eq_nil_iff_forall_not_mem]
 intro i hi
 obtain⟨h1,h2,_⟩:=ready_mem hi
 unfold toCome at h
 rw[List.countP_eq_zero] at h
 have:=h i (List.mem_range.2 h1)
 rw[h2] at this
 exact this rfl
theorem any_order{ops:Array Oper}{md:Region.Mode}{I:Array Bool→Act→World→Prop}{Goal:List Nat→Array Bool→Act→World→Prop}
  (hend:∀ listed a v,I listed a v→Region.ready md ops listed=[]→Goal [] listed a v)
  (hstep:∀ i listed a v rest,I listed a v→i∈Region.ready md ops listed→(∀ a' v',I (listed.setIfInBounds i true) a' v'→Goal rest (listed.setIfInBounds i true) a' v')→Goal (i::rest) listed a v) :
  ∀ (fuel t:Nat) (listed:Array Bool) (a:Act) (v:World),toCome ops.size listed≤fuel→I listed a v→Goal (Region.linearise.go md ops fuel t listed []) listed a v:=by
 intro fuel
 induction fuel with
 | zero=>
  intro t listed a v hf hI
  simp only[Region.linearise.go,List.reverse_nil]
  exact hend _ _ _ hI (ucj (by omega))
 | succ fuel ih=>
  intro t listed a v hf hI
  simp only[Region.linearise.go]
  change Goal (match (Region.ready md ops listed)[t%(Region.ready md ops listed).length]? with
   | some i=>Region.linearise.go md ops fuel (t/(Region.ready md ops listed).length) (listed.setIfInBounds i true) [i]
   | none=>[].reverse) listed a v
  cases hi:(Region.ready md ops listed)[t%(Region.ready md ops listed).length]? with
  | none=>
   have hnil:Region.ready md ops listed=[]:=by
    cases hr:Region.ready md ops listed with
    | nil=>rfl
    | cons x xs=>
     rw[hr] at hi
     have hlt:t%(x::xs).length<(x::xs).length:=Nat.mod_lt _ (by simp)
     simp at hi
     simp at hlt
     omega
   exact hend _ _ _ hI hnil
  | some i=>
   simp only[]
   rw[linearise_go_acc,List.reverse_singleton,List.singleton_append]
   have hm:=List.mem_of_getElem? hi
   obtain⟨h1,h2,_⟩:=ready_mem hm
   exact hstep i listed a v _ hI hm fun a' v' hI'=>ih _ _ a' v' (by have:=uao h1 h2;omega) hI'
end Go.Rf
namespace Go.Rf
open Go Go.Conc Go.ConcN
open Go.ConcR (KK wgBlock WgAt stA smA rd wr Payload DC0 Bk)
section
variable {P:Program} {J:Jd P} {Γ:Ctx} {β:Bm} {H:List Blk} {a:Act} {w:World} {tm:List (Nat×AV)}
theorem Jd.opQ(hT:chkTab P Γ.ty=true){o:Oper}{x:AV}(hw:WR β H w)(hv:RTm β H tm a.tmps)(h:evQ Γ o.op tm H some=some x){K:Act→World→Prop}
  (hK:∀ u w',WR β H w'→RV β H x u→K (a.put o.dst u) w'):J.op o a w K:=
 Jd.op_value (u8f h) (u5c hT hv h) fun w₁ hz=>by
  have hw₁:=(J.nz_ok hz).wr hw
  obtain⟨x',u,w',h1,h2,h3,h4⟩:=u43 (P:=P) hT hw₁ hv h
  injection h4 with h4
  subst h4
  exact⟨u,w',.inl h1,hK u w' (h2.wr hw₁) h3⟩
theorem Jd.opCall{o:Oper}{c:Call}{f:Operand}{g:FuncId}{pts:List PT}{rd:List Nat}{v:AV} {F:List PT→Option (Bool×AV×List Blk)} (hS:SumOne J g F) (hw:WR β H w) (hv:RTm β H tm a.tmps)
  (hc:o.op=.call c) (hcf:c.callee=.value f) (hf:a.eval f=.func (.func g) #[] #[]) (hd:dpVs Γ H c.argTypes.toList (opnds tm c.args.toList)=some (pts,rd)) (hF:F pts=some (true,v,[])) (hm:∀ t,mV t v=false)
  {K:Act→World→Prop} (hK:∀ u w',WR β H w'→RV β H v u→K (a.put o.dst u) w'):J.op o a w K:=by
 have hx:execOp a.eval o=callFunc g (c.args.map a.eval):=by
  simp only[execOp,hc,resolve,hcf,Deferred.ofValue,hf]
  simp[invoke]
 refine Jd.op_call (fun c' e=>by rw[hc] at e;cases e) hx fun w₁ hz => ?_
 have hw₁:=(J.nz_ok hz).wr hw
 have hargs:All2 (RV β H) (opnds tm c.args.toList) (c.args.map a.eval).toList:=by simpa using u1y hv c.args.toList
 refine Jd.res_mono (hS _ _ _ hF w₁ _ (u2z hw₁ hargs hd)) fun u w' ⟨γ,k1,k2⟩ => ?_
 have hn:Nz w₁ w':=⟨k1.fr.tape,k1.fr.os,k1.fr.output,k1.fr.size,fun k hk=>k1.fr.block k hk id⟩
 exact hK u w' (hn.wr hw₁) (k2.move fun t ht=>by rw[hm t] at ht;cases ht)
theorem ua6{o:Oper}{T:Nat}{p x:Operand}{i:TI}(hop:o.op=.store T p x)(hT:TFact P T i)(hi:i.size=1){B j:Nat} (hp:a.eval p=.pointer (some ⟨B,j,none⟩)) (hone:oneV (a.eval x)=true)
  {c:Array Value} {e:TypeId} (hc:w.heap[B]? = some (.cells c e (0,0))) (hj:j<c.size) :
  (execOp a.eval o).runT P w #[]=(.ok .skip (w.setCell ⟨B,j,none⟩ (a.eval x)),#[⟨.cell ⟨B,j,none⟩,true,false⟩]):=by
 have hu:w.cell? ⟨B,j,none⟩=some c[j]:=by simp[World.cell?,hc,hj]
 have hfz:w.frozen? ⟨B,j,none⟩=false:=by simp[World.frozen?,hc]
 have hone':(a.eval x).oneCell'=true:=by
  revert hone
  cases a.eval x<;>intro h<;>first | rfl | cases h
 have hsz:=run_sizeOf' (w:=w) hT
 have hrun:(store ⟨B,j,none⟩ (a.eval x)).run P w=.ok () (w.setCell ⟨B,j,none⟩ (a.eval x)):=by rw[run_store P w _ _ .plain hone'];simp[hu,hfz]
 have hevs:∀ es,(store ⟨B,j,none⟩ (a.eval x)).events P w es=es.push ⟨.cell ⟨B,j,none⟩,true,false⟩:=fun es=>by rw[events_store P w es _ _ .plain hone'];simp[hu,hfz];rfl
 have hszE:∀ es,(sizeOf T).events P w es=es:=fun es=>by
  simp[sizeOf]
 have hcl:(a.eval x).cells=#[a.eval x]:=u5m hone
 rw[Sem.runT_eq]
 refine Prod.ext ?_ ?_
 ·simp only[execOp,hop,hp,Instr.storeAt,Instr.sureAddr,storeVar,Sem.run_bind,Sem.run_pure,Result.andThen_ok,hsz,hcl,hi]
  rw[if_neg (by simp)]
  simp[storeCells,hrun,u0k]
 ·simp only[execOp,hop,hp,Instr.storeAt,Instr.sureAddr,storeVar,Sem.events_bind,Sem.events_pure,Sem.run_bind,Sem.run_pure,Result.andThen_ok,Result.evThen_ok,hsz,hszE,hcl,hi]
  rw[if_neg (by simp)]
  simp[storeCells,hrun,hevs,u0k]
end
namespace Ph
variable {A:Ph} {main:Bool} {mi:Addr→Prop} {Stop:(Nat→Prop)→Goroutine→World→Prop} {R:Nat→Prop} {Pr Pr':World→Prop}
theorem wwin_store(H:A.WOk mi R Pr){b:Frame}{a:Act}{k:List Item}{cs:List Frame}{ops:Array Oper}{i:Nat}{rest:List Nat}{o:Oper}{T:Nat}{p x:Operand}{ti:TI}{v:World}
  (hb:b.kind≠.early) (ho:ops[i]? = some o) (hg:o.guard=none) (hop:o.op=.store T p x) (hT:TFact A.P T ti) (hi:ti.size=1) {B j:Nat} (hp:a.eval p=.pointer (some ⟨B,j,none⟩)) (hone:oneV (a.eval x)=true)
  (hm:mi ⟨B,j,none⟩) {e:TypeId} {n:Nat} (hsh:shp A.w0 B=some (e,(0,0),n)) (hj:j<n)
  (hPr:∀ w,Pr w→(∀ ad:Addr,ad≠⟨B,j,none⟩→(w.setCell ⟨B,j,none⟩ (a.eval x)).cell? ad=w.cell? ad)→(w.setCell ⟨B,j,none⟩ (a.eval x)).cell? ⟨B,j,none⟩=some (a.eval x)→Pr' (w.setCell ⟨B,j,none⟩ (a.eval x)))
  (hnext:∀ v₁,NzV v v₁→A.WWin main mi Stop R Pr' (G (b.atR (a.put o.dst undef) (.inRegion ops rest::k)) cs) v₁):A.WWin main mi Stop R Pr (G (b.atR a (.inRegion ops (i::rest)::k)) cs) v:=by
 intro S w v₁ hz hh hc
 have Ge:=H.geo
 refine MW.step rfl fun w₁ hr => ?_
 have hc₁:=hc.rely H hr
 have hsz:v₁.heap.size=w.heap.size:=hh.size
 have hrowB:A.Row B:=H.row _ hm
 have hBl:B<w₁.heap.size:=by have:=(Ge.row B hrowB).1;have:=Nat.le_trans Ge.n0 hc₁.world.size;omega
 obtain⟨c,hcB,hcs⟩:∃ c,w₁.heap[B]? = some (.cells c e (0,0))∧c.size=n:=by
  have h1:=hc₁.world.shape B hrowB
  rw[hsh] at h1
  unfold shp at h1
  split at h1
  ·rename_i c' e' f' h2
   simp only[Option.some.injEq,Prod.mk.injEq] at h1
   obtain⟨rfl,rfl,h3⟩:=h1
   exact⟨c',h2,h3⟩
  ·cases h1
 have hrun:=ua6 (P:=A.P) (w:=w₁) hop hT hi hp hone hcB (by omega)
 have hw:Region.wanted o (yielded ops a.tmps)=true:=by simp[Region.wanted,hg]
 have hd:∀ c,o.op≠.defer c:=fun c e=>by rw[hop] at e;cases e
 have hfin:(b.atR a (.inRegion ops (i::rest)::k)).finish undef=b.atR (a.put o.dst undef) (.inRegion ops rest::k):=by rw[Frame.finish_atR,ho];rfl
 obtain⟨es,hst,hes⟩:=u5f (fr:=b.atR a (.inRegion ops (i::rest)::k)) (cs:=cs) hb (fun d r s=>by simp[Frame.atR]) hrun (g':=G (b.atR (a.put o.dst undef) (.inRegion ops rest::k)) cs) (by simp only[goOf];rw[hfin])
 have hblk:∀ k,k≠B→(w₁.setCell ⟨B,j,none⟩ (a.eval x)).heap[k]? = w₁.heap[k]? := fun k hk=>u2p w₁ _ _ k hk
 have hBc:=u24 hcB j (a.eval x)
 have hsize:(w₁.setCell ⟨B,j,none⟩ (a.eval x)).heap.size=w₁.heap.size:=by simp[World.setCell]
 have hself:(w₁.setCell ⟨B,j,none⟩ (a.eval x)).cell? ⟨B,j,none⟩=some (a.eval x):=by
  have:j<c.size:=by omega
  simp[World.cell?,hBc,this]
 have hoth:∀ ad:Addr,ad≠⟨B,j,none⟩→(w₁.setCell ⟨B,j,none⟩ (a.eval x)).cell? ad=w₁.cell? ad:=fun ad hne=>World.cell?_setCell_other _ _ _ _ fun e=>hne e.symm
 have hgk:A.GK main S mi w₁ (w₁.setCell ⟨B,j,none⟩ (a.eval x)) es:=by
  refine⟨rfl,rfl,rfl,Nat.le_of_eq hsize.symm,fun k h1 h2 h3=>hblk k fun e=>h3 (e▸hrowB),fun k h1 => ?_,fun ad h1 h2=>hoth ad fun e=>h2 (e▸hm),fun ev he => ?_⟩
  ·by_cases e:k=B
   ·subst e
    unfold shp
    rw[hBc,hcB];simp
   ·exact u97 (hblk k e)
  ·have:=hes ev he
   simp only[List.mem_toArray,List.mem_singleton] at this
   exact .inl ⟨_,true,this,.inr (.inl hm)⟩
 have hid:Hid S R (w₁.setCell ⟨B,j,none⟩ (a.eval x)) (extV v₁ w₁.heap.size w₁.drawn):=by
  have hle:=hr.size
  have hN:=Nat.le_trans Ge.n0 hc.world.size
  have hSB:∀ k,S k→k≠B:=fun k h1 e=>by subst e;have:=(hc.rng _ h1).1;have:=(Ge.row _ hrowB).1;omega
  have hRB:∀ k,R k→k≠B:=fun k h1 e=>by subst e;exact (H.ro _ h1).1.2.2 hrowB
  refine⟨(by show v₁.tape=_;rw[show (w₁.setCell ⟨B,j,none⟩ (a.eval x)).tape=w₁.tape from rfl,hr.tape];exact hh.tape),(by show v₁.os=_;rw[show (w₁.setCell ⟨B,j,none⟩ (a.eval x)).os=w₁.os from rfl,hr.os];exact hh.os),(by show v₁.output=_;rw[show (w₁.setCell ⟨B,j,none⟩ (a.eval x)).output=w₁.output from rfl,hr.output];exact hh.output),rfl,by rw[hsize];simp[extV];omega,fun k hk => ?_,fun k hk => ?_,fun k hl hk hn => ?_,fun k o hk ho => ?_⟩
  ·have:=(hc.rng k hk).2
   rw[u0u,if_pos (by omega),hblk k (hSB k hk),hr.blk k this (.inl hk)]
   exact hh.same k hk
  ·have hk':=(H.ro k hk).1
   have:=hk'.1
   rw[u0u,if_pos (by omega),hblk k (hRB k hk),hr.blk k (by omega) (.inr hk')]
   exact hh.ro k hk
  ·rw[hsize] at hl
   rw[u0u]
   split
   ·rename_i hlt
    exact hh.veil k (by omega) hk hn
   ·rw[if_pos (by omega)]
  ·rw[hblk k (hSB k hk),hr.blk k (hc.rng k hk).2 (.inl hk)] at ho
   exact hh.plain k o hk ho
 refine⟨_,_,es,by rw[u7x ho hw hd];exact hst,hgk,?_⟩
 rw[hsize,Grow.eq]
 refine hnext _ (hz.trans (u6d v₁ w₁.heap.size w₁.drawn)) S _ _ (NzV.refl _) (by rw[u3o hid.drawn];exact hid) ⟨hPr w₁ hc₁.pr hoth hself,fun k hk=>⟨(hc₁.rng k hk).1,by rw[hsize];exact (hc₁.rng k hk).2⟩,?_,hc₁.world.trans ?_⟩
 ·obtain⟨st,sm,hl⟩:=hc₁.live
  refine⟨st,sm,?_⟩
  unfold WgAt at *
  rw[hblk A.Wg fun e=>Ge.wgr (e▸hrowB)]
  exact hl
 ·exact hgk.rk Ge (by have:=hr.size;have:=Nat.le_trans Ge.n0 hc.world.size;omega) (fun k h=>(hc.rng k h).1) (fun k h=>h.elim) (fun k h _=>h.elim) (fun a h=>h.elim) (fun a h=>h.elim)
end Ph
end Go.Rf
namespace Go.Rf
open Go Go.Conc Go.ConcN Go.RowKit Go.Conc.Lib Go.ConcR.Gen Go.ConcN.Gen
open Go.ConcR (KK wgBlock WgAt stA smA rd wr Payload Aside2 DC0)
def RL(ty:TypeId)(Wg:Nat)(w w₁:World):Prop:=WgLive ty Wg w→WgLive ty Wg w₁
theorem u00{ty:TypeId}{Wg:Nat}{w w₁:World}(h:WgLive ty Wg w)(r:RL ty Wg w w₁):WgLive ty Wg w₁:=r h
theorem u5t{P:Program}{main:Bool}{R R':World→World→Prop}{D:World→World→Array Event→Prop}{Stop:Goroutine→World→Prop}{gR:Goroutine}{w:World}(hR:R w w)(hR':R' w w)
  (hs:∀ g,Stop g w→∃ g' w' es,stepG P main g w=.go g' w' es∧es≠#[]):∀ (k:Nat) (g:Goroutine),Goes P main R' DC0 (fun g _=>g=gR) k g w→(∃ n,Goes P main R D Stop n g w)→∃ n,Goes P main R D Stop n gR w:=by
 intro k
 induction k with
 | zero=>intro g hc h;rw[← hc w hR'];exact h
 | succ k ih=>
  rintro g hc ⟨n,h⟩
  rcases hc with hc | ⟨_,hc⟩
  ·rw[← hc w hR'];exact⟨n,h⟩
  ·replace hc:=hc w hR'
   cases hst:stepG P main g w with
   | go g1 w1 es=>
    rw[hst] at hc
    obtain⟨⟨e1,e2⟩,hc⟩:=hc
    subst e1;subst e2
    rcases Goes.cases h with h | ⟨n',_,h⟩
    ·obtain⟨g',w',es',h1,h2⟩:=hs g (h _ hR)
     rw[hst] at h1;cases h1
     exact absurd rfl h2
    ·obtain⟨g',w',es',h1,h2,h3⟩:=h _ hR
     rw[hst] at h1;cases h1
     exact ih g1 hc ⟨n',h3⟩
   | _=>rw[hst] at hc;exact hc.elim
section
variable [Payload] {L:WgLink} {Wg:Nat} {c:Frame} {cs:List Frame}
omit [Payload] in
set_option maxRecDepth 100000 in
theorem udd{P:Program}(H:WgLib P L):∃ gR gX gK,(∀ w,WgLive L.tWg Wg w→Goes P false (RL L.tWg Wg) DC0 (fun g _=>g=gR) 23 (G ((baseD L.done).at ⟨#[.pointer (some ⟨Wg,0,none⟩),undef,undef,undef],[]⟩ [.code (body_done L)]) (c::cs)) w) ∧
  gR.status=.running∧(∀ w,stepG P false gR w=.go gX w #[Go.ConcR.mk (.releaseMerge (stA Wg))])∧(∀ w,WgLive L.tWg Wg w→Goes P false (RL L.tWg Wg) DC0 (fun g _=>g=gK) 10 gX w)∧∀ w,∃ gY,stepG P false gK w=.go gY w #[Go.ConcR.mk .disable]:=by
 lib_facts
 co_apply Exists.intro
 co_apply Exists.intro
 co_apply Exists.intro
 refine⟨fun w hF => ?a,?s,fun w => ?b,fun w hF => ?c,fun w => ?d⟩
 case a=>
  simp only[body_done,body_add,doneFn,addFn,Option.getD_some]
  u_reg u00 hF
  u_op u00 hF
  u_in u00 hF
  refine goes_call rfl rfl (by k_ne) rfl H.f_add (nm_add L) rfl ⟨by u_nil,?_⟩
  walk_nrmf addFn
  u_c stepG_seq u00 hF
  u_cond true u00 hF
  u_c stepG_seq u00 hF
  u_c stepG_seq u00 hF
  u_reg u00 hF
  u_op u00 hF
  u_op u00 hF
  u_c stepG_region_end u00 hF
  u_cond true u00 hF
  u_reg u00 hF
  u_op u00 hF
  u_conv H.underlying_tWgP H.room_tWg (WgLive.cell0 hF).choose_spec u00 hF
  exact Goes.stop fun _ _=>rfl
 case s=>rfl
 case b=>exact stepG_markAt .releaseMerge (by simp) rfl rfl (by k_ne) rfl H.f_relMerge (x_relMerge_n L) (x_relMerge_b L) (x_relMerge_x L) (x_relMerge_f L) (by simp[Act.eval,stA])
 case c=>
  walk_nrm
  u_c stepG_region_end u00 hF
  u_c stepG_seq u00 hF
  u_reg u00 hF
  exact Goes.stop fun _ _=>rfl
 case d=>exact⟨_,stepG_mark0 .disable (by simp) rfl rfl (by k_ne) rfl H.f_disable (x_disable_n L) (x_disable_b L) (x_disable_x L) (x_disable_f L)⟩
end
namespace Ph
variable {A:Ph} [Payload]
omit [Payload] in
theorem u5r{main:Bool}{mi:Addr→Prop}{S:Nat→Prop}{R:World→World→Prop}{F:World→Prop}{Stop:Goroutine→World→Prop} {Stop':(Nat→Prop)→Goroutine→World→Prop}
  (hR:∀ w w₁,A.RK S mi w w₁→R w w₁) (hF:∀ w w₁,A.RK S mi w w₁→F w→F w₁) (hb:∀ g w,Stop g w→F w→A.MW main mi Stop' S g w):∀ (n:Nat) (g:Goroutine) (w:World),Goes A.P main R DC0 Stop n g w→F w→A.MW main mi Stop' S g w:=by
 intro n
 induction n with
 | zero=>intro g w h hf;exact hb g w (h w (hR _ _ (RK.refl _ _ w))) hf
 | succ n ih=>
  intro g w h hf
  rcases h with h | ⟨hs,h⟩
  ·exact hb g w (h w (hR _ _ (RK.refl _ _ w))) hf
  ·refine MW.step hs fun w₁ hr => ?_
   have h:=h w₁ (hR _ _ hr)
   cases hst:stepG A.P main g w₁ with
   | go g1 w2 es=>
    rw[hst] at h
    obtain⟨⟨e1,e2⟩,h⟩:=h
    cases e1;cases e2
    refine⟨g1,w₁,#[],rfl,GK.still,?_⟩
    rw[Grow.eq]
    exact ih g1 w₁ h (hF _ _ hr hf)
   | _=>rw[hst] at h;exact h.elim
omit [Payload] in
theorem RK.rl{S:Nat→Prop}{mi:Addr→Prop}{w w₁:World}(h:A.RK S mi w w₁):RL A.ty A.Wg w w₁:=h.live
theorem doneW{L:WgLink}(H:WgLib A.P L)(hty:A.ty=L.tWg)(hF:A.FinOk){c:Frame}{cs:List Frame}{qt:Nat}(hcm:c.mode=.returning) (hT:QuitsD A.P qt 0 (G c cs)) {i C:Nat} {S:Nat→Prop} {v:Value} (hC:S C∨A.Old C)
  {w:World} (hl:A.Live w) (hfin:A.Fin i w) (hCl:C<w.heap.size) (hv:Has C 0 v w) :
  A.MW false (A.M i) (A.AtR0 i) S (G ((baseD L.done).at ⟨#[.pointer (some ⟨A.Wg,0,none⟩),undef,undef,undef],[]⟩ [.code (body_done L)]) (c::cs)) w:=by
 obtain⟨gR,gX,gK,h1,hrun,h2,h3,h4⟩:=udd (c:=c) (cs:=cs) (Wg:=A.Wg) H
 have live:∀ {w w₁},A.RK S (A.M i) w w₁→WgLive L.tWg A.Wg w→WgLive L.tWg A.Wg w₁:=fun hr=>by
  have:=hr.live
  unfold Live at this
  rw[hty] at this
  exact this
 unfold Live at hl
 rw[hty] at hl
 refine u5r (R:=RL L.tWg A.Wg) (F:=fun w=>WgLive L.tWg A.Wg w∧A.Fin i w∧C<w.heap.size∧Has C 0 v w) (fun w w₁ hr=>live hr) (fun w w₁ hr hf=>⟨live hr hf.1,hF i S _ _ hr hf.2.1,Nat.lt_of_lt_of_le hf.2.2.1 hr.size,?_⟩) ?_ 23 _ w (h1 w hl) ⟨hl,hfin,hCl,hv⟩
 ·have e:=hr.blk C hf.2.2.1 hC
  have hh:=hf.2.2.2
  unfold Has World.cell? at *
  rw[e];exact hh
 ·rintro g w rfl hf0
  refine⟨.leaf,Wk.stop fun w₁ hr => ?_⟩
  have hf:WgLive L.tWg A.Wg w₁∧A.Fin i w₁∧C<w₁.heap.size∧Has C 0 v w₁:=by
   refine⟨live hr hf0.1,hF i S _ _ hr hf0.2.1,Nat.lt_of_lt_of_le hf0.2.2.1 hr.size,?_⟩
   have e:=hr.blk C hf0.2.2.1 hC
   have hh:=hf0.2.2.2
   unfold Has World.cell? at *
   rw[e];exact hh
  refine⟨hrun,hf.2.1,C,hC,gX,h2 w₁,?_⟩
  have hk:=doneN (Own:=none2) (Rd:=none2) (Wg:=A.Wg) (C:=C) (n:=1) (Low:=0) (k:=1) (val:=v) H hcm hT w₁ ⟨hf.1,hf.2.2.2⟩
  have hs:∀ g,ConcN.AtR0 A.P L.tWg A.Wg C 1 0 1 v g w₁→∃ g' w' es,stepG A.P false g w₁=.go g' w' es∧es≠#[]:=fun g ⟨_,_,g',hg,_⟩=>⟨g',_,_,hg,by simp⟩
  obtain⟨n,hk⟩:=u5t (RW.refl w₁) (fun x=>x) hs 23 _ (h1 w₁ hf.1) ⟨_,hk⟩
  rw[hty]
  rcases Goes.cases hk with hk | ⟨n',_,hk⟩
  ·obtain⟨_,_,g',hg,m,hm⟩:=hk w₁ (RW.refl w₁)
   rw[h2 w₁] at hg
   cases hg
   exact⟨m,hm⟩
  ·obtain⟨g',w',es,hg,_,hk⟩:=hk w₁ (RW.refl w₁)
   rw[h2 w₁] at hg
   cases hg
   obtain⟨n,hk⟩:=u5t (RW.refl w₁) (fun x=>x) hs 10 _ (h3 w₁ hf.1) ⟨_,hk⟩
   obtain⟨gY,h4⟩:=h4 w₁
   rcases Goes.cases hk with hk | ⟨n',_,hk⟩
   ·obtain⟨_,_,g',hg,_⟩:=hk w₁ (RW.refl w₁)
    rw[h4] at hg
    simp[Go.ConcR.mk] at hg
   ·obtain⟨g',w',es,hg,hd,_⟩:=hk w₁ (RW.refl w₁)
    rw[h4] at hg
    cases hg
    exact absurd rfl (hd.2 (Go.ConcR.mk .disable) (by simp)).2.1
end Ph
end Go.Rf
namespace Go.Rf
open Go Go.Conc Go.ConcN Go.RowKit Go.Conc.Lib Go.ConcR.Gen Go.ConcN.Gen
open Go.ConcR (KK wgBlock WgAt stA smA rd wr Payload Aside2 DC0)
def Stl(P:Program)(main:Bool)(ty:TypeId)(Wg:Nat)(g g':Goroutine):Prop:=
 g'.status=.running∧∃ n,∀ w,WgLive ty Wg w→Goes P main (RL ty Wg) DC0 (fun x _=>x=g') n g w
def StlS(P:Program)(main:Bool)(ty:TypeId)(Wg:Nat)(g g':Goroutine):Prop:=
 Stl P main ty Wg g g'∨∃ g1 g2 m,Stl P main ty Wg g g1∧(m=.read (smA Wg)∨m=.write (smA Wg))∧(∀ w,stepG P main g1 w=.go g2 w #[Go.ConcR.mk m])∧Stl P main ty Wg g2 g'
theorem u8t{P:Program}{f:FuncId}{fn:Func}{c:Code}{vals:Array Value} (hf:P.funcs[f]? = some fn) (hb:fn.body=some c):Frame.enter P f vals .normal=(Conc.base f).at ⟨vals++Array.replicate (fn.ntmps-vals.size) undef,[]⟩ [.code c]:=by
 simp[Frame.enter,Frame.at,hf,hb,Conc.base]
section
variable {L:WgLink} {Wg:Nat} {c:Frame} {cs:List Frame}
set_option maxRecDepth 100000 in
set_option maxHeartbeats 8000000 in
theorem ucz{P:Program}(H:WgLib P L):∃ gD gD' gA,Stl P true L.tWg Wg (G (Frame.enter P L.add #[.pointer (some ⟨Wg,0,none⟩),.int .i64 1] .normal) (c::cs)) gD∧(∀ w,stepG P true gD w=.go gD' w #[Go.ConcR.mk .disable])∧Stl P true L.tWg Wg gD' gA ∧
  ∀ v:Nat,v<2147483647→∃ gB,(∀ w,WgAt L.tWg Wg w (v*KK) 0→stepG P true gA w=.go gB (w.setCell (stA Wg) (.int .u64 ((v+1)*KK))) #[rd (stA Wg),wr (stA Wg)]) ∧
   ∃ gE gE',StlS P true L.tWg Wg gB gE∧(∀ w,stepG P true gE w=.go gE' w #[Go.ConcR.mk .enable])∧Stl P true L.tWg Wg gE' (G (c.finish (.tuple #[])) cs):=by
 lib_facts
 rw[u8t H.f_add rfl]
 walk_nrmf addFn
 co_apply Exists.intro
 co_apply Exists.intro
 co_apply Exists.intro
 refine⟨⟨?s1,12,fun w hF => ?a⟩,fun w => ?b,⟨?s2,40,fun w hF => ?c⟩,fun v hv => ?d⟩
 case a=>
  u_c stepG_seq u00 hF
  u_cond true u00 hF
  iterate 2 (u_c stepG_seq u00 hF)
  u_reg u00 hF
  iterate 2 (u_op u00 hF)
  u_c stepG_region_end u00 hF
  u_cond false u00 hF
  u_c stepG_skip u00 hF
  u_c stepG_seq u00 hF
  u_reg u00 hF
  exact Goes.stop fun _ _=>rfl
 case s1=>rfl
 case b=>exact stepG_mark0 .disable (by simp) rfl rfl (by k_ne) rfl H.f_disable (x_disable_n L) (x_disable_b L) (x_disable_x L) (x_disable_f L)
 case c=>
  walk_nrm
  u_c stepG_region_end u00 hF
  u_reg u00 hF
  u_defer u00 hF
  u_c stepG_region_end u00 hF
  u_c stepG_seq u00 hF
  u_reg u00 hF
  u_op u00 hF
  u_c stepG_region_end u00 hF
  iterate 2 (u_c stepG_seq u00 hF)
  u_reg u00 hF
  u_bub u00 hF
  u_c stepG_region_end u00 hF
  u_cond false u00 hF
  u_c stepG_skip u00 hF
  u_c stepG_seq u00 hF
  u_reg u00 hF
  iterate 6 (u_op u00 hF)
  u_call H.f_uAdd (nm_uAdd L) uAddFn u00 hF
  u_c stepG_seq u00 hF
  u_reg u00 hF
  u_op u00 hF
  u_c stepG_region_end u00 hF
  u_c stepG_seq u00 hF
  u_reg u00 hF
  iterate 4 (u_op u00 hF)
  exact Goes.stop fun _ _=>rfl
 case s2=>rfl
 case d=>
  rcases Nat.eq_zero_or_pos v with rfl | hvp
  ·have z:(((0:Nat):Int)+1)*KK=KK:=by simp
   have e0:IntKind.u64.wrap (0+4294967296)=KK:=by decide
   co_apply Exists.intro
   refine⟨fun w hw => ?d1,?rest⟩
   case d1=>
    replace hw:WgAt L.tWg Wg w 0 0:=by simpa using hw
    rw[z]
    exact (stepG_add_atomic rfl rfl (by k_ne) rfl H.f_addU64 (x_addU64_n L) (x_addU64_b L) (x_addU64_x L) .u64 (x_addU64_f L) rfl rfl hw.cellSt (hw.thaw 0)).trans (by rw[e0];rfl)
   case rest=>
   clear z e0
   co_apply Exists.intro
   co_apply Exists.intro
   refine⟨.inr ?d2,fun w => ?d3,⟨?d5,3,fun w hF => ?d4⟩⟩
   case d2=>
    co_apply Exists.intro
    co_apply Exists.intro
    refine⟨.read (smA Wg),⟨?e0,110,fun w hF => ?e1⟩,.inl rfl,fun w => ?e2,⟨?e3,80,fun w hF => ?e4⟩⟩
    case e1=>
     simp only[KK]
     walk_nrm
     u_op u00 hF
     u_c stepG_region_end u00 hF
     u_c stepG_ret' u00 hF
     u_leave1 H.f_uAdd u00 hF
     u_op u00 hF
     u_c stepG_region_end u00 hF
     iterate 2 (u_c stepG_seq u00 hF)
     u_reg u00 hF
     iterate 4 (u_op u00 hF)
     iterate 2 (u_skip u00 hF)
     u_op u00 hF
     u_c stepG_region_end u00 hF
     u_cond false u00 hF
     u_c stepG_skip u00 hF
     u_c stepG_seq u00 hF
     u_reg u00 hF
     iterate 4 (u_op u00 hF)
     u_c stepG_region_end u00 hF
     u_c stepG_seq u00 hF
     u_reg u00 hF
     iterate 4 (u_op u00 hF)
     u_c stepG_region_end u00 hF
     iterate 2 (u_c stepG_seq u00 hF)
     u_reg u00 hF
     iterate 10 (u_op u00 hF)
     u_c stepG_region_end u00 hF
     u_cond true u00 hF
     u_reg u00 hF
     iterate 3 (u_op u00 hF)
     u_conv H.underlying_tPU32 H.room_tU32 (WgLive.cell1 hF).choose_spec u00 hF
     exact Goes.stop fun _ _=>rfl
    case e0=>rfl
    case e2=>exact stepG_markAt .read (by simp) rfl rfl (by k_ne) rfl H.f_raceRead (x_raceRead_n L) (x_raceRead_b L) (x_raceRead_x L) (x_raceRead_f L) (ad:=⟨Wg,1,none⟩) (by simp[Act.eval])
    case e4=>
     walk_nrm
     u_c stepG_region_end u00 hF
     iterate 2 (u_c stepG_seq u00 hF)
     u_reg u00 hF
     iterate 2 (u_op u00 hF)
     u_c stepG_region_end u00 hF
     u_cond false u00 hF
     u_c stepG_skip u00 hF
     iterate 2 (u_c stepG_seq u00 hF)
     u_reg u00 hF
     iterate 3 (u_op u00 hF)
     iterate 2 (u_skip u00 hF)
     iterate 2 (u_op u00 hF)
     iterate 4 (u_skip u00 hF)
     u_op u00 hF
     u_c stepG_region_end u00 hF
     u_cond false u00 hF
     u_c stepG_skip u00 hF
     iterate 2 (u_c stepG_seq u00 hF)
     u_reg u00 hF
     iterate 3 (u_op u00 hF)
     iterate 2 (u_skip u00 hF)
     u_op u00 hF
     u_c stepG_region_end u00 hF
     u_cond true u00 hF
     u_c stepG_ret' u00 hF
     exact Goes.stop fun _ _=>rfl
    case e3=>rfl
   case d3=>exact stepG_unwind_entry (v:=.tuple #[]) (evs:=#[Go.ConcR.mk .enable]) rfl H.f_enable (x_enable_n L) (x_enable_b L) (x_enable_x L) (x_enable_f L) (by simp[Extern.Race.none_]) (by simp[Go.ConcR.mk]) (by simp[Go.ConcR.mk])
   case d5=>rfl
   case d4=>
    refine Goes.step rfl fun w₁ _ => ?_
    rw[stepG_leave (b:=Conc.base L.add) (fn:=addFn L) (v:=.tuple #[]) rfl rfl H.f_add (results_none rfl _ P w₁) (events_results_none rfl _ _)]
    exact⟨by u_nil,Goes.stop fun _ _=>rfl⟩
  ·obtain⟨V,hV⟩:∃ V:Int,V=(v:Int)+1:=⟨_,rfl⟩
   obtain⟨S,hS⟩:∃ S:Int,S=V*KK:=⟨_,rfl⟩
   have eS:IntKind.u64.wrap ((v:Int)*KK+4294967296)=S:=by rw[IntKind.wrap_u64,hS,hV];simp only[KK];omega
   rw[← hV,← hS]
   have a1:S/4294967296=V:=by rw[hS];simp only[KK];omega
   have b1:bits .and .u64 S 2147483648=0:=by rw[hS,hV];have:=st_flag (v+1) 0 (by omega) (by omega);simpa [KK] using this
   have b2:bits .and .u64 S 2147483647=0:=by rw[hS,hV];have:=st_waiters (v+1) 0 (by omega) (by omega);simpa [KK] using this
   have c1:IntKind.i32.wrap V=V:=by rw[IntKind.wrap_i32];omega
   have hV1:1<V:=by omega
   have hV2:V<2147483648:=by omega
   have q1:(V==1)=false:=by simp;omega
   have q2:decide (V=1)=false:=decide_eq_false (by omega)
   have q3:decide (V<0)=false:=decide_eq_false (by omega)
   have q4:decide (0<V)=true:=decide_eq_true (by omega)
   have q5:(V==0)=false:=by simp;omega
   have q6:decide (V=0)=false:=decide_eq_false (by omega)
   co_apply Exists.intro
   refine⟨fun w hw => ?d1,?rest⟩
   case d1=>exact (stepG_add_atomic rfl rfl (by k_ne) rfl H.f_addU64 (x_addU64_n L) (x_addU64_b L) (x_addU64_x L) .u64 (x_addU64_f L) rfl rfl hw.cellSt (hw.thaw 0)).trans (by rw[eS];rfl)
   case rest=>
   clear hS hV eS
   co_apply Exists.intro
   co_apply Exists.intro
   refine⟨.inl ⟨?d6,130,fun w hF => ?d2⟩,fun w => ?d3,⟨?d5,3,fun w hF => ?d4⟩⟩
   case d2=>
    walk_nrm
    u_op u00 hF
    u_c stepG_region_end u00 hF
    u_c stepG_ret' u00 hF
    u_leave1 H.f_uAdd u00 hF
    u_op u00 hF
    u_c stepG_region_end u00 hF
    iterate 2 (u_c stepG_seq u00 hF)
    u_reg u00 hF
    iterate 4 (u_op u00 hF)
    iterate 2 (u_skip u00 hF)
    u_op u00 hF
    u_c stepG_region_end u00 hF
    u_cnd false u00 hF
    u_c stepG_skip u00 hF
    u_c stepG_seq u00 hF
    u_reg u00 hF
    iterate 4 (u_op u00 hF)
    u_c stepG_region_end u00 hF
    u_c stepG_seq u00 hF
    u_reg u00 hF
    iterate 4 (u_op u00 hF)
    u_c stepG_region_end u00 hF
    iterate 2 (u_c stepG_seq u00 hF)
    u_reg u00 hF
    iterate 10 (u_op u00 hF)
    u_c stepG_region_end u00 hF
    u_cnd false u00 hF
    u_c stepG_skip u00 hF
    iterate 2 (u_c stepG_seq u00 hF)
    u_reg u00 hF
    iterate 2 (u_op u00 hF)
    u_c stepG_region_end u00 hF
    u_cnd false u00 hF
    u_c stepG_skip u00 hF
    iterate 2 (u_c stepG_seq u00 hF)
    u_reg u00 hF
    iterate 3 (u_op u00 hF)
    iterate 2 (u_skip u00 hF)
    iterate 2 (u_op u00 hF)
    iterate 4 (u_skip u00 hF)
    u_op u00 hF
    u_c stepG_region_end u00 hF
    u_cnd false u00 hF
    u_c stepG_skip u00 hF
    iterate 2 (u_c stepG_seq u00 hF)
    u_reg u00 hF
    iterate 3 (u_op u00 hF)
    iterate 2 (u_skip u00 hF)
    u_op u00 hF
    u_c stepG_region_end u00 hF
    u_cnd true u00 hF
    u_c stepG_ret' u00 hF
    exact Goes.stop fun _ _=>rfl
   case d6=>rfl
   case d3=>exact stepG_unwind_entry (v:=.tuple #[]) (evs:=#[Go.ConcR.mk .enable]) rfl H.f_enable (x_enable_n L) (x_enable_b L) (x_enable_x L) (x_enable_f L) (by simp[Extern.Race.none_]) (by simp[Go.ConcR.mk]) (by simp[Go.ConcR.mk])
   case d5=>rfl
   case d4=>
    refine Goes.step rfl fun w₁ _ => ?_
    rw[stepG_leave (b:=Conc.base L.add) (fn:=addFn L) (v:=.tuple #[]) rfl rfl H.f_add (results_none rfl _ P w₁) (events_results_none rfl _ _)]
    exact⟨by u_nil,Goes.stop fun _ _=>rfl⟩
end
end Go.Rf
namespace Go.Rf
open Go Go.Conc Go.ConcN Go.RowKit Go.Conc.Lib Go.ConcR.Gen Go.ConcN.Gen
open Go.ConcR (KK wgBlock WgAt stA smA rd wr Payload Aside2 DC0)
noncomputable def headW(L:WgLink)(c:Frame)(cs:List Frame)(T:Array Value):Goroutine:=G ((Conc.base L.wait).at ⟨T,[]⟩ [.code (L7 L),.inLoop (L7 L),.inBlock 0]) (c::cs)
def okT(Wg:Nat)(T:Array Value):Prop:=T.size=84∧T[0]? = some (.pointer (some ⟨Wg,0,none⟩))
section
variable {L:WgLink} {Wg:Nat} {c:Frame} {cs:List Frame}
set_option maxRecDepth 100000 in
theorem ua9{P:Program}(H:WgLib P L):∃ gD gD' T,Stl P true L.tWg Wg (G (Frame.enter P L.wait #[.pointer (some ⟨Wg,0,none⟩)] .normal) (c::cs)) gD∧(∀ w,stepG P true gD w=.go gD' w #[Go.ConcR.mk .disable])∧okT Wg T∧Stl P true L.tWg Wg gD' (headW L c cs T):=by
 lib_facts
 rw[u8t H.f_wait rfl]
 walk_nrmf waitFn
 co_apply Exists.intro
 co_apply Exists.intro
 co_apply Exists.intro
 refine⟨⟨?s1,5,fun w hF => ?a⟩,fun w => ?b,?t,⟨?s2,5,fun w hF => ?c⟩⟩
 case a=>
  u_c stepG_seq u00 hF
  u_cond true u00 hF
  u_reg u00 hF
  exact Goes.stop fun _ _=>rfl
 case s1=>rfl
 case b=>exact stepG_mark0 .disable (by simp) rfl rfl (by k_ne) rfl H.f_disable (x_disable_n L) (x_disable_b L) (x_disable_x L) (x_disable_f L)
 case c=>
  walk_nrm
  u_c stepG_region_end u00 hF
  u_c stepG_block u00 hF
  u_c stepG_loop u00 hF
  exact Goes.stop fun _ _=>rfl
 case t=>exact⟨by simp,by simp⟩
 case s2=>rfl
def Tail(P:Program)(L:WgLink)(Wg:Nat)(gF g:Goroutine):Prop:=
 ∃ gE gE',Stl P true L.tWg Wg g gE∧(∀ w,stepG P true gE w=.go gE' w #[Go.ConcR.mk .enable])∧∃ gQ gQ',Stl P true L.tWg Wg gE' gQ∧(∀ w,stepG P true gQ w=.go gQ' w #[Go.ConcR.mk (.acquire (stA Wg))])∧Stl P true L.tWg Wg gQ' gF
set_option maxRecDepth 100000 in
set_option maxHeartbeats 8000000 in
theorem ua8{P:Program}(H:WgLib P L){T:Array Value}(hT:okT Wg T):∃ g1,Stl P true L.tWg Wg (headW L c cs T) g1 ∧
  (∃ g2,(∀ w,WgAt L.tWg Wg w 0 0→stepG P true g1 w=.go g2 w #[rd (stA Wg)])∧Tail P L Wg (G (c.finish (.tuple #[])) cs) g2) ∧
  ∀ v:Nat,v<2147483648→0<v→∃ g2,(∀ w,WgAt L.tWg Wg w (v*KK) 0→stepG P true g1 w=.go g2 w #[rd (stA Wg)])∧∃ g3,Stl P true L.tWg Wg g2 g3 ∧
   (∃ g4,(∀ w,WgAt L.tWg Wg w (v*KK) 0→stepG P true g3 w=.go g4 (w.setCell (stA Wg) (.int .u64 (v*KK+1))) #[rd (stA Wg),wr (stA Wg)])∧∃ g5,StlS P true L.tWg Wg g4 g5∧g5.offers=none ∧
    (∀ w st,WgAt L.tWg Wg w st 0→stepG P true g5 w=.go { g5 with status:=.blocked } w #[])∧∃ g6,(∀ w,WgAt L.tWg Wg w 0 1→stepG P true g5 w=.go g6 (w.setCell (smA Wg) (.int .u32 0)) (semEvents (smA Wg))) ∧
    ∃ g7,Stl P true L.tWg Wg g6 g7∧∃ g8,(∀ w,WgAt L.tWg Wg w 0 0→stepG P true g7 w=.go g8 w #[rd (stA Wg)])∧Tail P L Wg (G (c.finish (.tuple #[])) cs) g8) ∧
   ∀ v':Nat,v'<2147483648→v'≠v→∃ g4,(∀ w,WgAt L.tWg Wg w (v'*KK) 0→stepG P true g3 w=.go g4 w #[rd (stA Wg)])∧∃ T',okT Wg T'∧Stl P true L.tWg Wg g4 (headW L c cs T'):=by
 lib_facts
 obtain⟨hT84,t0⟩:=hT
 obtain⟨v0,v1,v2,v3,v4,v5,v6,v7,v8,v9,v10,v11,v12,v13,v14,v15,v16,v17,v18,v19,v20,v21,v22,v23,v24,v25,v26,v27,v28,v29,v30,v31,v32,v33,v34,v35,v36,v37,v38,v39,v40,v41,v42,v43,v44,v45,v46,v47,v48,v49,v50,v51,v52,v53,v54,v55,v56,v57,v58,v59,v60,v61,v62,v63,v64,v65,v66,v67,v68,v69,v70,v71,v72,v73,v74,v75,v76,v77,v78,v79,v80,v81,v82,v83,rfl⟩:=array84 T hT84
 simp only[List.getElem?_toArray,List.getElem?_cons_zero,Option.some.injEq] at t0
 subst t0
 co_apply Exists.intro
 refine⟨⟨?s1,30,fun w hF => ?a⟩,?zero,fun v hv hvp => ?pos⟩
 case a=>
  simp only[headW,L7,body_wait,waitFn,Option.getD_some]
  u_c stepG_block u00 hF
  u_c stepG_seq u00 hF
  u_reg u00 hF
  iterate 3 (u_op u00 hF)
  u_call H.f_uLoad (nm_uLoad L) uLoadFn u00 hF
  u_c stepG_seq u00 hF
  u_reg u00 hF
  u_op u00 hF
  u_c stepG_region_end u00 hF
  u_c stepG_seq u00 hF
  u_reg u00 hF
  iterate 3 (u_op u00 hF)
  exact Goes.stop fun _ _=>rfl
 case s1=>rfl
 case zero=>
  co_apply Exists.intro
  refine⟨fun w hw => ?b,?rest⟩
  case b=>exact stepG_load_atomic (v:=0) rfl rfl (by k_ne) rfl H.f_loadU64 (x_loadU64_n L) (x_loadU64_b L) (x_loadU64_x L) .u64 (x_loadU64_f L) rfl hw.cellSt
  case rest=>
   unfold Tail
   co_apply Exists.intro
   co_apply Exists.intro
   refine⟨⟨?s2,60,fun w hF => ?c⟩,fun w => ?d,?rest2⟩
   case c=>
    walk_nrm
    u_op u00 hF
    u_c stepG_region_end u00 hF
    u_c stepG_ret' u00 hF
    u_leave1 H.f_uLoad u00 hF
    u_op u00 hF
    u_c stepG_region_end u00 hF
    u_c stepG_seq u00 hF
    u_reg u00 hF
    iterate 4 (u_op u00 hF)
    u_c stepG_region_end u00 hF
    u_c stepG_seq u00 hF
    u_reg u00 hF
    iterate 4 (u_op u00 hF)
    u_c stepG_region_end u00 hF
    iterate 2 (u_c stepG_seq u00 hF)
    u_reg u00 hF
    iterate 2 (u_op u00 hF)
    u_c stepG_region_end u00 hF
    u_cond true u00 hF
    u_c stepG_seq u00 hF
    u_cond true u00 hF
    u_c stepG_seq u00 hF
    u_reg u00 hF
    exact Goes.stop fun _ _=>rfl
   case s2=>rfl
   case d=>exact stepG_mark0 .enable (by simp) rfl rfl (by k_ne) rfl H.f_enable (x_enable_n L) (x_enable_b L) (x_enable_x L) (x_enable_f L)
   case rest2=>
    co_apply Exists.intro
    co_apply Exists.intro
    refine⟨⟨?s3,12,fun w hF => ?e⟩,fun w => ?f,⟨?s4,20,fun w hF => ?g⟩⟩
    case e=>
     walk_nrm
     u_c stepG_region_end u00 hF
     u_reg u00 hF
     u_op u00 hF
     u_conv H.underlying_tWgP H.room_tWg (WgLive.cell0 hF).choose_spec u00 hF
     exact Goes.stop fun _ _=>rfl
    case s3=>rfl
    case f=>exact stepG_markAt .acquire (by simp) rfl rfl (by k_ne) rfl H.f_acquire (x_acquire_n L) (x_acquire_b L) (x_acquire_x L) (x_acquire_f L) (by simp[Act.eval,stA])
    case s4=>rfl
    case g=>
     walk_nrm
     u_c stepG_region_end u00 hF
     iterate 2 (u_c stepG_seq u00 hF)
     u_reg u00 hF
     iterate 8 (u_op u00 hF)
     iterate 2 (u_skip u00 hF)
     u_op u00 hF
     u_c stepG_region_end u00 hF
     u_cond false u00 hF
     u_c stepG_skip u00 hF
     u_c stepG_ret' u00 hF
     refine Goes.step rfl fun w₁ _ => ?_
     rw[stepG_leave (b:=Conc.base L.wait) (fn:=waitFn L) (v:=.tuple #[]) rfl rfl H.f_wait (results_none rfl _ P w₁) (events_results_none rfl _ _)]
     exact⟨by u_nil,Goes.stop fun _ _=>rfl⟩
 case pos=>
  obtain⟨S,hS⟩:∃ S:Int,(v:Int)*KK=S:=⟨_,rfl⟩
  have a1:S/4294967296=(v:Int):=by rw[← hS];simp only[KK];omega
  have b1:bits .and .u64 S 2147483648=0:=by rw[← hS];have:=st_flag v 0 (by omega) (by omega);simpa [KK] using this
  have b2:bits .and .u64 S 2147483647=0:=by rw[← hS];have:=st_waiters v 0 (by omega) (by omega);simpa [KK] using this
  have c1:IntKind.i32.wrap (v:Int)=(v:Int):=by rw[IntKind.wrap_i32];omega
  have w1:IntKind.u64.wrap (S+1)=S+1:=by rw[IntKind.wrap_u64,← hS];simp only[KK];omega
  have q3:decide ((v:Int)<0)=false:=decide_eq_false (by omega)
  have q4:decide (0<(v:Int))=true:=decide_eq_true (by omega)
  have q5:((v:Int)==0)=false:=by simp;omega
  have q6:decide ((v:Int)=0)=false:=decide_eq_false (by omega)
  have hne:∀ v':Nat,v'≠v→(v':Int)*KK≠S:=fun v' hv'=>by rw[← hS];simp only[KK];omega
  rw[hS]
  clear hS
  co_apply Exists.intro
  refine⟨fun w hw => ?b,?rest⟩
  case b=>exact stepG_load_atomic (v:=S) rfl rfl (by k_ne) rfl H.f_loadU64 (x_loadU64_n L) (x_loadU64_b L) (x_loadU64_x L) .u64 (x_loadU64_f L) rfl hw.cellSt
  case rest=>
   co_apply Exists.intro
   refine⟨⟨?s2,60,fun w hF => ?c⟩,?hit,fun v' hv' hvne => ?miss⟩
   case c=>
    walk_nrm
    u_op u00 hF
    u_c stepG_region_end u00 hF
    u_c stepG_ret' u00 hF
    u_leave1 H.f_uLoad u00 hF
    u_op u00 hF
    u_c stepG_region_end u00 hF
    u_c stepG_seq u00 hF
    u_reg u00 hF
    iterate 4 (u_op u00 hF)
    u_c stepG_region_end u00 hF
    u_c stepG_seq u00 hF
    u_reg u00 hF
    iterate 4 (u_op u00 hF)
    u_c stepG_region_end u00 hF
    iterate 2 (u_c stepG_seq u00 hF)
    u_reg u00 hF
    iterate 2 (u_op u00 hF)
    u_c stepG_region_end u00 hF
    u_cnd false u00 hF
    u_c stepG_skip u00 hF
    u_c stepG_seq u00 hF
    u_reg u00 hF
    iterate 6 (u_op u00 hF)
    u_call H.f_uCas (nm_uCas L) uCasFn u00 hF
    u_c stepG_seq u00 hF
    u_reg u00 hF
    u_op u00 hF
    u_c stepG_region_end u00 hF
    u_c stepG_seq u00 hF
    u_reg u00 hF
    iterate 5 (u_op u00 hF)
    exact Goes.stop fun _ _=>rfl
   case s2=>rfl
   case hit=>
    co_apply Exists.intro
    refine⟨fun w hw => ?b,?rest3⟩
    case b=>exact (stepG_cas_hit (v:=S) (n:=S+1) rfl rfl (by k_ne) rfl H.f_casU64 (x_casU64_n L) (x_casU64_b L) (x_casU64_x L) .u64 (x_casU64_f L) rfl rfl rfl hw.cellSt (hw.thaw 0)).trans (by rfl)
    case rest3=>
     co_apply Exists.intro
     refine⟨.inr ?d,?off,fun w st hw => ?e,?rest4⟩
     case d=>
      co_apply Exists.intro
      co_apply Exists.intro
      refine⟨.write (smA Wg),⟨?e0,60,fun w hF => ?e1⟩,.inr rfl,fun w => ?e2,⟨?e3,40,fun w hF => ?e4⟩⟩
      case e1=>
       walk_nrm
       u_op u00 hF
       u_c stepG_region_end u00 hF
       u_c stepG_ret' u00 hF
       u_leave1 H.f_uCas u00 hF
       u_c stepG_region_end u00 hF
       u_cond true u00 hF
       iterate 2 (u_c stepG_seq u00 hF)
       u_reg u00 hF
       iterate 4 (u_op u00 hF)
       u_c stepG_region_end u00 hF
       u_cond true u00 hF
       u_reg u00 hF
       iterate 3 (u_op u00 hF)
       u_conv H.underlying_tPU32 H.room_tU32 (WgLive.cell1 hF).choose_spec u00 hF
       exact Goes.stop fun _ _=>rfl
      case e0=>rfl
      case e2=>exact stepG_markAt .write (by simp) rfl rfl (by k_ne) rfl H.f_raceWrite (x_raceWrite_n L) (x_raceWrite_b L) (x_raceWrite_x L) (x_raceWrite_f L) (ad:=⟨_,1,none⟩) (by simp[Act.eval]<;>rfl)
      case e4=>
       walk_nrm
       u_c stepG_region_end u00 hF
       u_c stepG_seq u00 hF
       u_reg u00 hF
       u_op u00 hF
       u_c stepG_region_end u00 hF
       iterate 2 (u_c stepG_seq u00 hF)
       u_reg u00 hF
       iterate 4 (u_op u00 hF)
       u_skip u00 hF
       u_op u00 hF
       u_c stepG_region_end u00 hF
       u_cond false u00 hF
       u_c stepG_skip u00 hF
       u_c stepG_seq u00 hF
       u_reg u00 hF
       iterate 4 (u_op u00 hF)
       exact Goes.stop fun _ _=>rfl
      case e3=>rfl
     case off=>rfl
     case e=>exact stepG_semacquire_wait rfl rfl rfl H.f_semacquire (x_semacquire_n L) (x_semacquire_b L) (x_semacquire_x L) (x_semacquire_f L) (by simp[Act.eval,smA]) hw.cellSm
     case rest4=>
      co_apply Exists.intro
      refine⟨fun w hf => ?f,?rest5⟩
      case f=>exact (stepG_semacquire (n:=1) rfl rfl (by k_ne) rfl H.f_semacquire (x_semacquire_n L) (x_semacquire_b L) (x_semacquire_x L) (x_semacquire_f L) (by simp[Act.eval,smA]) hf.cellSm (by k_ne) (hf.thaw 1)).trans (by rfl)
      case rest5=>
       co_apply Exists.intro
       refine⟨⟨?s3,30,fun w hF => ?g⟩,?rest6⟩
       case g=>
        walk_nrm
        u_c stepG_region_end u00 hF
        u_c stepG_seq u00 hF
        u_reg u00 hF
        iterate 3 (u_op u00 hF)
        u_call H.f_uLoad (nm_uLoad L) uLoadFn u00 hF
        u_c stepG_seq u00 hF
        u_reg u00 hF
        u_op u00 hF
        u_c stepG_region_end u00 hF
        u_c stepG_seq u00 hF
        u_reg u00 hF
        iterate 3 (u_op u00 hF)
        exact Goes.stop fun _ _=>rfl
       case s3=>rfl
       case rest6=>
        co_apply Exists.intro
        refine⟨fun w hw => ?hh,?rest7⟩
        case hh=>exact stepG_load_atomic (v:=0) rfl rfl (by k_ne) rfl H.f_loadU64 (x_loadU64_n L) (x_loadU64_b L) (x_loadU64_x L) .u64 (x_loadU64_f L) rfl hw.cellSt
        case rest7=>
         unfold Tail
         co_apply Exists.intro
         co_apply Exists.intro
         refine⟨⟨?s2,60,fun w hF => ?c⟩,fun w => ?d,?rest2⟩
         case c=>
          walk_nrm
          u_op u00 hF
          u_c stepG_region_end u00 hF
          u_c stepG_ret' u00 hF
          u_leave1 H.f_uLoad u00 hF
          iterate 2 (u_op u00 hF)
          u_c stepG_region_end u00 hF
          u_c stepG_seq u00 hF
          u_cond true u00 hF
          u_c stepG_seq u00 hF
          u_reg u00 hF
          exact Goes.stop fun _ _=>rfl
         case s2=>rfl
         case d=>exact stepG_mark0 .enable (by simp) rfl rfl (by k_ne) rfl H.f_enable (x_enable_n L) (x_enable_b L) (x_enable_x L) (x_enable_f L)
         case rest2=>
          co_apply Exists.intro
          co_apply Exists.intro
          refine⟨⟨?s3,12,fun w hF => ?e⟩,fun w => ?f,⟨?s4,30,fun w hF => ?g⟩⟩
          case e=>
           walk_nrm
           u_c stepG_region_end u00 hF
           u_reg u00 hF
           u_op u00 hF
           u_conv H.underlying_tWgP H.room_tWg (WgLive.cell0 hF).choose_spec u00 hF
           exact Goes.stop fun _ _=>rfl
          case s3=>rfl
          case f=>exact stepG_markAt .acquire (by simp) rfl rfl (by k_ne) rfl H.f_acquire (x_acquire_n L) (x_acquire_b L) (x_acquire_x L) (x_acquire_f L) (by simp[Act.eval,stA])
          case s4=>rfl
          case g=>
           walk_nrm
           u_c stepG_region_end u00 hF
           iterate 2 (u_c stepG_seq u00 hF)
           u_reg u00 hF
           u_op u00 hF
           u_c stepG_region_end u00 hF
           u_cond false u00 hF
           u_c stepG_skip u00 hF
           u_c stepG_ret' u00 hF
           refine Goes.step rfl fun w₁ _ => ?_
           rw[stepG_leave (b:=Conc.base L.wait) (fn:=waitFn L) (v:=.tuple #[]) rfl rfl H.f_wait (results_none rfl _ P w₁) (events_results_none rfl _ _)]
           exact⟨by u_nil,Goes.stop fun _ _=>rfl⟩
   case miss=>
    have hne':=hne v' hvne
    co_apply Exists.intro
    refine⟨fun w hw => ?b,?rest8⟩
    case b=>exact stepG_cas_miss (v:=(v':Int)*KK) (old:=S) (n:=S+1) rfl rfl (by k_ne) rfl H.f_casU64 (x_casU64_n L) (x_casU64_b L) (x_casU64_x L) .u64 (x_casU64_f L) rfl rfl rfl hw.cellSt (hw.thaw 0) hne'
    case rest8=>
     co_apply Exists.intro
     refine⟨?t,⟨?s5,30,fun w hF => ?d⟩⟩
     case d=>
      walk_nrm
      u_op u00 hF
      u_c stepG_region_end u00 hF
      u_c stepG_ret' u00 hF
      u_leave1 H.f_uCas u00 hF
      u_c stepG_region_end u00 hF
      u_cond false u00 hF
      u_c stepG_skip u00 hF
      u_c stepG_inBlock u00 hF
      u_c stepG_inLoop u00 hF
      exact Goes.stop fun _ _=>rfl
     case t=>exact⟨by simp,by simp⟩
     case s5=>rfl
end
end Go.Rf
namespace Go.Rf
open Go Go.Conc Go.ConcN Go.RowKit Go.Conc.Lib Go.ConcR.Gen Go.ConcN.Gen
open Go.ConcR (KK wgBlock WgAt stA smA rd wr Payload Aside2 DC0)
namespace Ph
variable {A:Ph} {main:Bool} {mi:Addr→Prop} {Stop:(Nat→Prop)→Goroutine→World→Prop} {R:Nat→Prop} {Pr:World→Prop} {S:Nat→Prop}
def Held(A:Ph)(R:Nat→Prop)(Pr:World→Prop)(v:World)(S:Nat→Prop)(w:World):Prop:=∃ v₁,NzV v v₁∧Hid S R w (v₁.at w.drawn)∧A.WCtx Pr S w
theorem Held.live{v w:World}(h:A.Held R Pr v S w):A.Live w:=by obtain⟨_,_,_,hc⟩:=h;exact hc.live
theorem Held.rely(H:A.WOk mi R Pr){v w w₁:World}(h:A.Held R Pr v S w)(hr:A.RK S mi w w₁):A.Held R Pr v S w₁:=by
 obtain⟨v₁,hz,hh,hc⟩:=h
 have hN:A.N0≤w.heap.size:=Nat.le_trans H.geo.n0 hc.world.size
 have hle:=hr.size
 have hsz:v₁.heap.size=w.heap.size:=hh.size
 refine⟨extV v₁ w₁.heap.size w₁.drawn,hz.trans (u6d _ _ _),?_,hc.rely H hr⟩
 refine⟨(by show v₁.tape=_;rw[hr.tape];exact hh.tape),(by show v₁.os=_;rw[hr.os];exact hh.os),(by show v₁.output=_;rw[hr.output];exact hh.output),rfl,by show (extV v₁ w₁.heap.size w₁.drawn).heap.size=_;simp[extV];omega,fun k hk => ?_,fun k hk => ?_,fun k hl hk hn => ?_,fun k o hk ho => ?_⟩
 ·have:=(hc.rng k hk).2
  show (extV v₁ w₁.heap.size w₁.drawn).heap[k]? = _
  rw[u0u,if_pos (by omega),hr.blk k this (.inl hk)]
  exact hh.same k hk
 ·have hk':=(H.ro k hk).1
  have:=hk'.1
  show ∃ c e f,_∧(extV v₁ w₁.heap.size w₁.drawn).heap[k]? = _
  rw[u0u,if_pos (by omega),hr.blk k (by omega) (.inr hk')]
  exact hh.ro k hk
 ·show (extV v₁ w₁.heap.size w₁.drawn).heap[k]? = _
  rw[u0u]
  split
  ·rename_i hlt
   exact hh.veil k (by omega) hk hn
  ·rw[if_pos (by omega)]
 ·rw[hr.blk k (hc.rng k hk).2 (.inl hk)] at ho
  exact hh.plain k o hk ho
theorem WCtx.noS(G:A.Geo){w:World}(h:A.WCtx Pr S w):¬ S A.Wg:=fun x=>by have:=(h.rng _ x).1;have:=G.wg;omega
theorem Held.wg(H:A.WOk mi R Pr){v w w₁:World}(h:A.Held R Pr v S w)(ha:Aside A.Wg w w₁)(hd:w₁.drawn=w.drawn)(hl:A.Live w₁):A.Held R Pr v S w₁:=by
 have hS:¬ S A.Wg:=by obtain⟨_,_,_,hc⟩:=h;exact hc.noS H.geo
 exact h.rely H (RK.of_wg H.geo hS H.row ha hl)
theorem u11{F:World→Prop}(hFl:∀ w,F w→A.Live w)(hFr:∀ w w₁,A.RK S mi w w₁→F w→F w₁){g g':Goroutine}(hs:Stl A.P main A.ty A.Wg g g'){w:World}(hw:F w)(hnext:∀ w,F w→A.MW main mi Stop S g' w):A.MW main mi Stop S g w:=by
 obtain⟨_,n,hn⟩:=hs
 exact u5r (R:=RL A.ty A.Wg) (F:=F) (fun w w₁ hr=>hr.rl) hFr (fun g w e hf=>by subst e;exact hnext w hf) n g w (hn w (hFl w hw)) hw
theorem ud9{S:Nat→Prop}{mi:Addr→Prop}{m:Mark} (h:m=.read (smA A.Wg)∨m=.write (smA A.Wg)):A.EvK true S mi (Go.ConcR.mk m):=by
 refine .inr ?_
 rcases h with rfl | rfl
 all_goals
  refine⟨fun x hx => ?_,by simp[Go.ConcR.mk],by simp[Go.ConcR.mk],by simp[Go.ConcR.mk]⟩
  simp[Go.ConcR.mk,MemAct.ofEvent,MemAct.touch?] at hx
  subst hx
  exact⟨⟨smA A.Wg,rfl,rfl⟩,by simp,by simp⟩
theorem ua5{F:World→Prop}(hFl:∀ w,F w→A.Live w)(hFr:∀ w w₁,A.RK S mi w w₁→F w→F w₁){g g':Goroutine}(hs:StlS A.P true A.ty A.Wg g g'){w:World}(hw:F w)(hnext:∀ w,F w→A.MW true mi Stop S g' w):A.MW true mi Stop S g w:=by
 rcases hs with hs | ⟨g1,g2,m,h1,hm,hst,h2⟩
 ·exact u11 hFl hFr hs hw hnext
 ·refine u11 hFl hFr h1 hw fun w hw=>MW.step h1.1 fun w₁ hr=>⟨g2,w₁,_,hst w₁,⟨rfl,rfl,rfl,Nat.le_refl _,fun _ _ _ _=>rfl,fun _ _=>rfl,fun _ _ _=>rfl,fun e he => ?_⟩,?_⟩
  ·simp only[List.mem_toArray,List.mem_singleton] at he
   subst he
   exact ud9 hm
  ·rw[Grow.eq]
   exact u11 hFl hFr h2 (hFr _ _ hr hw) hnext
theorem StlS.run{P:Program}{main:Bool}{ty:TypeId}{Wg:Nat}{g g':Goroutine}(h:StlS P main ty Wg g g'):g'.status=.running:=by
 rcases h with h | ⟨_,_,_,_,_,_,h⟩
 ·exact h.1
 ·exact h.1
theorem addW[Payload]{L:WgLink}(H:WgLib A.P L)(hty:A.ty=L.tWg)(HO:A.WOk Ph.no R Pr){j:Nat} {Next:(Nat→Prop)→Goroutine→World→Prop} {c:Frame} {cs:List Frame} {v:World}
  (hnext:A.WWin true Ph.no (A.AtGoS j Next) R Pr (G (c.finish (.tuple #[])) cs) v):A.WWin true Ph.no (A.AtKdS j Next) R Pr (G (Frame.enter A.P L.add #[.pointer (some ⟨A.Wg,0,none⟩),.int .i64 1] .normal) (c::cs)) v:=by
 intro S w v₁ hz hh hc
 obtain⟨gD,gD',gA,s1,s2,s3,h4⟩:=ucz (Wg:=A.Wg) (c:=c) (cs:=cs) H
 rw[← hty] at s1 s3 h4
 have held:A.Held R Pr v S w:=⟨v₁,hz,hh,hc⟩
 have hFr:∀ w w₁,A.RK S Ph.no w w₁→A.Held R Pr v S w→A.Held R Pr v S w₁:=fun w w₁ hr h=>h.rely HO hr
 have hFl:∀ w,A.Held R Pr v S w→A.Live w:=fun w h=>h.live
 refine u11 hFl hFr s1 held fun w hw=>⟨.leaf,Wk.stop fun w₁ hr=>⟨s1.1,gD',s2 w₁,?_⟩⟩
 refine u11 hFl hFr s3 (hFr _ _ hr hw) fun w hw=>⟨.leaf,Wk.stop fun w₁ hr=>⟨s3.1,fun n hn hg => ?_⟩⟩
 obtain⟨gB,hB,gE,gE',sB,hE,sF⟩:=h4 n hn
 refine⟨gB,hB w₁ hg,?_⟩
 have hw1:=hFr _ _ hr hw
 have hw2:A.Held R Pr v S (w₁.setCell (stA A.Wg) (.int .u64 ((n+1)*KK))):=hw1.wg HO (aside_setCell w₁ (stA A.Wg) _) rfl ⟨_,_,hg.setSt _⟩
 refine ua5 hFl hFr sB hw2 fun w hw=>⟨.leaf,Wk.stop fun w₁ hr=>⟨StlS.run sB,gE',hE w₁,?_⟩⟩
 refine u11 hFl hFr sF (hFr _ _ hr hw) fun w hw => ?_
 obtain⟨v₁,hz,hh,hc⟩:=hw
 exact hnext S w v₁ hz hh hc
end Ph
end Go.Rf
namespace Go.Rf
open Go Go.Conc Go.ConcN Go.RowKit Go.Conc.Lib Go.ConcR.Gen Go.ConcN.Gen
open Go.ConcR (KK wgBlock WgAt stA smA rd wr Payload Aside2 DC0)
namespace Ph
variable {A:Ph} {S:Nat→Prop}
def XtW(A:Ph)(Gd:Frame→Prop)(cs:List Frame)(g:Goroutine):Prop:=∃ c,Gd c∧Stl A.P true A.ty A.Wg g (G (c.finish (.tuple #[])) cs)
def AnchW(A:Ph)(L:WgLink)(Gd:Frame→Prop)(cs:List Frame)(S:Nat→Prop)(g:Goroutine)(w:World):Prop:=(∃ c T,Gd c∧okT A.Wg T∧g=headW L c cs T)∧A.Live w
theorem anchW_run{L:WgLink}{Gd:Frame→Prop}{cs:List Frame}{S:Nat→Prop}{g:Goroutine}{w:World}(h:A.AnchW L Gd cs S g w):g.status=.running:=by
 obtain⟨⟨c,T,_,_,rfl⟩,_⟩:=h;rfl
variable [Payload]
theorem waitEnter{L:WgLink}(H:WgLib A.P L)(hty:A.ty=L.tWg){Gd:Frame→Prop}{c:Frame}{cs:List Frame}(hG:Gd c){w:World}(hl:A.Live w) :
  A.MM (A.AtKd (A.AnchW L Gd cs)) S (G (Frame.enter A.P L.wait #[.pointer (some ⟨A.Wg,0,none⟩)] .normal) (c::cs)) w:=by
 obtain⟨gD,gD',T,s1,s2,hT,s3⟩:=ua9 (Wg:=A.Wg) (c:=c) (cs:=cs) H
 rw[← hty] at s1 s3
 have hFr:∀ w w₁,A.RK S Ph.no w w₁→A.Live w→A.Live w₁:=fun w w₁ hr h=>hr.live h
 refine u11 (F:=A.Live) (fun w h=>h) hFr s1 hl fun w hw=>⟨.leaf,Wk.stop fun w₁ hr=>⟨s1.1,gD',s2 w₁,?_⟩⟩
 exact u11 (F:=A.Live) (fun w h=>h) hFr s3 (hr.live hw) fun w hw=>⟨.leaf,Wk.stop fun w₁ hr=>⟨⟨c,T,hG,hT,rfl⟩,hr.live hw⟩⟩
theorem ude{L:WgLink}(hty:A.ty=L.tWg){Gd:Frame→Prop}{c:Frame}{cs:List Frame}(hG:Gd c){g:Goroutine} (h:Tail A.P L A.Wg (G (c.finish (.tuple #[])) cs) g) {w:World} (hl:A.Live w):A.MM (A.AtKe (A.XtW Gd cs)) S g w:=by
 obtain⟨gE,gE',s1,s2,gQ,gQ',s3,s4,s5⟩:=h
 rw[← hty] at s1 s3 s5
 have hFr:∀ w w₁,A.RK S Ph.no w w₁→A.Live w→A.Live w₁:=fun w w₁ hr h=>hr.live h
 refine u11 (F:=A.Live) (fun w h=>h) hFr s1 hl fun w hw=>⟨.leaf,Wk.stop fun w₁ hr=>⟨s1.1,gE',s2 w₁,?_⟩⟩
 exact u11 (F:=A.Live) (fun w h=>h) hFr s3 (hr.live hw) fun w hw=>⟨.leaf,Wk.stop fun w₁ hr=>⟨s3.1,gQ',s4 w₁,c,hG,s5⟩⟩
theorem anchRound{L:WgLink}(H:WgLib A.P L)(hty:A.ty=L.tWg){Gd:Frame→Prop}{cs:List Frame}:∀ S g w,A.AnchW L Gd cs S g w→A.MM (A.AtW1 (A.XtW Gd cs) (A.AnchW L Gd cs)) S g w:=by
 rintro S g w ⟨⟨c,T,hG,hT,rfl⟩,hl⟩
 obtain⟨g1,s1,⟨g2z,hz,tz⟩,hpos⟩:=ua8 (c:=c) (cs:=cs) H hT
 rw[← hty] at s1 hz hpos
 have hFr:∀ w w₁,A.RK S Ph.no w w₁→A.Live w→A.Live w₁:=fun w w₁ hr h=>hr.live h
 refine u11 (F:=A.Live) (fun w h=>h) hFr s1 hl fun w hw=>⟨.leaf,Wk.stop fun w₁ hr=>⟨s1.1,fun v hv hg => ?_⟩⟩
 rcases Nat.eq_zero_or_pos v with rfl | hvp
 ·have hg':WgAt A.ty A.Wg w₁ 0 0:=by simpa using hg
  exact⟨g2z,hz w₁ hg',fun _=>ude hty hG tz ⟨_,_,hg⟩,fun h=>absurd rfl h⟩
 ·obtain⟨g2,h2,g3,s3,⟨g4,h4,g5,s5,hoff,hblk,g6,h6,g7,s7,g8,h8,t8⟩,hmiss⟩:=hpos v hv hvp
  refine⟨g2,h2 w₁ hg,fun h=>by omega,fun _=>u11 (F:=A.Live) (fun w h=>h) hFr s3 ⟨_,_,hg⟩ fun w hw=>⟨.leaf,Wk.stop fun w₂ hr₂=>⟨s3.1,fun v' hv' hg'=>⟨fun e => ?_,fun hne => ?_⟩⟩⟩⟩
  ·subst e
   refine⟨g4,h4 w₂ hg',ua5 (F:=A.Live) (fun w h=>h) hFr s5 ⟨_,_,hg'.setSt _⟩ fun w hw=>⟨.leaf,Wk.stop fun w₃ hr₃=>⟨StlS.run s5,hoff,fun ⟨st,hs⟩=>hblk w₃ st hs,fun h1=>⟨g6,h6 w₃ h1,?_⟩⟩⟩⟩
   refine u11 (F:=A.Live) (fun w h=>h) hFr s7 ⟨_,_,h1.setSm _⟩ fun w hw=>⟨.leaf,Wk.stop fun w₄ hr₄=>⟨s7.1,fun h0=>⟨g8,h8 w₄ h0,ude hty hG t8 ⟨_,_,h0⟩⟩⟩⟩
  ·obtain⟨g4',hm,T',hT',s⟩:=hmiss v' hv' hne
   exact⟨g4',hm w₂ hg',u11 (F:=A.Live) (fun w h=>h) hFr s ⟨_,_,hg'⟩ fun w hw=>⟨.leaf,Wk.stop fun w₃ hr₃=>⟨⟨c,T',hG,hT',rfl⟩,hr₃.live hw⟩⟩⟩
end Ph
end Go.Rf
namespace Go.Rf
open Go Go.Conc Go.ConcN
open Go.ConcR (KK wgBlock WgAt stA smA rd wr Payload DC0 Bk)
section
variable {P:Program} {W:World} {Post:Value→World→Prop}
theorem Idle.trees{Z:Nat→Prop}{b:Nat}{gs:Array Goroutine}{w:World}{t:Trace}(hI:Idle P Z b gs w t):∃ τ:Nat→Tr,∀ i,0<i→i<b→∃ g m,gs[i]? = some g∧τ i=.ofNat m∧QuitsD P m (Deaf t i) g:=by
 have:∀ i,∃ x:Tr,0<i→i<b→∃ g m,gs[i]? = some g∧x=.ofNat m∧QuitsD P m (Deaf t i) g:=by
  intro i
  by_cases h:0<i∧i<b
  ·obtain⟨g,m,h1,h2⟩:=hI.old i h.1 h.2
   exact⟨.ofNat m,fun _ _=>⟨g,m,h1,rfl,h2⟩⟩
  ·exact⟨.leaf,fun h1 h2=>absurd ⟨h1,h2⟩ h⟩
 exact⟨fun i=>(this i).choose,fun i=>(this i).choose_spec⟩
theorem mwin_raw{g0:Goroutine}{v:World}(hg:g0.status=.running)
  (h:∀ S w Z b t,Hid S nob' w (v.at w.drawn)→Ctxt W S w Z→(∃ gs,Idle P Z b gs w t)→∃ g' w',stepG P true g0 w=.go g' w' #[]∧w.heap.size≤w'.heap.size∧(∀ k,k<w.heap.size→w'.heap[k]? = w.heap[k]?)∧∀ gs sl,gs[0]? = some g'→Idle P Z b gs w' t→Ends P Post (crowd gs w' sl) t):MWin P W Post g0 v:=by
 intro S w Z b gs sl t hh hc h0 hI
 obtain⟨τ,hτ⟩:=hI.trees
 refine u7l P Post (g:=g0) hg τ gs w sl t h0 hI hτ fun gs w₀ d sl₀ sl t h0 hI hst => ?_
 have hI1:Idle P Z b gs (w.at d) t:=hI.at d
 obtain⟨g',w',hs,hsz,hold,hend⟩:=h S (w.at d) Z b t (by rw[show (w.at d).drawn=d from rfl];exact hh.at d) (Ctxt.at W hc d) ⟨gs,hI1⟩
 have hrun:=runT_crowd_go (P:=P) (sl:=sl) (i:=0) h0 (show stepG P (0==0) g0 (w.at d)=_ from hs)
 have hI':=hI1.step0 (w':=w') (g:=g0) (g':=g') (fn:=g0.frame.fn) (pos:=g0.frame.place) (S:=S) (es:=#[]) hc.apart (fun k hk=>Nat.lt_of_lt_of_le (hc.lt k hk) hsz) hsz (by simp)
 have he:∀ (fn:FuncId) (pos:String),t++MemOp.ofEvents 0 fn pos #[]=t:=fun fn pos=>by simp[MemOp.ofEvents]
 rw[he] at hI'
 refine Ends.back (hst.trans hrun) ?_
 rw[he]
 exact hend _ sl (get_map_set_same _ _ _ (by rw[hI1.size];exact hI1.b1)) hI'
theorem ends_goes{ty:TypeId}{Wg:Nat}{S Z:Nat→Prop}{b:Nat}{gF:Goroutine}{v:World}(hF:MWin P W Post gF v):∀ (n:Nat) (g:Goroutine) (w:World) (gs:Array Goroutine) (sl:Option (Nat×Nat)) (t:Trace),
  Goes P true (RL ty Wg) DC0 (fun x _=>x=gF) n g w→WgLive ty Wg w→Hid S nob' w (v.at w.drawn)→Ctxt W S w Z→gs[0]? = some g→Idle P Z b gs w t→Ends P Post (crowd gs w sl) t:=by
 have stop:∀ (w:World) (gs:Array Goroutine) (sl:Option (Nat×Nat)) (t:Trace) (g:Goroutine),g=gF→Hid S nob' w (v.at w.drawn)→Ctxt W S w Z→gs[0]? = some g→Idle P Z b gs w t→Ends P Post (crowd gs w sl) t:=by
  rintro w gs sl t g rfl hh hc h0 hI
  exact hF S w Z b gs sl t hh hc h0 hI
 intro n
 induction n with
 | zero=>
  intro g w gs sl t hg hl hh hc h0 hI
  exact stop w gs sl t g (hg w (fun x=>x)) hh hc h0 hI
 | succ n ih=>
  intro g w gs sl t hg hl hh hc h0 hI
  rcases hg with hg | ⟨hrun,hg⟩
  ·exact stop w gs sl t g (hg w fun x=>x) hh hc h0 hI
  ·obtain⟨τ,hτ⟩:=hI.trees
   have hg0:∀ d,∃ g1,stepG P true g (w.at d)=.go g1 (w.at d) #[]∧Goes P true (RL ty Wg) DC0 (fun x _=>x=gF) n g1 (w.at d):=fun d=>by
    have h:=hg (w.at d) fun x=>x
    cases hs:stepG P true g (w.at d) with
    | go g1 w1 es=>
     rw[hs] at h
     obtain⟨⟨e1,e2⟩,h⟩:=h
     subst e1;subst e2
     exact⟨g1,rfl,h⟩
    | _=>rw[hs] at h;exact h.elim
   refine u7l P Post (g:=g) hrun τ gs w sl t h0 hI hτ fun gs w₀ d sl₀ sl t h0 hI hst => ?_
   obtain⟨g',hs,hg'⟩:=hg0 d
   have hrunT:=runT_crowd_go (P:=P) (sl:=sl) (i:=0) h0 (show stepG P (0==0) g (w.at d)=_ from hs)
   have hI1:Idle P Z b gs (w.at d) t:=hI.at d
   have hI':=hI1.step0 (w':=w.at d) (g:=g) (g':=g') (fn:=g.frame.fn) (pos:=g.frame.place) (S:=S) (es:=#[]) hc.apart (fun k hk=>hc.lt k hk) (Nat.le_refl _) (by simp)
   have he:∀ (fn:FuncId) (pos:String),t++MemOp.ofEvents 0 fn pos #[]=t:=fun fn pos=>by simp[MemOp.ofEvents]
   rw[he] at hI'
   refine Ends.back (hst.trans hrunT) ?_
   rw[he]
   exact ih g' (w.at d) _ sl t hg' hl (by rw[show (w.at d).drawn=d from rfl];exact hh.at d) (Ctxt.at W hc d) (get_map_set_same _ _ _ (by rw[hI1.size];exact hI1.b1)) hI'
end
end Go.Rf
