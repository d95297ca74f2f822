import Derived.Test.YtijjhfailnmeoaaGreatPowerCurveS1
import Derived.Conc.WgLib
import Derived.Conc.Own2
import Derived.IntWalk
set_option linter.unusedVariables false
set_option linter.unusedSimpArgs false
set_option linter.unusedSectionVars false
namespace Go.Proofs
abbrev Tryz.link:Go.Conc.Lib.WgLink:={ add:=53,done:=55,wait:=57,relMerge:=91,disable:=92,enable:=93,inBubble:=94,associate:=95,fatal:=96,uOr:=97,uAdd:=98,raceRead:=99,uLoad:=100,uStore:=101,disassociate:=102,semrelease:=103,acquire:=108,isAssociated:=109,uCas:=110,raceWrite:=111,semacquire:=112,orU64:=135,addU64:=136,loadU64:=137,storeU64:=138,casU64:=145,tWgP:=113,tUP:=115,tAssoc:=117,tWg:=83,tAU:=80,tU64:=78,tUint:=121,tU32:=81,tPU32:=122,tPAU:=153,tPU64:=155,tNoCopy:=75,tANoCopy:=76,tAlign64:=77 }
theorem Tryz.wgLib:Go.Conc.Lib.WgLib Tryz.prog Tryz.link:=
 ⟨Tryz.func53,Tryz.func55,Tryz.func57,Tryz.func91,Tryz.func92,Tryz.func93,Tryz.func94,Tryz.func95,Tryz.func96,Tryz.func97,Tryz.func98,Tryz.func99,Tryz.func100,Tryz.func101,Tryz.func102,Tryz.func103,Tryz.func108,Tryz.func109,Tryz.func110,Tryz.func111,Tryz.func112,Tryz.func135,Tryz.func136,Tryz.func137,Tryz.func138,Tryz.func145,Tryz.underlying113,Tryz.runUnderlying113,Tryz.sizeOf113,Tryz.isAgg113,Tryz.zeroValue113,Tryz.underlying115,Tryz.runUnderlying115,Tryz.sizeOf115,Tryz.isAgg115,Tryz.zeroValue115,Tryz.underlying117,Tryz.runUnderlying117,Tryz.sizeOf117,Tryz.isAgg117,Tryz.zeroValue117,Tryz.underlying83,Tryz.runUnderlying83,Tryz.sizeOf83,Tryz.isAgg83,Tryz.zeroValue83,Tryz.underlying80,Tryz.runUnderlying80,Tryz.sizeOf80,Tryz.isAgg80,Tryz.zeroValue80,Tryz.underlying78,Tryz.runUnderlying78,Tryz.sizeOf78,Tryz.isAgg78,Tryz.zeroValue78,Tryz.underlying121,Tryz.runUnderlying121,Tryz.sizeOf121,Tryz.isAgg121,Tryz.zeroValue121,Tryz.underlying81,Tryz.runUnderlying81,Tryz.sizeOf81,Tryz.isAgg81,Tryz.zeroValue81,Tryz.underlying122,Tryz.runUnderlying122,Tryz.sizeOf122,Tryz.isAgg122,Tryz.zeroValue122,Tryz.underlying153,Tryz.runUnderlying153,Tryz.sizeOf153,Tryz.isAgg153,Tryz.zeroValue153,Tryz.underlying155,Tryz.runUnderlying155,Tryz.sizeOf155,Tryz.isAgg155,Tryz.zeroValue155,Tryz.underlying0,Tryz.runUnderlying0,Tryz.sizeOf0,Tryz.isAgg0,Tryz.zeroValue0,Tryz.underlying3,Tryz.runUnderlying3,Tryz.sizeOf3,Tryz.isAgg3,Tryz.zeroValue3,Tryz.underlying4,Tryz.runUnderlying4,Tryz.sizeOf4,Tryz.isAgg4,Tryz.zeroValue4,Tryz.underlying9,Tryz.runUnderlying9,Tryz.sizeOf9,Tryz.isAgg9,Tryz.zeroValue9,Tryz.underlying20,Tryz.runUnderlying20,Tryz.sizeOf20,Tryz.isAgg20,Tryz.zeroValue20,Tryz.underlying21,Tryz.runUnderlying21,Tryz.sizeOf21,Tryz.isAgg21,Tryz.zeroValue21,(by kernel_rfl),(by kernel_rfl)⟩
end Go.Proofs
set_option maxRecDepth 100000
set_option maxHeartbeats 4000000
namespace Go.Proofs.YtijjhfailnmeoaaGreat
open Go Go.Rf Go.Conc Go.ConcN
def sqA:Code→Code | .seq a _=>a | c=>c
def sqB:Code→Code | .seq _ b=>b | c=>c
def inB:Code→Code | .block _ c=>c | .loop c=>c | c=>c
def opsR:Code→Array Oper | .region _ ops _=>ops | _=>#[]
noncomputable def c54:Code:=Tryz.f54.body.getD .skip
noncomputable def r54_0:Array Oper:=opsR (sqA c54)
noncomputable def r54_1:Array Oper:=opsR (sqA (sqB c54))
noncomputable def l54:Code:=inB (inB (sqB (sqB c54)))
noncomputable def r54_2:Array Oper:=opsR (sqA (sqA l54))
noncomputable def r54_4:Array Oper:=opsR (inB (sqA (sqB l54)))
noncomputable def r54_3:Array Oper:=opsR (sqB (sqB l54))
noncomputable def opA(i:Nat):Oper:=(r54_4[i]?).getD default
noncomputable def dstA(i:Nat):Option Nat:=(opA i).dst
theorem yg6:r54_4.size=23:=by kernel_rfl
structure FP where
 an:Nat
 al:List Nat
 ln:Nat
 ll:List Nat
 dn:Nat
 dl:List Nat
 sn:Nat
 sl:List Nat
 cc:Int
 hb:Nat
 tp:Nat
 x2:Nat
 x3:Nat
 x4:Nat
 x5:Nat
 ws:Nat
namespace FP
variable (p:FP)
noncomputable def ok(i:Nat):Bool:=zak p.an (pF p.al 0 (muN p.an 1)) p.ln (pF p.ll 0 (muN p.ln 1)) p.dn (pF p.dl 0 (muN p.dn 1)) p.sn (pF p.sl 0 (muN p.sn 3)) p.cc p.hb p.tp (Int.ofNat i) p.x2 p.x3 p.x4 p.x5
noncomputable def v0(i:Nat):Nat:=za3 p.an (pF p.al 0 (muN p.an 1)) p.ln (pF p.ll 0 (muN p.ln 1)) p.dn (pF p.dl 0 (muN p.dn 1)) p.sn (pF p.sl 0 (muN p.sn 3)) p.cc p.hb p.tp (Int.ofNat i) p.x2 p.x3 p.x4 p.x5
noncomputable def v1(i:Nat):Nat:=z9s p.an (pF p.al 0 (muN p.an 1)) p.ln (pF p.ll 0 (muN p.ln 1)) p.dn (pF p.dl 0 (muN p.dn 1)) p.sn (pF p.sl 0 (muN p.sn 3)) p.cc p.hb p.tp (Int.ofNat i) p.x2 p.x3 p.x4 p.x5
noncomputable def v2(i:Nat):Bool:=z9z p.an (pF p.al 0 (muN p.an 1)) p.ln (pF p.ll 0 (muN p.ln 1)) p.dn (pF p.dl 0 (muN p.dn 1)) p.sn (pF p.sl 0 (muN p.sn 3)) p.cc p.hb p.tp (Int.ofNat i) p.x2 p.x3 p.x4 p.x5
def H0:List Blk:=[⟨false,.fl .f32 p.al⟩,⟨false,.fl .f32 p.ll⟩,⟨false,.fl .f32 p.dl⟩,⟨false,.fl .f32 p.sl⟩,
 ⟨false,.cells [.vw 0 0 p.an 1,.vw 1 0 p.ln 1,.vw 2 0 p.dn 1,.vw 3 0 p.sn 3,.int .i64 p.cc,.flt .f32 p.hb,.flt .f32 p.tp]⟩,
 ⟨false,.cells [.flt .f32 p.x2]⟩,⟨false,.cells [.flt .f32 p.x3]⟩,⟨false,.cells [.flt .f32 p.x4]⟩,⟨false,.cells [.flt .f32 p.x5]⟩,⟨false,.cells [.int .i64 (Int.ofNat p.ws)]⟩,⟨false,.cells [.int .i64 (Int.ofNat p.sn)]⟩,
 ⟨false,.cells [.sl 12 0 p.sn 1]⟩,⟨false,.dead p.sn⟩,⟨false,.cells [.sl 14 0 p.sn 1]⟩,⟨false,.dead p.sn⟩,⟨false,.cells [.sl 16 0 p.sn 1]⟩,⟨false,.dead p.sn⟩,⟨false,.dead 2⟩]
def Hw(i:Nat):List Blk:=p.H0++[⟨false,.cells [.int .i64 (Int.ofNat i)]⟩,ph]
def base(x:AV):List (Nat×AV):=[(1,A1 (.ptr 18 0 1)),(2,A1 (.ptr 10 0 1)),(3,A1 (.ptr 9 0 1)),(4,A1 (.ptr 4 0 7)),(5,A1 (.ptr 5 0 1)),(6,A1 (.ptr 6 0 1)),(7,A1 (.ptr 7 0 1)),(8,A1 (.ptr 8 0 1)),
 (9,A1 (.ptr 11 0 1)),(10,A1 (.ptr 13 0 1)),(11,A1 (.ptr 15 0 1)),(12,x)]
def at_(x:Nat):AV:=A1 (.int .i64 (Int.ofNat x))
noncomputable def val(x:Nat):Nat→AV
 | 0=>A1 (.sl 12 0 p.sn 1)
 | 2=>A1 (.sl 14 0 p.sn 1)
 | 4=>A1 (.sl 16 0 p.sn 1)
 | 1 | 3 | 5 | 7=>at_ x
 | 6=>.v (.agg [.vw 0 0 p.an 1,.vw 1 0 p.ln 1,.vw 2 0 p.dn 1,.vw 3 0 p.sn 3,.int .i64 p.cc,.flt .f32 p.hb,.flt .f32 p.tp])
 | 8=>A1 (.flt .f32 p.x2)
 | 9=>A1 (.flt .f32 p.x3)
 | 10=>A1 (.flt .f32 p.x4)
 | 11=>A1 (.flt .f32 p.x5)
 | 12 | 13=>.tup [.one (.flt .f32 (p.v0 x)),.one (.flt .f32 (p.v1 x)),.one (.bool (p.v2 x))]
 | 14=>A1 (.flt .f32 (p.v0 x))
 | 15=>A1 (.flt .f32 (p.v1 x))
 | 16=>A1 (.bool (p.v2 x))
 | 17=>A1 (.ptr 12 (0+(Int.ofNat x).toNat*1) 1)
 | 19=>A1 (.ptr 14 (0+(Int.ofNat x).toNat*1) 1)
 | 21=>A1 (.ptr 16 (0+(Int.ofNat x).toNat*1) 1)
 | _=>.top
def deps:Nat→List Nat
 | 12=>[6,7,8,9,10,11]
 | 13=>[12]
 | 14 | 15 | 16=>[13]
 | 17=>[0,1]
 | 18=>[17,14]
 | 19=>[2,3]
 | 20=>[19,15]
 | 21=>[4,5]
 | 22=>[21,16]
 | _=>[]
noncomputable def tmD(x i:Nat):List (Nat×AV):=(deps i).foldr (fun j l=>match dstA j with | some d=>(d,p.val x j)::l | none=>l) (base (at_ x))
end FP
theorem yk3:((List.range 23).all fun i=>(FP.deps i).all fun j=>((opA i).after.any fun e=>Nat.beq e.on j&&Region.binds .any e)&&Nat.blt j 23&&(dstA j).isSome)=true:=by kernel_rfl
theorem yjw:((List.range 23).all fun i=>match dstA i with | some d=>Nat.ble 20 d&&Nat.blt d 40&&(List.range 23).all (fun j=>match dstA j with | some d'=>!Nat.beq d d'||Nat.beq i j | none=>true) | none=>true)=true:=by kernel_rfl
theorem yj7:((List.range 23).all fun i=>(opA i).guard.isNone)=true:=by kernel_rfl
theorem ykh:aftOk 0 r54_4.toList=true:=by kernel_rfl
noncomputable def Γw:Ctx:=⟨tyTab,fnTab,fun _ _=>none,fun _ _ _ _=>none⟩
theorem looks(p:FP)(w x:Nat) (hx:okIx (Int.ofNat x) p.sn=true):∀ i,i<23→i≠12→i≠18→i≠20→i≠22→evQ Γw (opA i).op (p.tmD x i) (p.Hw w) some=some (p.val x i):=by
 intro i h1 h2 h3 h4 h5
 match i,h1,h2,h3,h4,h5 with
 | 0,_,_,_,_,_=>
  have e:evQ Γw (opA 0).op (p.tmD x 0) (p.Hw w) some=some (p.val x 0):=by kernel_rfl
  exact e
 | 1,_,_,_,_,_=>
  have e:evQ Γw (opA 1).op (p.tmD x 1) (p.Hw w) some=some (p.val x 1):=by kernel_rfl
  exact e
 | 2,_,_,_,_,_=>
  have e:evQ Γw (opA 2).op (p.tmD x 2) (p.Hw w) some=some (p.val x 2):=by kernel_rfl
  exact e
 | 3,_,_,_,_,_=>
  have e:evQ Γw (opA 3).op (p.tmD x 3) (p.Hw w) some=some (p.val x 3):=by kernel_rfl
  exact e
 | 4,_,_,_,_,_=>
  have e:evQ Γw (opA 4).op (p.tmD x 4) (p.Hw w) some=some (p.val x 4):=by kernel_rfl
  exact e
 | 5,_,_,_,_,_=>
  have e:evQ Γw (opA 5).op (p.tmD x 5) (p.Hw w) some=some (p.val x 5):=by kernel_rfl
  exact e
 | 6,_,_,_,_,_=>
  have e:evQ Γw (opA 6).op (p.tmD x 6) (p.Hw w) some=some (p.val x 6):=by kernel_rfl
  exact e
 | 7,_,_,_,_,_=>
  have e:evQ Γw (opA 7).op (p.tmD x 7) (p.Hw w) some=some (p.val x 7):=by kernel_rfl
  exact e
 | 8,_,_,_,_,_=>
  have e:evQ Γw (opA 8).op (p.tmD x 8) (p.Hw w) some=some (p.val x 8):=by kernel_rfl
  exact e
 | 9,_,_,_,_,_=>
  have e:evQ Γw (opA 9).op (p.tmD x 9) (p.Hw w) some=some (p.val x 9):=by kernel_rfl
  exact e
 | 10,_,_,_,_,_=>
  have e:evQ Γw (opA 10).op (p.tmD x 10) (p.Hw w) some=some (p.val x 10):=by kernel_rfl
  exact e
 | 11,_,_,_,_,_=>
  have e:evQ Γw (opA 11).op (p.tmD x 11) (p.Hw w) some=some (p.val x 11):=by kernel_rfl
  exact e
 | 13,_,_,_,_,_=>
  have e:evQ Γw (opA 13).op (p.tmD x 13) (p.Hw w) some=some (p.val x 13):=by kernel_rfl
  exact e
 | 14,_,_,_,_,_=>
  have e:evQ Γw (opA 14).op (p.tmD x 14) (p.Hw w) some=some (p.val x 14):=by kernel_rfl
  exact e
 | 15,_,_,_,_,_=>
  have e:evQ Γw (opA 15).op (p.tmD x 15) (p.Hw w) some=some (p.val x 15):=by kernel_rfl
  exact e
 | 16,_,_,_,_,_=>
  have e:evQ Γw (opA 16).op (p.tmD x 16) (p.Hw w) some=some (p.val x 16):=by kernel_rfl
  exact e
 | 17,_,_,_,_,_=>
  have e:evQ Γw (opA 17).op (p.tmD x 17) (p.Hw w) some=grd (okIx (Int.ofNat x) p.sn) (some (p.val x 17)):=by kernel_rfl
  rw[e,hx];rfl
 | 19,_,_,_,_,_=>
  have e:evQ Γw (opA 19).op (p.tmD x 19) (p.Hw w) some=grd (okIx (Int.ofNat x) p.sn) (some (p.val x 19)):=by kernel_rfl
  rw[e,hx];rfl
 | 21,_,_,_,_,_=>
  have e:evQ Γw (opA 21).op (p.tmD x 21) (p.Hw w) some=grd (okIx (Int.ofNat x) p.sn) (some (p.val x 21)):=by kernel_rfl
  rw[e,hx];rfl
 | 12,_,h,_,_,_=>exact absurd rfl h
 | 18,_,_,h,_,_=>exact absurd rfl h
 | 20,_,_,_,h,_=>exact absurd rfl h
 | 22,_,_,_,_,h=>exact absurd rfl h
 | n+23,h,_,_,_,_=>omega
end Go.Proofs.YtijjhfailnmeoaaGreat
namespace Go.Proofs.YtijjhfailnmeoaaGreat
open Go Go.Rf Go.Conc Go.ConcN
structure FQ where
 p:FP
 B1:Nat
 B2:Nat
 B3:Nat
 Wg:Nat
 b:Nat
 N0:Nat
 Z:Nat→Prop
 w0:World
def okc(B y:Nat)(a:At)(w:World):Prop:=∃ u,w.cell? ⟨B,y,none⟩=some u∧R0 NoB [] a u
theorem okc.same{B y:Nat}{a:At}{w w':World}(h:okc B y a w)(e:w'.cell? ⟨B,y,none⟩=w.cell? ⟨B,y,none⟩):okc B y a w':=by
 obtain⟨u,h1,h2⟩:=h
 exact⟨u,by rw[e];exact h1,h2⟩
namespace FQ
variable (q:FQ)
structure Okx (y:Nat) (w:World):Prop where
 a:okc q.B1 y (.flt .f32 (q.p.v0 y)) w
 b:okc q.B2 y (.flt .f32 (q.p.v1 y)) w
 c:okc q.B3 y (.bool (q.p.v2 y)) w
def M(i:Nat)(a:Addr):Prop:=∃ y,y<q.p.sn∧y%q.p.ws=i∧(a=⟨q.B1,y,none⟩∨a=⟨q.B2,y,none⟩∨a=⟨q.B3,y,none⟩)
noncomputable abbrev ph:Ph:=⟨Tryz.prog,83,q.Wg,q.b,q.p.ws,q.N0,q.Z,fun k=>k=q.B1∨k=q.B2∨k=q.B3,q.M,fun i w=>∀ y,y<q.p.sn→y%q.p.ws=i→q.Okx y w,q.w0⟩
structure Pr (x:Nat) (c1 c2 c3:Bool) (w:World):Prop where
 old:∀ y,y<q.p.sn→y%q.p.ws=x%q.p.ws→y<x→q.Okx y w
 a:c1=true→x<q.p.sn→okc q.B1 x (.flt .f32 (q.p.v0 x)) w
 b:c2=true→x<q.p.sn→okc q.B2 x (.flt .f32 (q.p.v1 x)) w
 c:c3=true→x<q.p.sn→okc q.B3 x (.bool (q.p.v2 x)) w
variable {q}
theorem Okx.same{y i:Nat}{w w':World}(h:q.Okx y w)(e:∀ a,q.M i a→w'.cell? a=w.cell? a)(h1:y<q.p.sn)(h2:y%q.p.ws=i):q.Okx y w':=
 ⟨h.a.same (e _ ⟨y,h1,h2,.inl rfl⟩),h.b.same (e _ ⟨y,h1,h2,.inr (.inl rfl)⟩),h.c.same (e _ ⟨y,h1,h2,.inr (.inr rfl)⟩)⟩
theorem finOk:q.ph.FinOk:=fun i S w w₁ hr h y h1 h2=>(h y h1 h2).same hr.cel h1 h2
theorem wok(G:q.ph.Geo){R:Nat→Prop}(hR:∀ k,R k→q.ph.Ro k){x i:Nat}(hxi:x%q.p.ws=i)(c1 c2 c3:Bool):q.ph.WOk (q.M i) R (q.Pr x c1 c2 c3):=by
 refine⟨G,hR,?_,fun w w' e h => ?_⟩
 ·rintro a ⟨y,_,_,rfl | rfl | rfl⟩
  ·exact .inl rfl
  ·exact .inr (.inl rfl)
  ·exact .inr (.inr rfl)
 ·exact⟨fun y h1 h2 h3=>(h.old y h1 h2 h3).same e h1 (h2.trans hxi),fun h1 h2=>(h.a h1 h2).same (e _ ⟨x,h2,hxi,.inl rfl⟩),fun h1 h2=>(h.b h1 h2).same (e _ ⟨x,h2,hxi,.inr (.inl rfl)⟩),fun h1 h2=>(h.c h1 h2).same (e _ ⟨x,h2,hxi,.inr (.inr rfl)⟩)⟩
end FQ
theorem z50{n:Nat}{f:Nat→Bool} (h:(List.range n).all f=true) {i:Nat} (hi:i<n):f i=true:=List.all_eq_true.1 h i (List.mem_range.2 hi)
theorem yjv(x:AV){d:Nat}(h:20≤d):get (FP.base x) d=.top:=by
 unfold FP.base
 simp only[u16]
 repeat (rw[if_neg (by omega)])
 rfl
theorem z5k{β:Bm}{H:List Blk} {tm:List (Nat×AV)} {tmps:Array Value} {d:Nat} {v:AV} (h:RV β H v (tmps.getD d undef)) (ht:RTm β H tm tmps):RTm β H ((d,v)::tm) tmps:=fun t=>by
 rw[u16]
 split
 ·rename_i e;subst e;exact h
 ·exact ht t
theorem y59{β:Bm}{H:List Blk} {tm:List (Nat×AV)} {a:Act} {o:Option Nat} {u:Value} (h:RTm β H tm a.tmps) (hd:∀ d,o=some d→get tm d=.top):RTm β H tm (a.put o u).tmps:=fun t=>by
 cases o with
 | none=>exact h t
 | some d=>
  by_cases e:t=d
  ·subst e
   rw[hd t rfl];trivial
  ·have:(a.put (some d) u).tmps.getD t undef=a.tmps.getD t undef:=by
    simp only[Act.put,Array.getD_eq_getD_getElem?]
    rw[Array.getElem?_setIfInBounds_ne fun x=>e x.symm]
   rw[this];exact h t
section
variable {q:FQ} {R:Nat→Prop} {x i:Nat} {β:Bm} {C1 C2 C3:Nat}
structure Rg (q:FQ) (β:Bm) (i x:Nat) (D:List Deferred) (listed:Array Bool) (a:Act) (v:World):Prop where
 len:listed.size=23
 wr:WR β (q.p.Hw i) v
 bs:RTm β (q.p.Hw i) (FP.base (FP.at_ x)) a.tmps
 sz:a.tmps.size=40
 df:a.defers=D
 val:∀ j d,j<23→dstA j=some d→listed.getD j false=true→RV β (q.p.Hw i) (q.p.val x j) (a.tmps.getD d undef)
variable {D:List Deferred}
theorem Rg.tmD{listed:Array Bool}{a:Act}{v:World}(h:Rg q β i x D listed a v){j:Nat}(hl:∀ k∈FP.deps j,listed.getD k false=true∧k<23):RTm β (q.p.Hw i) (q.p.tmD x j) a.tmps:=by
 unfold FP.tmD
 revert hl
 induction FP.deps j with
 | nil=>intro _;exact h.bs
 | cons k l ih=>
  intro hl
  have ih:=ih fun k hk=>hl k (List.mem_cons_of_mem _ hk)
  obtain⟨h1,h2⟩:=hl k List.mem_cons_self
  simp only[List.foldr_cons]
  cases hd:dstA k with
  | none=>exact ih
  | some d=>exact z5k (h.val k d h2 hd h1) ih
theorem Rg.next{listed:Array Bool}{a:Act}{v v':World}(h:Rg q β i x D listed a v){j:Nat}(hj:j<23){u:Value} (hw:WR β (q.p.Hw i) v') (hu:RV β (q.p.Hw i) (q.p.val x j) u):Rg q β i x D (listed.setIfInBounds j true) (a.put (dstA j) u) v':=by
 have hds:=z50 yjw hj
 refine⟨by simp[h.len],hw,y59 h.bs fun d hd => ?_,by rw[u2d];exact h.sz,by rw[u1s];exact h.df,fun k d hk hd hl => ?_⟩
 ·rw[hd] at hds
  simp only[Bool.and_eq_true] at hds
  exact yjv _ (u0y hds.1.1)
 ·rw[u37 (by rw[h.len];exact hj)] at hl
  by_cases e:j=k
  ·subst e
   rw[hd] at hds
   simp only[Bool.and_eq_true] at hds
   have hlt:d<a.tmps.size:=by rw[h.sz];exact u34 hds.1.2
   rw[hd]
   simpa [Act.put,Array.getD_eq_getD_getElem?,hlt] using hu
  ·rw[if_neg e] at hl
   have hv:=h.val k d hk hd hl
   cases hdj:dstA j with
   | none=>exact hv
   | some d'=>
    rw[hdj] at hds
    simp only[Bool.and_eq_true] at hds
    have h3:=z50 hds.2 hk
    rw[hd] at h3
    simp only[Bool.or_eq_true,Bool.not_eq_true'] at h3
    have hne:d'≠d:=by
     rcases h3 with h3 | h3
     ·intro e';subst e';simp at h3
     ·exact absurd (u04 h3) e
    have:(a.put (some d') u).tmps.getD d undef=a.tmps.getD d undef:=by
     simp only[Act.put,Array.getD_eq_getD_getElem?]
     rw[Array.getElem?_setIfInBounds_ne hne]
    rw[this];exact hv
theorem yit{listed:Array Bool}{j:Nat}(hj:j<23)(h:j∈Region.ready .any r54_4 listed):r54_4[j]? = some (opA j)∧∀ k∈FP.deps j,listed.getD k false=true∧k<23:=by
 obtain⟨_,_,o,ho,ha⟩:=Rf.ready_mem h
 have e:opA j=o:=by unfold opA;rw[ho];rfl
 refine⟨by rw[e];exact ho,fun k hk => ?_⟩
 have hd:=List.all_eq_true.1 (z50 yk3 hj) k hk
 simp only[Bool.and_eq_true,Array.any_eq_true] at hd
 obtain⟨⟨⟨m,hm,h1,h2⟩,h3⟩,h4⟩:=hd
 refine⟨?_,u34 h3⟩
 rw[← e] at ha
 rw[Array.all_eq_true] at ha
 have:=ha m hm
 rw[h2] at this
 simp only[Bool.not_true,Bool.false_or] at this
 rw[← u04 h1];exact this
end
end Go.Proofs.YtijjhfailnmeoaaGreat
namespace Go.Proofs.YtijjhfailnmeoaaGreat
open Go Go.Rf Go.Conc Go.ConcN
open Go.ConcR (Payload)
theorem zl1{B B' x y:Nat}(h:B≠B'∨x≠y):(⟨B,x,none⟩:Addr)≠⟨B',y,none⟩:=fun e=>by
 injection e with e1 e2
 exact h.elim (fun h=>h e1) fun h=>h e2
structure Ne3 (q:FQ):Prop where
 h12:q.B1≠q.B2
 h13:q.B1≠q.B3
 h23:q.B2≠q.B3
section
variable {q:FQ} {x:Nat} {c1 c2 c3:Bool} {w w':World} {u:Value}
theorem yi1(h:q.Pr x c1 c2 c3 w){B:Nat}(e:∀ ad:Addr,ad≠⟨B,x,none⟩→w'.cell? ad=w.cell? ad):∀ y,y<q.p.sn→y%q.p.ws=x%q.p.ws→y<x→q.Okx y w':=fun y h1 h2 h3=>by
 have h:=h.old y h1 h2 h3
 exact⟨h.a.same (e _ (zl1 (.inr (by omega)))),h.b.same (e _ (zl1 (.inr (by omega)))),h.c.same (e _ (zl1 (.inr (by omega))))⟩
theorem pr_a(N:Ne3 q)(h:q.Pr x c1 c2 c3 w)(e:∀ ad:Addr,ad≠⟨q.B1,x,none⟩→w'.cell? ad=w.cell? ad)(hc:w'.cell? ⟨q.B1,x,none⟩=some u) (hu:R0 NoB [] (.flt .f32 (q.p.v0 x)) u):q.Pr x true c2 c3 w':=
 ⟨yi1 h e,fun _ _=>⟨u,hc,hu⟩,fun h1 h2=>(h.b h1 h2).same (e _ (zl1 (.inl N.h12.symm))),fun h1 h2=>(h.c h1 h2).same (e _ (zl1 (.inl N.h13.symm)))⟩
theorem pr_b(N:Ne3 q)(h:q.Pr x c1 c2 c3 w)(e:∀ ad:Addr,ad≠⟨q.B2,x,none⟩→w'.cell? ad=w.cell? ad)(hc:w'.cell? ⟨q.B2,x,none⟩=some u) (hu:R0 NoB [] (.flt .f32 (q.p.v1 x)) u):q.Pr x c1 true c3 w':=
 ⟨yi1 h e,fun h1 h2=>(h.a h1 h2).same (e _ (zl1 (.inl N.h12))),fun _ _=>⟨u,hc,hu⟩,fun h1 h2=>(h.c h1 h2).same (e _ (zl1 (.inl N.h23.symm)))⟩
theorem pr_c(N:Ne3 q)(h:q.Pr x c1 c2 c3 w)(e:∀ ad:Addr,ad≠⟨q.B3,x,none⟩→w'.cell? ad=w.cell? ad)(hc:w'.cell? ⟨q.B3,x,none⟩=some u) (hu:R0 NoB [] (.bool (q.p.v2 x)) u):q.Pr x c1 c2 true w':=
 ⟨yi1 h e,fun h1 h2=>(h.a h1 h2).same (e _ (zl1 (.inl N.h13))),fun h1 h2=>(h.b h1 h2).same (e _ (zl1 (.inl N.h23))),fun _ _=>⟨u,hc,hu⟩⟩
end
noncomputable def c12:Call:=match (opA 12).op with | .call c=>c | _=>{ callee:=.value (.func 0),args:=#[],argTypes:=#[] }
theorem yki:(opA 12).op=.call c12:=by kernel_rfl
theorem yiu:c12.callee=.value (.func 56):=by kernel_rfl
noncomputable def pts12(p:FP)(x:Nat):List PT:=[.agg [.row 1 p.an (.fl .f32 (pF p.al 0 (muN p.an 1))),.row 1 p.ln (.fl .f32 (pF p.ll 0 (muN p.ln 1))),.row 1 p.dn (.fl .f32 (pF p.dl 0 (muN p.dn 1))),.row 3 p.sn (.fl .f32 (pF p.sl 0 (muN p.sn 3))),.s (.int .i64 p.cc),.s (.flt .f32 p.hb),.s (.flt .f32 p.tp)],
 .one (.s (.int .i64 (Int.ofNat x))),.one (.s (.flt .f32 p.x2)),.one (.s (.flt .f32 p.x3)),.one (.s (.flt .f32 p.x4)),.one (.s (.flt .f32 p.x5))]
theorem dp12(p:FP)(x w:Nat):(dpVs Γw (p.Hw w) c12.argTypes.toList (opnds (p.tmD x 12) c12.args.toList)).map (·.1)=some (pts12 p x):=by kernel_rfl
theorem s12(p:FP)(x:Nat):zao (pts12 p x)=some (p.ok x,p.val x 12,[]):=by kernel_rfl
theorem op18:(opA 18).op=.store 28 (.tmp 37) (.tmp 34):=by kernel_rfl
theorem op20:(opA 20).op=.store 28 (.tmp 38) (.tmp 35):=by kernel_rfl
theorem op22:(opA 22).op=.store 4 (.tmp 39) (.tmp 36):=by kernel_rfl
theorem t18(p:FP)(x:Nat):opnd (p.tmD x 18) (.tmp 37)=p.val x 17∧opnd (p.tmD x 18) (.tmp 34)=p.val x 14:=⟨by kernel_rfl,by kernel_rfl⟩
theorem t20(p:FP)(x:Nat):opnd (p.tmD x 20) (.tmp 38)=p.val x 19∧opnd (p.tmD x 20) (.tmp 35)=p.val x 15:=⟨by kernel_rfl,by kernel_rfl⟩
theorem t22(p:FP)(x:Nat):opnd (p.tmD x 22) (.tmp 39)=p.val x 21∧opnd (p.tmD x 22) (.tmp 36)=p.val x 16:=⟨by kernel_rfl,by kernel_rfl⟩
noncomputable def ti28:TI:={ desc:=.flt .f32,agg:=false,size:=1,bytes:=4,zero:=[.flt .f32 0],row:=.fl .f32,cts:=[28] }
noncomputable def ti4:TI:={ desc:=.bool,agg:=false,size:=1,bytes:=1,zero:=[.bool false],row:=.bl,cts:=[4] }
theorem ygw:Rf.look Γw.ty 28=some ti28:=by kernel_rfl
theorem yjn:Rf.look Γw.ty 4=some ti4:=by kernel_rfl
theorem ygy:ti28.size=1:=by kernel_rfl
theorem yju:ti4.size=1:=by kernel_rfl
theorem yhl{β:Bm}{H:List Blk}{t x B C:Nat}{v:Value} (h:RV β H (A1 (.ptr t (0+(Int.ofNat x).toNat*1) 1)) v) (hβ:β t=some (B,0,C)):v=.pointer (some ⟨B,x,none⟩):=by
 obtain⟨B',o,C',h1,h2,h3,h4⟩:=h
 rw[hβ] at h1
 cases h1
 rw[h4]
 simp
variable [Payload]
theorem yk0{q:FQ}(N:Ne3 q)(G':q.ph.Geo){R:Nat→Prop}(hR:∀ k,R k→q.ph.Ro k){x i:Nat}(hxi:x%q.p.ws=i)(hx:x<q.p.sn) (hix:okIx (Int.ofNat x) q.p.sn=true) (hok:q.p.ok x=true)
  (hsh:∀ B,q.ph.Row B→∃ e m,shp q.w0 B=some (e,(0,0),m)∧q.p.sn≤m) {β:Bm} {C1 C2 C3:Nat} (b1:β 12=some (q.B1,0,C1)) (b2:β 14=some (q.B2,0,C2)) (b3:β 16=some (q.B3,0,C3))
  {b:Frame} (hb:b.kind≠.early) {k:List Item} {cs:List Frame} {a:Act} {v:World} (hwr:WR β (q.p.Hw i) v) (hbs:RTm β (q.p.Hw i) (FP.base (FP.at_ x)) a.tmps) (hsz:a.tmps.size=40)
  (hnext:∀ a' v',WR β (q.p.Hw i) v'→RTm β (q.p.Hw i) (FP.base (FP.at_ x)) a'.tmps→a'.tmps.size=40→a'.defers=a.defers→q.ph.WWin false (q.M i) (q.ph.AtR0 i) R (q.Pr x true true true) (G (b.atR a' k) cs) v') :
  q.ph.WWin false (q.M i) (q.ph.AtR0 i) R (q.Pr x false false false) (G (b.atR a (.code (.region 4 r54_4 true)::k)) cs) v:=by
 let J0:=q.ph.phJ false (q.ph.AtR0 i) (FQ.wok G' hR hxi false false false)
 refine J0.step fun w₁ hz=>⟨_,_,⟨⟨_,u87⟩,fun S R u hh _=>⟨{ u with drawn:=u.drawn+1 },#[],by rw[u87,hh.tape,hh.drawn],hh.drew.congr fun k=>Grow.refl.symm,⟨rfl,rfl,rfl,Nat.le_refl _,fun _ _ _=>rfl⟩,by simp⟩⟩,?_⟩
 simp only[Region.schedule,mixed,Bool.true_or,if_true]
 have hw0:WR β (q.p.Hw i) { w₁ with drawn:=w₁.drawn+1 }:=Nz.wr (w:=v) ⟨hz.tape,hz.os,hz.output,hz.size,hz.old⟩ hwr
 have key:=any_order (ops:=r54_4) (md:=.any) (I:=Rg q β i x a.defers)
  (Goal:=fun l listed a' v'=>q.ph.WWin false (q.M i) (q.ph.AtR0 i) R (q.Pr x (listed.getD 18 false) (listed.getD 20 false) (listed.getD 22 false)) (G (b.atR a' (.inRegion r54_4 l::k)) cs) v') ?hend ?hstep
  r54_4.size (w₁.tape w₁.drawn (.order b.fn 4)) (Array.replicate r54_4.size false) a { w₁ with drawn:=w₁.drawn+1 } ?hf ?hI
 case hf=>
  unfold toCome
  exact Nat.le_trans List.countP_le_length (by simp)
 case hI=>
  refine⟨by simp[yg6],hw0,hbs,hsz,rfl,fun j d hj _ hl => ?_⟩
  simp[Array.getD_eq_getD_getElem?,Array.getElem?_replicate] at hl
  split at hl<;>cases hl
 case hend=>
  intro listed a' v' hI hr
  have hall:∀ j,j<23→listed.getD j false=true:=by
   intro j
   induction j using Nat.strongRecOn with
   | ind j ih2=>
    intro hj
    cases hg:listed.getD j false with
    | true=>rfl
    | false=>
     exfalso
     have hjl:j<r54_4.toList.length:=by simp[yg6];exact hj
     have:j∈Region.ready .any r54_4 listed:=by
      rw[mem_ready]
      refine⟨?_,_,by rw[← Array.getElem?_toList];exact List.getElem?_eq_getElem hjl,fun e he hb => ?_⟩
      ·have:j<listed.size:=by rw[hI.len];exact hj
       simp[this] at hg ⊢;exact hg
      ·have:=u3y ykh j _ (List.getElem?_eq_getElem hjl) e he hb
       exact ih2 e.on (by omega) (by omega)
     rw[hr] at this;cases this
  rw[hall 18 (by omega),hall 20 (by omega),hall 22 (by omega)]
  exact (q.ph.phJ false (q.ph.AtR0 i) (FQ.wok G' hR hxi true true true)).still (fun _=>u6c) (hnext a' v' hI.wr hI.bs hI.sz hI.df)
 case hstep=>
  intro j listed a' v' rest hI hrd hcont
  have hj:j<23:=by have:=(Rf.ready_mem hrd).1;rw[yg6] at this;exact this
  obtain⟨ho,hd⟩:=yit hj hrd
  have hv:=hI.tmD hd
  have hlt:j<listed.size:=by rw[hI.len];exact hj
  have hg:(opA j).guard=none:=by
   have:=z50 yj7 hj
   simpa using this
  have hwd:Region.wanted (opA j) (yielded r54_4 a'.tmps)=true:=by simp[Region.wanted,hg]
  have fl:∀ m,j≠m→(listed.setIfInBounds j true).getD m false=listed.getD m false:=fun m hm=>by rw[u37 hlt,if_neg hm]
  have fs:(listed.setIfInBounds j true).getD j false=true:=by rw[u37 hlt,if_pos rfl]
  by_cases h18:j=18
  ·subst h18
   have ep:=u01 hv (.tmp 37)
   have ex:=u01 hv (.tmp 34)
   rw[(t18 _ _).1] at ep
   rw[(t18 _ _).2] at ex
   have ep:=yhl ep b1
   obtain⟨e,m,hs,hme⟩:=hsh q.B1 (.inl rfl)
   refine Ph.wwin_store (FQ.wok G' hR hxi _ _ _) (Pr':=q.Pr x true (listed.getD 20 false) (listed.getD 22 false)) hb ho hg op18 (u0w tyTab_ok ygw) ygy ep (R0.any_one (a:=.flt .f32 (q.p.v0 x)) (β:=β) (H:=q.p.Hw i) ex) ⟨x,hx,hxi,.inl rfl⟩ hs (Nat.lt_of_lt_of_le hx hme) (fun w hp h1 h2=>pr_a N hp h1 h2 ex) fun v₁ hz₁ => ?_
   have:=hcont (a'.put (opA 18).dst undef) v₁ (hI.next hj (hz₁.nz.wr hI.wr) trivial)
   rw[fs,fl 20 (by omega),fl 22 (by omega)] at this
   exact this
  ·by_cases h20:j=20
   ·subst h20
    have ep:=u01 hv (.tmp 38)
    have ex:=u01 hv (.tmp 35)
    rw[(t20 _ _).1] at ep
    rw[(t20 _ _).2] at ex
    have ep:=yhl ep b2
    obtain⟨e,m,hs,hme⟩:=hsh q.B2 (.inr (.inl rfl))
    refine Ph.wwin_store (FQ.wok G' hR hxi _ _ _) (Pr':=q.Pr x (listed.getD 18 false) true (listed.getD 22 false)) hb ho hg op20 (u0w tyTab_ok ygw) ygy ep (R0.any_one (a:=.flt .f32 (q.p.v1 x)) (β:=β) (H:=q.p.Hw i) ex) ⟨x,hx,hxi,.inr (.inl rfl)⟩ hs (Nat.lt_of_lt_of_le hx hme) (fun w hp h1 h2=>pr_b N hp h1 h2 ex) fun v₁ hz₁ => ?_
    have:=hcont (a'.put (opA 20).dst undef) v₁ (hI.next hj (hz₁.nz.wr hI.wr) trivial)
    rw[fs,fl 18 (by omega),fl 22 (by omega)] at this
    exact this
   ·by_cases h22:j=22
    ·subst h22
     have ep:=u01 hv (.tmp 39)
     have ex:=u01 hv (.tmp 36)
     rw[(t22 _ _).1] at ep
     rw[(t22 _ _).2] at ex
     have ep:=yhl ep b3
     obtain⟨e,m,hs,hme⟩:=hsh q.B3 (.inr (.inr rfl))
     refine Ph.wwin_store (FQ.wok G' hR hxi _ _ _) (Pr':=q.Pr x (listed.getD 18 false) (listed.getD 20 false) true) hb ho hg op22 (u0w tyTab_ok yjn) yju ep (R0.any_one (a:=.bool (q.p.v2 x)) (β:=β) (H:=q.p.Hw i) ex) ⟨x,hx,hxi,.inr (.inr rfl)⟩ hs (Nat.lt_of_lt_of_le hx hme) (fun w hp h1 h2=>pr_c N hp h1 h2 ex) fun v₁ hz₁ => ?_
     have:=hcont (a'.put (opA 22).dst undef) v₁ (hI.next hj (hz₁.nz.wr hI.wr) trivial)
     rw[fs,fl 18 (by omega),fl 20 (by omega)] at this
     exact this
    ·let J:=q.ph.phJ false (q.ph.AtR0 i) (FQ.wok G' hR hxi (listed.getD 18 false) (listed.getD 20 false) (listed.getD 22 false))
     have hc:∀ a2 v2,Rg q β i x a.defers (listed.setIfInBounds j true) a2 v2→J.Win (G (b.atR a2 (.inRegion r54_4 rest::k)) cs) v2:=fun a2 v2 h2=>by
      have:=hcont a2 v2 h2
      rw[fl 18 h18,fl 20 h20,fl 22 h22] at this
      exact this
     by_cases h12:j=12
     ·subst h12
      have hdp:=dp12 q.p x i
      cases hdd:dpVs Γw (q.p.Hw i) c12.argTypes.toList (opnds (q.p.tmD x 12) c12.args.toList) with
      | none=>rw[hdd] at hdp;cases hdp
      | some pr=>
       obtain⟨pts,rd⟩:=pr
       rw[hdd] at hdp
       simp only[Option.map_some,Option.some.injEq] at hdp
       subst hdp
       have hF:=s12 q.p x
       rw[hok] at hF
       exact Jd.opCall (J:=J) (K:=Rg q β i x a.defers (listed.setIfInBounds 12 true)) zl8 hI.wr hv yki yiu rfl hdd hF (fun t=>rfl) (fun u w' k1 k2=>hI.next hj k1 k2) b k cs r54_4 12 rest hb ho hwd hc
     ·exact Jd.opQ (J:=J) (K:=Rg q β i x a.defers (listed.setIfInBounds j true)) tyTab_ok hI.wr hv (looks q.p i x hix j hj h12 h18 h20 h22) (fun u w' k1 k2=>hI.next hj k1 k2) b k cs r54_4 j rest hb ho hwd hc
 have e:∀ m,(Array.replicate r54_4.size false).getD m false=false:=fun m=>by
  simp only[Array.getD_eq_getD_getElem?,Array.getElem?_replicate]
  split<;>rfl
 simp only[e] at key
 exact key
end Go.Proofs.YtijjhfailnmeoaaGreat
namespace Go.Rf
open Go Go.Conc Go.ConcN
section
variable {P:Program} {J:Jd P} {Γ:Ctx} {β:Bm} {H:List Blk} {a:Act} {w:World} {tm:List (Nat×AV)} {Q:Exit→Act→World→Prop}
theorem Jd.ordQ(hT:chkTab P Γ.ty=true){ops:Array Oper}{i:Nat}{rest:List Nat}{o:Oper}{x:AV}{nt:Nat} (ho:ops[i]? = some o) (hg:o.guard=none) (hw:WR β H w) (hv:RTm β H tm a.tmps) (hsz:a.tmps.size=nt) (hdst:okDst nt o.dst=true) (h:evQ Γ o.op tm H some=some x)
  (hK:∀ a' w',WR β H w'→RTm β H (put tm o.dst x) a'.tmps→a'.tmps.size=nt→a'.defers=a.defers→J.ord ops rest Q a' w'):J.ord ops (i::rest) Q a w:=by
 refine Jd.ord_cons ?_
 unfold Jd.one
 rw[ho]
 simp only
 rw[if_pos (by simp[Region.wanted,hg])]
 exact Jd.opQ hT hw hv h fun u w' k1 k2=>hK _ _ k1 (hv.put k2 fun i hi=>by rw[hsz];exact u5j hdst hi) (by rw[u2d];exact hsz) (by rw[u1s])
theorem zwl {tm':List (Nat×AV)} {tmps:Array Value} (h:RTm β H tm tmps) (hs:∀ t,get tm' t=.top∨get tm' t=get tm t):RTm β H tm' tmps:=fun t=>by
 rcases hs t with e | e
 ·rw[e];trivial
 ·rw[e];exact h t
end
namespace Ph
variable {A:Ph} {main:Bool} {mi:Addr→Prop} {Stop:(Nat→Prop)→Goroutine→World→Prop} {R:Nat→Prop} {Pr Pr':World→Prop}
theorem WWin.weaken{g:Goroutine}{v:World}(h:A.WWin main mi Stop R Pr' g v)(hp:∀ w,Pr w→Pr' w):A.WWin main mi Stop R Pr g v:=
 fun S w v₁ hz hh hc=>h S w v₁ hz hh ⟨hp w hc.pr,hc.rng,hc.live,hc.world⟩
end Ph
end Go.Rf
namespace Go.Proofs.YtijjhfailnmeoaaGreat
open Go Go.Rf Go.Conc Go.ConcN
open Go.ConcR (Payload)
noncomputable def bot:Frame:={ (default:Frame) with fn:=Tryz.prog.funcs.size,defers:=[],mode:=.panicking [goexitEntry] }
theorem yjd(T:Array Value):QuitsD Tryz.prog 2 0 (G { (baseD 54).at ⟨T,[]⟩ [] with mode:=.returning } [bot]):=by
 refine QuitsD.ctl (g':=G bot []) rfl (fun w => ?_) ?_
 ·have hf:Tryz.prog.funcs[54]? = some Tryz.f54:=Tryz.func54
  have hr:Tryz.f54.results=#[]:=by kernel_rfl
  have:(results Tryz.f54 T).run Tryz.prog w=.ok (.tuple #[]) w:=by simp[results,hr]
  have he:(results Tryz.f54 T).events Tryz.prog w #[]=#[]:=by simp[results,hr]
  simp[G,stepG,unwind,doReturn,Frame.at,baseD,bot,hf,this,he,seen,GStep.after,goexitEntry]
 refine QuitsD.ctl (g':={ G bot [] with status:=.finished }) rfl (fun w => ?_) ⟨rfl,rfl⟩
 simp[G,stepG,unwind,bot,goexitEntry,Frame.catches]
 rfl
def kid(caps:Array Value):Deferred:={ target:=.fn (.func 54) caps,args:=#[] }
theorem yix(caps:Array Value)(w:World):stepG Tryz.prog false (born Tryz.prog (kid caps)) w=.go (G ((baseD 54).atR ⟨caps++Array.replicate (40-caps.size) undef,[]⟩ [.code c54]) [bot]) w #[]:=by
 have hf:Tryz.prog.funcs[54]? = some Tryz.f54:=Tryz.func54
 have hb:Tryz.f54.body=some c54:=by kernel_rfl
 have hn:Tryz.f54.ntmps=40:=by kernel_rfl
 have hnm:¬ Tryz.f54.name = "runtime.NumGoroutine":=by
  have:(Tryz.f54.name == "runtime.NumGoroutine")=false:=by kernel_rfl
  simpa using this
 simp[born,kid,stepG,unwind,callDeferred,invoke,callFunc,hf,hb,hn,hnm,seen,GStep.after,G,Frame.enter,Frame.atR,baseD,bot]
 rfl
theorem r0_eq:r54_0[0]? = some { dst:=none,op:=.defer { callee:=.value (.func 55),args:=#[.tmp 0],argTypes:=#[83] },type:=0,pos := "l03_rotors.go:235",after:=#[],guard:=none }∧r54_0.size=1:=⟨by kernel_rfl,by kernel_rfl⟩
noncomputable def o1(i:Nat):Oper:=(r54_1[i]?).getD default
noncomputable def o2(i:Nat):Oper:=(r54_2[i]?).getD default
noncomputable def o3(i:Nat):Oper:=(r54_3[i]?).getD default
theorem r1:r54_1.size=2∧r54_1[0]? = some (o1 0)∧r54_1[1]? = some (o1 1):=⟨by kernel_rfl,by kernel_rfl,by kernel_rfl⟩
theorem r2:r54_2.size=3∧r54_2[0]? = some (o2 0)∧r54_2[1]? = some (o2 1)∧r54_2[2]? = some (o2 2):=⟨by kernel_rfl,by kernel_rfl,by kernel_rfl,by kernel_rfl⟩
theorem r3:r54_3.size=4∧r54_3[0]? = some (o3 0)∧r54_3[1]? = some (o3 1)∧r54_3[2]? = some (o3 2)∧r54_3[3]? = some (o3 3):=⟨by kernel_rfl,by kernel_rfl,by kernel_rfl,by kernel_rfl,by kernel_rfl⟩
theorem e1a(p:FP)(i:Nat):evQ Γw (o1 0).op (FP.base .top) (p.Hw i) some=some (FP.at_ i):=by kernel_rfl
noncomputable def m1(i:Nat):List (Nat×AV):=put (FP.base .top) (o1 0).dst (FP.at_ i)
theorem e1b(p:FP)(i:Nat):evQ Γw (o1 1).op (m1 i) (p.Hw i) some=some (FP.at_ i):=by kernel_rfl
noncomputable def m1'(i:Nat):List (Nat×AV):=put (m1 i) (o1 1).dst (FP.at_ i)
theorem e2a(p:FP)(i x:Nat):evQ Γw (o2 0).op (FP.base (FP.at_ x)) (p.Hw i) some=some (FP.at_ x):=by kernel_rfl
noncomputable def m2(x:Nat):List (Nat×AV):=put (FP.base (FP.at_ x)) (o2 0).dst (FP.at_ x)
theorem e2b(p:FP)(i x:Nat):evQ Γw (o2 1).op (m2 x) (p.Hw i) some=some (FP.at_ p.sn):=by kernel_rfl
noncomputable def m2'(p:FP)(x:Nat):List (Nat×AV):=put (m2 x) (o2 1).dst (FP.at_ p.sn)
theorem e2c(p:FP)(i x:Nat):evQ Γw (o2 2).op (m2' p x) (p.Hw i) some=some (A1 (.bool (ltI (Int.ofNat x) (Int.ofNat p.sn)))):=by kernel_rfl
noncomputable def m2c(p:FP)(x:Nat):List (Nat×AV):=put (m2' p x) (o2 2).dst (A1 (.bool (ltI (Int.ofNat x) (Int.ofNat p.sn))))
theorem m2t(p:FP)(x:Nat):opnd (m2c p x) (.tmp 16)=A1 (.bool (ltI (Int.ofNat x) (Int.ofNat p.sn))):=by kernel_rfl
theorem e3a(p:FP)(i x:Nat):evQ Γw (o3 0).op (FP.base (FP.at_ x)) (p.Hw i) some=some (FP.at_ x):=by kernel_rfl
noncomputable def m3(x:Nat):List (Nat×AV):=put (FP.base (FP.at_ x)) (o3 0).dst (FP.at_ x)
theorem e3b(p:FP)(i x:Nat):evQ Γw (o3 1).op (m3 x) (p.Hw i) some=some (FP.at_ p.ws):=by kernel_rfl
noncomputable def m3'(p:FP)(x:Nat):List (Nat×AV):=put (m3 x) (o3 1).dst (FP.at_ p.ws)
noncomputable def sum3(p:FP)(x:Nat):AV:=A1 (.int .i64 (addI .i64 (Int.ofNat x) (Int.ofNat p.ws)))
theorem e3c(p:FP)(i x:Nat):evQ Γw (o3 2).op (m3' p x) (p.Hw i) some=some (sum3 p x):=by kernel_rfl
noncomputable def m3c(p:FP)(x:Nat):List (Nat×AV):=put (m3' p x) (o3 2).dst (sum3 p x)
theorem e3d(p:FP)(i x:Nat):evQ Γw (o3 3).op (m3c p x) (p.Hw i) some=some (sum3 p x):=by kernel_rfl
noncomputable def m3d(p:FP)(x:Nat):List (Nat×AV):=put (m3c p x) (o3 3).dst (sum3 p x)
theorem gd:((List.range 2).all fun i=>(o1 i).guard.isNone)=true∧((List.range 3).all fun i=>(o2 i).guard.isNone)=true∧((List.range 4).all fun i=>(o3 i).guard.isNone)=true:=⟨by kernel_rfl,by kernel_rfl,by kernel_rfl⟩
theorem dd:((List.range 2).all fun i=>okDst 40 (o1 i).dst)=true∧((List.range 3).all fun i=>okDst 40 (o2 i).dst)=true∧((List.range 4).all fun i=>okDst 40 (o3 i).dst)=true:=⟨by kernel_rfl,by kernel_rfl,by kernel_rfl⟩
theorem g1{i:Nat}(h:i<2):(o1 i).guard=none:=by have:=z50 gd.1 h;simpa using this
theorem g2{i:Nat}(h:i<3):(o2 i).guard=none:=by have:=z50 gd.2.1 h;simpa using this
theorem g3{i:Nat}(h:i<4):(o3 i).guard=none:=by have:=z50 gd.2.2 h;simpa using this
theorem d1:(o1 0).dst=some 13∧(o1 1).dst=some 12:=⟨by kernel_rfl,by kernel_rfl⟩
theorem d2:(o2 0).dst=some 14∧(o2 1).dst=some 15∧(o2 2).dst=some 16:=⟨by kernel_rfl,by kernel_rfl,by kernel_rfl⟩
theorem d3:(o3 0).dst=some 17∧(o3 1).dst=some 18∧(o3 2).dst=some 19∧(o3 3).dst=some 12:=⟨by kernel_rfl,by kernel_rfl,by kernel_rfl,by kernel_rfl⟩
theorem yig(x y:AV)(t:Nat):get (FP.base x) t=if t=12 then x else get (FP.base y) t:=by
 by_cases h:t=12
 ·subst h
  rw[if_pos rfl];rfl
 ·rw[if_neg h]
  have h':¬ 12=t:=fun e=>h e.symm
  unfold FP.base
  simp only[u16,if_neg h']
theorem sub1(i t:Nat):get (FP.base (FP.at_ i)) t=.top∨get (FP.base (FP.at_ i)) t=get (m1' i) t:=by
 unfold m1' m1
 rw[d1.1,d1.2]
 simp only[put,u16,yig (FP.at_ i) .top t]
 by_cases h:12=t
 ·subst h;right;simp
 ·by_cases h2:13=t
  ·subst h2;left;rfl
  ·right
   rw[if_neg h,if_neg h2,if_neg (fun e=>h e.symm)]
theorem sub2(p:FP)(x t:Nat):get (FP.base (FP.at_ x)) t=.top∨get (FP.base (FP.at_ x)) t=get (m2c p x) t:=by
 unfold m2c m2' m2
 rw[d2.1,d2.2.1,d2.2.2]
 simp only[put,u16]
 by_cases h:16=t
 ·subst h;left;rfl
 ·by_cases h2:15=t
  ·subst h2;left;rfl
  ·by_cases h3:14=t
   ·subst h3;left;rfl
   ·right
    rw[if_neg h,if_neg h2,if_neg h3]
theorem sub3(p:FP)(x t:Nat):get (FP.base (sum3 p x)) t=.top∨get (FP.base (sum3 p x)) t=get (m3d p x) t:=by
 unfold m3d m3c m3' m3
 rw[d3.1,d3.2.1,d3.2.2.1,d3.2.2.2]
 simp only[put,u16,yig (sum3 p x) (FP.at_ x) t]
 by_cases h:12=t
 ·subst h;right;simp
 ·rw[if_neg (fun e=>h e.symm),if_neg h]
  by_cases h2:19=t
  ·subst h2;left;rfl
  ·by_cases h3:18=t
   ·subst h3;left;rfl
   ·by_cases h4:17=t
    ·subst h4;left;rfl
    ·right;rw[if_neg h2,if_neg h3,if_neg h4]
end Go.Proofs.YtijjhfailnmeoaaGreat
namespace Go.Proofs.YtijjhfailnmeoaaGreat
open Go Go.Rf Go.Conc Go.ConcN
open Go.ConcR (Payload)
open Go.RowKit Go.Conc.Lib Go.ConcR.Gen Go.ConcN.Gen
theorem yj9{a b:Int}(h:a<b):ltI a b=true:=decide_eq_true h
theorem yhp{a b:Int}(h:¬ a<b):ltI a b=false:=decide_eq_false h
theorem yjk{a b:Nat}(h:a+b<4611686018427387904):addI .i64 (Int.ofNat a) (Int.ofNat b)=Int.ofNat (a+b):=by
 show IntKind.i64.wrap ((a:Int)+(b:Int))=((a+b:Nat):Int)
 rw[show IntKind.i64.wrap ((a:Int)+(b:Int))=(a:Int)+(b:Int) from IntWalk.i64_in _ ⟨by omega,by omega⟩]
 omega
section
variable {J:Jd Tryz.prog} {β:Bm} {p:FP} {i x:Nat} {b:Frame} {k:List Item} {cs:List Frame} {a:Act} {v:World}
theorem reg1(hb:b.kind≠.early) (hw:WR β (p.Hw i) v) (hv:RTm β (p.Hw i) (FP.base .top) a.tmps) (hsz:a.tmps.size=40)
  (hnext:∀ a' v',WR β (p.Hw i) v'→RTm β (p.Hw i) (FP.base (FP.at_ i)) a'.tmps→a'.tmps.size=40→a'.defers=a.defers→J.Win (G (b.atR a' k) cs) v'):J.Win (G (b.atR a (.code (.region 1 r54_1 false)::k)) cs) v:=by
 refine Jd.region (J:=J) (Q:=fun e a' v'=>e=.normal∧WR β (p.Hw i) v'∧RTm β (p.Hw i) (FP.base (FP.at_ i)) a'.tmps∧a'.tmps.size=40∧a'.defers=a.defers) ?_ b k cs hb fun e a' v' q=>by
  obtain⟨rfl,q1,q2,q3,q4⟩:=q
  exact hnext _ _ q1 q2 q3 q4
 rw[r1.1]
 show J.ord r54_1 [0,1] _ a v
 refine Jd.ordQ (nt:=40) tyTab_ok r1.2.1 (g1 (by omega)) hw hv hsz (z50 dd.1 (by omega)) (e1a p i) fun a1 v1 w1 t1 s1 f1 => ?_
 refine Jd.ordQ (nt:=40) tyTab_ok r1.2.2 (g1 (by omega)) w1 t1 s1 (z50 dd.1 (by omega)) (e1b p i) fun a2 v2 w2 t2 s2 f2 => ?_
 exact Jd.ord_nil ⟨rfl,w2,zwl t2 (sub1 i),s2,f2.trans f1⟩
theorem reg2(hb:b.kind≠.early) (hw:WR β (p.Hw i) v) (hv:RTm β (p.Hw i) (FP.base (FP.at_ x)) a.tmps) (hsz:a.tmps.size=40)
  (hnext:∀ a' v',WR β (p.Hw i) v'→RTm β (p.Hw i) (FP.base (FP.at_ x)) a'.tmps→a'.eval (.tmp 16)=.bool (ltI (Int.ofNat x) (Int.ofNat p.sn))→a'.tmps.size=40→a'.defers=a.defers→J.Win (G (b.atR a' k) cs) v'):J.Win (G (b.atR a (.code (.region 2 r54_2 false)::k)) cs) v:=by
 refine Jd.region (J:=J) (Q:=fun e a' v'=>e=.normal∧WR β (p.Hw i) v'∧RTm β (p.Hw i) (m2c p x) a'.tmps∧a'.tmps.size=40∧a'.defers=a.defers) ?_ b k cs hb fun e a' v' q=>by
  obtain⟨rfl,q1,q2,q3,q4⟩:=q
  have:=u01 q2 (.tmp 16)
  rw[m2t] at this
  exact hnext _ _ q1 (zwl q2 (sub2 p x)) this q3 q4
 rw[r2.1]
 show J.ord r54_2 [0,1,2] _ a v
 refine Jd.ordQ (nt:=40) tyTab_ok r2.2.1 (g2 (by omega)) hw hv hsz (z50 dd.2.1 (by omega)) (e2a p i x) fun a1 v1 w1 t1 s1 f1 => ?_
 refine Jd.ordQ (nt:=40) tyTab_ok r2.2.2.1 (g2 (by omega)) w1 t1 s1 (z50 dd.2.1 (by omega)) (e2b p i x) fun a2 v2 w2 t2 s2 f2 => ?_
 refine Jd.ordQ (nt:=40) tyTab_ok r2.2.2.2 (g2 (by omega)) w2 t2 s2 (z50 dd.2.1 (by omega)) (e2c p i x) fun a3 v3 w3 t3 s3 f3 => ?_
 exact Jd.ord_nil ⟨rfl,w3,t3,s3,f3.trans (f2.trans f1)⟩
theorem reg3(hb:b.kind≠.early) (hw:WR β (p.Hw i) v) (hv:RTm β (p.Hw i) (FP.base (FP.at_ x)) a.tmps) (hsz:a.tmps.size=40)
  (hnext:∀ a' v',WR β (p.Hw i) v'→RTm β (p.Hw i) (FP.base (sum3 p x)) a'.tmps→a'.tmps.size=40→a'.defers=a.defers→J.Win (G (b.atR a' k) cs) v'):J.Win (G (b.atR a (.code (.region 3 r54_3 false)::k)) cs) v:=by
 refine Jd.region (J:=J) (Q:=fun e a' v'=>e=.normal∧WR β (p.Hw i) v'∧RTm β (p.Hw i) (FP.base (sum3 p x)) a'.tmps∧a'.tmps.size=40∧a'.defers=a.defers) ?_ b k cs hb fun e a' v' q=>by
  obtain⟨rfl,q1,q2,q3,q4⟩:=q
  exact hnext _ _ q1 q2 q3 q4
 rw[r3.1]
 show J.ord r54_3 [0,1,2,3] _ a v
 refine Jd.ordQ (nt:=40) tyTab_ok r3.2.1 (g3 (by omega)) hw hv hsz (z50 dd.2.2 (by omega)) (e3a p i x) fun a1 v1 w1 t1 s1 f1 => ?_
 refine Jd.ordQ (nt:=40) tyTab_ok r3.2.2.1 (g3 (by omega)) w1 t1 s1 (z50 dd.2.2 (by omega)) (e3b p i x) fun a2 v2 w2 t2 s2 f2 => ?_
 refine Jd.ordQ (nt:=40) tyTab_ok r3.2.2.2.1 (g3 (by omega)) w2 t2 s2 (z50 dd.2.2 (by omega)) (e3c p i x) fun a3 v3 w3 t3 s3 f3 => ?_
 refine Jd.ordQ (nt:=40) tyTab_ok r3.2.2.2.2 (g3 (by omega)) w3 t3 s3 (z50 dd.2.2 (by omega)) (e3d p i x) fun a4 v4 w4 t4 s4 f4 => ?_
 exact Jd.ord_nil ⟨rfl,w4,zwl t4 (sub3 p x),s4,f4.trans (f3.trans (f2.trans f1))⟩
end
structure Told (q:FQ) (R:Nat→Prop) (C:Nat):Prop where
 ne:Ne3 q
 geo:q.ph.Geo
 ro:∀ k,R k→q.ph.Ro k
 sn:q.p.sn≤281474976710656
 ws:1≤q.p.ws∧q.p.ws≤8
 ok:∀ y,y<q.p.sn→q.p.ok y=true
 sh:∀ B,q.ph.Row B→∃ e m,shp q.w0 B=some (e,(0,0),m)∧q.p.sn≤m
 old:q.ph.Old C
 cell:∃ u,q.w0.cell? ⟨C,0,none⟩=some u
theorem yka{q:FQ}{x:Nat}{w:World}(h:q.Pr x true true true w)(hx:x<q.p.sn):q.Pr (x+q.p.ws) false false false w:=by
 refine⟨fun y h1 h2 h3 => ?_,nofun,nofun,nofun⟩
 rw[Nat.add_mod_right] at h2
 rcases Nat.lt_trichotomy y x with h4 | h4 | h4
 ·exact h.old y h1 h2 h4
 ·subst h4
  exact⟨h.a rfl hx,h.b rfl hx,h.c rfl hx⟩
 ·exfalso
  have h5:(y-x)%q.p.ws=0:=Nat.sub_mod_eq_zero_of_mod_eq h2
  rw[Nat.mod_eq_of_lt (by omega)] at h5
  omega
variable [Payload]
abbrev ww(q:FQ)(R:Nat→Prop)(i x:Nat)(g:Goroutine)(v:World):Prop:=q.ph.WWin false (q.M i) (q.ph.AtR0 i) R (q.Pr x false false false) g v
theorem wdone{q:FQ}{R:Nat→Prop}{C:Nat}(T:Told q R C){x i:Nat}(hxi:x%q.p.ws=i)(hx:q.p.sn≤x){a:Act}{v:World} (hdf:a.defers=[dcall 55 #[.pointer (some ⟨q.Wg,0,none⟩)]]) :
  ww q R i x (G { (baseD 54).atR a [] with mode:=.returning } [bot]) v:=by
 intro S w v₁ hz hh hc
 refine Ph.MW.step rfl fun w₁ hr => ?_
 have hc₁:=hc.rely (FQ.wok T.geo T.ro hxi false false false) hr
 have hst:=stepG_unwind_enter (P:=Tryz.prog) (main:=false) (b:=baseD 54) (a:=a) (todo:=[]) (cs:=[bot]) (w:=w₁) (c:=body_done Tryz.link) hdf Tryz.wgLib.f_done (nm_done Tryz.link) rfl
 refine⟨_,w₁,#[],hst,Ph.GK.still,?_⟩
 rw[Grow.eq]
 obtain⟨u,hu⟩:=T.cell
 have hCl:C<q.w0.heap.size:=by
  have:=T.old.1
  have h2:q.N0≤q.w0.heap.size:=T.geo.n0
  have h3:C<q.N0:=T.old.1
  omega
 have e:=hc₁.world.blk C hCl (.inr T.old)
 exact Ph.doneW (A:=q.ph) (L:=Tryz.link) Tryz.wgLib rfl FQ.finOk (c:={ (baseD 54).at ⟨a.tmps,[]⟩ [] with mode:=.returning }) rfl (yjd a.tmps) (C:=C) (v:=u) (.inr T.old) hc₁.live
  (fun y h1 h2=>hc₁.pr.old y h1 (h2.trans hxi.symm) (by omega)) (Nat.lt_of_lt_of_le hCl hc₁.world.size) (by unfold Has World.cell? at *;rw[e];exact hu)
theorem wloop{q:FQ}{R:Nat→Prop}{C:Nat}(T:Told q R C){i:Nat}{β:Bm}{C1 C2 C3:Nat} (b1:β 12=some (q.B1,0,C1)) (b2:β 14=some (q.B2,0,C2)) (b3:β 16=some (q.B3,0,C3)) :
  ∀ (m x:Nat),q.p.sn≤x+m→x≤q.p.sn+8→x%q.p.ws=i→∀ (a:Act) (v:World),WR β (q.p.Hw i) v→RTm β (q.p.Hw i) (FP.base (FP.at_ x)) a.tmps→a.tmps.size=40→a.defers=[dcall 55 #[.pointer (some ⟨q.Wg,0,none⟩)]] →
   ww q R i x (G ((baseD 54).atR a [.code l54,.inLoop l54,.inBlock 0]) [bot]) v:=by
 intro m
 induction m with
 | zero => ?_
 | succ m ih => ?_
 all_goals
  intro x hm hx8 hxi a v hw hv hsz hdf
  have hk:(baseD 54).kind≠.early:=by simp[baseD]
  let J:=q.ph.phJ false (q.ph.AtR0 i) (FQ.wok T.geo T.ro hxi false false false)
  have hl:l54=.seq (.seq (.region 2 r54_2 false) (.cond (.tmp 16) .skip (.exit 0))) (.seq (.block 1 (.region 4 r54_4 true)) (.region 3 r54_3 false)):=by kernel_rfl
  generalize hL:([Item.inLoop l54,.inBlock 0]:List Item)=rest
  rw[hl]
  refine J.still (fun _=>ue6) (J.still (fun _=>ue6) (reg2 (J:=J) hk hw hv hsz fun a1 v1 w1 t1 c1 s1 f1 => ?_))
 ·
  have hc:ltI (Int.ofNat x) (Int.ofNat q.p.sn)=false   := yhp (by simp;omega)
  rw[hc] at c1
  subst hL
  refine J.still (fun _=>udb c1) (J.still (fun _=>ucf (k':=[]) (by simp[exitTo])) (J.still (fun _=>udu rfl) (wdone T hxi (by omega) (f1.trans hdf))))
 ·by_cases hx:x<q.p.sn
  ·have hc:ltI (Int.ofNat x) (Int.ofNat q.p.sn)=true   := yj9 (by simp;omega)
   rw[hc] at c1
   refine J.still (fun _=>udb c1) (J.still (fun _=>ud1) (J.still (fun _=>ue6) (J.still (fun _=>ubd) ?_)))
   refine yk0 T.ne T.geo T.ro hxi hx (by have:=T.sn;simp[okIx];omega) (T.ok x hx) T.sh b1 b2 b3 hk w1 t1 s1 fun a2 v2 w2 t2 s2 f2 => ?_
   let J2:=q.ph.phJ false (q.ph.AtR0 i) (FQ.wok T.geo T.ro hxi true true true)
   refine J2.still (fun _=>u9e) (reg3 (J:=J2) hk w2 t2 s2 fun a3 v3 w3 t3 s3 f3 => ?_)
   subst hL
   refine J2.still (fun _=>uac) ?_
   have hs:sum3 q.p x=FP.at_ (x+q.p.ws):=by
    have:=T.sn;have:=T.ws
    unfold sum3 FP.at_
    rw[yjk (by omega)]
   rw[hs] at t3
   have:=ih (x+q.p.ws) (by have:=T.ws;omega) (by have:=T.ws;omega) (by rw[Nat.add_mod_right];exact hxi) a3 v3 w3 t3 s3 (f3.trans (f2.trans (f1.trans hdf)))
   exact Ph.WWin.weaken this fun w hp=>yka hp hx
  ·have hc:ltI (Int.ofNat x) (Int.ofNat q.p.sn)=false   := yhp (by simp;omega)
   rw[hc] at c1
   subst hL
   refine J.still (fun _=>udb c1) (J.still (fun _=>ucf (k':=[]) (by simp[exitTo])) (J.still (fun _=>udu rfl) (wdone T hxi (by omega) (f1.trans hdf))))
end Go.Proofs.YtijjhfailnmeoaaGreat
namespace Go.Proofs.YtijjhfailnmeoaaGreat
open Go Go.Rf Go.Conc Go.ConcN
open Go.ConcR (Payload)
theorem yjc':c54=.seq (.region 0 r54_0 false) (.seq (.region 1 r54_1 false) (.block 0 (.loop l54))):=by kernel_rfl
variable [Payload]
theorem child{q:FQ}{R:Nat→Prop}{C:Nat}(T:Told q R C){i:Nat}(hi:i<q.p.ws){β:Bm}{C1 C2 C3:Nat} (b1:β 12=some (q.B1,0,C1)) (b2:β 14=some (q.B2,0,C2)) (b3:β 16=some (q.B3,0,C3))
  {caps:Array Value} (hcs:caps.size=12) (hc0:caps[0]? = some (.pointer (some ⟨q.Wg,0,none⟩))) {v:World} (hw:WR β (q.p.Hw i) v) (ht:RTm β (q.p.Hw i) (FP.base .top) (caps++Array.replicate (40-caps.size) undef)) :
  ww q R i i (born Tryz.prog (kid caps)) v:=by
 have hxi:i%q.p.ws=i:=Nat.mod_eq_of_lt hi
 have hk:(baseD 54).kind≠.early:=by simp[baseD]
 let J:=q.ph.phJ false (q.ph.AtR0 i) (FQ.wok T.geo T.ro hxi false false false)
 show J.Win (G { (default:Frame) with fn:=Tryz.prog.funcs.size,defers:=[kid caps],mode:=.panicking [goexitEntry] } []) v
 refine J.still (fun w=>yix caps w) ?_
 rw[yjc']
 refine J.still (fun _=>ue6) (J.still (fun _=>uad) ?_)
 rw[r0_eq.2]
 refine J.still (g':=G ((baseD 54).atR ⟨caps++Array.replicate (40-caps.size) undef,[dcall 55 #[.pointer (some ⟨q.Wg,0,none⟩)]]⟩ [.inRegion r54_0 [],.code (.seq (.region 1 r54_1 false) (.block 0 (.loop l54)))]) [bot]) (fun w => ?_) ?_
 ·have h:=stepG_defer (P:=Tryz.prog) (main:=false) (b:=baseD 54) (a:=⟨caps++Array.replicate (40-caps.size) undef,[]⟩) (k:=[.code (.seq (.region 1 r54_1 false) (.block 0 (.loop l54)))]) (cs:=[bot]) (w:=w) (rest:=[]) r0_eq.1 rfl (by simp[baseD]) rfl
  have e:(⟨caps++Array.replicate (40-caps.size) undef,[]⟩:Act).eval (.tmp 0)=.pointer (some ⟨q.Wg,0,none⟩):=by
   show (caps++Array.replicate (40-caps.size) undef).getD 0 undef=_
   rw[Array.getD_eq_getD_getElem?,Array.getElem?_append_left (by omega),hc0]
   rfl
  simp only[List.map_toArray,List.map_cons,List.map_nil,e] at h
  exact h
 ·refine J.still (fun _=>u6c) (J.still (fun _=>ue6) (reg1 (J:=J) (i:=i) hk hw ht (by simp;omega) fun a1 v1 w1 t1 s1 f1 => ?_))
  refine J.still (fun _=>ubd) (J.still (fun _=>ud5) ?_)
  exact wloop T b1 b2 b3 q.p.sn i (by omega) (by have:=T.ws;omega) hxi a1 v1 w1 t1 s1 f1
end Go.Proofs.YtijjhfailnmeoaaGreat
namespace Go.Proofs.YtijjhfailnmeoaaGreat
open Go Go.Rf Go.Conc Go.ConcN
open Go.ConcR (Payload)
open Go.RowKit Go.Conc.Lib Go.ConcR.Gen Go.ConcN.Gen
noncomputable def c19:Code:=Tryz.f19.body.getD .skip
noncomputable def x1:Code:=sqB c19
noncomputable def x2:Code:=sqB x1
noncomputable def x3:Code:=sqB x2
noncomputable def x4:Code:=sqB x3
noncomputable def x5:Code:=sqB x4
noncomputable def x6:Code:=sqB x5
noncomputable def tl:Code:=sqB x6
noncomputable def R5:Array Oper:=opsR (sqA x4)
noncomputable def R6:Array Oper:=opsR (sqA (sqA x5))
noncomputable def L19:Code:=inB (inB (sqB (sqA x5)))
noncomputable def R7:Array Oper:=opsR (sqA L19)
noncomputable def blk19:Code:=inB (sqA (sqB (sqB L19)))
noncomputable def R8:Array Oper:=opsR (sqA blk19)
noncomputable def R9:Array Oper:=opsR (sqA (sqB blk19))
noncomputable def R10:Array Oper:=opsR (sqB (sqB blk19))
noncomputable def R11:Array Oper:=opsR (sqB (sqB (sqB L19)))
noncomputable def R12:Array Oper:=opsR (sqA x6)
theorem ykl:c19=.seq (sqA c19) (.seq (sqA x1) (.seq (sqA x2) (.seq (sqA x3) x4))):=by kernel_rfl
theorem x4_eq:x4=.seq (.region 5 R5 false) (.seq (.seq (.region 6 R6 false) (.block 0 (.loop L19))) (.seq (.region 12 R12 false) tl)):=by kernel_rfl
theorem yj6:L19=.seq (.region 7 R7 false) (.seq (.cond (.tmp 40) .skip (.exit 0)) (.seq (.block 1 (.seq (.region 8 R8 false) (.seq (.region 9 R9 false) (.region 10 R10 false)))) (.region 11 R11 false))):=by kernel_rfl
def FP.mb(p:FP)(y:AV):List (Nat×AV):=[(6,A1 (.ptr 4 0 7)),(7,A1 (.ptr 5 0 1)),(8,A1 (.ptr 6 0 1)),(9,A1 (.ptr 7 0 1)),(10,A1 (.ptr 8 0 1)),(11,A1 (.ptr 9 0 1)),(15,A1 (.ptr 10 0 1)),(16,A1 (.ptr 11 0 1)),(17,A1 (.ptr 13 0 1)),(18,A1 (.ptr 15 0 1)),
 (19,A1 (.ptr 17 0 2)),(38,FP.at_ p.ws),(39,y)]
noncomputable def q6(i:Nat):Oper:=(R6[i]?).getD default
noncomputable def q7(i:Nat):Oper:=(R7[i]?).getD default
noncomputable def q9(i:Nat):Oper:=(R9[i]?).getD default
noncomputable def q10(i:Nat):Oper:=(R10[i]?).getD default
noncomputable def q11(i:Nat):Oper:=(R11[i]?).getD default
noncomputable def q12(i:Nat):Oper:=(R12[i]?).getD default
theorem s7:R7.size=1∧R7[0]? = some (q7 0)∧(q7 0).dst=some 40∧(q7 0).guard=none:=⟨by kernel_rfl,by kernel_rfl,by kernel_rfl,by kernel_rfl⟩
theorem s9:R9.size=1∧R9[0]? = some (q9 0)∧(q9 0).dst=some 42∧(q9 0).guard=none:=⟨by kernel_rfl,by kernel_rfl,by kernel_rfl,by kernel_rfl⟩
theorem s10:R10.size=2∧R10[0]? = some (q10 0)∧R10[1]? = some (q10 1)∧(q10 0).dst=some 43∧(q10 1).dst=none∧(q10 0).guard=none∧(q10 1).guard=none:=⟨by kernel_rfl,by kernel_rfl,by kernel_rfl,by kernel_rfl,by kernel_rfl,by kernel_rfl,by kernel_rfl⟩
theorem s11:R11.size=2∧R11[0]? = some (q11 0)∧R11[1]? = some (q11 1)∧(q11 0).dst=some 44∧(q11 1).dst=some 39∧(q11 0).guard=none∧(q11 1).guard=none:=⟨by kernel_rfl,by kernel_rfl,by kernel_rfl,by kernel_rfl,by kernel_rfl,by kernel_rfl,by kernel_rfl⟩
theorem s12':R12.size=1∧R12[0]? = some (q12 0)∧(q12 0).dst=some 45∧(q12 0).guard=none:=⟨by kernel_rfl,by kernel_rfl,by kernel_rfl,by kernel_rfl⟩
theorem o9:(q9 0).op=.call { callee:=.value (.func 53),args:=#[.tmp 19,.const (.int .i64 1)],argTypes:=#[83,3] }:=by kernel_rfl
theorem o12:(q12 0).op=.call { callee:=.value (.func 57),args:=#[.tmp 19],argTypes:=#[83] }:=by kernel_rfl
theorem o10:(q10 0).op=.makeFunc (.func 54) #[] #[.tmp 19,.tmp 20,.tmp 15,.tmp 11,.tmp 6,.tmp 7,.tmp 8,.tmp 9,.tmp 10,.tmp 16,.tmp 17,.tmp 18]:=by kernel_rfl
theorem o10':(q10 1).op=.go { callee:=.value (.tmp 43),args:=#[],argTypes:=#[] }:=by kernel_rfl
theorem e7(p:FP)(y:Nat):evQ Γw (q7 0).op (p.mb (FP.at_ y)) p.H0 some=some (A1 (.bool (ltI (Int.ofNat y) (Int.ofNat p.ws)))):=by kernel_rfl
noncomputable def m7(p:FP)(y:Nat):List (Nat×AV):=put (p.mb (FP.at_ y)) (q7 0).dst (A1 (.bool (ltI (Int.ofNat y) (Int.ofNat p.ws))))
theorem m7t(p:FP)(y:Nat):opnd (m7 p y) (.tmp 40)=A1 (.bool (ltI (Int.ofNat y) (Int.ofNat p.ws))):=by kernel_rfl
noncomputable def sum11(y:Nat):AV:=A1 (.int .i64 (addI .i64 (Int.ofNat y) 1))
theorem e11a(p:FP)(y:Nat):evQ Γw (q11 0).op (p.mb (FP.at_ y)) p.H0 some=some (sum11 y):=by kernel_rfl
noncomputable def m11(p:FP)(y:Nat):List (Nat×AV):=put (p.mb (FP.at_ y)) (q11 0).dst (sum11 y)
theorem e11b(p:FP)(y:Nat):evQ Γw (q11 1).op (m11 p y) p.H0 some=some (sum11 y):=by kernel_rfl
noncomputable def m11'(p:FP)(y:Nat):List (Nat×AV):=put (m11 p y) (q11 1).dst (sum11 y)
noncomputable def st8(p:FP)(y:Nat):St:=((evC (R:=Ex×St) Γw (fun _ _ _ _=>none) 19 p.H0.length 50 [] [] 8 (.region 8 R8 false) ⟨p.mb (FP.at_ y),p.H0⟩ (fun e st=>some (e,st))).getD (.normal,⟨[],[]⟩)).2
theorem e8(p:FP)(y:Nat):evC (R:=Ex×St) Γw (fun _ _ _ _=>none) 19 p.H0.length 50 [] [] 8 (.region 8 R8 false) ⟨p.mb (FP.at_ y),p.H0⟩ (fun e st=>some (e,st))=some (.normal,st8 p y):=by kernel_rfl
example (p:FP) (y:Nat):(st8 p y).H.length=20:=by kernel_rfl
theorem e8H(p:FP)(y:Nat):(st8 p y).H=p.H0++[⟨true,.cells [.int .i64 (Int.ofNat y)]⟩,ph]:=by kernel_rfl
theorem e8t(p:FP)(y:Nat):((st8 p y).tm.filter fun x=>!Nat.beq x.1 20&&!Nat.beq x.1 41)=p.mb (FP.at_ y)∧get (st8 p y).tm 20=A1 (.ptr 18 0 1):=⟨by kernel_rfl,by kernel_rfl⟩
end Go.Proofs.YtijjhfailnmeoaaGreat
namespace Go.Rf
open Go Go.Conc Go.ConcN
section
variable {β β':Bm} {H:List Blk} {v v':World}
def disown(H:List Blk):List Blk:=H.map fun b=>⟨false,b.body⟩
theorem y54(H:List Blk)(t:Nat):nth (disown H) t=(nth H t).map fun b=>⟨false,b.body⟩:=by
 rw[u02,u02];simp[disown]
theorem yji(H:List Blk)(t:Nat):szH (disown H) t=szH H t:=by
 unfold szH
 rw[y54]
 cases nth H t<;>rfl
theorem ygz(β:Bm)(H:List Blk)(t:Nat):Mv β H β (disown H) t:=fun x hx ht=>⟨hx,by simpa [disown] using ht,by rw[yji];exact Nat.le_refl _⟩
theorem yjh(h:WR β H v):WR β (disown H) v:=by
 refine⟨fun t b hb => ?_,fun t t' b b' x x' _ hb hb' ho => ?_⟩
 ·rw[y54] at hb
  cases hn:nth H t with
  | none=>rw[hn] at hb;cases hb
  | some b0=>
   rw[hn] at hb
   cases hb
   have:=h.blk t b0 hn
   split
   ·rename_i e;rw[e] at this;exact this
   ·rename_i B o C e
    rw[e] at this
    exact⟨fun j a h1 h2=>by
     obtain⟨u,h3,h4⟩:=this.cell j a h1 h2
     exact⟨u,h3,h4.move fun t _=>ygz β H t⟩,nofun,this.lt⟩
 ·rw[y54] at hb
  cases hn:nth H t with
  | none=>rw[hn] at hb;cases hb
  | some b0=>rw[hn] at hb;cases hb;cases ho
theorem yiw {tm:List (Nat×AV)} {tmps:Array Value} (h:RTm β H tm tmps):RTm β (disown H) tm tmps:=fun t=>(h t).move fun t _=>ygz β H t
theorem yjt(h:WR β H v)(ho:∀ t b,nth H t=some b→b.own=false)(hs:v.heap.size≤v'.heap.size)(hc:∀ ad u,v.cell? ad=some u→v'.cell? ad=some u):WR β H v':=by
 refine⟨fun t b hb => ?_,h.sep⟩
 have:=h.blk t b hb
 split
 ·rename_i e;rw[e] at this;exact this
 ·rename_i B o C e
  rw[e] at this
  refine⟨fun j a h1 h2 => ?_,fun hw => ?_,Nat.lt_of_lt_of_le this.lt hs⟩
  ·obtain⟨u,h3,h4⟩:=this.cell j a h1 h2
   exact⟨u,hc _ _ h3,h4⟩
  ·rw[ho t b hb] at hw;cases hw
open Classical in
theorem y86(S R:Nat→Prop)(w:World)(k:Nat):(hideW S R w).heap[k]? = if S k then w.heap[k]? else if R k then (w.heap[k]?).map (fun o=>match o with | .cells c e _=>.cells c e (0,c.size) | o=>o) else if k<w.heap.size then some veil else none:=by
 unfold hideW
 by_cases hk:k<w.heap.size
 ·simp[hk]
  by_cases h1:S k
  ·simp[h1]
  ·by_cases h2:R k
   ·simp[h1,h2]
    cases w.heap[k]<;>rfl
   ·simp[h1,h2]
 ·simp[hk]
theorem yio{R:Nat→Prop}{S:Nat→Prop}{w w':World}(hS:∀ k,¬ S k) (hR:∀ k,R k→w'.heap[k]? = w.heap[k]?) {ad:Addr} {u:Value} (hl:ad.block<w'.heap.size∨True) (h:(hideW S R w).cell? ad=some u):(hideW S R w').cell? ad=some u:=by
 have h1:=y86 S R w ad.block
 have h2:=y86 S R w' ad.block
 rw[if_neg (hS _)] at h1 h2
 by_cases hr:R ad.block
 ·rw[if_pos hr] at h1 h2
  rw[hR _ hr,← h1] at h2
  unfold World.cell? at *
  rw[h2];exact h
 ·rw[if_neg hr] at h1
  unfold World.cell? at h
  rw[h1] at h
  split at h
  ·rename_i e
   split at e
   ·cases e
   ·cases e
  ·cases h
end
end Go.Rf
namespace Go.Proofs.YtijjhfailnmeoaaGreat
open Go Go.Rf Go.Conc Go.ConcN
open Go.ConcR (Payload)
open Go.RowKit Go.Conc.Lib Go.ConcR.Gen Go.ConcN.Gen
theorem mb_at(p:FP)(x y:AV)(t:Nat):get (p.mb x) t=if t=39 then x else get (p.mb y) t:=by
 by_cases h:t=39
 ·subst h
  rw[if_pos rfl];rfl
 ·rw[if_neg h]
  have h':¬ 39=t:=fun e=>h e.symm
  unfold FP.mb
  simp only[u16,if_neg h']
theorem z9x{c:Prop}[Decidable c]{t s o e:Nat}{X:AV} (h:mV t (if c then A1 (.ptr s o e) else X)=true):t=s∨mV t X=true:=by
 split at h
 ·left
  have h':m0 t (.ptr s o e)=true:=h
  exact (u04 (show Nat.beq s t=true from h')).symm
 ·exact .inr h
theorem z9x'{c:Prop}[Decidable c]{t:Nat}{n:Int}{X:AV} (h:mV t (if c then A1 (.int .i64 n) else X)=true):mV t X=true:=by
 split at h
 ·cases h
 ·exact h
theorem yjz(p:FP)(y t0 t:Nat) (h:mV t (get (p.mb (FP.at_ y)) t0)=true):t∈[4,5,6,7,8,9,10,11,13,15,17]:=by
 unfold FP.mb at h
 simp only[u16] at h
 rcases z9x h with rfl | h
 ·simp
 rcases z9x h with rfl | h
 ·simp
 rcases z9x h with rfl | h
 ·simp
 rcases z9x h with rfl | h
 ·simp
 rcases z9x h with rfl | h
 ·simp
 rcases z9x h with rfl | h
 ·simp
 rcases z9x h with rfl | h
 ·simp
 rcases z9x h with rfl | h
 ·simp
 rcases z9x h with rfl | h
 ·simp
 rcases z9x h with rfl | h
 ·simp
 rcases z9x h with rfl | h
 ·simp
 have h:=z9x' (z9x' h)
 cases h
structure MSt (q:FQ) (β:Bm) (y:Nat) (a:Act):Prop where
 tm:RTm β q.p.H0 (q.p.mb (FP.at_ y)) a.tmps
 sz:a.tmps.size=50
 df:a.defers=[]
theorem MSt.put{q:FQ}{β:Bm}{y:Nat}{a:Act}(h:MSt q β y a){d:Nat}{u:Value}(hd:40≤d):MSt q β y (a.put (some d) u):=by
 refine⟨y59 h.tm fun d' e => ?_,by rw[u2d];exact h.sz,by rw[u1s];exact h.df⟩
 injection e with e
 subst e
 unfold FP.mb
 simp only[u16]
 repeat (rw[if_neg (by omega)])
 rfl
theorem MSt.put0{q:FQ}{β:Bm}{y:Nat}{a:Act}(h:MSt q β y a){u:Value}:MSt q β y (a.put none u):=h
section
variable {J:Jd Tryz.prog} {β:Bm} {q:FQ} {y:Nat} {b:Frame} {k:List Item} {cs:List Frame} {a:Act} {v:World}
theorem reg7(hb:b.kind≠.early)(hw:WR β q.p.H0 v)(hm:MSt q β y a)
  (hnext:∀ a' v',WR β q.p.H0 v'→MSt q β y a'→a'.eval (.tmp 40)=.bool (ltI (Int.ofNat y) (Int.ofNat q.p.ws))→J.Win (G (b.atR a' k) cs) v'):J.Win (G (b.atR a (.code (.region 7 R7 false)::k)) cs) v:=by
 refine Jd.region (J:=J) (Q:=fun e a' v'=>e=.normal∧WR β q.p.H0 v'∧RTm β q.p.H0 (m7 q.p y) a'.tmps∧a'.tmps.size=50∧a'.defers=a.defers) ?_ b k cs hb fun e a' v' h=>by
  obtain⟨rfl,q1,q2,q3,q4⟩:=h
  have:=u01 q2 (.tmp 40)
  rw[m7t] at this
  refine hnext _ _ q1 ⟨zwl q2 fun t => ?_,q3,q4.trans hm.df⟩ this
  unfold m7
  rw[s7.2.2.1]
  simp only[put,u16]
  by_cases h:40=t
  ·subst h;left;rfl
  ·right;rw[if_neg h]
 rw[s7.1]
 show J.ord R7 [0] _ a v
 refine Jd.ordQ (nt:=50) tyTab_ok s7.2.1 s7.2.2.2 hw hm.tm hm.sz (by rw[s7.2.2.1];rfl) (e7 q.p y) fun a1 v1 w1 t1 s1 f1 => ?_
 exact Jd.ord_nil ⟨rfl,w1,t1,s1,f1⟩
theorem reg11(hb:b.kind≠.early)(hw:WR β q.p.H0 v)(hm:MSt q β y a)(hy:y<8)
  (hnext:∀ a' v',WR β q.p.H0 v'→MSt q β (y+1) a'→J.Win (G (b.atR a' k) cs) v'):J.Win (G (b.atR a (.code (.region 11 R11 false)::k)) cs) v:=by
 refine Jd.region (J:=J) (Q:=fun e a' v'=>e=.normal∧WR β q.p.H0 v'∧RTm β q.p.H0 (m11' q.p y) a'.tmps∧a'.tmps.size=50∧a'.defers=a.defers) ?_ b k cs hb fun e a' v' h=>by
  obtain⟨rfl,q1,q2,q3,q4⟩:=h
  refine hnext _ _ q1 ⟨zwl q2 fun t => ?_,q3,q4.trans hm.df⟩
  have hs:sum11 y=FP.at_ (y+1):=by
   unfold sum11 FP.at_
   rw[show (1:Int)=Int.ofNat 1 from rfl,yjk (by omega)]
  unfold m11' m11
  rw[s11.2.2.2.1,s11.2.2.2.2.1,hs]
  simp only[put,u16,mb_at q.p (FP.at_ (y+1)) (FP.at_ y) t]
  by_cases h:39=t
  ·subst h;right;simp
  ·rw[if_neg (fun e=>h e.symm),if_neg h]
   by_cases h2:44=t
   ·subst h2;left;rfl
   ·right;rw[if_neg h2]
 rw[s11.1]
 show J.ord R11 [0,1] _ a v
 refine Jd.ordQ (nt:=50) tyTab_ok s11.2.1 s11.2.2.2.2.2.1 hw hm.tm hm.sz (by rw[s11.2.2.2.1];rfl) (e11a q.p y) fun a1 v1 w1 t1 s1 f1 => ?_
 refine Jd.ordQ (nt:=50) tyTab_ok s11.2.2.1 s11.2.2.2.2.2.2 w1 t1 s1 (by rw[s11.2.2.2.2.1];rfl) (e11b q.p y) fun a2 v2 w2 t2 s2 f2 => ?_
 exact Jd.ord_nil ⟨rfl,w2,t2,s2,f2.trans f1⟩
theorem yi4 (l:List (Nat×AV)) (a b t:Nat) (ha:t≠a) (hb:t≠b):get (l.filter fun x=>!Nat.beq x.1 a&&!Nat.beq x.1 b) t=get l t:=by
 induction l with
 | nil=>rfl
 | cons x l ih=>
  obtain⟨d,u⟩:=x
  rw[List.filter_cons]
  split
  ·rw[u16,u16,ih]
  ·rename_i hc
   rw[u16,ih,if_neg]
   intro e
   subst e
   apply hc
   have h1:Nat.beq d a=false:=by
    cases h:Nat.beq d a with
    | false=>rfl
    | true=>exact absurd (u04 h) ha
   have h2:Nat.beq d b=false:=by
    cases h:Nat.beq d b with
    | false=>rfl
    | true=>exact absurd (u04 h) hb
   simp[h1,h2]
theorem yk2(hw:WR β q.p.H0 v){t:Nat} (ht:t∈[4,5,6,7,8,9,10,11,13,15,17]):t<q.p.H0.length∧∃ x,β t=some x:=by
 have key:∀ b,nth q.p.H0 t=some b→b.body.size≠0→t<q.p.H0.length∧∃ x,β t=some x:=fun b hb hs=>by
  refine⟨u1p hb,?_⟩
  have:=hw.blk t b hb
  split at this
  ·exact absurd this hs
  ·rename_i B o C e;exact⟨_,e⟩
 simp only[List.mem_cons,List.mem_nil_iff,or_false] at ht
 rcases ht with rfl | rfl | rfl | rfl | rfl | rfl | rfl | rfl | rfl | rfl | rfl<;>exact key _ rfl (by simp[Body.size])
theorem reg8(hb:b.kind≠.early)(hw:WR β q.p.H0 v)(hm:MSt q β y a)
  (hnext:∀ a' v' β' Bw C8,(∀ t x,t<q.p.H0.length→β t=some x→β' t=some x)→β' 18=some (Bw,0,C8)→WR β' (q.p.Hw y) v'→RTm β' (q.p.Hw y) (q.p.mb (FP.at_ y)) a'.tmps→a'.eval (.tmp 20)=.pointer (some ⟨Bw,0,none⟩)→MSt q β y a'→J.Win (G (b.atR a' k) cs) v') :
  J.Win (G (b.atR a (.code (.region 8 R8 false)::k)) cs) v:=by
 have hR:Rel β q.p.H0 v 50 ⟨q.p.mb (FP.at_ y),q.p.H0⟩ a v:=⟨β,Inv.start hw,hm.tm,hm.sz,hm.df⟩
 have hwp:=u3e (J:=J) (Γ:=Γw) tyTab_ok (hd:=fun _ _ _ _=>none) (fun _ _ _ _ _ h=>by cases h) (fun _ _ _ _ h=>by cases h) mixed (.region 8 R8 false) (fun c' h=>by cases h) (by kernel_rfl) _ _ a v hR (e8 q.p y)
 refine hwp b k cs hb fun e a' v' h => ?_
 have done:∀ st,Rel β q.p.H0 v 50 st a' v'→some (Ex.normal,st)=some (Ex.normal,st8 q.p y)→J.Win (G (b.atR a' k) cs) v':=by
  rintro st ⟨β',hI,hv,hs,hdf⟩ hst
  injection hst with hst
  injection hst with _ hst
  subst hst
  have hHw:disown (st8 q.p y).H=q.p.Hw y:=by rw[e8H];rfl
  have hmb:RTm β' (st8 q.p y).H (q.p.mb (FP.at_ y)) a'.tmps:=zwl hv fun t=>by
   by_cases h1:t=20
   ·subst h1;left;rfl
   ·by_cases h2:t=41
    ·subst h2;left;rfl
    ·right
     rw[← (e8t q.p y).1,yi4 _ _ _ _ h1 h2]
  obtain⟨Bw,C8,h18⟩:∃ Bw C8,β' 18=some (Bw,0,C8):=by
   have hn:nth (st8 q.p y).H 18=some ⟨true,.cells [.int .i64 (Int.ofNat y)]⟩:=by rw[e8H];rfl
   have:=hI.wr.blk 18 _ hn
   split at this
   ·simp[Body.size] at this
   ·rename_i B o C e
    have ho:=(this.own rfl).1
    subst ho
    exact⟨B,C,e⟩
  have h20:a'.eval (.tmp 20)=.pointer (some ⟨Bw,0,none⟩):=by
   have:=u01 hv (.tmp 20)
   rw[show opnd (st8 q.p y).tm (.tmp 20)=get (st8 q.p y).tm 20 from rfl,(e8t q.p y).2] at this
   obtain⟨B,o,C,k1,k2,k3,k4⟩:=this
   rw[h18] at k1
   cases k1
   exact k4
  refine hnext a' v' β' Bw C8 hI.agree h18 (by rw[← hHw];exact yjh hI.wr) (by rw[← hHw];exact yiw hmb) h20 ⟨fun t0 => ?_,hs,hdf⟩
  refine (hmb t0).move fun t ht x hx hl => ?_
  obtain⟨h1,x0,h2⟩:=yk2 hw (yjz q.p y t0 t ht)
  have h3:=hI.agree t x0 h1 h2
  rw[h3] at hx
  cases hx
  refine⟨h2,h1,?_⟩
  rw[e8H]
  unfold szH
  rw[u0t,if_pos h1]
  exact Nat.le_refl _
 cases e with
 | normal=>obtain⟨st,h1,h2⟩:=h;exact done st h1 h2
 | exit id=>obtain⟨st,h1,h2⟩:=h;cases h2
 | ret=>obtain⟨st,h1,h2⟩:=h;cases h2
 | goto l=>exact h.elim
 | panic ch=>exact h.elim
 | outgrown=>exact h.elim
end
end Go.Proofs.YtijjhfailnmeoaaGreat
namespace Go.Proofs.YtijjhfailnmeoaaGreat
open Go Go.Rf Go.Conc Go.ConcN
open Go.ConcR (Payload)
open Go.RowKit Go.Conc.Lib Go.ConcR.Gen Go.ConcN.Gen
def StopOf(A:Ph)[Payload] (Anch:(Nat→Prop)→Goroutine→World→Prop):Nat→(Nat→Prop)→Goroutine→World→Prop
 | 0=>A.AtKd Anch
 | r+1=>A.AtKdS (A.n-(r+1)) (A.Spawns Anch r)
theorem ygv{A:Ph}[Payload] {Anch:(Nat→Prop)→Goroutine→World→Prop} {r:Nat} {S:Nat→Prop} {g:Goroutine} {w:World}:A.Spawns Anch r S g w=A.MM (StopOf A Anch r) S g w:=by cases r<;>rfl
structure Mn (q:FQ) (R:Nat→Prop) (C:Nat) (β:Bm) (C1 C2 C3 Cg:Nat):Prop where
 told:Told q R C
 b1:β 12=some (q.B1,0,C1)
 b2:β 14=some (q.B2,0,C2)
 b3:β 16=some (q.B3,0,C3)
 bg:β 17=some (q.Wg,0,Cg)
 wr:WR β q.p.H0 (hideW Ph.nob R q.w0)
 cells:∀ k,R k→∃ c e f,q.w0.heap[k]? = some (.cells c e f)
section
variable {q:FQ} {R:Nat→Prop} {C:Nat} {β:Bm} {C1 C2 C3 Cg:Nat}
theorem yj8(p:FP):∀ t b,nth p.H0 t=some b→b.own=false:=by
 intro t b h
 have:p.H0.all (fun b=>!b.own)=true:=by kernel_rfl
 rw[u02] at h
 have h2:=List.all_eq_true.1 this b (List.mem_of_getElem? h)
 simpa using h2
theorem Mn.seen(M:Mn q R C β C1 C2 C3 Cg){w:World}(hr:q.ph.RK Ph.nob Ph.no q.w0 w):Hid Ph.nob R w ((hideW Ph.nob R w).at w.drawn)∧WR β q.p.H0 (hideW Ph.nob R w):=by
 have hsame:∀ k,R k→w.heap[k]? = q.w0.heap[k]? := fun k hk=>by
  have h1:=(M.told.ro k hk).1
  have h2:q.N0≤q.w0.heap.size:=M.told.geo.n0
  have h3:k<q.N0:=h1.1
  exact hr.blk k (Nat.lt_of_lt_of_le h3 h2) (.inr h1)
 refine⟨?_,?_⟩
 ·have:Hid Ph.nob R w (hideW Ph.nob R w):=uc4 (fun k h=>h.elim) (fun k o h=>h.elim) fun k hk=>by
   obtain⟨c,e,f,h⟩:=M.cells k hk
   exact⟨c,e,f,(hsame k hk).trans h⟩
  rw[u3o this.drawn];exact this
 ·exact yjt M.wr (yj8 q.p) (by simp[hideW];exact hr.size) fun ad u h=>yio (fun k h=>h) hsame (.inr trivial) h
theorem mok(G':q.ph.Geo)(hR:∀ k,R k→q.ph.Ro k):q.ph.WOk Ph.no R fun _=>True:=⟨G',hR,fun _ h=>h.elim,fun _ _ _ h=>h⟩
def Gd(q:FQ)(β:Bm)(c:Frame):Prop:=∃ a y,c=(Rf.base 19).atR a [.inRegion R12 [0],.code tl]∧MSt q β y a
theorem x6_eq:x6=.seq (.region 12 R12 false) tl:=by kernel_rfl
theorem crew(M:Mn q R C β C1 C2 C3 Cg){y:Nat}{a:Act}(h:MSt q β y a):a.eval (.tmp 19)=.pointer (some ⟨q.Wg,0,none⟩):=by
 have:=u01 h.tm (.tmp 19)
 obtain⟨B,o,C',k1,k2,k3,k4⟩:=(show RV β q.p.H0 (A1 (.ptr 17 0 2)) (a.eval (.tmp 19)) from this)
 rw[M.bg] at k1
 cases k1
 exact k4
variable [Payload]
abbrev mw(q:FQ)(R:Nat→Prop) (Stop:(Nat→Prop)→Goroutine→World→Prop) (g:Goroutine) (v:World):Prop:=q.ph.WWin true Ph.no Stop R (fun _=>True) g v
omit [Payload] in
theorem ybo{f:FuncId}{fn:Func}{c:Code} (hf:Tryz.prog.funcs[f]? = some fn) (hname:(fn.name == "runtime.NumGoroutine")=false) (hb:fn.body=some c) (args:Array Value) (w:World) :
  (callFunc f args).run Tryz.prog w=.ok (.enter f args) w:=by
 have h1:fn.name ≠ "runtime.NumGoroutine" := by simpa using hname
 simp[callFunc,hf,h1,hb]
omit [Payload] in
theorem yj4{J:Jd Tryz.prog}{b:Frame}(hb:b.kind≠.early){ops:Array Oper}{i:Nat}{rest:List Nat}{k:List Item}{cs:List Frame}{a:Act}{v:World}{o:Oper}{f:Nat}{fn:Func}{c:Code}{xs:Array Operand}{ats:Array TypeId}{vals:Array Value}
  (ho:ops[i]? = some o) (hg:o.guard=none) (hop:o.op=.call { callee:=.value (.func f),args:=xs,argTypes:=ats }) (hf:Tryz.prog.funcs[f]? = some fn) (hname:(fn.name == "runtime.NumGoroutine")=false) (hbd:fn.body=some c) (hv:xs.map a.eval=vals)
  (h:∀ v₁,J.nz v v₁→J.Win (G (Frame.enter Tryz.prog f vals .normal) (b.atR a (.inRegion ops (i::rest)::k)::cs)) v₁):J.Win (G (b.atR a (.inRegion ops (i::rest)::k)) cs) v:=by
 have ef:a.eval (.func f)=.func (.func f) #[] #[]:=rfl
 have hx:execOp a.eval o=callFunc f vals:=by
  simp only[execOp,hop,resolve,Deferred.ofValue,ef]
  simp[invoke,hv]
 refine J.step fun v₁ hz=>⟨_,v₁,u3d (n:=.enter f vals) ho (by simp[Region.wanted,hg]) (fun c e=>by rw[hop] at e;cases e) hb (by rw[hx];exact u7f hf hname hbd) (by rw[hx];exact ybo hf hname hbd vals v₁) rfl,h v₁ hz⟩
end
end Go.Proofs.YtijjhfailnmeoaaGreat
namespace Go.Proofs.YtijjhfailnmeoaaGreat
open Go Go.Rf Go.Conc Go.ConcN
open Go.ConcR (Payload)
open Go.RowKit Go.Conc.Lib Go.ConcR.Gen Go.ConcN.Gen
def capsOf(a:Act):Array Value:=#[a.eval (.tmp 19),a.eval (.tmp 20),a.eval (.tmp 15),a.eval (.tmp 11),a.eval (.tmp 6),a.eval (.tmp 7),a.eval (.tmp 8),a.eval (.tmp 9),a.eval (.tmp 10),a.eval (.tmp 16),a.eval (.tmp 17),a.eval (.tmp 18)]
section
variable {q:FQ} {R:Nat→Prop} {C:Nat} {β:Bm} {C1 C2 C3 Cg:Nat}
theorem cg(a:Act)(X:Array Value)(i:Nat)(v:Value)(hi:i<12) (h:(capsOf a)[i]? = some v):(capsOf a++X).getD i undef=v:=by
 have hs:i<(capsOf a).size:=hi
 rw[Array.getD_eq_getD_getElem?,Array.getElem?_append_left hs,h]
 rfl
theorem yjm{β':Bm}{H:List Blk}{y:Nat}{a:Act} (h:RTm β' H (q.p.mb (FP.at_ y)) a.tmps) (h20:RV β' H (A1 (.ptr 18 0 1)) (a.eval (.tmp 20))) :
  RTm β' H (FP.base .top) (capsOf a++Array.replicate (40-(capsOf a).size) undef):=by
 have g:∀ t,RV β' H (get (q.p.mb (FP.at_ y)) t) (a.eval (.tmp t)):=fun t=>h t
 generalize Array.replicate (40-(capsOf a).size) undef=X
 unfold FP.base
 refine z5k (by rw[cg a X 1 _ (by omega) rfl];exact h20) ?_
 refine z5k (by rw[cg a X 2 _ (by omega) rfl];exact g 15) ?_
 refine z5k (by rw[cg a X 3 _ (by omega) rfl];exact g 11) ?_
 refine z5k (by rw[cg a X 4 _ (by omega) rfl];exact g 6) ?_
 refine z5k (by rw[cg a X 5 _ (by omega) rfl];exact g 7) ?_
 refine z5k (by rw[cg a X 6 _ (by omega) rfl];exact g 8) ?_
 refine z5k (by rw[cg a X 7 _ (by omega) rfl];exact g 9) ?_
 refine z5k (by rw[cg a X 8 _ (by omega) rfl];exact g 10) ?_
 refine z5k (by rw[cg a X 9 _ (by omega) rfl];exact g 16) ?_
 refine z5k (by rw[cg a X 10 _ (by omega) rfl];exact g 17) ?_
 refine z5k (by rw[cg a X 11 _ (by omega) rfl];exact g 18) ?_
 exact z5k (v:=.top) trivial fun t=>trivial
theorem y95(a:Act)(w:World):(execOp a.eval (q10 0)).run Tryz.prog w=.ok (.value (.func (.func 54) #[] (capsOf a))) w∧Tame Tryz.prog (execOp a.eval (q10 0)):=by
 have e:execOp a.eval (q10 0)=pure (.value (.func (.func 54) #[] (capsOf a))):=by
  simp[execOp,o10,capsOf,Instr.makeFunc]
 rw[e]
 exact⟨rfl,trivial⟩
theorem yja{a:Act}{caps:Array Value} (h:a.eval (.tmp 43)=.func (.func 54) #[] caps) (w:World):(execOp a.eval (q10 1)).run Tryz.prog w=.ok (.spawn (kid caps)) w∧(execOp a.eval (q10 1)).events Tryz.prog w #[]=#[]:=by
 constructor
 ·simp[execOp,o10',resolve,Deferred.ofValue,h,kid]
 ·simp[execOp,o10',resolve,Deferred.ofValue,h,kid]
end
end Go.Proofs.YtijjhfailnmeoaaGreat
namespace Go.Proofs.YtijjhfailnmeoaaGreat
open Go Go.Rf Go.Conc Go.ConcN
open Go.ConcR (Payload)
open Go.RowKit Go.Conc.Lib Go.ConcR.Gen Go.ConcN.Gen
section
variable [Payload] {q:FQ} {R:Nat→Prop} {C:Nat} {β:Bm} {C1 C2 C3 Cg:Nat} {cs:List Frame}
abbrev An(q:FQ)(β:Bm)(cs:List Frame):(Nat→Prop)→Goroutine→World→Prop:=q.ph.AnchW Tryz.link (Gd q β) cs
theorem hk19:(Rf.base 19).kind≠.early:=by simp[Rf.base]
noncomputable abbrev K1:List Item:=[.inBlock 1,.code (.region 11 R11 false),.inLoop L19,.inBlock 0,.code x6]
theorem atGo(M:Mn q R C β C1 C2 C3 Cg){r y:Nat} (hy:y+(r+1)=q.p.ws)
  (ih:∀ a v,MSt q β (y+1) a→WR β q.p.H0 v→mw q R (StopOf q.ph (An q β cs) r) (G ((Rf.base 19).atR a [.code L19,.inLoop L19,.inBlock 0,.code x6]) cs) v)
  {β':Bm} (hag:∀ t x,t<q.p.H0.length→β t=some x→β' t=some x) {a:Act} {caps:Array Value} (hcs:caps.size=12) (hc0:caps[0]? = some (.pointer (some ⟨q.Wg,0,none⟩))) (h43:a.eval (.tmp 43)=.func (.func 54) #[] caps) {v:World} (hw:WR β' (q.p.Hw y) v)
  (ht:RTm β' (q.p.Hw y) (FP.base .top) (caps++Array.replicate (40-caps.size) undef)) (hm:MSt q β y a) :
  mw q R (q.ph.AtGoS (q.ph.n-(r+1)) (q.ph.Spawns (An q β cs) r)) (G ((Rf.base 19).atR a (.inRegion R10 [1]::K1)) cs) v:=by
 intro S w v₁ hz hh hc
 refine⟨.leaf,Ph.Wk.stop fun w₁ hr => ?_⟩
 have H:=mok M.told.geo M.told.ro
 have held:q.ph.Held R (fun _=>True) v S w:=⟨v₁,hz,hh,hc⟩
 obtain⟨v2,hz2,hh2,hc2⟩:=held.rely H hr
 have hj:q.ph.n-(r+1)=y:=by show q.p.ws-(r+1)=y;omega
 rw[hj]
 have hst:=stepG_spawn (P:=Tryz.prog) (main:=true) (b:=Rf.base 19) (a:=a) (k:=K1) (cs:=cs) (w:=w₁) (ops:=R10) (i:=1) (rest:=[]) (o:=q10 1) (d:=kid caps) (w':=w₁) (f:=.func 54) (c:=caps) s10.2.2.1 (by simp[Region.wanted,s10.2.2.2.2.2.2]) hk19 (yja h43 w₁).1 rfl
 have hl:listed Tryz.prog (Rf.base 19).fn a (q10 1) w₁=#[]:=by
  unfold listed
  rw[(yja h43 w₁).2]
  rfl
 rw[hl] at hst
 refine⟨rfl,_,_,S,hst,fun _ h=>h,?_,?_⟩
 ·have b1:=hag 12 _ (by simp[FP.H0]) M.b1
  have b2:=hag 14 _ (by simp[FP.H0]) M.b2
  have b3:=hag 16 _ (by simp[FP.H0]) M.b3
  have hyw:y<q.p.ws:=by omega
  have hch:=child M.told hyw b1 b2 b3 hcs hc0 (hz2.nz.wr hw) ht
  refine hch S w₁ v2 (NzV.refl v2) hh2 ⟨⟨fun z h1 h2 h3 => ?_,nofun,nofun,nofun⟩,hc2.rng,hc2.live,hc2.world⟩
  rw[Nat.mod_eq_of_lt (show y<q.p.ws from hyw),Nat.mod_eq_of_lt (by omega)] at h2
  omega
 ·rw[ygv]
  have hS:(fun k=>S k∧¬ S k)=Ph.nob:=funext fun k=>propext ⟨fun h=>h.2 h.1,fun h=>h.elim⟩
  rw[hS]
  obtain⟨hh3,hw3⟩:=M.seen hc2.world
  let J3:=q.ph.phJ true (StopOf q.ph (An q β cs) r) H
  have hwin:J3.Win (G ((Rf.base 19).atR (a.put (q10 1).dst undef) (.inRegion R10 []::K1)) cs) (hideW Ph.nob R w₁):=by
   rw[s10.2.2.2.2.1]
   refine J3.still (fun _=>u6c) (J3.still (fun _=>u9e) (reg11 (J:=J3) hk19 hw3 hm.put0 (by have:=M.told.ws;omega) fun a' v' w' m'=>J3.still (fun _=>uac) (ih a' v' m' w')))
  exact hwin Ph.nob w₁ _ (NzV.refl _) hh3 ⟨trivial,fun k h=>h.elim,hc2.live,hc2.world⟩
theorem head(M:Mn q R C β C1 C2 C3 Cg):∀ (r y:Nat),y+r=q.p.ws→∀ (a:Act) (v:World),MSt q β y a→WR β q.p.H0 v→mw q R (StopOf q.ph (An q β cs) r) (G ((Rf.base 19).atR a [.code L19,.inLoop L19,.inBlock 0,.code x6]) cs) v:=by
 intro r
 induction r with
 | zero=>
  intro y hy a v hm hw
  let J:=q.ph.phJ true (StopOf q.ph (An q β cs) 0) (mok M.told.geo M.told.ro)
  generalize hL:([Item.inLoop L19,.inBlock 0,.code x6]:List Item)=rest
  rw[yj6]
  refine J.still (fun _=>ue6) (reg7 (J:=J) hk19 hw hm fun a1 v1 w1 m1 c1 => ?_)
  have hc:ltI (Int.ofNat y) (Int.ofNat q.p.ws)=false:=yhp (by simp;omega)
  rw[hc] at c1
  subst hL
  refine J.still (fun _=>ue6) (J.still (fun _=>udb c1) (J.still (fun _=>ucf (k':=[.code x6]) (by simp[exitTo])) ?_))
  rw[x6_eq]
  refine J.still (fun _=>ue6) (J.still (fun _=>uad) ?_)
  rw[s12'.1]
  refine yj4 (J:=J) hk19 s12'.2.1 s12'.2.2.2 o12 Tryz.wgLib.f_wait (nm_wait Tryz.link) rfl (vals:=#[.pointer (some ⟨q.Wg,0,none⟩)]) ?_ fun v₁ hz => ?_
  ·simp[crew M m1]
  ·exact fun S w v₁ hz hh hc=>Ph.waitEnter Tryz.wgLib rfl (Gd:=Gd q β) ⟨a1,y,rfl,m1⟩ hc.live
 | succ r ih=>
  intro y hy a v hm hw
  let J:=q.ph.phJ true (StopOf q.ph (An q β cs) (r+1)) (mok M.told.geo M.told.ro)
  generalize hL:([Item.inLoop L19,.inBlock 0,.code x6]:List Item)=rest
  rw[yj6]
  refine J.still (fun _=>ue6) (reg7 (J:=J) hk19 hw hm fun a1 v1 w1 m1 c1 => ?_)
  have hc:ltI (Int.ofNat y) (Int.ofNat q.p.ws)=true:=yj9 (by simp;omega)
  rw[hc] at c1
  refine J.still (fun _=>ue6) (J.still (fun _=>udb c1) (J.still (fun _=>ud1) (J.still (fun _=>ue6) (J.still (fun _=>ubd) (J.still (fun _=>ue6) ?_)))))
  refine reg8 (J:=J) hk19 w1 m1 fun a2 v2 β' Bw C8 hag h18 w2 t2 h20 m2 => ?_
  refine J.still (fun _=>ue6) (J.still (fun _=>uad) ?_)
  rw[s9.1]
  subst hL
  refine yj4 (J:=J) hk19 s9.2.1 s9.2.2.2 o9 Tryz.wgLib.f_add (nm_add Tryz.link) rfl (vals:=#[.pointer (some ⟨q.Wg,0,none⟩),.int .i64 1]) ?_ fun v₁ hz => ?_
  ·have:=crew M m2
   simp[this]
   rfl
  ·have w2':=hz.nz.wr w2
   refine Ph.addW (A:=q.ph) (L:=Tryz.link) Tryz.wgLib rfl (mok M.told.geo M.told.ro) ?_
   rw[Frame.finish_atR]
   let J2:=q.ph.phJ true (q.ph.AtGoS (q.ph.n-(r+1)) (q.ph.Spawns (An q β cs) r)) (mok M.told.geo M.told.ro)
   have e42:(R9[0]?).bind (·.dst)=some 42:=by rw[s9.2.1];exact s9.2.2.1
   have m3:MSt q β y (a2.put (some 42) (.tuple #[])):=m2.put (by omega)
   have t3:RTm β' (q.p.Hw y) (q.p.mb (FP.at_ y)) (a2.put (some 42) (.tuple #[])).tmps:=y59 t2 fun d e=>by injection e with e;subst e;rfl
   have h3:(a2.put (some 42) (.tuple #[])).eval (.tmp 20)=.pointer (some ⟨Bw,0,none⟩):=by
    rw[← h20]
    show (a2.put (some 42) (.tuple #[])).tmps.getD 20 undef=a2.tmps.getD 20 undef
    simp only[Act.put,Array.getD_eq_getD_getElem?]
    rw[Array.getElem?_setIfInBounds_ne (by omega)]
   show J2.Win (G ((Rf.base 19).atR (a2.put ((R9[0]?).bind (·.dst)) (.tuple #[])) (.inRegion R9 []::.code (.region 10 R10 false)::K1)) cs) v₁
   rw[e42]
   generalize a2.put (some 42) (.tuple #[])=a3 at m3 t3 h3
   refine J2.still (fun _=>u6c) (J2.still (fun _=>uad) ?_)
   rw[s10.1]
   have hop:=Jd.op_value (J:=J2) (o:=q10 0) (a:=a3) (w:=v₁) (K:=fun a4 v4=>a4=a3.put (some 43) (.func (.func 54) #[] (capsOf a3))∧NzV v₁ v4) (fun c e=>by rw[o10] at e;cases e) (y95 a3 default).2 fun v4 hz4=>
    ⟨.func (.func 54) #[] (capsOf a3),v4,.inl (y95 a3 v4).1,by rw[s10.2.2.2.1],hz4⟩
   refine hop (Rf.base 19) K1 cs R10 0 [1] hk19 s10.2.1 (by simp[Region.wanted,s10.2.2.2.2.2.1]) fun a4 v4 h4 => ?_
   obtain⟨rfl,hz4⟩:=h4
   refine atGo M hy (fun a v hm hw=>ih (y+1) (by omega) a v hm hw) hag (caps:=capsOf a3) rfl ?_ ?_ (hz4.nz.wr w2') (yjm t3 ⟨Bw,0,C8,h18,by simp[FP.Hw,FP.H0],?_,h3⟩) (m3.put (by omega))
   ·show some (a3.eval (.tmp 19))=_
    rw[crew M m3]
   ·show (a3.put (some 43) _).tmps.getD 43 undef=_
    have:43<a3.tmps.size:=by rw[m3.sz];omega
    simp[Act.put,Array.getD_eq_getD_getElem?,this]
   ·simp[szH,FP.Hw,FP.H0,Rf.nth,Body.size]
end
end Go.Proofs.YtijjhfailnmeoaaGreat
namespace Go.Proofs.YtijjhfailnmeoaaGreat
open Go Go.Rf Go.Conc Go.ConcN
open Go.ConcR (Payload wgBlock WgAt)
open Go.RowKit Go.Conc.Lib Go.ConcR.Gen Go.ConcN.Gen
noncomputable def q5:Oper:=(R5[0]?).getD default
theorem s5:R5.size=1∧R5[0]? = some q5∧q5.dst=some 19∧q5.guard=none∧q5.op=.alloc 83:=⟨by kernel_rfl,by kernel_rfl,by kernel_rfl,by kernel_rfl,by kernel_rfl⟩
theorem s6:R6.size=2∧R6[0]? = some (q6 0)∧R6[1]? = some (q6 1)∧(q6 0).dst=some 38∧(q6 1).dst=some 39∧(q6 0).guard=none∧(q6 1).guard=none:=⟨by kernel_rfl,by kernel_rfl,by kernel_rfl,by kernel_rfl,by kernel_rfl,by kernel_rfl,by kernel_rfl⟩
def withWg(w:World):World:=w.alloc (wgBlock 83 0 0)
theorem ygx(a:Act)(w:World):(execOp a.eval q5).run Tryz.prog w=.ok (.value (.pointer (some ⟨w.heap.size,0,none⟩))) (withWg w)∧(execOp a.eval q5).events Tryz.prog w #[]=#[]:=by
 have hz:=Tryz.zeroValue83 (w:=w)
 have hze:(zeroValue 83).events Tryz.prog w #[]=#[]:=by
  have hz0:Tryz.t83.zero=some (.agg #[.int .u64 0,.int .u32 0]):=by kernel_rfl
  simp[zeroValue,hz0]
 constructor
 ·simp[execOp,s5.2.2.2.2,Instr.alloc,newVar,newRow,hz,withWg,wgBlock,Value.cells]
 ·simp[execOp,s5.2.2.2.2,Instr.alloc,newVar,newRow,hz,hze]
theorem y0i(w:World):(withWg w).heap=w.heap.push (wgBlock 83 0 0):=rfl
theorem zio(w:World):(withWg w).heap.size=w.heap.size+1:=by rw[y0i,Array.size_push]
theorem zap(w:World)(k:Nat)(h:k<w.heap.size):(withWg w).heap[k]? = w.heap[k]? := by rw[y0i,Array.getElem?_push,if_neg (by omega)]
theorem yim(w:World):WgAt 83 w.heap.size (withWg w) 0 0:=by
 unfold WgAt
 rw[y0i,Array.getElem?_push,if_pos rfl]
theorem yil{b:Frame}(hb:b.kind≠.early)(a:Act)(k:List Item)(cs:List Frame)(w:World) :
  stepG Tryz.prog true (G (b.atR a (.inRegion R5 [0]::k)) cs) w=.go (G (b.atR (a.put (some 19) (.pointer (some ⟨w.heap.size,0,none⟩))) (.inRegion R5 []::k)) cs) (withWg w) #[]:=by
 have hfin:∀ u,(b.atR a (.inRegion R5 [0]::k)).finish u=b.atR (a.put (some 19) u) (.inRegion R5 []::k):=fun u=>by
  rw[Frame.finish_atR,s5.2.1]
  show b.atR (a.put q5.dst u) _=_
  rw[s5.2.2.1]
 have hk':((b.atR a (.inRegion R5 [0]::k)).kind==CallKind.early)=false:=by
  have:¬ (b.atR a (.inRegion R5 [0]::k)).kind=CallKind.early:=hb
  exact beq_eq_false_iff_ne.2 this
 rw[u7x s5.2.1 (by simp[Region.wanted,s5.2.2.2.1]) (fun c e=>by rw[s5.2.2.2.2] at e;cases e)]
 unfold stepG.apply
 rw[Sem.runT_eq,(ygx a w).1,(ygx a w).2]
 simp only[if_true,hk',Bool.false_eq_true,if_false,GStep.after,G,hfin]
 simp[seen_none]
namespace FP
variable (p:FP)
def Hm(l1 l2:List Nat)(l3:List Bool):List Blk:=[⟨false,.fl .f32 p.al⟩,⟨false,.fl .f32 p.ll⟩,⟨false,.fl .f32 p.dl⟩,⟨false,.fl .f32 p.sl⟩,
 ⟨true,.cells [.vw 0 0 p.an 1,.vw 1 0 p.ln 1,.vw 2 0 p.dn 1,.vw 3 0 p.sn 3,.int .i64 p.cc,.flt .f32 p.hb,.flt .f32 p.tp]⟩,
 ⟨true,.cells [.flt .f32 p.x2]⟩,⟨true,.cells [.flt .f32 p.x3]⟩,⟨true,.cells [.flt .f32 p.x4]⟩,⟨true,.cells [.flt .f32 p.x5]⟩,⟨true,.cells [.int .i64 (Int.ofNat p.ws)]⟩,⟨true,.cells [.int .i64 (Int.ofNat p.sn)]⟩,
 ⟨true,.cells [.sl 12 0 p.sn 1]⟩,⟨true,.fl .f32 l1⟩,⟨true,.cells [.sl 14 0 p.sn 1]⟩,⟨true,.fl .f32 l2⟩,⟨true,.cells [.sl 16 0 p.sn 1]⟩,⟨true,.bl l3⟩]
def tm0:List (Nat×AV):=[(6,A1 (.ptr 4 0 7)),(7,A1 (.ptr 5 0 1)),(8,A1 (.ptr 6 0 1)),(9,A1 (.ptr 7 0 1)),(10,A1 (.ptr 8 0 1)),(11,A1 (.ptr 9 0 1)),(15,A1 (.ptr 10 0 1)),(16,A1 (.ptr 11 0 1)),(17,A1 (.ptr 13 0 1)),(18,A1 (.ptr 15 0 1))]
def tm6:List (Nat×AV):=(19,A1 (.ptr 17 0 2))::tm0
end FP
theorem rowOf{β:Bm}{H:List Blk}{v:World}(hw:WR β H v){t:Nat}{b:Blk}(hb:nth H t=some b)(ho:b.own=true)(hs:0<b.body.size):∃ B C c e,β t=some (B,0,C)∧v.heap[B]? = some (.cells c e (0,0))∧b.body.size≤c.size∧B<v.heap.size:=by
 have h:=hw.blk t b hb
 split at h
 ·omega
 ·rename_i B o C e
  obtain⟨h0,hd,c,e',h1,h2,h3,_⟩:=ubh (Inv.start hw) hb ho e
  subst h0
  exact⟨B,C,c,e',e,h1,h3,h.lt⟩
theorem table(p:FP)(l1 l2:List Nat)(l3:List Bool)(h1:l1.length=p.sn)(h2:l2.length=p.sn)(h3:l3.length=p.sn):∀ t,t<17→∃ b0 b,nth (p.Hm l1 l2 l3) t=some b0∧nth p.H0 t=some b∧b.own=false∧b.body.size=b0.body.size∧((b.body=b0.body∧t≠12∧t≠14∧t≠16)∨b.body=.dead p.sn):=by
 intro t ht
 match t,ht with
 | 0,_=>exact⟨_,_,rfl,rfl,rfl,rfl,.inl ⟨rfl,by omega,by omega,by omega⟩⟩
 | 1,_=>exact⟨_,_,rfl,rfl,rfl,rfl,.inl ⟨rfl,by omega,by omega,by omega⟩⟩
 | 2,_=>exact⟨_,_,rfl,rfl,rfl,rfl,.inl ⟨rfl,by omega,by omega,by omega⟩⟩
 | 3,_=>exact⟨_,_,rfl,rfl,rfl,rfl,.inl ⟨rfl,by omega,by omega,by omega⟩⟩
 | 4,_=>exact⟨_,_,rfl,rfl,rfl,rfl,.inl ⟨rfl,by omega,by omega,by omega⟩⟩
 | 5,_=>exact⟨_,_,rfl,rfl,rfl,rfl,.inl ⟨rfl,by omega,by omega,by omega⟩⟩
 | 6,_=>exact⟨_,_,rfl,rfl,rfl,rfl,.inl ⟨rfl,by omega,by omega,by omega⟩⟩
 | 7,_=>exact⟨_,_,rfl,rfl,rfl,rfl,.inl ⟨rfl,by omega,by omega,by omega⟩⟩
 | 8,_=>exact⟨_,_,rfl,rfl,rfl,rfl,.inl ⟨rfl,by omega,by omega,by omega⟩⟩
 | 9,_=>exact⟨_,_,rfl,rfl,rfl,rfl,.inl ⟨rfl,by omega,by omega,by omega⟩⟩
 | 10,_=>exact⟨_,_,rfl,rfl,rfl,rfl,.inl ⟨rfl,by omega,by omega,by omega⟩⟩
 | 11,_=>exact⟨_,_,rfl,rfl,rfl,rfl,.inl ⟨rfl,by omega,by omega,by omega⟩⟩
 | 12,_=>exact⟨_,_,rfl,rfl,rfl,h1.symm,.inr rfl⟩
 | 13,_=>exact⟨_,_,rfl,rfl,rfl,rfl,.inl ⟨rfl,by omega,by omega,by omega⟩⟩
 | 14,_=>exact⟨_,_,rfl,rfl,rfl,h2.symm,.inr rfl⟩
 | 15,_=>exact⟨_,_,rfl,rfl,rfl,rfl,.inl ⟨rfl,by omega,by omega,by omega⟩⟩
 | 16,_=>exact⟨_,_,rfl,rfl,rfl,h3.symm,.inr rfl⟩
 | n+17,h=>omega
def b17(β:Bm)(Wg:Nat):Bm:=fun t=>if t=17 then some (Wg,0,2) else β t
theorem wr_in{p:FP}{l1 l2:List Nat}{l3:List Bool}(h1:l1.length=p.sn)(h2:l2.length=p.sn)(h3:l3.length=p.sn){β:Bm}{v v':World}{Wg:Nat} (hw:WR β (p.Hm l1 l2 l3) v) (hs:v.heap.size<v'.heap.size) (hg:Wg<v'.heap.size)
  (hc:∀ t b o B C,t≠12→t≠14→t≠16→nth (p.Hm l1 l2 l3) t=some b→β t=some (B,o,C)→∀ j u,v.cell? ⟨B,j,none⟩=some u→v'.cell? ⟨B,j,none⟩=some u) :
  WR (b17 β Wg) p.H0 v'∧∀ t,Mv β (p.Hm l1 l2 l3) (b17 β Wg) p.H0 t:=by
 have mv:∀ t,Mv β (p.Hm l1 l2 l3) (b17 β Wg) p.H0 t:=fun t x hx hl=>by
  have hl':t<17:=hl
  obtain⟨b0,b,e0,e1,_,e2,_⟩:=table p l1 l2 l3 h1 h2 h3 t hl'
  refine⟨by unfold b17;rw[if_neg (by omega)];exact hx,u1p e1,?_⟩
  rw[u1o e0,u1o e1,e2]
  exact Nat.le_refl _
 refine⟨⟨fun t b hb => ?_,fun t t' b b' x x' _ hb hb' ho=>by rw[yj8 p t b hb] at ho;cases ho⟩,mv⟩
 by_cases h17:t=17
 ·subst h17
  have:b=⟨false,.dead 2⟩:=by
   have e:nth p.H0 17=some ⟨false,.dead 2⟩:=rfl
   rw[e] at hb;injection hb with hb;exact hb.symm
  subst this
  simp only[b17,if_true]
  exact⟨fun j a _ hj=>(by cases hj),nofun,hg⟩
 ·have ht:t<17:=by
   have:=u1p hb
   have hl:p.H0.length=18:=rfl
   omega
  obtain⟨b0,b',e0,e1,e3,e2,e4⟩:=table p l1 l2 l3 h1 h2 h3 t ht
  rw[e1] at hb
  cases hb
  have hbt:b17 β Wg t=β t:=by unfold b17;rw[if_neg h17]
  rw[hbt]
  have h:=hw.blk t b0 e0
  split
  ·rename_i e;rw[e] at h;rw[e2];exact h
  ·rename_i B o C e
   rw[e] at h
   refine⟨fun j a hj ha => ?_,fun hx=>(by rw[e3] at hx;cases hx),Nat.lt_trans h.lt hs⟩
   rcases e4 with⟨e4,n1,n2,n3⟩ | e4
   ·rw[e4] at ha hj
    obtain⟨u,k1,k2⟩:=h.cell j a hj ha
    exact⟨u,hc t b0 o B C n1 n2 n3 e0 e _ u k1,k2.move fun t _=>mv t⟩
   ·rw[e4] at ha
    cases ha
end Go.Proofs.YtijjhfailnmeoaaGreat
namespace Go.Proofs.YtijjhfailnmeoaaGreat
open Go Go.Rf Go.Conc Go.ConcN
open Go.ConcR (Payload wgBlock WgAt)
open Go.RowKit Go.Conc.Lib Go.ConcR.Gen Go.ConcN.Gen
theorem e6a(p:FP):evQ Γw (q6 0).op FP.tm6 p.H0 some=some (FP.at_ p.ws):=by kernel_rfl
noncomputable def m6(p:FP):List (Nat×AV):=put FP.tm6 (q6 0).dst (FP.at_ p.ws)
theorem e6b(p:FP):evQ Γw (q6 1).op (m6 p) p.H0 some=some (FP.at_ 0):=by kernel_rfl
theorem sub6(p:FP)(t:Nat):get (p.mb (FP.at_ 0)) t=get ((39,FP.at_ 0)::(38,FP.at_ p.ws)::FP.tm6) t:=by
 unfold FP.mb FP.tm6 FP.tm0
 simp only[u16]
 by_cases h1:39=t
 ·subst h1;rfl
 ·by_cases h2:38=t
  ·subst h2;rfl
  ·by_cases h3:19=t
   ·subst h3;rfl
   ·simp only[if_neg h1,if_neg h2,if_neg h3]
theorem reg6{J:Jd Tryz.prog}{q:FQ}{β:Bm}{b:Frame}{k:List Item}{cs:List Frame}{a:Act}{v:World}(hb:b.kind≠.early)(hw:WR β q.p.H0 v)(ht:RTm β q.p.H0 FP.tm6 a.tmps)(hsz:a.tmps.size=50) (hdf:a.defers=[])
  (hnext:∀ a' v',WR β q.p.H0 v'→MSt q β 0 a'→J.Win (G (b.atR a' k) cs) v'):J.Win (G (b.atR a (.code (.region 6 R6 false)::k)) cs) v:=by
 refine Jd.region (J:=J) (Q:=fun e a' v'=>e=.normal∧WR β q.p.H0 v'∧MSt q β 0 a') ?_ b k cs hb fun e a' v' h=>by
  obtain⟨rfl,q1,q2⟩:=h
  exact hnext _ _ q1 q2
 rw[s6.1]
 show J.ord R6 [0,1] _ a v
 refine Jd.ordQ (nt:=50) tyTab_ok s6.2.1 s6.2.2.2.2.2.1 hw ht hsz (by rw[s6.2.2.2.1];rfl) (e6a q.p) fun a1 v1 w1 t1 s1 f1 => ?_
 refine Jd.ordQ (nt:=50) tyTab_ok s6.2.2.1 s6.2.2.2.2.2.2 w1 t1 s1 (by rw[s6.2.2.2.2.1];rfl) (e6b q.p) fun a2 v2 w2 t2 s2 f2 => ?_
 refine Jd.ord_nil ⟨rfl,w2,⟨fun t => ?_,s2,f2.trans (f1.trans hdf)⟩⟩
 have:=t2 t
 rw[sub6]
 rw[s6.2.2.2.2.1,s6.2.2.2.1] at this
 exact this
theorem yih{v:World}{ad:Addr}{u:Value}(h:v.cell? ad=some u):∃ c e f,v.heap[ad.block]? = some (.cells c e f):=by
 unfold World.cell? at h
 split at h
 ·rename_i e;exact⟨_,_,_,e⟩
 ·cases h
theorem vis{S:Nat→Prop}{w v:World} (hh:Hid S nob' w (v.at w.drawn)) {B:Nat} {c:Array Value} {e:TypeId} {f:Nat×Nat} (h:v.heap[B]? = some (.cells c e f)):S B∧w.heap[B]? = some (.cells c e f):=by
 have hS:S B:=Classical.byContradiction fun hn=>by
  have hl:B<w.heap.size:=by
   have:=(Array.getElem?_eq_some_iff.1 h).1
   have hs:v.heap.size=w.heap.size:=hh.size
   omega
  have:=hh.veil B hl hn (fun x=>x)
  rw[show (v.at w.drawn).heap=v.heap from rfl,h] at this
  cases this
 exact⟨hS,by have:=hh.same B hS;rw[show (v.at w.drawn).heap=v.heap from rfl,h] at this;exact this.symm⟩
section
variable [Payload] {p:FP} {β:Bm} {v w:World} {S Z:Nat→Prop} {W:World} {l1 l2:List Nat} {l3:List Bool} {B1 B2 B3 b:Nat}
abbrev qOf(p:FP)(B1 B2 B3 b:Nat)(Z:Nat→Prop)(w:World):FQ:=⟨p,B1,B2,B3,w.heap.size,b,w.heap.size+1,Z,withWg w⟩
def Rof(p:FP)(B1 B2 B3 b:Nat)(Z:Nat→Prop)(w:World)(k:Nat):Prop:=(qOf p B1 B2 B3 b Z w).ph.Ro k∧∃ c e f,(withWg w).heap[k]? = some (.cells c e f)
omit [Payload] in
theorem ykb(hws:1≤p.ws∧p.ws≤8)(hsn:0<p.sn∧p.sn≤281474976710656)(hok:∀ y,y<p.sn→p.ok y=true)(h1:l1.length=p.sn)(h2:l2.length=p.sn)(h3:l3.length=p.sn)
    (hw:WR β (p.Hm l1 l2 l3) v) (hh:Hid S nob' w (v.at w.drawn)) (hc:Ctxt W S w Z) (hz:∀ k,Z k→k<w.heap.size) (hb:1≤b) :
    ∃ B1 B2 B3 C C1 C2 C3,β 12=some (B1,0,C1)∧β 14=some (B2,0,C2)∧β 16=some (B3,0,C3)∧S B1∧S B2∧S B3 ∧
      Mn (qOf p B1 B2 B3 b Z w) (Rof p B1 B2 B3 b Z w) C (b17 β w.heap.size) C1 C2 C3 2∧(∀ t,Mv β (p.Hm l1 l2 l3) (b17 β w.heap.size) p.H0 t):=by
  obtain⟨B1,C1,c1,e1,b1,r1,z1,y1⟩:=rowOf hw (t:=12) (b:=⟨true,.fl .f32 l1⟩) rfl rfl (by show 0<l1.length;omega)
  obtain⟨B2,C2,c2,e2,b2,r2,z2,y2⟩:=rowOf hw (t:=14) (b:=⟨true,.fl .f32 l2⟩) rfl rfl (by show 0<l2.length;omega)
  obtain⟨B3,C3,c3,e3,b3,r3,z3,y3⟩:=rowOf hw (t:=16) (b:=⟨true,.bl l3⟩) rfl rfl (by show 0<l3.length;omega)
  obtain⟨B0,C0,c0,e0,b0,r0,z0,y0⟩:=rowOf hw (t:=10) (b:=⟨true,.cells [.int .i64 (Int.ofNat p.sn)]⟩) rfl rfl (by simp[Body.size])
  have z1:p.sn≤c1.size:=by rw[← h1];exact z1
  have z2:p.sn≤c2.size:=by rw[← h2];exact z2
  have z3:p.sn≤c3.size:=by rw[← h3];exact z3
  have hsz:v.heap.size=w.heap.size:=hh.size
  obtain⟨S1,w1⟩:=vis hh r1
  obtain⟨S2,w2⟩:=vis hh r2
  obtain⟨S3,w3⟩:=vis hh r3
  obtain⟨S0,w0⟩:=vis hh r0
  have n12:B1≠B2:=hw.sep 12 14 ⟨true,.fl .f32 l1⟩ ⟨true,.fl .f32 l2⟩ _ _ (by omega) rfl rfl rfl rfl b1 b2
  have n13:B1≠B3:=hw.sep 12 16 ⟨true,.fl .f32 l1⟩ ⟨true,.bl l3⟩ _ _ (by omega) rfl rfl rfl rfl b1 b3
  have n23:B2≠B3:=hw.sep 14 16 ⟨true,.fl .f32 l2⟩ ⟨true,.bl l3⟩ _ _ (by omega) rfl rfl rfl rfl b2 b3
  have apart:∀ t b o B C,t≠12→t≠14→t≠16→nth (p.Hm l1 l2 l3) t=some b→β t=some (B,o,C)→isDead b.body=false→B≠B1∧B≠B2∧B≠B3:=fun t b o B C k1 k2 k3 k4 k5 k6=>
    ⟨fun e=>hw.sep 12 t ⟨true,.fl .f32 l1⟩ b _ _ (fun x=>k1 x.symm) rfl k4 rfl k6 b1 k5 e.symm,
     fun e=>hw.sep 14 t ⟨true,.fl .f32 l2⟩ b _ _ (fun x=>k2 x.symm) rfl k4 rfl k6 b2 k5 e.symm,
     fun e=>hw.sep 16 t ⟨true,.bl l3⟩ b _ _ (fun x=>k3 x.symm) rfl k4 rfl k6 b3 k5 e.symm⟩
  let q:=qOf p B1 B2 B3 b Z w
  have alive:∀ t b,nth (p.Hm l1 l2 l3) t=some b→isDead b.body=false:=by
    intro t b hb
    have:(p.Hm l1 l2 l3).all (fun b=>!isDead b.body)=true:=by kernel_rfl
    rw[u02] at hb
    have h:=List.all_eq_true.1 this b (List.mem_of_getElem? hb)
    simpa using h
  have roOf:∀ B,S B→B≠B1→B≠B2→B≠B3→q.ph.Ro B:=fun B hS k1 k2 k3=>by
    have hl:B<w.heap.size:=hc.lt B hS
    exact⟨⟨(by show B<w.heap.size+1;omega),(by show B≠w.heap.size;omega),fun hr=>hr.elim k1 fun hr=>hr.elim k2 k3⟩,fun hz=>hc.apart B hz hS⟩
  have RofOf:∀ B c e f,S B→B≠B1→B≠B2→B≠B3→w.heap[B]? = some (.cells c e f)→Rof p B1 B2 B3 b Z w B:=fun B c e f hS k1 k2 k3 hB=>
    ⟨roOf B hS k1 k2 k3,c,e,f,by rw[zap w B (hc.lt B hS)];exact hB⟩
  have hgeo:q.ph.Geo:=by
    refine⟨?_,?_,?_,?_,?_,?_,?_,hb,?_,?_⟩
    · show w.heap.size<w.heap.size+1;omega
    · rintro (h | h | h)
      · have h':w.heap.size=B1:=h
        omega
      · have h':w.heap.size=B2:=h
        omega
      · have h':w.heap.size=B3:=h
        omega
    · intro h;exact absurd (hz _ h) (Nat.lt_irrefl _)
    · rintro k (h | h | h)
      · have h':k=B1:=h
        subst h'
        exact⟨(by show k<w.heap.size+1;omega),fun h=>hc.apart _ h S1⟩
      · have h':k=B2:=h
        subst h'
        exact⟨(by show k<w.heap.size+1;omega),fun h=>hc.apart _ h S2⟩
      · have h':k=B3:=h
        subst h'
        exact⟨(by show k<w.heap.size+1;omega),fun h=>hc.apart _ h S3⟩
    · intro k hk;have:=hz k hk;show k<w.heap.size+1;omega
    · rintro i a ⟨y,_,_,rfl | rfl | rfl⟩
      · exact .inl rfl
      · exact .inr (.inl rfl)
      · exact .inr (.inr rfl)
    · rintro i i' a ⟨y,_,k2,k3⟩ ⟨y',_,k5,k6⟩
      have:y=y':=by
        rcases k3 with rfl | rfl | rfl<;>rcases k6 with h | h | h<;>(injection h)
      subst this
      exact k2.symm.trans k5
    · show p.ws<2147483648;omega
    · show w.heap.size+1≤(withWg w).heap.size;rw[zio];exact Nat.le_refl _
  have hb17:∀ t,t≠17→b17 β w.heap.size t=β t:=fun t h=>by unfold b17;rw[if_neg h]
  have hin:=wr_in (v':=hideW Ph.nob (Rof p B1 B2 B3 b Z w) (withWg w)) (Wg:=w.heap.size) h1 h2 h3 hw (by simp[hideW];rw[zio];omega) (by simp[hideW];rw[zio];omega) fun t b' o B C k1 k2 k3 k4 k5 j u hu=>by
    obtain⟨c,e,f,hB⟩:=yih hu
    have hB:v.heap[B]? = some (.cells c e f):=hB
    obtain⟨SB,wB⟩:=vis hh hB
    obtain⟨m1,m2,m3⟩:=apart t b' o B C k1 k2 k3 k4 k5 (alive t b' k4)
    have hRB:=RofOf B c e f SB m1 m2 m3 wB
    have hg:=y86 Ph.nob (Rof p B1 B2 B3 b Z w) (withWg w) B
    rw[if_neg (show ¬ Ph.nob B from fun x=>x),if_pos hRB,zap w B (hc.lt B SB),wB] at hg
    unfold World.cell? at hu ⊢
    rw[hB] at hu
    rw[hg]
    exact hu
  refine⟨B1,B2,B3,B0,C1,C2,C3,b1,b2,b3,S1,S2,S3,⟨⟨⟨n12,n13,n23⟩,hgeo,fun k hk=>hk.1,hsn.2,hws,hok,?_,?_,?_⟩,(hb17 12 (by omega)).trans b1,(hb17 14 (by omega)).trans b2,(hb17 16 (by omega)).trans b3,by simp[b17],hin.1,fun k hk=>hk.2⟩,hin.2⟩
  · rintro B (rfl | rfl | rfl)
    · exact⟨e1,c1.size,by unfold shp;rw[zap w _ (hc.lt _ S1),w1],z1⟩
    · exact⟨e2,c2.size,by unfold shp;rw[zap w _ (hc.lt _ S2),w2],z2⟩
    · exact⟨e3,c3.size,by unfold shp;rw[zap w _ (hc.lt _ S3),w3],z3⟩
  · obtain⟨m1,m2,m3⟩:=apart 10 ⟨true,.cells [.int .i64 (Int.ofNat p.sn)]⟩ 0 B0 C0 (by omega) (by omega) (by omega) rfl b0 rfl
    exact (roOf B0 S0 m1 m2 m3).1
  · have hz0:0<c0.size:=z0
    exact⟨c0[0],by show (withWg w).cell? ⟨B0,0,none⟩=_;unfold World.cell?;rw[show (withWg w).heap[(⟨B0,0,none⟩:Addr).block]? = some (.cells c0 e0 (0,0)) from (zap w B0 (hc.lt _ S0)).trans w0];simp[hz0]⟩
end
end Go.Proofs.YtijjhfailnmeoaaGreat
namespace Go.Proofs.YtijjhfailnmeoaaGreat
open Go Go.Rf Go.Conc Go.ConcN
open Go.ConcR (Payload wgBlock WgAt)
open Go.RowKit Go.Conc.Lib Go.ConcR.Gen Go.ConcN.Gen
namespace FP
variable (p:FP)
noncomputable def r0:List Nat:=(List.range p.sn).map p.v0
noncomputable def r1:List Nat:=(List.range p.sn).map p.v1
noncomputable def r2:List Bool:=(List.range p.sn).map p.v2
def tmE:List (Nat×AV):=[(16,A1 (.ptr 11 0 1)),(17,A1 (.ptr 13 0 1)),(18,A1 (.ptr 15 0 1))]
end FP
theorem yhr(p:FP)(l1 l2 m1 m2:List Nat)(l3 m3:List Bool)(h1:m1.length=l1.length)(h2:m2.length=l2.length)(h3:m3.length=l3.length):∀ t,t<17→∃ b0 b,nth (p.Hm l1 l2 l3) t=some b0∧nth (p.Hm m1 m2 m3) t=some b∧b.own=b0.own∧b.body.size=b0.body.size∧isDead b.body=isDead b0.body∧((b=b0∧t≠12∧t≠14∧t≠16)∨t=12∨t=14∨t=16):=by
 intro t ht
 match t,ht with
 | 0,_=>exact⟨_,_,rfl,rfl,rfl,rfl,rfl,.inl ⟨rfl,by omega,by omega,by omega⟩⟩
 | 1,_=>exact⟨_,_,rfl,rfl,rfl,rfl,rfl,.inl ⟨rfl,by omega,by omega,by omega⟩⟩
 | 2,_=>exact⟨_,_,rfl,rfl,rfl,rfl,rfl,.inl ⟨rfl,by omega,by omega,by omega⟩⟩
 | 3,_=>exact⟨_,_,rfl,rfl,rfl,rfl,rfl,.inl ⟨rfl,by omega,by omega,by omega⟩⟩
 | 4,_=>exact⟨_,_,rfl,rfl,rfl,rfl,rfl,.inl ⟨rfl,by omega,by omega,by omega⟩⟩
 | 5,_=>exact⟨_,_,rfl,rfl,rfl,rfl,rfl,.inl ⟨rfl,by omega,by omega,by omega⟩⟩
 | 6,_=>exact⟨_,_,rfl,rfl,rfl,rfl,rfl,.inl ⟨rfl,by omega,by omega,by omega⟩⟩
 | 7,_=>exact⟨_,_,rfl,rfl,rfl,rfl,rfl,.inl ⟨rfl,by omega,by omega,by omega⟩⟩
 | 8,_=>exact⟨_,_,rfl,rfl,rfl,rfl,rfl,.inl ⟨rfl,by omega,by omega,by omega⟩⟩
 | 9,_=>exact⟨_,_,rfl,rfl,rfl,rfl,rfl,.inl ⟨rfl,by omega,by omega,by omega⟩⟩
 | 10,_=>exact⟨_,_,rfl,rfl,rfl,rfl,rfl,.inl ⟨rfl,by omega,by omega,by omega⟩⟩
 | 11,_=>exact⟨_,_,rfl,rfl,rfl,rfl,rfl,.inl ⟨rfl,by omega,by omega,by omega⟩⟩
 | 12,_=>exact⟨_,_,rfl,rfl,rfl,h1,rfl,.inr (.inl rfl)⟩
 | 13,_=>exact⟨_,_,rfl,rfl,rfl,rfl,rfl,.inl ⟨rfl,by omega,by omega,by omega⟩⟩
 | 14,_=>exact⟨_,_,rfl,rfl,rfl,h2,rfl,.inr (.inr (.inl rfl))⟩
 | 15,_=>exact⟨_,_,rfl,rfl,rfl,rfl,rfl,.inl ⟨rfl,by omega,by omega,by omega⟩⟩
 | 16,_=>exact⟨_,_,rfl,rfl,rfl,h3,rfl,.inr (.inr (.inr rfl))⟩
 | n+17,h=>omega
def RowAt(v:World)(B C:Nat)(f:Nat→At)(n:Nat):Prop:=∃ c e,v.heap[B]? = some (.cells c e (0,0))∧c.size=C∧∀ j,j<n→∃ u,c[j]? = some u∧R0 NoB [] (f j) u
theorem yke{p:FP}{l1 l2 m1 m2:List Nat}{l3 m3:List Bool}(h1:m1.length=l1.length)(h2:m2.length=l2.length)(h3:m3.length=l3.length){β:Bm}{v v':World} (hw:WR β (p.Hm l1 l2 l3) v) (hs:v.heap.size≤v'.heap.size) {B1 B2 B3 C1 C2 C3:Nat}
  (b1:β 12=some (B1,0,C1)) (b2:β 14=some (B2,0,C2)) (b3:β 16=some (B3,0,C3)) (k1:RowAt v' B1 C1 (fun j=>.flt .f32 (m1.getD j 0)) m1.length) (k2:RowAt v' B2 C2 (fun j=>.flt .f32 (m2.getD j 0)) m2.length) (k3:RowAt v' B3 C3 (fun j=>.bool (m3.getD j false)) m3.length)
  (hsame:∀ B c e f,v.heap[B]? = some (.cells c e f)→B≠B1→B≠B2→B≠B3→v'.heap[B]? = v.heap[B]?):WR β (p.Hm m1 m2 m3) v'∧∀ t,Mv β (p.Hm l1 l2 l3) β (p.Hm m1 m2 m3) t:=by
 have tb:=yhr p l1 l2 m1 m2 l3 m3 h1 h2 h3
 have mv:∀ t,Mv β (p.Hm l1 l2 l3) β (p.Hm m1 m2 m3) t:=fun t x hx hl=>by
  have hl':t<17:=hl
  obtain⟨b0,b,e0,e1,_,e2,_⟩:=tb t hl'
  refine⟨hx,u1p e1,?_⟩
  rw[u1o e0,u1o e1,e2]
  exact Nat.le_refl _
 have lt17:∀ {t:Nat} {b:Blk},nth (p.Hm m1 m2 m3) t=some b→t<17:=fun h=>u1p h
 refine⟨⟨fun t b hb => ?_,fun t t' b b' x x' hne hb hb' ho hd hx hx' => ?_⟩,mv⟩
 ·have ht:=lt17 hb
  obtain⟨b0,b',e0,e1,e2,e3,e4,e5⟩:=tb t ht
  rw[e1] at hb
  cases hb
  have h:=hw.blk t b0 e0
  have hrow:∀ B C f,RowAt v' B C f b.body.size→B<v.heap.size→(∀ j a,j<b.body.size→b.body.get j=some a→a=f j)→b.own=true→isDead b.body=false→(∀ j u,R0 NoB [] (f j) u→RAt β (p.Hm m1 m2 m3) (f j) u)→BRel β (p.Hm m1 m2 m3) v' b B 0 C:=by
   rintro B C f ⟨c,e,g1,g2,g3⟩ hl hf ho hd hr
   refine⟨fun j a hj ha => ?_,fun _=>⟨rfl,hd,c,e,g1,g2⟩,Nat.lt_of_lt_of_le hl hs⟩
   obtain⟨u,g4,g5⟩:=g3 j hj
   rw[hf j a hj ha]
   exact⟨u,by simp[World.cell?,g1,g4],hr j u g5⟩
  rcases e5 with⟨rfl,n1,n2,n3⟩ | rfl | rfl | rfl
  ·split
   ·rename_i e;rw[e] at h;exact h
   ·rename_i B o C e
    rw[e] at h
    have nB:isDead b.body=false→0<b.body.size∨b.own=true→B≠B1∧B≠B2∧B≠B3:=fun hd _=>
     ⟨fun e'=>hw.sep 12 t ⟨true,.fl .f32 l1⟩ b _ _ (fun x=>n1 x.symm) rfl e0 rfl hd b1 e e'.symm,fun e'=>hw.sep 14 t ⟨true,.fl .f32 l2⟩ b _ _ (fun x=>n2 x.symm) rfl e0 rfl hd b2 e e'.symm,fun e'=>hw.sep 16 t ⟨true,.bl l3⟩ b _ _ (fun x=>n3 x.symm) rfl e0 rfl hd b3 e e'.symm⟩
    have hd:isDead b.body=false:=by
     have:(p.Hm l1 l2 l3).all (fun b=>!isDead b.body)=true:=by kernel_rfl
     have hm:=e0
     rw[u02] at hm
     have h':=List.all_eq_true.1 this b (List.mem_of_getElem? hm)
     simpa using h'
    refine⟨fun j a hj ha => ?_,fun ho => ?_,Nat.lt_of_lt_of_le h.lt hs⟩
    ·obtain⟨u,g1,g2⟩:=h.cell j a hj ha
     obtain⟨c,e',f,hB⟩:=yih g1
     have hB:v.heap[B]? = some (.cells c e' f):=hB
     obtain⟨q1,q2,q3⟩:=nB hd (.inl (by omega))
     refine⟨u,?_,g2.move fun t _=>mv t⟩
     unfold World.cell? at g1 ⊢
     rw[show v'.heap[(⟨B,o+j,none⟩:Addr).block]? = v.heap[(⟨B,o+j,none⟩:Addr).block]? from hsame B c e' f hB q1 q2 q3]
     exact g1
    ·obtain⟨g1,g2,c,e',g3,g4⟩:=h.own ho
     obtain⟨q1,q2,q3⟩:=nB hd (.inr ho)
     exact⟨g1,g2,c,e',by rw[hsame B c e' _ g3 q1 q2 q3];exact g3,g4⟩
  ·have eb:b=⟨true,.fl .f32 m1⟩:=by have:nth (p.Hm m1 m2 m3) 12=some ⟨true,.fl .f32 m1⟩:=rfl;rw[this] at e1;injection e1 with e1;exact e1.symm
   subst eb
   rw[b1] at h ⊢
   refine hrow B1 C1 _ k1 h.lt (fun j a hj ha => ?_) rfl rfl fun j u hu=>hu
   simp only[Body.get] at ha
   exact (Option.some.inj ha).symm
  ·have eb:b=⟨true,.fl .f32 m2⟩:=by have:nth (p.Hm m1 m2 m3) 14=some ⟨true,.fl .f32 m2⟩:=rfl;rw[this] at e1;injection e1 with e1;exact e1.symm
   subst eb
   rw[b2] at h ⊢
   refine hrow B2 C2 _ k2 h.lt (fun j a hj ha => ?_) rfl rfl fun j u hu=>hu
   simp only[Body.get] at ha
   exact (Option.some.inj ha).symm
  ·have eb:b=⟨true,.bl m3⟩:=by have:nth (p.Hm m1 m2 m3) 16=some ⟨true,.bl m3⟩:=rfl;rw[this] at e1;injection e1 with e1;exact e1.symm
   subst eb
   rw[b3] at h ⊢
   refine hrow B3 C3 _ k3 h.lt (fun j a hj ha => ?_) rfl rfl fun j u hu=>hu
   simp only[Body.get] at ha
   exact (Option.some.inj ha).symm
 ·obtain⟨b0,c,e0,e1,e2,e3,e4,_⟩:=tb t (lt17 hb)
  obtain⟨b0',c',e0',e1',e2',e3',e4',_⟩:=tb t' (lt17 hb')
  rw[e1] at hb
  cases hb
  rw[e1'] at hb'
  cases hb'
  exact hw.sep t t' b0 b0' x x' hne e0 e0' (e2▸ho) (e4'▸hd) hx hx'
end Go.Proofs.YtijjhfailnmeoaaGreat
namespace Go.Proofs.YtijjhfailnmeoaaGreat
open Go Go.Rf Go.Conc Go.ConcN
open Go.ConcR (Payload wgBlock WgAt)
open Go.RowKit Go.Conc.Lib Go.ConcR.Gen Go.ConcN.Gen
section
variable [Payload] {p:FP} {β:Bm} {v W:World} {Post:Value→World→Prop} {l1 l2:List Nat} {l3:List Bool} {cs:List Frame}
theorem yk6(hws:1≤p.ws∧p.ws≤8)(hsn:0<p.sn∧p.sn≤281474976710656)(hok:∀ y,y<p.sn→p.ok y=true)(h1:l1.length=p.sn)(h2:l2.length=p.sn)(h3:l3.length=p.sn)
  (hw:WR β (p.Hm l1 l2 l3) v) {a:Act} (ht:RTm β (p.Hm l1 l2 l3) FP.tm0 a.tmps) (hsz:a.tmps.size=50) (hdf:a.defers=[])
  (hnext:∀ a' v',WR β (p.Hm p.r0 p.r1 p.r2) v'→RTm β (p.Hm p.r0 p.r1 p.r2) FP.tmE a'.tmps→a'.tmps.size=50→a'.defers=[]→Fr (OwnB β (p.Hm l1 l2 l3)) v v'→MWin Tryz.prog W Post (G ((Rf.base 19).atR a' [.code tl]) cs) v') :
  MWin Tryz.prog W Post (G ((Rf.base 19).atR a [.code x4]) cs) v:=by
 let J0:=mainJ Tryz.prog W Post
 rw[x4_eq]
 refine J0.still (fun _=>ue6) (J0.still (fun _=>uad) ?_)
 rw[s5.1]
 refine mwin_raw rfl fun S w Z b t hh hc ⟨gs0,hI⟩ => ?_
 refine⟨_,withWg w,yil hk19 a _ cs w,by rw[zio];omega,fun k hk=>zap w k hk,fun gs sl h0 hI' => ?_⟩
 obtain⟨B1,B2,B3,C,C1,C2,C3,b1,b2,b3,S1,S2,S3,M,mv⟩:=ykb hws hsn hok h1 h2 h3 hw hh hc hI.z hI.b1
 let q:=qOf p B1 B2 B3 b Z w
 let R:=Rof p B1 B2 B3 b Z w
 let Gd0:=Gd q (b17 β w.heap.size)
 have hwg0:WgAt 83 w.heap.size (withWg w) 0 0:=yim w
 have hlive:q.ph.Live (withWg w):=⟨0,0,hwg0⟩
 have hrk0:q.ph.RK Ph.nob Ph.no q.w0 (withWg w):=Ph.RK.refl _ _ _
 obtain⟨hid0,hw0⟩:=M.seen hrk0
 have hX:q.ph.Exit (q.ph.XtW Gd0 cs) (Rf.Ends Tryz.prog Post):=by
  rintro gs' w' t' sl' g hg ⟨c,⟨a',y,rfl,hm⟩,⟨_,n,hgo⟩⟩ hI2 hrk hfin
  have hrk:q.ph.RK Ph.nob Ph.no (withWg w) w':=hrk
  have hsw:v.heap.size=w.heap.size:=hh.size
  have hlt:∀ k,S k→k<w.heap.size:=hc.lt
  have hsz1:w.heap.size+1≤w'.heap.size:=by have:=hrk.size;rw[zio] at this;exact this
  have hold:∀ k,k<w.heap.size→k≠B1→k≠B2→k≠B3→w'.heap[k]? = w.heap[k]? := fun k hk n1 n2 n3=>
   (hrk.blk k (by rw[zio];omega) (.inr ⟨(by show k<w.heap.size+1;omega),(by show k≠w.heap.size;omega),fun h=>h.elim n1 fun h=>h.elim n2 n3⟩)).trans (zap w k hk)
  have rowsh:∀ B,B=B1∨B=B2∨B=B3→∀ c e,v.heap[B]? = some (.cells c e (0,0))→∃ c',w'.heap[B]? = some (.cells c' e (0,0))∧c'.size=c.size:=fun B hB c e hc0=>by
   have hwB:=(vis hh hc0).2
   have hk:B<w.heap.size:=(Array.getElem?_eq_some_iff.1 hwB).1
   have hs:=hrk.shape B hB
   have e0:shp (withWg w) B=some (e,(0,0),c.size):=by unfold shp;rw[zap w B hk,hwB]
   rw[e0] at hs
   unfold shp at hs
   split at hs
   ·rename_i c' e' f' hq
    simp only[Option.some.injEq,Prod.mk.injEq] at hs
    obtain⟨rfl,rfl,h4⟩:=hs
    exact⟨c',hq,h4⟩
   ·cases hs
  have hid:Hid S nob' w' (hideW S nob' w'):=uc4 (fun _ _ h=>h) (fun k o hk ho=>by
   by_cases hB:k=B1∨k=B2∨k=B3
   ·have:∃ c e,v.heap[k]? = some (.cells c e (0,0)):=by
     rcases hB with rfl | rfl | rfl
     ·obtain⟨B,_,c,e,q1,q2,_⟩:=rowOf hw (t:=12) (b:=⟨true,.fl .f32 l1⟩) rfl rfl (by show 0<l1.length;omega)
      rw[b1] at q1;cases q1;exact⟨c,e,q2⟩
     ·obtain⟨B,_,c,e,q1,q2,_⟩:=rowOf hw (t:=14) (b:=⟨true,.fl .f32 l2⟩) rfl rfl (by show 0<l2.length;omega)
      rw[b2] at q1;cases q1;exact⟨c,e,q2⟩
     ·obtain⟨B,_,c,e,q1,q2,_⟩:=rowOf hw (t:=16) (b:=⟨true,.bl l3⟩) rfl rfl (by show 0<l3.length;omega)
      rw[b3] at q1;cases q1;exact⟨c,e,q2⟩
    obtain⟨c,e,hce⟩:=this
    obtain⟨c',h5,_⟩:=rowsh k hB c e hce
    rw[h5] at ho
    cases ho
    rfl
   ·simp only[not_or] at hB
    rw[hold k (hlt k hk) hB.1 hB.2.1 hB.2.2] at ho
    exact hh.plain k o hk ho) (fun _ h=>h.elim)
  have hsee:∀ k,S k→(hideW S nob' w').heap[k]? = w'.heap[k]? := fun k hk=>hid.same k hk
  have hctx:Ctxt W S w' (fun k=>Z k∨k=w.heap.size):=by
   refine⟨hrk.tape.trans hc.tape,hrk.os.trans hc.os,hrk.output.trans hc.output,by have:=hc.size;omega,fun k hk hn => ?_,fun k hk hS => ?_,fun k hk => ?_,fun k hk=>(by have:=hlt k hk;omega),hc.orig⟩
   ·have:=hc.size
    rw[hold k (by omega) (fun e=>hn (e▸S1)) (fun e=>hn (e▸S2)) (fun e=>hn (e▸S3))]
    exact hc.keep k hk hn
   ·rcases hk with hk | hk
    ·exact hc.apart k hk hS
    ·have:=hlt k hS;omega
   ·rcases hk with hk | hk
    ·exact hc.zW k hk
    ·have:=hc.size;omega
  have hviews:(hideW S nob' w').heap.size=w'.heap.size:=hid.size
  have rowat:∀ B Cx t bl (f:Nat→At),S B→nth (p.Hm l1 l2 l3) t=some bl→bl.own=true→bl.body.size=p.sn→β t=some (B,0,Cx)→(B=B1∨B=B2∨B=B3)→(∀ j,j<p.sn→okc B j (f j) w')→RowAt (hideW S nob' w') B Cx f p.sn:=by
   intro B Cx t bl f hS hb ho hbs hβ hB hf
   have hbr:=hw.blk t bl hb
   rw[hβ] at hbr
   obtain⟨_,_,c,e,g1,g2⟩:=hbr.own ho
   obtain⟨c',g3,g4⟩:=rowsh B hB c e g1
   refine⟨c',e,(hsee B hS).trans g3,g4.trans g2,fun j hj => ?_⟩
   obtain⟨u,g5,g6⟩:=hf j hj
   refine⟨u,?_,g6⟩
   unfold World.cell? at g5
   rw[show w'.heap[(⟨B,j,none⟩:Addr).block]? = some (.cells c' e (0,0)) from g3] at g5
   exact g5
  have okx:∀ j,j<p.sn→q.Okx j w':=fun j hj=>hfin (j%p.ws) (Nat.mod_lt _ (by omega)) j hj rfl
  have len0:p.r0.length=p.sn:=by simp[FP.r0]
  have len1:p.r1.length=p.sn:=by simp[FP.r1]
  have len2:p.r2.length=p.sn:=by simp[FP.r2]
  have hout:=yke (m1:=p.r0) (m2:=p.r1) (m3:=p.r2) (len0.trans h1.symm) (len1.trans h2.symm) (len2.trans h3.symm) (v':=hideW S nob' w') hw (by rw[hviews];omega) b1 b2 b3
   (by rw[len0];exact rowat B1 C1 12 ⟨true,.fl .f32 l1⟩ _ S1 rfl rfl h1 b1 (.inl rfl) fun j hj=>by have:=(okx j hj).a;simpa [FP.r0,List.getD_eq_getElem?_getD,hj] using this)
   (by rw[len1];exact rowat B2 C2 14 ⟨true,.fl .f32 l2⟩ _ S2 rfl rfl h2 b2 (.inr (.inl rfl)) fun j hj=>by have:=(okx j hj).b;simpa [FP.r1,List.getD_eq_getElem?_getD,hj] using this)
   (by rw[len2];exact rowat B3 C3 16 ⟨true,.bl l3⟩ _ S3 rfl rfl h3 b3 (.inr (.inr rfl)) fun j hj=>by have:=(okx j hj).c;simpa [FP.r2,List.getD_eq_getElem?_getD,hj] using this)
   (fun B c e f hB n1 n2 n3=>by
    obtain⟨hS,hwB⟩:=vis hh hB
    rw[hsee B hS,hold B (hlt B hS) n1 n2 n3,hwB,hB])
  have hfr:Fr (OwnB β (p.Hm l1 l2 l3)) v (hideW S nob' w'):=by
   have t1:v.tape=w.tape:=hh.tape
   have t2:v.os=w.os:=hh.os
   have t3:v.output=w.output:=hh.output
   refine⟨?_,?_,?_,by rw[hviews];omega,fun k hk hn => ?_⟩
   ·show w'.os=v.os;rw[t2];exact hrk.os
   ·show w'.tape=v.tape;rw[t1];exact hrk.tape
   ·show w'.output=v.output;rw[t3];exact hrk.output
   ·have n1:k≠B1:=fun e=>hn ⟨12,⟨true,.fl .f32 l1⟩,0,C1,rfl,rfl,e▸b1⟩
    have n2:k≠B2:=fun e=>hn ⟨14,⟨true,.fl .f32 l2⟩,0,C2,rfl,rfl,e▸b2⟩
    have n3:k≠B3:=fun e=>hn ⟨16,⟨true,.bl l3⟩,0,C3,rfl,rfl,e▸b3⟩
    by_cases hS:S k
    ·rw[hsee k hS,hold k (hlt k hS) n1 n2 n3]
     exact (hh.same k hS).symm
    ·rw[hid.veil k (by omega) hS (fun x=>x)]
     exact (hh.veil k (by omega) hS (fun x=>x)).symm
  have hF:MWin Tryz.prog W Post (G (((Rf.base 19).atR a' [.inRegion R12 [0],.code tl]).finish (.tuple #[])) cs) (hideW S nob' w'):=by
   rw[Frame.finish_atR]
   have e45:(R12[0]?).bind (·.dst)=some 45:=by rw[s12'.2.1];exact s12'.2.2.1
   show J0.Win (G ((Rf.base 19).atR (a'.put ((R12[0]?).bind (·.dst)) (.tuple #[])) [.inRegion R12 [],.code tl]) cs) _
   rw[e45]
   have m2:MSt q (b17 β w.heap.size) y (a'.put (some 45) (.tuple #[])):=hm.put (by omega)
   refine J0.still (fun _=>u6c) (hnext _ _ hout.1 ?_ m2.sz m2.df hfr)
   have back:∀ t0 t off ext,get (p.mb (FP.at_ y)) t0=A1 (.ptr t off ext)→t<17→RV β (p.Hm p.r0 p.r1 p.r2) (A1 (.ptr t off ext)) ((a'.put (some 45) (.tuple #[])).tmps.getD t0 undef):=fun t0 t off ext he ht=>by
    have:=m2.tm t0
    rw[he] at this
    obtain⟨B,o,C',g1,g2,g3,g4⟩:=this
    have g1:β t=some (B,o,C'):=by rw[← g1];unfold b17;rw[if_neg (by omega)]
    obtain⟨x0,x1,y0,y1,_,y2,_⟩:=table p l1 l2 l3 h1 h2 h3 t ht
    obtain⟨x2,x3,y3,y4,_,y5,_⟩:=yhr p l1 l2 p.r0 p.r1 l3 p.r2 (len0.trans h1.symm) (len1.trans h2.symm) (len2.trans h3.symm) t ht
    rw[y0] at y3
    cases y3
    refine⟨B,o,C',g1,u1p y4,?_,g4⟩
    rw[u1o y1,y2] at g3
    rw[u1o y4,y5]
    exact g3
   exact z5k (back 16 11 0 1 rfl (by omega)) (z5k (back 17 13 0 1 rfl (by omega)) (z5k (back 18 15 0 1 rfl (by omega)) fun t=>trivial))
  exact ends_goes hF n g w' gs' sl' t' (hgo w' (hrk.live hlive)) (hrk.live hlive) (by rw[u3o hid.drawn];exact hid) hctx hg hI2
 have hspawn:q.ph.Spawns (An q (b17 β w.heap.size) cs) q.ph.n Ph.nob (G ((Rf.base 19).atR (a.put (some 19) (.pointer (some ⟨w.heap.size,0,none⟩))) (.inRegion R5 []::[.code (.seq (.seq (.region 6 R6 false) (.block 0 (.loop L19))) (.seq (.region 12 R12 false) tl))])) cs) (withWg w):=by
  rw[ygv]
  let J:=q.ph.phJ true (StopOf q.ph (An q (b17 β w.heap.size) cs) q.ph.n) (mok M.told.geo M.told.ro)
  have h19:19<a.tmps.size:=by rw[hsz];omega
  have ht6:RTm (b17 β w.heap.size) p.H0 FP.tm6 (a.put (some 19) (.pointer (some ⟨w.heap.size,0,none⟩))).tmps:=by
   have t0:RTm (b17 β w.heap.size) p.H0 FP.tm0 (a.put (some 19) (.pointer (some ⟨w.heap.size,0,none⟩))).tmps:=y59 (fun t=>(ht t).move fun t' _=>mv t') fun d e=>by injection e with e;subst e;rfl
   refine z5k ⟨w.heap.size,0,2,by simp[b17],by show 17<18;omega,by simp[szH,FP.H0,Rf.nth,Body.size],?_⟩ t0
   simp[Act.put,Array.getD_eq_getD_getElem?,h19]
  have hwin:J.Win (G ((Rf.base 19).atR (a.put (some 19) (.pointer (some ⟨w.heap.size,0,none⟩))) (.inRegion R5 []::[.code (.seq (.seq (.region 6 R6 false) (.block 0 (.loop L19))) (.seq (.region 12 R12 false) tl))])) cs) (hideW Ph.nob R (withWg w)):=by
   refine J.still (fun _=>u6c) (J.still (fun _=>ue6) (J.still (fun _=>ue6) (reg6 (J:=J) (q:=q) hk19 hw0 ht6 (by rw[u2d];exact hsz) (by rw[u1s];exact hdf) fun a1 v1 w1 m1 => ?_)))
   refine J.still (fun _=>ubd) (J.still (fun _=>ud5) ?_)
   rw[← x6_eq]
   exact head M q.p.ws 0 (Nat.zero_add _) a1 v1 m1 w1
  exact hwin Ph.nob (withWg w) _ (NzV.refl _) hid0 ⟨trivial,fun k h=>h.elim,hlive,hrk0⟩
 exact Ph.phase (A:=q.ph) (Xt:=q.ph.XtW Gd0 cs) (Anch:=q.ph.AnchW Tryz.link Gd0 cs) (K:=Rf.Ends Tryz.prog Post) M.told.geo FQ.finOk (fun S g w h=>Ph.anchW_run h) (Ph.anchRound Tryz.wgLib rfl) hX (fun m m' ops t h h'=>Rf.Ends.back h h') hI'
  hI.low h0 hwg0 hspawn
end
end Go.Proofs.YtijjhfailnmeoaaGreat
namespace Go.Proofs.YtijjhfailnmeoaaGreat
open Go Go.Rf Go.Conc Go.ConcN
namespace FP
variable (p:FP)
def pts(ws:Int):List PT:=[.agg [.row 1 p.an (.fl .f32 p.al),.row 1 p.ln (.fl .f32 p.ll),.row 1 p.dn (.fl .f32 p.dl),.row 3 p.sn (.fl .f32 p.sl),.s (.int .i64 p.cc),.s (.flt .f32 p.hb),.s (.flt .f32 p.tp)],.one (.s (.flt .f32 p.x2)),.one (.s (.flt .f32 p.x3)),.one (.s (.flt .f32 p.x4)),.one (.s (.flt .f32 p.x5)),.one (.s (.int .i64 ws))]
def Hi:List Blk:=[⟨false,.fl .f32 p.al⟩,⟨false,.fl .f32 p.ll⟩,⟨false,.fl .f32 p.dl⟩,⟨false,.fl .f32 p.sl⟩]
noncomputable def HmI(ws:Int)(l1 l2:List Nat)(l3:List Bool):List Blk:=p.Hi++[
 ⟨true,.cells [.vw 0 0 p.an 1,.vw 1 0 p.ln 1,.vw 2 0 p.dn 1,.vw 3 0 p.sn 3,.int .i64 p.cc,.flt .f32 p.hb,.flt .f32 p.tp]⟩,
 ⟨true,.cells [.flt .f32 p.x2]⟩,⟨true,.cells [.flt .f32 p.x3]⟩,⟨true,.cells [.flt .f32 p.x4]⟩,⟨true,.cells [.flt .f32 p.x5]⟩,⟨true,.cells [.int .i64 ws]⟩,⟨true,.cells [.int .i64 (Int.ofNat p.sn)]⟩,
 ⟨true,.cells [.sl 12 0 p.sn 1]⟩,⟨true,.fl .f32 l1⟩,⟨true,.cells [.sl 14 0 p.sn 1]⟩,⟨true,.fl .f32 l2⟩,⟨true,.cells [.sl 16 0 p.sn 1]⟩,⟨true,.bl l3⟩]
noncomputable def vrp:Bool:=zae p.an (pF p.al 0 (muN p.an 1)) p.ln (pF p.ll 0 (muN p.ln 1)) p.dn (pF p.dl 0 (muN p.dn 1)) p.sn (pF p.sl 0 (muN p.sn 3)) p.cc p.hb p.tp
noncomputable def vrv:Bool:=z7t p.an (pF p.al 0 (muN p.an 1)) p.ln (pF p.ll 0 (muN p.ln 1)) p.dn (pF p.dl 0 (muN p.dn 1)) p.sn (pF p.sl 0 (muN p.sn 3)) p.cc p.hb p.tp
noncomputable def z0:List Nat:=rF (muN (toN (Int.ofNat p.sn)) 1)
noncomputable def zb:List Bool:=rB (muN (toN (Int.ofNat p.sn)) 1)
noncomputable def stR:St:=⟨[(12,A1 .nilsl),(13,A1 .nilsl),(14,A1 (.bool Bool.false))],p.Hi⟩
noncomputable def stN(ws:Int):St:=⟨tm0,p.HmI ws p.z0 p.z0 p.zb⟩
end FP
noncomputable def st0(p:FP)(ws:Int):St:=⟨argTm 0 (impTs 0 (p.pts ws)).1,(impTs 0 (p.pts ws)).2⟩
noncomputable def ev19(c:Code)(st:St) (k:Ex→St→Option (Ex×St)):Option (Ex×St):=evC Γ20 (evFn Γ20 8 8) 19 4 50 fi19.live [] 8 c st k
theorem imp_H(p:FP)(ws:Int):(impTs 0 (p.pts ws)).2=p.Hi:=by kernel_rfl
end Go.Proofs.YtijjhfailnmeoaaGreat
namespace Go.Proofs.YtijjhfailnmeoaaGreat
open Go Go.Rf Go.Conc Go.ConcN
noncomputable def K2(e:Ex)(st:St):Option (AV×List Blk):=match e with
 | .normal | .ret=>match resAV Γ20 st.tm st.H fi19.res with
  | some v=>expo 4 (get (compact 4 [(0,(denilR fi19.rn v st.H).1)] (denilR fi19.rn v st.H).2).tm 0) (compact 4 [(0,(denilR fi19.rn v st.H).1)] (denilR fi19.rn v st.H).2).H
  | none=>none
 | _=>none
def answer(l1 l2:List Nat)(n1 n2:Nat)(ok:Bool):AV×List Blk:=(.tup [.one (.sl 0 0 n1 1),.one (.sl 1 0 n2 1),.one (.bool ok)],[⟨true,.fl .f32 l1⟩,⟨true,.fl .f32 l2⟩])
theorem k2_R(p:FP):K2 .ret p.stR=some (answer [] [] 0 0 Bool.false):=by kernel_rfl
noncomputable def FP.cp(p:FP):Bool:=z5v p.sn (pB p.r2 0 (muN p.sn 1)) Bool.false
noncomputable def FP.cv(p:FP):Bool:=z5e p.sn (pB p.r2 0 (muN p.sn 1)) Bool.false
theorem ykd(p:FP):evC Γ20 (evFn Γ20 8 8) 19 4 50 fi19.live [] 8 tl ⟨FP.tmE,p.Hm p.r0 p.r1 p.r2⟩ K2=grd p.cp (br p.cv (some (answer [] [] 0 0 Bool.false)) (some (answer p.r0 p.r1 p.sn p.sn Bool.true))):=by kernel_rfl
end Go.Proofs.YtijjhfailnmeoaaGreat
namespace Go.Rf
open Go Go.Conc Go.ConcN
theorem Jd.leave{P:Program}{J:Jd P}{f:FuncId}{fn:Func}{post:Value→World→Prop} (hf:P.funcs[f]? = some fn) {K:List Frame} (hk:∀ v w',post v w'→J.Ret f K v w') {a:Act} {w:World} {todo:List Item} (h:bodyJ J fn post .ret a w) :
  J.Win (G { (Rf.base f).atR a todo with mode:=.returning } K) w:=by
 obtain⟨hd,ht,hr⟩:=h
 cases K with
 | nil=>
  refine J.done hf hd ht fun w₁ hz => ?_
  obtain⟨v,w2,h1,h2⟩:=hr w₁ hz
  exact⟨v,w2,h1,hk v w2 h2⟩
 | cons fr cs=>
  refine J.step fun w₁ hz => ?_
  obtain⟨v,w2,h1,h2⟩:=hr w₁ hz
  exact⟨_,_,u86 (b:=Rf.base f) rfl hd hf ht h1,hk v w2 h2⟩
end Go.Rf
namespace Go.Proofs.YtijjhfailnmeoaaGreat
open Go Go.Rf Go.Conc Go.ConcN
open Go.ConcR (Payload)
section
variable {J:Jd Tryz.prog}
theorem hd20{R:Type}:HdOk (R:=R) J (evFn Γ20 8 8):=u2x (Γ:=Γ20) tyTab_ok (FnL.ok fnTab_ok _ _) (LpL.ok y9n) (SumL.ok zwm _) mixed 8
theorem piece{β0:Bm}{H0:List Blk}{w0:World}(hlen:H0.length=4){A B' B:Code}{r:Ex×St} (hl:loopsIn A=[]) (hcA:codeOk A=true) {st:St} {a:Act} {v:World} {b:Frame} {k:List Item} {cs:List Frame} (hb:b.kind≠.early)
  (hR:Rel β0 H0 w0 50 st a v) (h:ev19 (.seq A B') st (fun e st=>some (e,st))=some r)
  (hnx:∀ st' a' v',Rel β0 H0 w0 50 st' a' v'→ev19 B' st' (fun e st=>some (e,st))=some r→J.Win (G (b.atR a' (.code B::k)) cs) v')
  (hret:∀ st' a' v',Rel β0 H0 w0 50 st' a' v'→r=(.ret,st')→b.roundOf=none∧∀ todo,J.Win (G { b.atR a' todo with mode:=.returning } cs) v')
  (hx:∀ id st,r≠(.exit id,st)):J.Win (G (b.atR a (.code (.seq A B)::k)) cs) v:=by
 have hwp:=u3e (J:=J) (Γ:=Γ20) tyTab_ok hd20 (SumL.ok zwm _) mixed (f:=19) (nt:=50) (live:=fi19.live) (nl:=[]) (fuel:=8) A (fun c' hc'=>by rw[hl] at hc';cases hc') hcA st
  (fun e st'=>match e with | .normal=>ev19 B' st' (fun e st=>some (e,st)) | e=>some (e,st')) a v hR (by rw[hlen];exact h)
 refine J.still (fun _=>ue6) (hwp b (.code B::k) cs hb fun e a' v' hq => ?_)
 cases e with
 | normal=>obtain⟨st',q1,q2⟩:=hq;exact hnx st' a' v' q1 q2
 | exit id=>
  obtain⟨st',q1,q2⟩:=hq
  exact absurd (Option.some.inj q2).symm (hx id st')
 | ret=>obtain⟨st',q1,q2⟩:=hq;exact hret st' a' v' q1 (Option.some.inj q2).symm
 | goto l=>exact hq.elim
 | panic ch=>exact hq.elim
 | outgrown=>exact hq.elim
theorem fin19{β:Bm}{H:List Blk}{w:World}(hlen:H.length=4)(hF:Foreign H){st:St}{a':Act}{w':World}{V:AV}{N:List Blk}(hR:Rel β H w 50 st a' w'){e:Ex} (h:K2 e st=some (V,N)) :
  bodyJ J Tryz.f19 (fun u w2=>∃ γ,Fresh γ N w w2∧RV γ N V u) .ret a' w':=by
 have h4:Tryz.f19.results.toList=fi19.res:=by kernel_rfl
 obtain⟨β1,hI,hv1,hs,hdf⟩:=hR
 have key:∀ v,resAV Γ20 st.tm st.H fi19.res=some v→expo 4 (get (compact 4 [(0,(denilR fi19.rn v st.H).1)] (denilR fi19.rn v st.H).2).tm 0) (compact 4 [(0,(denilR fi19.rn v st.H).1)] (denilR fi19.rn v st.H).2).H=some (V,N) →
   bodyJ J Tryz.f19 (fun u w2=>∃ γ,Fresh γ N w w2∧RV γ N V u) .ret a' w':=fun x hx hexp=>by
  rw[← h4] at hx
  refine⟨hdf,u8a Tryz.f19 a'.tmps,fun w₁ hz => ?_⟩
  have hI:=hI.nz (J.nz_ok hz)
  obtain⟨v,g1,g2⟩:=udp (Γ:=Γ20) tyTab_ok hI.wr hv1 hx
  obtain⟨β2,d1,d2⟩:=u7y hI g2 fi19.rn
  obtain⟨β',c1,c2⟩:=u2q d1 [(0,(denilR fi19.rn x st.H).1)]
  rw[hlen] at c1 c2
  obtain⟨γ,f1,f2⟩:=uab hF c1 (c2 0 v d2) (by rw[hlen];exact hexp)
  exact⟨v,w₁,g1,γ,f1,f2⟩
 cases hr:resAV Γ20 st.tm st.H fi19.res with
 | none=>
  cases e<;>simp only[K2,hr] at h<;>cases h
 | some v=>
  cases e with
  | normal=>simp only[K2,hr] at h;exact key v hr h
  | ret=>simp only[K2,hr] at h;exact key v hr h
  | exit id=>cases h
end
end Go.Proofs.YtijjhfailnmeoaaGreat
namespace Go.Proofs.YtijjhfailnmeoaaGreat
open Go Go.Rf Go.Conc Go.ConcN
open Go.ConcR (Payload)
noncomputable def pre19s:Code:=.seq (sqA c19) (.seq (sqA x1) (.seq (sqA x2) (.seq (sqA x3) .skip)))
theorem ykk(p:FP)(ws:Int):ev19 pre19s (st0 p ws) (fun e st=>some (e,st))=grd p.vrp (br (bnot p.vrv) (some (.ret,p.stR)) (grd (za5 ws 1 8) (br (bnot (z4y ws 1 8)) (some (.ret,p.stR)) (grd (okMk (Int.ofNat p.sn) (Int.ofNat p.sn) 4) (grd (okMk (Int.ofNat p.sn) (Int.ofNat p.sn) 4) (grd (okMk (Int.ofNat p.sn) (Int.ofNat p.sn) 1) (some (.normal,p.stN ws)))))))):=by kernel_rfl
noncomputable def FP.gd(p:FP)(ws:Int):Bool:=p.vrp&&(bnot p.vrv||(za5 ws 1 8&&(bnot (z4y ws 1 8)||(okMk (Int.ofNat p.sn) (Int.ofNat p.sn) 4&&(okMk (Int.ofNat p.sn) (Int.ofNat p.sn) 1&&(decide (0<p.sn∧p.sn≤281474976710656)&&(decide (1≤ws∧ws≤8)&&((List.range p.sn).all p.ok&&p.cp))))))))
noncomputable def FP.good(p:FP)(ws:Int):Bool:=p.vrv&&(z4y ws 1 8&&bnot p.cv)
noncomputable def FP.ans(p:FP)(ws:Int):AV×List Blk:=match p.good ws with | true=>answer p.r0 p.r1 p.sn p.sn Bool.true | false=>answer [] [] 0 0 Bool.false
theorem yjb{p:FP}{ws:Int}(hg:p.gd ws=true):(ev19 pre19s (st0 p ws) (fun e st=>some (e,st))=some (.ret,p.stR)∧p.ans ws=answer [] [] 0 0 Bool.false) ∨
  (ev19 pre19s (st0 p ws) (fun e st=>some (e,st))=some (.normal,p.stN ws)∧(0<p.sn∧p.sn≤281474976710656)∧(1≤ws∧ws≤8)∧(∀ y,y<p.sn→p.ok y=true)∧p.cp=true∧p.ans ws=if p.cv then answer [] [] 0 0 Bool.false else answer p.r0 p.r1 p.sn p.sn Bool.true):=by
 rw[ykk]
 unfold FP.gd at hg
 simp only[Bool.and_eq_true,Bool.or_eq_true] at hg
 obtain⟨h1,h2⟩:=hg
 rw[h1]
 cases hv:p.vrv with
 | false=>left;exact⟨rfl,by simp[FP.ans,FP.good,hv]⟩
 | true=>
  rcases h2 with h2 | ⟨h2,h3⟩
  ·rw[hv] at h2;cases h2
  ·rw[h2]
   cases hw:z4y ws 1 8 with
   | false=>left;exact⟨rfl,by simp[FP.ans,FP.good,hv,hw]⟩
   | true=>
    rcases h3 with h3 | ⟨h3,h4,h5,h6,h7,h8⟩
    ·rw[hw] at h3;cases h3
    ·right
     rw[h3,h4]
     refine⟨rfl,of_decide_eq_true h5,of_decide_eq_true h6,fun y hy=>List.all_eq_true.1 h7 y (List.mem_range.2 hy),h8,?_⟩
     cases hc:p.cv<;>simp[FP.ans,FP.good,hv,hw,hc,bnot]
theorem zdu:(loopsIn (sqA c19)=[]∧codeOk (sqA c19)=true)∧(loopsIn (sqA x1)=[]∧codeOk (sqA x1)=true)∧(loopsIn (sqA x2)=[]∧codeOk (sqA x2)=true)∧(loopsIn (sqA x3)=[]∧codeOk (sqA x3)=true)∧(loopsIn tl=[]∧codeOk tl=true):=
 ⟨⟨by kernel_rfl,by kernel_rfl⟩,⟨by kernel_rfl,by kernel_rfl⟩,⟨by kernel_rfl,by kernel_rfl⟩,⟨by kernel_rfl,by kernel_rfl⟩,⟨by kernel_rfl,by kernel_rfl⟩⟩
theorem yd2:Tryz.f19.body=some c19:=by kernel_rfl
theorem yhw:(Tryz.f19.name == "runtime.NumGoroutine")=false:=by kernel_rfl
theorem yjo:Tryz.f19.ntmps=50:=by kernel_rfl
theorem yi0(p:FP)(ws:Int):(impTs 0 (p.pts ws)).1.length=6:=by kernel_rfl
theorem hm_eq(p:FP)(l1 l2:List Nat)(l3:List Bool):p.HmI (Int.ofNat p.ws) l1 l2 l3=p.Hm l1 l2 l3:=by kernel_rfl
section
variable {W:World} {Post:Value→World→Prop}
theorem yjy{p:FP}{β0:Bm}{w0:World}{β:Bm}{l1 l2 m1 m2:List Nat}{l3 m3:List Bool}(h1:m1.length=l1.length)(h2:m2.length=l2.length)(h3:m3.length=l3.length){v v':World} (hI:Inv β0 p.Hi w0 β (p.Hm l1 l2 l3) v) (hw:WR β (p.Hm m1 m2 m3) v')
  (hfr:Fr (OwnB β (p.Hm l1 l2 l3)) v v'):Inv β0 p.Hi w0 β (p.Hm m1 m2 m3) v':=by
 refine⟨hw,hI.agree,⟨by show 4≤17;omega,fun t ht => ?_⟩,fun B hB => ?_,hI.fr.trans hfr hI.own⟩
 ·have ht:t<4:=ht
  have:t=0∨t=1∨t=2∨t=3:=by omega
  rcases this with rfl | rfl | rfl | rfl<;>exact Nat.le_refl _
 ·obtain⟨t,b,o,C,g1,g2,g3⟩:=hB
  have ht:t<17:=u1p g1
  obtain⟨b0,b',e0,e1,e2,_⟩:=yhr p l1 l2 m1 m2 l3 m3 h1 h2 h3 t ht
  rw[e1] at g1
  cases g1
  exact hI.own B ⟨t,b0,o,C,e0,e2▸g2,g3⟩
variable [Payload]
theorem core{p:FP}{ws:Int}(hws:p.ws=ws.toNat)(hg:p.gd ws=true){w:World}{vals:Array Value} (hv:All2 (DT w) (p.pts ws) vals.toList) :
  (mainJ Tryz.prog W Post).res 19 vals w fun u w'=>∃ γ,Fresh γ (p.ans ws).2 w w'∧RV γ (p.ans ws).2 (p.ans ws).1 u:=by
 let J:=mainJ Tryz.prog W Post
 have hw:WR NoB [] w:=⟨(fun t b hb=>by cases t<;>cases hb),(fun t t' b b' x x' _ hb=>by cases t<;>cases hb)⟩
 have hf0:Foreign []:=fun t b hb=>by cases t<;>cases hb
 obtain⟨β,h1,h2,h3,h4⟩:=u4w hw hf0 hv
 simp only[List.length_nil,List.nil_append] at h1 h2 h4
 rw[imp_H] at h1 h2 h4
 have hlen:p.Hi.length=4:=rfl
 refine⟨u7f Tryz.func19 yhw yd2,.inr ⟨ybo Tryz.func19 yhw yd2 vals w,fun K hk => ?_⟩⟩
 have hvl:vals.size=6:=by
  have:=h4.length
  rw[yi0] at this
  simpa using this.symm
 have he:Frame.enter Tryz.prog 19 vals .normal=(Rf.base 19).atR { tmps:=vals++Array.replicate (50-vals.size) undef,defers:=[] } [.code c19]:=by
  simp[Frame.enter,Frame.atR,Tryz.func19,yd2,yjo,Rf.base]
 rw[he]
 have hR0:Rel β p.Hi w 50 (st0 p ws) { tmps:=vals++Array.replicate (50-vals.size) undef,defers:=[] } w:=by
  refine⟨β,by show Inv β p.Hi w β (impTs 0 (p.pts ws)).2 w;rw[imp_H];exact Inv.start h1,fun d => ?_,by simp[hvl],rfl⟩
  show RV β (impTs 0 (p.pts ws)).2 (get (argTm 0 (impTs 0 (p.pts ws)).1) d) _
  rw[imp_H,u6l,if_pos (Nat.zero_le _),Nat.sub_zero]
  by_cases hd':d<(impTs 0 (p.pts ws)).1.length
  ·obtain⟨v,g1,g2⟩:=h4.get d _ (List.getElem?_eq_getElem hd')
   rw[List.getElem?_eq_getElem hd']
   have:(vals++Array.replicate (50-vals.size) undef).getD d undef=v:=by
    rw[yi0] at hd'
    rw[Array.getD_eq_getD_getElem?,Array.getElem?_append_left (by omega)]
    have:vals[d]? = some v:=by simpa using g1
    rw[this];rfl
   rw[this];exact g2
  ·rw[List.getElem?_eq_none (by omega)];trivial
 generalize ({ tmps:=vals++Array.replicate (50-vals.size) undef,defers:=[] }:Act)=a0 at hR0
 show J.Win _ _
 have hkk:(Rf.base 19).kind≠.early:=hk19
 have leave:∀ {st:St} {a':Act} {w':World} {e:Ex},Rel β p.Hi w 50 st a' w'→K2 e st=some (p.ans ws)→∀ todo,J.Win (G { (Rf.base 19).atR a' todo with mode:=.returning } K) w':=fun hR h2' todo=>by
  exact Jd.leave (J:=J) Tryz.func19 (post:=fun u w'=>∃ γ,Fresh γ (p.ans ws).2 w w'∧RV γ (p.ans ws).2 (p.ans ws).1 u) hk (fin19 (V:=(p.ans ws).1) (N:=(p.ans ws).2) hlen h2 hR h2')
 have walk:∀ r,ev19 pre19s (st0 p ws) (fun e st=>some (e,st))=some r→(∀ id st,r≠(.exit id,st))→(∀ st' a' v',Rel β p.Hi w 50 st' a' v'→r=(.ret,st')→∀ todo,J.Win (G { (Rf.base 19).atR a' todo with mode:=.returning } K) v') →
   (∀ st' a' v',Rel β p.Hi w 50 st' a' v'→r=(.normal,st')→J.Win (G ((Rf.base 19).atR a' [.code x4]) K) v')→J.Win (G ((Rf.base 19).atR a0 [.code c19]) K) w:=fun r hr hx hret hnorm=>by
  rw[ykl]
  have ret':∀ st' a' v',Rel β p.Hi w 50 st' a' v'→r=(.ret,st')→(Rf.base 19).roundOf=none∧∀ todo,J.Win (G { (Rf.base 19).atR a' todo with mode:=.returning } K) v':=fun st' a' v' h h'=>⟨rfl,hret st' a' v' h h'⟩
  refine piece (J:=J) hlen zdu.1.1 zdu.1.2 hkk hR0 hr (fun st1 a1 v1 R1 r1 => ?_) ret' hx
  refine piece (J:=J) hlen zdu.2.1.1 zdu.2.1.2 hkk R1 r1 (fun st2 a2 v2 R2 r2 => ?_) ret' hx
  refine piece (J:=J) hlen zdu.2.2.1.1 zdu.2.2.1.2 hkk R2 r2 (fun st3 a3 v3 R3 r3 => ?_) ret' hx
  refine piece (J:=J) hlen zdu.2.2.2.1.1 zdu.2.2.2.1.2 hkk R3 r3 (fun st4 a4 v4 R4 r4 => ?_) ret' hx
  exact hnorm st4 a4 v4 R4 (Option.some.inj r4).symm
 rcases yjb hg with⟨hr,hans⟩ | ⟨hr,hsn,hw8,hok,hcp,hans⟩
 ·refine walk _ hr (fun id st e=>by cases e) (fun st' a' v' hR e => ?_) (fun st' a' v' hR e=>by cases e)
  cases e
  exact leave (e:=.ret) hR (by rw[hans];exact k2_R p)
 ·refine walk _ hr (fun id st e=>by cases e) (fun st' a' v' hR e=>by cases e) (fun st' a' v' hR e => ?_)
  cases e
  obtain⟨β1,hI,ht,hs,hdf⟩:=hR
  have hws':ws=Int.ofNat p.ws:=by rw[hws];simp;omega
  have hHm:(p.stN ws).H=p.Hm p.z0 p.z0 p.zb:=by
   show p.HmI ws p.z0 p.z0 p.zb=_
   rw[hws',hm_eq]
  have hI:Inv β p.Hi w β1 (p.Hm p.z0 p.z0 p.zb) v':=by rw[← hHm];exact hI
  have ht:RTm β1 (p.Hm p.z0 p.z0 p.zb) FP.tm0 a'.tmps:=by rw[← hHm];exact ht
  have l0:p.z0.length=p.sn:=by simp[FP.z0,muN,toN]
  have lb:p.zb.length=p.sn:=by simp[FP.zb,muN,toN]
  refine yk6 ⟨by omega,by omega⟩ hsn hok l0 l0 lb hI.wr ht hs hdf fun a2 v2 w2 t2 s2 d2 hfr => ?_
  have len0:p.r0.length=p.sn:=by simp[FP.r0]
  have len1:p.r1.length=p.sn:=by simp[FP.r1]
  have len2:p.r2.length=p.sn:=by simp[FP.r2]
  have hI2:=yjy (len0.trans l0.symm) (len1.trans l0.symm) (len2.trans lb.symm) hI w2 hfr
  have hR2:Rel β p.Hi w 50 ⟨FP.tmE,p.Hm p.r0 p.r1 p.r2⟩ a2 v2:=⟨β1,hI2,t2,s2,d2⟩
  have htl:=ykd p
  rw[hcp] at htl
  have htl':evC Γ20 (evFn Γ20 8 8) 19 4 50 fi19.live [] 8 tl ⟨FP.tmE,p.Hm p.r0 p.r1 p.r2⟩ K2=some (p.ans ws):=by
   rw[htl,hans]
   cases p.cv<;>rfl
  have hwp:=u3e (J:=J) (Γ:=Γ20) tyTab_ok hd20 (SumL.ok zwm _) mixed (f:=19) (nt:=50) (live:=fi19.live) (nl:=[]) (fuel:=8) tl (fun c' hc'=>by rw[zdu.2.2.2.2.1] at hc';cases hc') zdu.2.2.2.2.2 _ K2 a2 v2 hR2 (by rw[hlen];exact htl')
  refine hwp (Rf.base 19) [] K hkk fun e a3 v3 hq => ?_
  cases e with
  | normal=>obtain⟨st',q1,q2⟩:=hq;exact J.still (fun _=>udu rfl) (leave (e:=.normal) q1 q2 [])
  | ret=>obtain⟨st',q1,q2⟩:=hq;exact⟨rfl,leave (e:=.ret) q1 q2⟩
  | exit id=>obtain⟨st',q1,q2⟩:=hq;cases q2
  | goto l=>exact hq.elim
  | panic ch=>exact hq.elim
  | outgrown=>exact hq.elim
end
end Go.Proofs.YtijjhfailnmeoaaGreat
