/-
 The program's PowerCurve returns what the reference's returns,for all arguments.
-/
import Derived.Test.YtijjhfailnmeoaaGreatRows
import Derived.Test.YtijjhfailnmeoaaGreatPowerCurveL
import Derived.Test.YtijjhfailnmeoaaGreatPowerCurveS2
import Derived.ProofKit
import Derived.OpenShut
import Derived.Conc.LeavingOf
namespace Go.Proofs.YtijjhfailnmeoaaGreat.fnExactPowerCurveP
open Go Go.Rf Go.ChangeShapes Go.WideShapes Go.ChangeAt Go.RowKit
set_option linter.unusedVariables false
instance:Go.ConcR.Payload:=⟨3⟩
theorem own:ownKnob Tryz.prog.godebug=none:=by kernel_rfl
theorem laidOut:laidOutB Tryz.prog=true:=by kernel_rfl
theorem shapes:shAs Tryz.prog Tryz.f13.params.toList=some [.agg [.row 1 (.f .f32),.row 1 (.f .f32),.row 1 (.f .f32),.row 3 (.f .f32),.i .i64,.f .f32,.f .f32],.one (.row 1 (.f .f32)),.one (.f .f32),.one (.f .f32),.one (.f .f32)]:=by kernel_rfl
theorem answers(pts:List PT) (h:All2 ArgP [.agg [.row 1 (.f .f32),.row 1 (.f .f32),.row 1 (.f .f32),.row 3 (.f .f32),.i .i64,.f .f32,.f .f32],.one (.row 1 (.f .f32)),.one (.f .f32),.one (.f .f32),.one (.f .f32)] pts):zbh pts=some (true,A1 (.bool true),[]):=by
 obtain⟨_,_,rfl,s0,t0⟩:=h.cons_inv
 obtain⟨_,rfl,r0_0⟩:=s0.agg_inv
 obtain⟨_,_,rfl,⟨n1,_,rfl,z1,m1,⟨x1,rfl,k1⟩⟩,r0_1⟩:=r0_0.cons_inv
 obtain rfl:n1=x1.length:=by have:=z1;simp[Body.size] at this;omega
 obtain⟨_,_,rfl,⟨n2,_,rfl,z2,m2,⟨x2,rfl,k2⟩⟩,r0_2⟩:=r0_1.cons_inv
 obtain rfl:n2=x2.length:=by have:=z2;simp[Body.size] at this;omega
 obtain⟨_,_,rfl,⟨n3,_,rfl,z3,m3,⟨x3,rfl,k3⟩⟩,r0_3⟩:=r0_2.cons_inv
 obtain rfl:n3=x3.length:=by have:=z3;simp[Body.size] at this;omega
 obtain⟨_,_,rfl,⟨n4,_,rfl,z4,m4,⟨x4,rfl,k4⟩⟩,r0_4⟩:=r0_3.cons_inv
 obtain⟨_,_,rfl,⟨x5,rfl,k5⟩,r0_5⟩:=r0_4.cons_inv
 obtain⟨_,_,rfl,⟨x6,rfl,k6⟩,r0_6⟩:=r0_5.cons_inv
 obtain⟨_,_,rfl,⟨x7,rfl,k7⟩,r0_7⟩:=r0_6.cons_inv
 obtain rfl:=r0_7.nil_inv
 obtain⟨_,_,rfl,s1,t1⟩:=t0.cons_inv
 obtain⟨_,rfl,r1⟩:=s1.one_inv
 obtain⟨n8,_,rfl,z8,m8,⟨x8,rfl,k8⟩⟩:=r1
 obtain rfl:n8=x8.length:=by have:=z8;simp[Body.size] at this;omega
 obtain⟨_,_,rfl,s2,t2⟩:=t1.cons_inv
 obtain⟨_,rfl,r2⟩:=s2.one_inv
 obtain⟨x9,rfl,k9⟩:=r2
 obtain⟨_,_,rfl,s3,t3⟩:=t2.cons_inv
 obtain⟨_,rfl,r3⟩:=s3.one_inv
 obtain⟨x10,rfl,k10⟩:=r3
 obtain⟨_,_,rfl,s4,t4⟩:=t3.cons_inv
 obtain⟨_,rfl,r4⟩:=s4.one_inv
 obtain⟨x11,rfl,k11⟩:=r4
 obtain rfl:=t4.nil_inv
 show sF _ _=_
 rw[plain_FnExactPowerCurve k1 m1 k2 m2 k3 m3 z4 k4 m4 k5 k6 k7 k8 m8 k9 k10 k11]
 rfl
set_option maxRecDepth 100000 in
theorem lifted(os:Os)(started:os.Started)(H:Type)(enc:TypeId×Value→H) :
  ReturnsInLeavingWide {} Tryz.checked os 13 .any (Rows.fnExactPowerCurveSpec.pre6 enc Tryz.prog Tryz.f13 Rows.fnExactPowerCurveRow.domain false) (Rows.fnExactPowerCurveSpec.post enc Tryz.prog Tryz.f13 false true false false):=by
 refine returnsInLeavingWide_of_change_sized (C:=Tryz.checked) own started Tryz.func13
  (ChangeSpec.witness6 (enc:=enc) (C:=Tryz.checked) false ⟨#[],#[.agg #[.slice none 0 0,.slice none 0 0,.slice none 0 0,.slice none 0 0,.int .i64 0,.float .f32 0,.float .f32 0],.slice none 0 0,.float .f32 0,.float .f32 0,.float .f32 0],[]⟩ 8 (by kernel_rfl) (by kernel_rfl) (by kernel_rfl) (by kernel_rfl)) ?_
 intro W base args ds gs before hval0 hW hcnd _ _
 have hval:∀ (j:Nat) t v,Tryz.f13.params[j]? = some t→args[j]? = some v→Value.okWide Tryz.prog W .any base t v:=hval0
 have hW':=hW
 obtain⟨p,q,hA0,hV,rfl,hfz,hnd⟩:=hW
 have hA:DataW.TrodAll enc Tryz.prog W 0 (fun _=>true) true Tryz.f13.params.toList args.toList ds p:=hA0
 obtain⟨rfl,rfl⟩:=trodVars_none hV
 obtain⟨pts,hD,hS⟩:=ubk (fun j t v h1 h2=>hval j t v (by simpa using h1) (by simpa using h2)) hA shapes
 rw[Tryz.params13] at hA
 obtain⟨v0,vs0,d0,ds0,p0,q0,hargs,rfl,rfl,h0,r0⟩:=trodAll_cons hA
 obtain⟨v1,vs1,d1,ds1,p1,q1,rfl,rfl,rfl,h1,r1⟩:=trodAll_cons r0
 obtain⟨v2,vs2,d2,ds2,p2,q2,rfl,rfl,rfl,h2,r2⟩:=trodAll_cons r1
 obtain⟨v3,vs3,d3,ds3,p3,q3,rfl,rfl,rfl,h3,r3⟩:=trodAll_cons r2
 obtain⟨v4,vs4,d4,ds4,p4,q4,rfl,rfl,rfl,h4,r4⟩:=trodAll_cons r3
 obtain⟨rfl,rfl,rfl⟩:=trodAll_nil r4
 have lt0:∀ x∈p0,x.block<W.heap.size:=by obtain⟨m,hm⟩:=h0;exact DataW.trod_lt m _ _ _ hm
 have lt1:∀ x∈p1,x.block<W.heap.size:=by obtain⟨m,hm⟩:=h1;exact DataW.trod_lt m _ _ _ hm
 have lt2:∀ x∈p2,x.block<W.heap.size:=by obtain⟨m,hm⟩:=h2;exact DataW.trod_lt m _ _ _ hm
 have lt3:∀ x∈p3,x.block<W.heap.size:=by obtain⟨m,hm⟩:=h3;exact DataW.trod_lt m _ _ _ hm
 have lt4:∀ x∈p4,x.block<W.heap.size:=by obtain⟨m,hm⟩:=h4;exact DataW.trod_lt m _ _ _ hm
 obtain rfl:args=#[v0,v1,v2,v3,v4]:=by cases args;simp_all
 clear hA0 hval0
 obtain⟨M,last,o,w',t',r1,r2,r3,r4⟩:=law_ends ztp fi13_ok (by kernel_rfl) hD (answers pts hS)
 refine⟨M,last,o,w',t',r1,r2,r3,r4.mono fun e hF => ?_⟩
 obtain⟨rfl,bel⟩:=hF
 exact⟨_,_,_,[],_,[],hW',trodAll_mk1 (shut_bool Tryz.underlying4 _),(trodAll_cons_mk (Below.trod laidOut (by kernel_rfl) (of_decide_eq_true (by kernel_rfl)) h0 bel lt0) (trodAll_cons_mk (Below.trod laidOut (by kernel_rfl) (of_decide_eq_true (by kernel_rfl)) h1 bel lt1) (trodAll_cons_mk (Below.trod laidOut (by kernel_rfl) (of_decide_eq_true (by kernel_rfl)) h2 bel lt2) (trodAll_cons_mk (Below.trod laidOut (by kernel_rfl) (of_decide_eq_true (by kernel_rfl)) h3 bel lt3) (trodAll_cons_mk (Below.trod laidOut (by kernel_rfl) (of_decide_eq_true (by kernel_rfl)) h4 bel lt4) trodAll_mk0))))),rfl,bel.frame _,fun h=>by cases h⟩
theorem over:Rows.fnExactPowerCurveRow.holds Tryz.pinned (OpenSpec.ofChange Rows.fnExactPowerCurveSpec):=
 OpenClaim.holds_of_wide_leaving 13 Tryz.f13 rfl rfl rfl rfl rfl rfl rfl ⟨rfl,rfl,rfl,rfl,rfl⟩ rfl rfl rfl rfl rfl (by kernel_rfl) Tryz.func13 (by kernel_rfl)
  (of_decide_eq_true (by kernel_rfl)) (by unfold Func.isWrapper;first | (rw[if_pos (by decide +kernel)];kernel_rfl) | (rw[if_neg (by decide +kernel)];exact⟨rfl,rfl⟩))
  (fun os started H enc _=>lifted os started H enc)
theorem proved:Rows.FnExactPowerCurveSaid:=over
end Go.Proofs.YtijjhfailnmeoaaGreat.fnExactPowerCurveP
