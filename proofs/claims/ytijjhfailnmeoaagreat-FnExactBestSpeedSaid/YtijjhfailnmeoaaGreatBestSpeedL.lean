import Derived.Test.YtijjhfailnmeoaaGreatBestSpeedP
set_option linter.unusedVariables false
set_option linter.unusedSimpArgs false
set_option linter.unusedSectionVars false
set_option maxRecDepth 100000
set_option maxHeartbeats 4000000
namespace Go.Rf
open Go
def finB(x:Nat):Bool:=fcmp .eql .f32 (fop .sub .f32 x x) 0
def leastB(x:Nat):Bool:=finB x&&fcmp .geq .f32 x 0
def posB(x:Nat):Bool:=finB x&&fcmp .gtr .f32 x 0
theorem yeb{op:BinOp}{k:FloatKind}{x y:Nat}(h:nanB k x=true∨nanB k y=true):floatBits op k x y=none:=by
 unfold floatBits
 rcases h with h | h
 ·obtain⟨s,f,e⟩:=u2b h
  cases op<;>simp only[Ieee.Format.add,Ieee.Format.sub,Ieee.Format.mul,Ieee.Format.div,e,u4d,u5g,u4n,Option.map_none]
 ·obtain⟨s,f,e⟩:=u2b h
  cases op<;>simp only[Ieee.Format.add,Ieee.Format.sub,Ieee.Format.mul,Ieee.Format.div,e,u40,u4o,u4i,Option.map_none,Ieee.Datum.opposite]
theorem yf5{op:BinOp}{k:FloatKind}{x y:Nat}(h:nanB k x=true∨nanB k y=true):fop op k x y=qn k:=by
 unfold fop
 rw[yeb h];rfl
theorem yfe{x:Nat}(h:finB x=true):nanB .f32 x=false:=by
 cases hn:nanB .f32 x with
 | false=>rfl
 | true=>
  unfold finB at h
  rw[yf5 (.inl hn),(u89 .f32 (.inl (u9v .f32))).1] at h
  cases h
theorem yef:nanB .f32 0=false:=by decide +kernel
theorem yey{x y:Nat}(hx:nanB .f32 x=false)(hy:nanB .f32 y=false):fcmp .leq .f32 x y=!fcmp .gtr .f32 x y:=by
 obtain⟨_,_,_,h4,h5,_⟩:=u53 .f32 hx hy
 rw[h4,h5]
 by_cases h:srung FloatKind.f32.format x≤srung FloatKind.f32.format y
 ·rw[decide_eq_true h,decide_eq_false (by omega)];rfl
 ·rw[decide_eq_false h,decide_eq_true (by omega)];rfl
theorem z3w(x:Nat):z8n x=some (finB x):=rfl
theorem z1k(x:Nat):z80 x=some (finB x):=rfl
theorem zx1(x:Nat):z7s x=some (leastB x):=by
 obtain⟨h1,h2⟩:=z3s (z3w x)
 unfold z7s zic leastB
 rw[h1,h2]
 cases finB x<;>rfl
theorem zva(x:Nat):z6x x=some (leastB x):=by
 obtain⟨h1,h2⟩:=z1l (z1k x)
 unfold z6x zgz leastB
 rw[h1,h2]
 cases finB x<;>rfl
theorem zeo(x:Nat):z71 x=some (posB x):=by
 obtain⟨h1,h2⟩:=z1l (z1k x)
 unfold z71 zgy posB
 rw[h1,h2]
 cases finB x<;>rfl
theorem zyq(x:Nat):z3y x=some (!posB x):=by
 obtain⟨h1,h2⟩:=z3s (z3w x)
 unfold z3y z9q posB
 rw[h1,h2]
 cases hf:finB x with
 | false=>rfl
 | true=>simp only[br_if,grd_true,bnot,Bool.not_true,yey (yfe hf) yef];simp
theorem y5w(x:Nat):z5h x=some (!leastB x):=by
 obtain⟨h1,h2⟩:=zwz (zx1 x)
 unfold z5h zd8
 rw[h1,h2];rfl
def checkV(x:Nat):Nat:=if finB x then x else 0
theorem znr(x:Nat):z6g x=some (checkV x,finB x):=by
 obtain⟨h1,h2⟩:=z3s (z3w x)
 unfold z6g zid checkV
 rw[h1,h2]
 cases finB x<;>rfl
theorem z4c(x:Nat):z65 x x=some true:=by
 unfold z65 zf5
 simp only[neq_self]
 cases hn:nanB .f64 x with
 | true=>rfl
 | false=>
  have he:fcmp .eql .f64 x x=true:=by rw[(u53 .f64 hn hn).1];simp
  simp only[br_if,Bool.false_eq_true,if_false,he,beqB,BEq.rfl]
  split<;>rfl
theorem zt9{xs:List Nat}(hl:xs.length<281474976710656):∃ r:Int,z0t xs.length xs=some r∧leI 0 r=!xs.all leastB:=by
 unfold z0t z2e
 rcases scan_all (L:=z03 xs.length (Int.ofNat xs.length) xs) xs leastB (g:=fun i=>Int.ofNat i) (e:=(Int.ofNat xs.length,false))
  (fun n i hi=>by
   rw[z58];unfold z0d;rw[ltN_t hi,okIx_t hi,ix1,addI1 (by omega)]
   simp only[gF]
   generalize xs.getD i 0=x
   obtain⟨h1,h2⟩:=y5r (y5w x)
   simp only[br_if,grd_true,h1,h2]
   rcases Bool.eq_false_or_eq_true (leastB x) with h | h<;>simp[h])
  (fun n=>by rw[z58];unfold z0d;rw[ltN_f (Nat.le_refl _)];rfl) hl with⟨h1,h2⟩ | ⟨j,h2,h3,h4⟩
 ·obtain⟨g1,g2,_⟩:=zcp rfl h2
  exact⟨Int.negSucc 0,by rw[g1,g2];rfl,by rw[h1];rfl⟩
 ·obtain⟨g1,g2,g3⟩:=zcr rfl h4
  exact⟨Int.ofNat j,by rw[g1,g2,g3];rfl,by rw[h3];exact decide_eq_true (by simp)⟩
theorem zq6{xs:List Nat}(hl:xs.length<281474976710656):z0m xs.length xs=some (!xs.all leastB):=by
 obtain⟨r,h1,h2⟩:=zt9 hl
 obtain⟨g1,g2⟩:=zg8 h1
 unfold z0m z20
 rw[pF_all,g1,g2,h2];rfl
theorem y9r{xs:List Nat}(hl:xs.length<281474976710656):z70 xs.length xs=some (xs.all leastB):=by
 obtain⟨g1,g2⟩:=ze5 (zq6 hl)
 unfold z70 zgx
 rw[pF_all,g1,g2]
 simp[grd_true,bnot]
theorem zqg{xs:List Nat}(hl:xs.length<281474976710656):∃ r:Int,z0n xs.length xs=some r∧leI 0 r=!xs.all posB:=by
 unfold z0n z21
 rcases scan_all (L:=z01 xs.length (Int.ofNat xs.length) xs) xs posB (g:=fun i=>Int.ofNat i) (e:=(Int.ofNat xs.length,false))
  (fun n i hi=>by
   rw[z4j];unfold z0b;rw[ltN_t hi,okIx_t hi,ix1,addI1 (by omega)]
   simp only[gF]
   generalize xs.getD i 0=x
   obtain⟨h1,h2⟩:=zzw (zyq x)
   simp only[br_if,grd_true,h1,h2]
   rcases Bool.eq_false_or_eq_true (posB x) with h | h<;>simp[h])
  (fun n=>by rw[z4j];unfold z0b;rw[ltN_f (Nat.le_refl _)];rfl) hl with⟨h1,h2⟩ | ⟨j,h2,h3,h4⟩
 ·obtain⟨g1,g2,_⟩:=zb1 rfl h2
  exact⟨Int.negSucc 0,by rw[g1,g2];rfl,by rw[h1];rfl⟩
 ·obtain⟨g1,g2,g3⟩:=zau rfl h4
  exact⟨Int.ofNat j,by rw[g1,g2,g3];rfl,by rw[h3];exact decide_eq_true (by simp)⟩
theorem zml{xs:List Nat}(hl:xs.length<281474976710656):z0i xs.length xs=some (!xs.all posB):=by
 obtain⟨r,h1,h2⟩:=zqg hl
 obtain⟨g1,g2⟩:=zdz h1
 unfold z0i z1n
 rw[pF_all,g1,g2,h2];rfl
theorem zgn{xs:List Nat}(hl:xs.length<281474976710656):z1r xs.length xs=some (xs.all posB):=by
 obtain⟨g1,g2⟩:=zbg (zml hl)
 unfold z1r zbc
 rw[pF_all,g1,g2]
 simp[grd_true,bnot]
theorem y1e(x y:Nat):z1r 2 (pF [x,y] 0 (muN 2 1))=some (posB x&&posB y):=by
 have:=zgn (xs:=[x,y]) (by simp)
 simpa [pF,muN] using this
def fromToB(x low high:Nat):Bool:=fcmp .geq .f32 x low&&fcmp .leq .f32 x high
theorem zvd(x low high:Nat):z6w x low high=some (fromToB x low high):=by
 unfold z6w zh5 fromToB
 rcases Bool.eq_false_or_eq_true (fcmp .geq .f32 x low) with h | h<;>simp[h,br_if]
theorem zhd(n:Nat)(xs:List Nat)(left:Int):∃ r,z5b n xs left=some r∧(0≤left→left≤1048576→n≤9223372036854775807→(0≤r→r=left-n∧(n:Int)≤left)∧r≤1048576):=by
 unfold z5b zdc
 by_cases h:subI .i64 left (Int.ofNat n)<0
 ·rw[ltI_t h]
  exact⟨_,rfl,fun _ _ _=>⟨fun q=>by simp at q,by decide⟩⟩
 ·rw[ltI_f h]
  refine⟨_,rfl,fun h1 h2 h3 => ?_⟩
  have e:subI .i64 left (Int.ofNat n)=left-n:=uem (by simp;omega) (by simp;omega)
  rw[e] at h ⊢
  exact⟨fun _=>⟨rfl,by omega⟩,by omega⟩
theorem zbe{xs:List Nat}(hl:xs.length≤1099511627776):z47 xs.length xs=some (xs.length,xs):=by
 have hf:=uev (L:=z16 xs.length xs.length xs) (len:=xs.length) (fun i s=>s.set i (xs.getD i 0)) (e:=fun s=>(Int.ofNat xs.length,false,s))
  (fun n i s hi=>by rw[zh8];unfold z25;rw[ltN_t hi,okIx_t hi,ix1,addI1 (by omega)];rfl)
  (fun n s=>by rw[zh8];unfold z25;rw[ltN_f (Nat.le_refl _)];rfl) xs.length 0 big (List.replicate xs.length 0) (by omega) (uet (by omega))
 rw[uc7 xs _ _ _ (by omega) (by simp)] at hf
 simp only[List.take_zero,List.drop_zero,List.nil_append] at hf
 obtain⟨g1,_,_,g2⟩:=zy7 rfl hf
 have e:rF (muN (toN (Int.ofNat xs.length)) 1)=List.replicate xs.length 0:=by simp[rF,muN,toN]
 have ho:okMk (Int.ofNat xs.length) (Int.ofNat xs.length) 4=true:=decide_eq_true ⟨rfl,by simp,by simp;omega,by decide⟩
 unfold z47 zd2
 rw[e,ho,toN_nat]
 show grd (zfk xs.length xs.length xs (Int.ofNat 0) (List.replicate xs.length 0)) (some (_,zaz xs.length xs.length xs (Int.ofNat 0) (List.replicate xs.length 0)))=_
 rw[g1,g2];rfl
theorem z9k{xs:List Nat}(hl:xs.length<281474976710656):z5e xs.length xs xs.length xs=some true:=by
 have hn:neI (Int.ofNat xs.length) (Int.ofNat xs.length)=false:=by simp[neI]
 unfold z5e zd5
 rw[hn]
 rcases scan_all (L:=z19 xs.length xs.length xs xs) xs (fun _=>true) (g:=fun i=>()) (e:=(Int.ofNat xs.length,false))
  (fun n i hi=>by
   obtain⟨h1,h2⟩:=z5a (z4c (fcvV FloatKind.f32 FloatKind.f64 (gF xs i)))
   rw[zgw];unfold z23;rw[ltN_t hi,okIx_t hi,ix1,addI1 (by omega),h1,h2]
   rfl)
  (fun n=>by rw[zgw];unfold z23;rw[ltN_f (Nat.le_refl _)];rfl) hl with⟨h1,h2⟩ | ⟨j,h2,h3,h4⟩
 ·obtain⟨g1,g2,_⟩:=zy5 rfl h2
  rw[g1,g2];rfl
 ·simp at h3
theorem yg8(b:Bool):beqB b b=true:=by cases b<;>rfl
theorem y9a(i:Int):neI i i=false:=by simp[neI]
theorem z7a:bnot true=false:=rfl
theorem ltN(a b:Nat):ltI (Int.ofNat a) (Int.ofNat b)=decide (a<b):=by by_cases h:a<b<;>simp[ltI,h]<;>omega
theorem yh3{xs:List Nat}{i:Nat}(h:i<xs.length):xs.getD i 0∈xs:=by
 rw[List.getD_eq_getElem?_getD,List.getElem?_eq_getElem h];exact List.getElem_mem _
theorem y2x{x:Nat}(h:nanB .f64 x=false):zae x=some (fint .down x):=by
 unfold zae zoj
 simp only[nanQ,h,bnot,Bool.not_false,grd_true]
def inB(n low high:Int):Bool:=decide (low≤n)&&decide (n≤high)
theorem y2q(n low high:Int):zab n low high=some (inB n low high):=by
 unfold zab zom inB leI
 cases decide (low≤n)<;>rfl
theorem zpn(n low high:Int):z94 n low high=some (inB n low high):=by
 unfold z94 zk9 inB leI
 cases decide (low≤n)<;>rfl
theorem yfq{n l h:Int}(e:inB n l h=true):l≤n∧n≤h:=by
 unfold inB at e
 rw[Bool.and_eq_true] at e
 exact⟨of_decide_eq_true e.1,of_decide_eq_true e.2⟩
theorem yd1{ys:List Nat}{i:Nat}(h:i<ys.length):ys.take i++[ys.getD i 0]=ys.take (i+1):=by
 rw[List.take_succ_eq_append_getElem h];simp[List.getD_eq_getElem?_getD,h]
theorem yeu{n:Nat}{b:List Nat}(x:Nat)(hb:b.length=n)(hn:n<1099511627776):okA2 n 1 4 (nF (pF [x] 0 (muN 1 1))) (nF b) 1=true:=
 decide_eq_true ⟨by omega,by omega,by simp[nF,pF,muN],by simp[nF,hb]⟩
theorem runs{ρ:Type}{L:Nat→Int→Option ρ}{len:Nat}{e:ρ} (hs:∀ n i,i<len→L (n+1) (Int.ofNat i)=L n (Int.ofNat (i+1))) (he:∀ n,L (n+1) (Int.ofNat len)=some e) (hl:len<281474976710656):L big 0=some e:=by
 have:=uev (L:=fun n i (_:Unit)=>L n i) (len:=len) (fun _ _=>()) (e:=fun _=>e) (fun n i _ hi=>hs n i hi) (fun n _=>he n) len 0 big () (by omega) (uet hl)
 exact this
theorem y3f(x:Nat):z4p x=some (!finB x):=by
 obtain⟨h1,h2⟩:=z3s (z3w x)
 unfold z4p zbl
 rw[h1,h2];rfl
theorem zrp{xs:List Nat}(hl:xs.length<281474976710656):∃ r:Int,z0r xs.length xs=some r∧leI 0 r=!xs.all finB:=by
 unfold z0r z29
 rcases scan_all (L:=z02 xs.length (Int.ofNat xs.length) xs) xs finB (g:=fun i=>Int.ofNat i) (e:=(Int.ofNat xs.length,false))
  (fun n i hi=>by
   rw[z4y];unfold z0c;rw[ltN_t hi,okIx_t hi,ix1,addI1 (by omega)]
   simp only[gF]
   generalize xs.getD i 0=x
   obtain⟨h1,h2⟩:=y39 (y3f x)
   simp only[br_if,grd_true,h1,h2]
   rcases Bool.eq_false_or_eq_true (finB x) with h | h<;>simp[h])
  (fun n=>by rw[z4y];unfold z0c;rw[ltN_f (Nat.le_refl _)];rfl) hl with⟨h1,h2⟩ | ⟨j,h2,h3,h4⟩
 ·obtain⟨g1,g2,_⟩:=zc9 rfl h2
  exact⟨Int.negSucc 0,by rw[g1,g2];rfl,by rw[h1];rfl⟩
 ·obtain⟨g1,g2,g3⟩:=zce rfl h4
  exact⟨Int.ofNat j,by rw[g1,g2,g3];rfl,by rw[h3];exact decide_eq_true (by simp)⟩
theorem zoq{xs:List Nat}(hl:xs.length<281474976710656):z0k xs.length xs=some (!xs.all finB):=by
 obtain⟨r,h1,h2⟩:=zrp hl
 obtain⟨g1,g2⟩:=zf9 h1
 unfold z0k z1s
 rw[pF_all,g1,g2,h2];rfl
theorem zt1{xs:List Nat}(hl:xs.length<281474976710656):z4v xs.length xs=some (xs.all finB):=by
 obtain⟨g1,g2⟩:=zcq (zoq hl)
 unfold z4v zfb
 rw[pF_all,g1,g2]
 simp[grd_true,bnot]
theorem zqa(x:Nat):finB x=finW .f32 x:=by
 cases hn:nanB .f32 x with
 | true=>
  have h1:finB x=false:=by
   cases h:finB x with
   | false=>rfl
   | true=>rw[yfe h] at hn;cases hn
  have h2:finW .f32 x=false:=by
   cases h:finW .f32 x with
   | false=>rfl
   | true=>rw[u1g h] at hn;cases hn
  rw[h1,h2]
 | false=>
  cases hf:finW .f32 x with
  | true=>
   unfold finB
   rw[u28 hf hf]
   have h0:(vl .f32 x-vl .f32 x).natAbs=0:=by simp
   rw[h0,u8j]
   generalize sgn0 _ _ _=s
   cases s<;>decide +kernel
  | false=>
   have hr:=inf_read hn hf
   unfold finB
   have e:fop .sub .f32 x x=qn .f32:=by
    unfold fop floatBits Ieee.Format.sub
    simp only[hr]
    cases nn .f32 x<;>simp[Ieee.Datum.opposite,Ieee.Datum.sum]
   rw[e]
   decide +kernel
theorem zts{k:FloatKind}{x:Nat}(h:nanB k x=true):finW k x=false:=by
 cases hf:finW k x with
 | false=>rfl
 | true=>rw[u1g hf] at h;cases h
theorem yhf(k:FloatKind):finW k (qn k)=false:=zts (u9v k)
def walkS{σ α β:Type}(p:Nat→σ→Bool)(f:Nat→σ→σ)(g:Nat→σ→α)(e:σ→β):Nat→Nat→σ→α⊕β
 | 0,_,s=>.inr (e s)
 | k+1,i,s=>if p i s=true then walkS p f g e k (i+1) (f i s) else .inl (g i s)
theorem walks{σ α β:Type} {L:Nat→Int→σ→Option (α⊕β)} {len:Nat} (p:Nat→σ→Bool) (f:Nat→σ→σ) {g:Nat→σ→α} {e:σ→β}
  (hs:∀ n i s,i<len→L (n+1) (Int.ofNat i) s=if p i s=true then L n (Int.ofNat (i+1)) (f i s) else some (.inl (g i s))) (he:∀ n s,L (n+1) (Int.ofNat len) s=some (.inr (e s))) :
  ∀ k i n s,i+k=len→k<n→L n (Int.ofNat i) s=some (walkS p f g e k i s)
 | 0,i,n,s,hk,hn=>by
  obtain⟨n,rfl⟩:∃ m,n=m+1:=⟨n-1,by omega⟩
  obtain rfl:i=len:=by omega
  exact he n s
 | k+1,i,n,s,hk,hn=>by
  obtain⟨n,rfl⟩:∃ m,n=m+1:=⟨n-1,by omega⟩
  rw[hs n i s (by omega)]
  unfold walkS
  cases p i s
  ·simp
  ·simp only[if_true]
   exact walks p f hs he k (i+1) n (f i s) (by omega) (by omega)
theorem ydo{σ α β:Type}{p:Nat→σ→Bool}{f:Nat→σ→σ}{g:Nat→σ→α}{e:σ→β}{j:Nat}:∀ (k i:Nat) (s:σ),(∀ s,p j s=false)→i≤j→j<i+k→∃ r,walkS p f g e k i s=.inl r
 | 0,i,s,h,h1,h2=>by omega
 | k+1,i,s,h,h1,h2=>by
  unfold walkS
  by_cases hp:p i s=true
  ·rw[if_pos hp]
   have:j≠i:=by rintro rfl;rw[h s] at hp;cases hp
   exact ydo k (i+1) (f i s) h (by omega) (by omega)
  ·rw[if_neg hp];exact⟨_,rfl⟩
theorem eqN0(i:Nat):eqI (Int.ofNat i) 0=decide (i=0):=by
 unfold eqI
 by_cases h:i=0
 ·subst h;rfl
 ·rw[decide_eq_false h];exact decide_eq_false (by simp;omega)
theorem y5k{σ α β γ:Type}{p:Nat→σ→Bool}{f:Nat→σ→σ}{g:Nat→σ→α}{e:σ→β}:∀ (k i:Nat) (s:σ),walkS p f g e k i s=(walkS p f g id k i s).map id e
 | 0,i,s=>rfl
 | k+1,i,s=>by
  unfold walkS
  by_cases h:p i s=true
  ·rw[if_pos h,if_pos h];exact y5k (γ:=γ) k (i+1) (f i s)
  ·rw[if_neg h,if_neg h];rfl
theorem ix3(i:Nat):ixO 0 (Int.ofNat i) 3=i*3:=by simp[ixO]
theorem put1{xs zs:List Nat}(hz:zs.length=xs.length){j:Nat}(h:j<xs.length):(xs.take j++zs.drop j).set j (xs.getD j 0)=xs.take (j+1)++zs.drop (j+1):=by
 have h1:(xs.take j).length=j:=by simp;omega
 have h2:zs.drop j=zs[j]::zs.drop (j+1):=List.drop_eq_getElem_cons (by omega)
 rw[← yd1 h,h2,List.set_append_right j _ (by omega),h1,Nat.sub_self,List.set_cons_zero,List.append_assoc]
 rfl
theorem put3{xs zs:List Nat}{n i:Nat}(hx:xs.length=n*3)(hz:zs.length=xs.length)(h:i<n) :
  ((((xs.take (i*3)++zs.drop (i*3)).set (i*3) (xs.getD (i*3) 0)).set (i*3).succ (xs.getD (i*3).succ 0)).set (i*3).succ.succ (xs.getD (i*3).succ.succ 0))=xs.take ((i+1)*3)++zs.drop ((i+1)*3):=by
 rw[put1 hz (by omega),put1 hz (j:=(i*3).succ) (by omega),put1 hz (j:=(i*3).succ.succ) (by omega)]
 simp only[Nat.succ_eq_add_one,Nat.add_mul,Nat.one_mul]
theorem yhg{n b:Nat}(h:n≤1099511627776)(hb:b≤64):okMk (Int.ofNat n) (Int.ofNat n) b=true:=decide_eq_true ⟨rfl,by simp,by simp;omega,hb⟩
theorem y33(a b c:Nat):zu7 a b c=true:=rfl
theorem y56{xs:List Nat}{n:Nat}(hx:xs.length=n*3)(hl:n≤1099511627776):z49 n xs=some (n,xs):=by
 have hz:(rF (muN (toN (Int.ofNat n)) 3)).length=xs.length:=by simp[rF,muN,hx]
 have hf:=runs (L:=fun m i=>z0p n n xs m i (xs.take (i.toNat*3)++(rF (muN (toN (Int.ofNat n)) 3)).drop (i.toNat*3))) (len:=n) (e:=(Int.ofNat n,false,xs))
  (fun m i hi=>by
   show z0p n n xs _ _ (xs.take (i*3)++(rF (muN (toN (Int.ofNat n)) 3)).drop (i*3))=z0p n n xs _ _ (xs.take ((i+1)*3)++(rF (muN (toN (Int.ofNat n)) 3)).drop ((i+1)*3))
   rw[← put3 hx hz hi,zh6];unfold z27
   rw[ltN_t hi,okIx_t hi,ix3,addI1 (by omega),y33];rfl)
  (fun m=>by
   show z0p n n xs _ _ (xs.take (n*3)++(rF (muN (toN (Int.ofNat n)) 3)).drop (n*3))=_
   rw[zh6];unfold z27;rw[ltN_f (Nat.le_refl _),br_false,List.take_of_length_le (by omega),List.drop_of_length_le (by omega),List.append_nil]) (by omega)
 obtain⟨g1,_,_,g2⟩:=zxj rfl hf
 have e0:xs.take (Int.toNat 0*3)++(rF (muN (toN (Int.ofNat n)) 3)).drop (Int.toNat 0*3)=rF (muN (toN (Int.ofNat n)) 3):=by simp
 rw[e0] at g1 g2
 unfold z49 zda
 rw[yhg hl (by omega)]
 show grd (zfp n n xs 0 (rF (muN (toN (Int.ofNat n)) 3))) (some (n,zax n n xs 0 (rF (muN (toN (Int.ofNat n)) 3))))=_
 rw[g1,g2];rfl
theorem y4m(a b c:Nat):z6e a b c a b c=some true:=by
 obtain⟨p1,q1⟩:=z5a (z4c (fcvV .f32 .f64 a))
 obtain⟨p2,q2⟩:=z5a (z4c (fcvV .f32 .f64 b))
 obtain⟨p3,q3⟩:=z5a (z4c (fcvV .f32 .f64 c))
 unfold z6e zfr
 rw[p1,q1,p2,q2,p3,q3];rfl
theorem y26{xs:List Nat}{n:Nat}(hl:n<281474976710656):z59 n xs n xs=some true:=by
 unfold z59 zd9
 rw[y9a]
 rcases scan (L:=z17 n n xs xs) (len:=n) (fun _=>true) (g:=fun i=>()) (e:=(Int.ofNat n,false))
  (fun m i hi=>by
   rw[zh1];unfold z24
   obtain⟨h1,h2⟩:=y87 (y4m (gF xs (ixO 0 (Int.ofNat i) 3)) (gF xs (Nat.succ (ixO 0 (Int.ofNat i) 3))) (gF xs (Nat.succ (Nat.succ (ixO 0 (Int.ofNat i) 3)))))
   rw[ltN_t hi,okIx_t hi,addI1 (by omega),h1,h2];rfl)
  (fun m=>by rw[zh1];unfold z24;rw[ltN_f (Nat.le_refl _)];rfl) n 0 big (by omega) (uet hl) with⟨h1,h2⟩ | ⟨j,_,h2,h3,h4⟩
 ·obtain⟨g1,g2,_⟩:=zx4 rfl h2
  show grd (zex n n xs xs (Int.ofNat 0)) (br (zdr n n xs xs (Int.ofNat 0)) _ _)=_
  rw[g1,g2];rfl
 ·cases h3
theorem y5o(n:Nat)(xs:List Nat)(left:Int):∃ r,z5d n xs left=some r∧(0≤left→left≤1048576→n≤9223372036854775807→(0≤r→r=left-n∧(n:Int)≤left)∧r≤1048576):=by
 unfold z5d zcw
 by_cases h:subI .i64 left (Int.ofNat n)<0
 ·rw[ltI_t h]
  exact⟨_,rfl,fun _ _ _=>⟨fun q=>by simp at q,by decide⟩⟩
 ·rw[ltI_f h]
  refine⟨_,rfl,fun h1 h2 h3 => ?_⟩
  have e:subI .i64 left (Int.ofNat n)=left-n:=uem (by simp;omega) (by simp;omega)
  rw[e] at h ⊢
  exact⟨fun _=>⟨rfl,by omega⟩,by omega⟩
theorem y83{as ls ds:List Nat}{left:Int}(ha:as.length≤maxLen)(hl:ls.length≤maxLen)(hd:ds.length≤maxLen)(h0:0≤left)(h1:left≤1048576) :
  ∃ r,z6b as.length as ls.length ls ds.length ds left=some r∧(0≤r→as.length+ls.length+ds.length≤1048576)∧r≤1048576:=by
 have hm:maxLen=9223372036854775807:=by decide
 rw[hm] at ha hl hd
 obtain⟨r1,h2,k1⟩:=zhd as.length as left
 obtain⟨p1,q1⟩:=zhx h2
 obtain⟨k1,k1'⟩:=k1 h0 h1 ha
 obtain⟨r2,h3,k2⟩:=zhd ls.length ls r1
 obtain⟨p2,q2⟩:=zhx h3
 obtain⟨r3,h4,k3⟩:=zhd ds.length ds r2
 obtain⟨p3,q3⟩:=zhx h4
 unfold z6b zf4
 simp only[pF_all,p1,q1,grd_true,p2,q2,p3,q3]
 by_cases c1:r1<0
 ·rw[ltI_t c1]
  exact⟨_,rfl,fun h=>by simp at h,by decide⟩
 ·rw[ltI_f c1]
  obtain⟨e1,e2⟩:=k1 (by omega)
  obtain⟨k2,k2'⟩:=k2 (by omega) (by omega) hl
  by_cases c2:r2<0
  ·rw[ltI_t c2]
   exact⟨_,rfl,fun h=>by simp at h,by decide⟩
  ·rw[ltI_f c2]
   obtain⟨e3,e4⟩:=k2 (by omega)
   obtain⟨k3,k3'⟩:=k3 (by omega) (by omega) hd
   by_cases c3:r3<0
   ·rw[ltI_t c3]
    exact⟨_,rfl,fun h=>by simp at h,by decide⟩
   ·rw[ltI_f c3]
    obtain⟨e5,e6⟩:=k3 (by omega)
    exact⟨_,rfl,fun h=>by omega,by omega⟩
theorem y7b{as ls ds:List Nat}(ha:as.length≤1099511627776)(hl:ls.length≤1099511627776)(hd:ds.length≤1099511627776):z1y as.length as ls.length ls ds.length ds=some (as.length,ls.length,ds.length,as,ls,ds):=by
 obtain⟨p1,q1,r1⟩:=zbk (zbe ha)
 obtain⟨p2,q2,r2⟩:=zbk (zbe hl)
 obtain⟨p3,q3,r3⟩:=zbk (zbe hd)
 unfold z1y zey
 simp only[pF_all,p1,q1,r1,p2,q2,r2,p3,q3,r3,grd_true]
theorem y3v{as ls ds:List Nat}(ha:as.length<281474976710656)(hl:ls.length<281474976710656)(hd:ds.length<281474976710656):z69 as.length as ls.length ls ds.length ds as.length as ls.length ls ds.length ds=some true:=by
 obtain⟨p1,q1⟩:=zby (z9k ha)
 obtain⟨p2,q2⟩:=zby (z9k hl)
 obtain⟨p3,q3⟩:=zby (z9k hd)
 unfold z69 zen
 simp only[pF_all,p1,q1,p2,q2,p3,q3,grd_true]
 rfl
theorem ygd{as ls ds st:List Nat}{n:Nat}{count:Int}{hub tip:Nat}(ma:as.length≤maxLen)(ml:ls.length≤maxLen)(md:ds.length≤maxLen)(z:st.length=n*3)(mn:n≤maxLen){left:Int}(h0:0≤left)(h1:left≤1048576) :
  ∃ r,zpo as.length as ls.length ls ds.length ds n st count hub tip left=true∧zms as.length as ls.length ls ds.length ds n st count hub tip left=r∧r≤1048576 ∧
  (r<0∨(ltI r 0=false∧as.length+ls.length+ds.length+n≤2097152∧zq9 as.length as ls.length ls ds.length ds n st count hub tip=true∧zn4 as.length as ls.length ls ds.length ds n st count hub tip=as.length ∧
   zoc as.length as ls.length ls ds.length ds n st count hub tip=ls.length∧zo7 as.length as ls.length ls ds.length ds n st count hub tip=ds.length∧znm as.length as ls.length ls ds.length ds n st count hub tip=n ∧
   zmv as.length as ls.length ls ds.length ds n st count hub tip=as∧zn5 as.length as ls.length ls ds.length ds n st count hub tip=ls∧znh as.length as ls.length ls ds.length ds n st count hub tip=ds∧zny as.length as ls.length ls ds.length ds n st count hub tip=st ∧
   zpk as.length as ls.length ls ds.length ds n st count hub tip as.length as ls.length ls ds.length ds n st count hub tip=true∧znu as.length as ls.length ls ds.length ds n st count hub tip as.length as ls.length ls ds.length ds n st count hub tip=true)):=by
 have hm:maxLen=9223372036854775807:=by decide
 obtain⟨r1,h2,k1,k1'⟩:=y83 ma ml md h0 h1
 obtain⟨p1,q1⟩:=y8j h2
 obtain⟨r2,h3,k2⟩:=y5o n st r1
 obtain⟨p2,q2⟩:=y68 h3
 have hst:pF st 0 (muN n 3)=st:=pF_all3 z
 have key:z7z as.length as ls.length ls ds.length ds n st count hub tip left=some (if r1<0 then -1 else if r2<0 then -1 else r2):=by
  unfold z7z zi9
  simp only[pF_all,hst,p1,q1,grd_true,p2,q2]
  by_cases c1:r1<0
  ·rw[ltI_t c1,if_pos c1];rfl
  ·rw[ltI_f c1,if_neg c1]
   by_cases c2:r2<0
   ·rw[ltI_t c2,if_pos c2];rfl
   ·rw[ltI_f c2,if_neg c2];rfl
 obtain⟨p0,q0⟩:=ybr key
 refine⟨_,p0,q0,?_,?_⟩
 ·by_cases c1:r1<0
  ·rw[if_pos c1];decide
  ·rw[if_neg c1]
   by_cases c2:r2<0
   ·rw[if_pos c2];decide
   ·rw[if_neg c2]
    exact (k2 (by omega) (by omega) (by rw[hm] at mn;exact mn)).2
 ·by_cases c1:r1<0
  ·rw[if_pos c1];exact .inl (by decide)
  ·rw[if_neg c1]
   by_cases c2:r2<0
   ·rw[if_pos c2];exact .inl (by decide)
   ·rw[if_neg c2]
    have l1:=k1 (by omega)
    obtain⟨k2,_⟩:=k2 (by omega) (by omega) (by rw[hm] at mn;exact mn)
    obtain⟨_,l2⟩:=k2 (by omega)
    obtain⟨p3,a3,b3,c3,d3,e3,f3⟩:=y7y (y7b (as:=as) (ls:=ls) (ds:=ds) (by omega) (by omega) (by omega))
    obtain⟨p4,a4,b4⟩:=y6e (y56 z (by omega))
    have kt:z1v as.length as ls.length ls ds.length ds n st count hub tip=some (as.length,ls.length,ds.length,n,as,ls,ds,st):=by
     unfold z1v zie
     simp only[pF_all,hst,p3,a3,b3,c3,d3,e3,f3,p4,a4,b4,grd_true]
    obtain⟨p5,q5⟩:=y7c (y3v (as:=as) (ls:=ls) (ds:=ds) (by omega) (by omega) (by omega))
    obtain⟨p6,q6⟩:=y6d (y26 (xs:=st) (n:=n) (by omega))
    obtain⟨p7,q7⟩:=z5a (z4c (fcvV .f32 .f64 hub))
    obtain⟨p8,q8⟩:=z5a (z4c (fcvV .f32 .f64 tip))
    have ke:z7u as.length as ls.length ls ds.length ds n st count hub tip as.length as ls.length ls ds.length ds n st count hub tip=some true:=by
     unfold z7u zih
     simp only[pF_all,hst,p5,q5,p6,q6,p7,q7,p8,q8,grd_true,y9a,z7a,br_false]
    obtain⟨t0,t1,t2,t3,t4,t5,t6,t7,t8⟩:=yap kt
    obtain⟨e0,e1⟩:=ybl ke
    exact .inr ⟨ltI_f c2,by omega,t0,t1,t2,t3,t4,t5,t6,t7,t8,e0,e1⟩
def knotB(as:List Nat)(j:Nat):Bool:=fromToB (as.getD j 0) 3204448256 1056964608&&(decide (j=0)||!fcmp .leq .f32 (as.getD j 0) (as.getD (j-1) 0))
def profB(as ls ds:List Nat)(j:Nat):Bool:=knotB as j&&(finB (ls.getD j 0)&&leastB (ds.getD j 0))
def validProfB(as ls ds:List Nat):Bool:=decide (2≤as.length)&&(decide (as.length≤24)&&(decide (ls.length=as.length)&&(decide (ds.length=as.length)&&(List.range as.length).all (profB as ls ds))))
theorem zhi{n:Nat}{p:Nat→Bool}:(List.range n).all p=true↔∀ j,j<n→p j=true:=by simp[List.all_eq_true]
theorem yh6{x y:Nat}:fcmp .geq .f32 x y=fcmp .leq .f32 y x:=by
 cases hx:nanB .f32 x with
 | true=>rw[(u89 .f32 (.inl hx)).2.2.2.2.2,(u89 .f32 (.inr hx)).2.2.2.1]
 | false=>
  cases hy:nanB .f32 y with
  | true=>rw[(u89 .f32 (.inr hy)).2.2.2.2.2,(u89 .f32 (.inl hy)).2.2.2.1]
  | false=>rw[(u53 .f32 hx hy).2.2.2.2.2,(u53 .f32 hy hx).2.2.2.1]
theorem ltN0(i:Nat):ltI 0 (Int.ofNat i)=!decide (i=0):=by
 rw[show ltI 0 (Int.ofNat i)=decide (0<i) from ltN 0 i]
 by_cases h:i=0
 ·rw[decide_eq_true h,decide_eq_false (by omega)];rfl
 ·rw[decide_eq_false h,decide_eq_true (by omega)];rfl
theorem subN1{i:Nat}(h:i≠0)(h2:i<4611686018427387904):subI .i64 (Int.ofNat i) 1=Int.ofNat (i-1):=by
 have:subI .i64 (Int.ofNat i) 1=(i:Int)-1:=uem (by simp;omega) (by simp;omega)
 rw[this];simp;omega
theorem zy0{as:List Nat}(hl:as.length≤24) :
  z89 as.length (Int.ofNat as.length) as as.length 0=true∧z7h as.length (Int.ofNat as.length) as as.length 0=!(List.range as.length).all (knotB as):=by
 rcases scan (L:=z0s as.length (Int.ofNat as.length) as as.length) (len:=as.length) (knotB as) (g:=fun _=>()) (e:=(Int.ofNat as.length,false))
  (fun n i hi=>by
   rw[zei];unfold z1q
   obtain⟨p1,q1⟩:=zui (zvd (as.getD i 0) 3204448256 1056964608)
   rw[ltN_t hi,okIx_t hi,ix1,addI1 (by omega),ltN0]
   simp only[gF,p1,q1,grd_true,br_true]
   unfold knotB
   by_cases h0:i=0
   ·subst h0
    cases fromToB (as.getD 0 0) 3204448256 1056964608<;>rfl
   ·rw[subN1 h0 (by omega),okIx_t (show i-1<as.length by omega),ix1,yh6,decide_eq_false h0]
    cases fromToB (as.getD i 0) 3204448256 1056964608
    ·rfl
    ·cases fcmp .leq .f32 (as.getD i 0) (as.getD (i-1) 0)<;>rfl)
  (fun n=>by rw[zei];unfold z1q;rw[ltN_f (Nat.le_refl _)];rfl) as.length 0 big (by omega) (uet (by omega)) with⟨h1,h2⟩ | ⟨j,_,h2,h3,h4⟩
 ·obtain⟨g1,g2,_⟩:=zup rfl h2
  rw[zhi.2 fun j hj=>h1 j (Nat.zero_le _) hj]
  exact⟨g1,g2⟩
 ·obtain⟨g1,g2⟩:=zve rfl h4
  have:(List.range as.length).all (knotB as)=false:=by
   cases hh:(List.range as.length).all (knotB as) with
   | false=>rfl
   | true=>rw[zhi.1 hh j h2] at h3;cases h3
  rw[this]
  exact⟨g1,g2⟩
theorem yew{xs:List Nat}{p:Nat→Bool}:xs.all p=true↔∀ j,j<xs.length→p (xs.getD j 0)=true:=by
 rw[List.all_eq_true]
 constructor
 ·intro h j hj;exact h _ (yh3 hj)
 ·intro h x hx
  obtain⟨i,hi,rfl⟩:=List.getElem_of_mem hx
  have:=h i hi
  simpa [List.getD_eq_getElem?_getD,hi] using this
theorem ltN2(n:Nat):ltI (Int.ofNat n) 2=!decide (2≤n):=by
 rw[show ltI (Int.ofNat n) 2=decide (n<2) from ltN n 2]
 by_cases h:2≤n
 ·rw[decide_eq_true h,decide_eq_false (by omega)];rfl
 ·rw[decide_eq_false h,decide_eq_true (by omega)];rfl
theorem gtN(c n:Nat):ltI (Int.ofNat c) (Int.ofNat n)=!decide (n≤c):=by
 rw[ltN]
 by_cases h:n≤c
 ·rw[decide_eq_true h,decide_eq_false (by omega)];rfl
 ·rw[decide_eq_false h,decide_eq_true (by omega)];rfl
theorem neN(m n:Nat):neI (Int.ofNat m) (Int.ofNat n)=!decide (m=n):=by
 unfold neI
 by_cases h:m=n
 ·subst h;simp
 ·rw[decide_eq_false h];simp;omega
theorem y1w{as ls ds:List Nat}(hl:ls.length<281474976710656)(hd:ds.length<281474976710656):z4a as.length as ls.length ls ds.length ds=some (validProfB as ls ds):=by
 obtain⟨p1,q1⟩:=zsh (zt1 hl)
 obtain⟨p2,q2⟩:=y9w (y9r hd)
 unfold z4a zai validProfB
 rw[ltN2,show ltI 24 (Int.ofNat as.length)=!decide (as.length≤24) from gtN 24 _,neN,neN]
 simp only[pF_all,p1,q1,p2,q2,grd_true]
 by_cases c1:2≤as.length
 ·by_cases c2:as.length≤24
  ·by_cases c3:ls.length=as.length
   ·by_cases c4:ds.length=as.length
    ·obtain⟨g1,g2⟩:=zy0 c2
     rw[decide_eq_true c1,decide_eq_true c2,decide_eq_true c3,decide_eq_true c4,g1,g2]
     have key:(List.range as.length).all (profB as ls ds)=(ls.all finB&&(ds.all leastB&&(List.range as.length).all (knotB as))):=by
      rw[Bool.eq_iff_iff,Bool.and_eq_true,Bool.and_eq_true,zhi,zhi,yew,yew,c3,c4]
      constructor
      ·intro h
       refine⟨fun j hj => ?_,fun j hj => ?_,fun j hj => ?_⟩
       all_goals have:=h j hj;unfold profB at this;simp only[Bool.and_eq_true] at this
       ·exact this.2.1
       ·exact this.2.2
       ·exact this.1
      ·rintro⟨h1,h2,h3⟩ j hj
       unfold profB
       rw[h1 j hj,h2 j hj,h3 j hj];rfl
     rw[key]
     cases ls.all finB<;>cases ds.all leastB<;>cases (List.range as.length).all (knotB as)<;>rfl
    ·rw[decide_eq_false c4]
     rw[decide_eq_true c1,decide_eq_true c2,decide_eq_true c3];rfl
   ·rw[decide_eq_false c3]
    rw[decide_eq_true c1,decide_eq_true c2];rfl
  ·rw[decide_eq_false c2]
   rw[decide_eq_true c1];rfl
 ·rw[decide_eq_false c1];rfl
theorem ye6{as ls ds:List Nat}:za0 as.length as ls.length ls ds.length ds=some (validProfB as ls ds):=by
 unfold za0 zon validProfB
 rw[ltN2,show ltI 24 (Int.ofNat as.length)=!decide (as.length≤24) from gtN 24 _,neN,neN]
 by_cases c1:2≤as.length
 ·by_cases c2:as.length≤24
  ·by_cases c3:ls.length=as.length
   ·by_cases c4:ds.length=as.length
    ·rw[decide_eq_true c1,decide_eq_true c2,decide_eq_true c3,decide_eq_true c4]
     rcases scan (L:=z1w (Int.ofNat as.length) as ls ds as.length ls.length ds.length) (len:=as.length) (profB as ls ds) (g:=fun _=>()) (e:=(Int.ofNat as.length,false))
      (fun n i hi=>by
       rw[zn3];unfold z4g
       obtain⟨p1,q1⟩:=z1l (z1k (ls.getD i 0))
       obtain⟨p2,q2⟩:=zv2 (zva (ds.getD i 0))
       rw[ltN_t hi,okIx_t hi,ix1,addI1 (by omega),ltN0,okIx_t (show i<ls.length by omega),okIx_t (show i<ds.length by omega)]
       simp only[gF,p1,q1,p2,q2,grd_true,br_true]
       unfold profB knotB fromToB
       by_cases h0:i=0
       ·subst h0
        cases fcmp .geq .f32 (as.getD 0 0) 3204448256<;>cases fcmp .leq .f32 (as.getD 0 0) 1056964608<;>cases finB (ls.getD 0 0)<;>cases leastB (ds.getD 0 0)<;>rfl
       ·rw[subN1 h0 (by omega),okIx_t (show i-1<as.length by omega),ix1,decide_eq_false h0]
        cases fcmp .geq .f32 (as.getD i 0) 3204448256<;>cases fcmp .leq .f32 (as.getD i 0) 1056964608<;>cases fcmp .leq .f32 (as.getD i 0) (as.getD (i-1) 0)<;>cases finB (ls.getD i 0)<;>cases leastB (ds.getD i 0)<;>rfl)
      (fun n=>by rw[zn3];unfold z4g;rw[ltN_f (Nat.le_refl _)];rfl) as.length 0 big (by omega) (uet (by omega)) with⟨h1,h2⟩ | ⟨j,_,h2,h3,h4⟩
     ·obtain⟨g1,g2,_⟩:=y7t rfl h2
      rw[zhi.2 fun j hj=>h1 j (Nat.zero_le _) hj]
      show grd (zba (Int.ofNat as.length) as ls ds as.length ls.length ds.length (Int.ofNat 0)) (br (za3 (Int.ofNat as.length) as ls ds as.length ls.length ds.length (Int.ofNat 0)) _ _)=_
      rw[g1,g2];rfl
     ·obtain⟨g1,g2⟩:=y8o rfl h4
      have:(List.range as.length).all (profB as ls ds)=false:=by
       cases hh:(List.range as.length).all (profB as ls ds) with
       | false=>rfl
       | true=>rw[zhi.1 hh j h2] at h3;cases h3
      rw[this]
      show grd (zba (Int.ofNat as.length) as ls ds as.length ls.length ds.length (Int.ofNat 0)) (br (za3 (Int.ofNat as.length) as ls ds as.length ls.length ds.length (Int.ofNat 0)) _ _)=_
      rw[g1,g2];rfl
    ·rw[decide_eq_false c4]
     rw[decide_eq_true c1,decide_eq_true c2,decide_eq_true c3];rfl
   ·rw[decide_eq_false c3]
    rw[decide_eq_true c1,decide_eq_true c2];rfl
  ·rw[decide_eq_false c2]
   rw[decide_eq_true c1];rfl
 ·rw[decide_eq_false c1];rfl
def ringP(st:List Nat)(tip i s:Nat):Bool:=fcmp .gtr .f32 (st.getD (i*3) 0) s&&(fcmp .lss .f32 (st.getD (i*3) 0) tip&&(posB (st.getD (i*3).succ 0)&&finB (st.getD (i*3).succ.succ 0)))
def ringsW(st:List Nat)(n hub tip:Nat):Unit⊕Nat:=walkS (ringP st tip) (fun i _=>st.getD (i*3) 0) (fun _ _=>()) id n 0 hub
def validRotorB(as ls ds st:List Nat)(n:Nat)(count:Int)(hub tip:Nat):Bool:=
 validProfB as ls ds&&(inB count 1 6&&(decide (2≤n)&&(decide (n≤12)&&(leastB hub&&(finB tip&&(ringsW st n hub tip).isRight)))))
theorem y1y{st:List Nat}{n hub tip:Nat}(hl:n≤12):z9i n (Int.ofNat n) st tip hub 0=true∧z8w n (Int.ofNat n) st tip hub 0=!(ringsW st n hub tip).isRight:=by
 have hf:=walks (L:=fun m i s=>z0h n (Int.ofNat n) st tip m s i) (len:=n) (ringP st tip) (fun i _=>st.getD (i*3) 0) (g:=fun _ _=>()) (e:=fun s=>(s,Int.ofNat n,false))
  (fun m i s hi=>by
   show z0h _ _ _ _ _ _ _=if _ then z0h _ _ _ _ _ _ _ else _
   rw[zha];unfold z26
   obtain⟨p1,q1⟩:=zgt (show z1r 1 (pF [st.getD (i*3).succ 0] 0 (muN 1 1))=some (posB (st.getD (i*3).succ 0)) by
    have:=zgn (xs:=[st.getD (i*3).succ 0]) (by simp)
    simpa [pF,muN] using this)
   obtain⟨p2,q2⟩:=z3s (z3w (st.getD (i*3).succ.succ 0))
   rw[ltN_t hi,okIx_t hi,ix3,addI1 (by omega)]
   simp only[gF,p1,q1,p2,q2,grd_true,br_true]
   unfold ringP
   cases fcmp .gtr .f32 (st.getD (i*3) 0) s<;>cases fcmp .lss .f32 (st.getD (i*3) 0) tip<;>cases posB (st.getD (i*3).succ 0)<;>cases finB (st.getD (i*3).succ.succ 0)<;>rfl)
  (fun m s=>by show z0h _ _ _ _ _ _ _=_;rw[zha];unfold z26;rw[ltN_f (Nat.le_refl _)];rfl) n 0 big hub (by omega) (uet (by omega))
 rw[y5k (γ:=Unit)] at hf
 have hw:ringsW st n hub tip=walkS (ringP st tip) (fun i _=>st.getD (i*3) 0) (fun _ _=>()) id n 0 hub:=rfl
 rw[← hw] at hf
 cases hc:ringsW st n hub tip with
 | inl u=>rw[hc] at hf;obtain⟨g1,g2⟩:=zy8 rfl hf;exact⟨g1,g2⟩
 | inr s=>rw[hc] at hf;obtain⟨g1,g2,_⟩:=zx7 rfl hf;exact⟨g1,g2⟩
theorem yb8{st:List Nat}{n hub tip:Nat}(hl:n≤12):zh7 (Int.ofNat n) st n tip hub 0=true∧zf1 (Int.ofNat n) st n tip hub 0=!(ringsW st n hub tip).isRight:=by
 have hf:=walks (L:=fun m i s=>z14 (Int.ofNat n) st n tip m s i) (len:=n) (ringP st tip) (fun i _=>st.getD (i*3) 0) (g:=fun _ _=>()) (e:=fun s=>(s,Int.ofNat n,false))
  (fun m i s hi=>by
   show z14 _ _ _ _ _ _ _=if _ then z14 _ _ _ _ _ _ _ else _
   rw[zol];unfold z4f
   obtain⟨p1,q1⟩:=zel (zeo (st.getD (i*3).succ 0))
   obtain⟨p2,q2⟩:=z1l (z1k (st.getD (i*3).succ.succ 0))
   rw[ltN_t hi,okIx_t hi,ix3,addI1 (by omega)]
   simp only[gF,p1,q1,p2,q2,grd_true,br_true]
   unfold ringP
   cases fcmp .gtr .f32 (st.getD (i*3) 0) s<;>cases fcmp .lss .f32 (st.getD (i*3) 0) tip<;>cases posB (st.getD (i*3).succ 0)<;>cases finB (st.getD (i*3).succ.succ 0)<;>rfl)
  (fun m s=>by show z14 _ _ _ _ _ _ _=_;rw[zol];unfold z4f;rw[ltN_f (Nat.le_refl _)];rfl) n 0 big hub (by omega) (uet (by omega))
 rw[y5k (γ:=Unit)] at hf
 have hw:ringsW st n hub tip=walkS (ringP st tip) (fun i _=>st.getD (i*3) 0) (fun _ _=>()) id n 0 hub:=rfl
 rw[← hw] at hf
 cases hc:ringsW st n hub tip with
 | inl u=>rw[hc] at hf;obtain⟨g1,g2⟩:=y84 rfl hf;exact⟨g1,g2⟩
 | inr s=>rw[hc] at hf;obtain⟨g1,g2,_⟩:=y7x rfl hf;exact⟨g1,g2⟩
theorem zr6{as ls ds st:List Nat}{n:Nat}{count:Int}{hub tip:Nat}(hl:ls.length<281474976710656)(hd:ds.length<281474976710656) :
  z5j as.length as ls.length ls ds.length ds n st count hub tip=some (validRotorB as ls ds st n count hub tip):=by
 obtain⟨p1,q1⟩:=y2f (y1w (as:=as) hl hd)
 obtain⟨p2,q2⟩:=zq5 (zpn count 1 6)
 obtain⟨p3,q3⟩:=zwz (zx1 hub)
 obtain⟨p4,q4⟩:=z3s (z3w tip)
 unfold z5j zcu validRotorB
 rw[ltN2,show ltI 12 (Int.ofNat n)=!decide (n≤12) from gtN 12 _]
 simp only[pF_all,p1,q1,p2,q2,p3,q3,p4,q4,grd_true]
 by_cases c2:n≤12
 ·obtain⟨g1,g2⟩:=y1y (st:=st) (hub:=hub) (tip:=tip) c2
  rw[g1,g2,decide_eq_true c2]
  cases validProfB as ls ds<;>cases inB count 1 6<;>cases decide (2≤n)<;>cases leastB hub<;>cases finB tip<;>cases (ringsW st n hub tip).isRight<;>rfl
 ·rw[decide_eq_false c2]
  cases validProfB as ls ds<;>cases inB count 1 6<;>cases decide (2≤n)<;>rfl
theorem y2l{as ls ds st:List Nat}{n:Nat}{count:Int}{hub tip:Nat} :
  z9y as.length as ls.length ls ds.length ds n st count hub tip=some (validRotorB as ls ds st n count hub tip):=by
 obtain⟨p1,q1⟩:=ye5 (ye6 (as:=as) (ls:=ls) (ds:=ds))
 obtain⟨p2,q2⟩:=y2i (y2q count 1 6)
 obtain⟨p3,q3⟩:=zv2 (zva hub)
 obtain⟨p4,q4⟩:=z1l (z1k tip)
 unfold z9y znn validRotorB
 rw[ltN2,show ltI 12 (Int.ofNat n)=!decide (n≤12) from gtN 12 _]
 simp only[pF_all,p1,q1,p2,q2,p3,q3,p4,q4,grd_true]
 by_cases c2:n≤12
 ·obtain⟨g1,g2⟩:=yb8 (st:=st) (hub:=hub) (tip:=tip) c2
  rw[g1,g2,decide_eq_true c2]
  cases validProfB as ls ds<;>cases inB count 1 6<;>cases decide (2≤n)<;>cases leastB hub<;>cases finB tip<;>cases (ringsW st n hub tip).isRight<;>rfl
 ·rw[decide_eq_false c2]
  cases validProfB as ls ds<;>cases inB count 1 6<;>cases decide (2≤n)<;>rfl
theorem zt0(x:Nat):z4m x=some (checkV x,finB x):=by
 obtain⟨h1,h2⟩:=z1l (z1k x)
 unfold z4m zg0 checkV
 rw[h1,h2]
 cases finB x<;>rfl
def solid(st:List Nat)(count i:Int):Nat:=fop .quo .f32 (fop .mul .f32 (fOI .f32 count) (gF st (Nat.succ (ixO 0 i 3)))) (fop .mul .f32 1086918619 (gF st (ixO 0 i 3)))
def stationB(n:Nat)(i:Int):Bool:=inB i 0 (subI .i64 (Int.ofNat n) 1)
theorem zfd{n:Nat}{i:Int}(h:stationB n i=true)(hn:n≤1099511627776):okIx i n=true:=by
 have h1:=yfq h
 have:subI .i64 (Int.ofNat n) 1=(n:Int)-1:=uem (by simp;omega) (by simp;omega)
 rw[this] at h1
 exact decide_eq_true ⟨h1.1,by omega⟩
theorem zvt{as ls ds st:List Nat}{n:Nat}{count:Int}{hub tip:Nat}(i:Int):z31 as.length as ls.length ls ds.length ds n st count hub tip i=some (stationB n i):=by
 obtain⟨p,q⟩:=zq5 (zpn i 0 (subI .i64 (Int.ofNat n) 1))
 unfold z31 z85
 rw[p,q];rfl
def mixed(a b s:Nat):Nat:=fop .add .f32 a (fop .mul .f32 s (fop .sub .f32 b a))
theorem zqj{as ls ds:List Nat}(h:validProfB as ls ds=true):2≤as.length∧as.length≤24∧ls.length=as.length∧ds.length=as.length:=by
 unfold validProfB at h
 simp only[Bool.and_eq_true,decide_eq_true_eq] at h
 exact⟨h.1,h.2.1,h.2.2.1,h.2.2.2.1⟩
theorem zx8(k:FloatKind)(x:Nat):fcmp .neq k (fop .sub k x x) 0=!finW k x:=by
 cases hn:nanB k x with
 | true=>
  rw[yf5 (.inl hn),(u89 k (.inl (u9v k))).2.1,zts hn];rfl
 | false=>
  cases hf:finW k x with
  | true=>
   rw[u28 hf hf]
   have h0:(vl k x-vl k x).natAbs=0:=by simp
   rw[h0,u8j]
   generalize sgn0 _ _ _=s
   cases k<;>cases s<;>decide +kernel
  | false=>
   have hr:=inf_read hn hf
   have e:fop .sub k x x=qn k:=by
    unfold fop floatBits Ieee.Format.sub
    simp only[hr]
    cases nn k x<;>simp[Ieee.Datum.opposite,Ieee.Datum.sum]
   rw[e,(u89 k (.inl (u9v k))).2.1];rfl
def rnd1(u D p:Nat):Nat:=fop .sub .f64 4607182418800017408 (fop .quo .f64 (fop .mul .f64 u p) D)
def poly(u:Nat):Nat:=rnd1 u 4618441417868443648 (rnd1 u 4626322717216342016 (rnd1 u 4631107791820423168 (rnd1 u 4634766966517661696 (rnd1 u 4637440978796412928 (rnd1 u 4639692778610098176 (rnd1 u 4641592734702895104 (rnd1 u 4643492690795692032 4607182418800017408)))))))
theorem zzq(u:Nat):z9x u 4607182418800017408 4620693217682128896=true∧z75 u 4607182418800017408 4620693217682128896=poly u:=by
 obtain⟨n,hn⟩:∃ n,big=n+9:=⟨big-9,by have:=uet (k:=9) (by decide);omega⟩
 have step:∀ m p k k' D,fcmp .geq .f64 k 4607182418800017408=true→fop .sub .f64 k 4607182418800017408=k'→fop .mul .f64 (fop .mul .f64 4611686018427387904 k) (fop .add .f64 (fop .mul .f64 4611686018427387904 k) 4607182418800017408)=D →
   z1u u (m+1) p k=z1u u m (rnd1 u D p) k':=by
  intro m p k k' D h1 h2 h3
  rw[zp0];unfold z53
  rw[h1,h2,h3];rfl
 have hf:z1u u big 4607182418800017408 4620693217682128896=some (poly u,0,false):=by
  rw[hn,step (n+8) _ 4620693217682128896 4619567317775286272 4643492690795692032 (by decide +kernel) (by decide +kernel) (by decide +kernel),
   step (n+7) _ 4619567317775286272 4618441417868443648 4641592734702895104 (by decide +kernel) (by decide +kernel) (by decide +kernel),
   step (n+6) _ 4618441417868443648 4617315517961601024 4639692778610098176 (by decide +kernel) (by decide +kernel) (by decide +kernel),
   step (n+5) _ 4617315517961601024 4616189618054758400 4637440978796412928 (by decide +kernel) (by decide +kernel) (by decide +kernel),
   step (n+4) _ 4616189618054758400 4613937818241073152 4634766966517661696 (by decide +kernel) (by decide +kernel) (by decide +kernel),
   step (n+3) _ 4613937818241073152 4611686018427387904 4631107791820423168 (by decide +kernel) (by decide +kernel) (by decide +kernel),
   step (n+2) _ 4611686018427387904 4607182418800017408 4626322717216342016 (by decide +kernel) (by decide +kernel) (by decide +kernel),
   step (n+1) _ 4607182418800017408 0 4618441417868443648 (by decide +kernel) (by decide +kernel) (by decide +kernel)]
  rw[zp0];unfold z53
  rw[show fcmp .geq .f64 0 4607182418800017408=false from by decide +kernel];rfl
 obtain⟨g1,g2,_⟩:=yad rfl hf
 exact⟨g1,g2⟩
theorem zzi(u:Nat):z1c u 4607182418800017408 8=true∧z08 u 4607182418800017408 8=poly u:=by
 obtain⟨n,hn⟩:∃ n,big=n+9:=⟨big-9,by have:=uet (k:=9) (by decide);omega⟩
 have step:∀ m p (k k':Int) D,leI 1 k=true→subI .i64 k 1=k'→fOI .f64 (mulI .i64 (mulI .i64 2 k) (addI .i64 (mulI .i64 2 k) 1))=D →
   z0l u (m+1) p k=z0l u m (rnd1 u D p) k':=by
  intro m p k k' D h1 h2 h3
  rw[zeh];unfold z1o
  rw[h1,h2,h3];rfl
 have hf:z0l u big 4607182418800017408 8=some (poly u,0,false):=by
  rw[hn,step (n+8) _ 8 7 4643492690795692032 (by decide +kernel) (by decide +kernel) (by decide +kernel),
   step (n+7) _ 7 6 4641592734702895104 (by decide +kernel) (by decide +kernel) (by decide +kernel),
   step (n+6) _ 6 5 4639692778610098176 (by decide +kernel) (by decide +kernel) (by decide +kernel),
   step (n+5) _ 5 4 4637440978796412928 (by decide +kernel) (by decide +kernel) (by decide +kernel),
   step (n+4) _ 4 3 4634766966517661696 (by decide +kernel) (by decide +kernel) (by decide +kernel),
   step (n+3) _ 3 2 4631107791820423168 (by decide +kernel) (by decide +kernel) (by decide +kernel),
   step (n+2) _ 2 1 4626322717216342016 (by decide +kernel) (by decide +kernel) (by decide +kernel),
   step (n+1) _ 1 0 4618441417868443648 (by decide +kernel) (by decide +kernel) (by decide +kernel)]
  rw[zeh];unfold z1o
  rw[show leI 1 0=false from by decide +kernel];rfl
 obtain⟨g1,g2,_⟩:=zux rfl hf
 exact⟨g1,g2⟩
def halfS(r:Nat):Nat:=
 if fcmp .gtr .f64 r 4598175219545276416=true then fop .mul .f64 (fop .mul .f64 (fop .sub .f64 4602678819172646912 r) 4618760256179416344) (poly (fop .mul .f64 (fop .mul .f64 (fop .sub .f64 4602678819172646912 r) 4618760256179416344) (fop .mul .f64 (fop .sub .f64 4602678819172646912 r) 4618760256179416344)))
 else fop .mul .f64 (fop .mul .f64 r 4618760256179416344) (poly (fop .mul .f64 (fop .mul .f64 r 4618760256179416344) (fop .mul .f64 r 4618760256179416344)))
def sineA(q:Nat):Nat:=if fcmp .geq .f64 q 4602678819172646912=true then fneg .f64 (halfS (fop .sub .f64 q 4602678819172646912)) else halfS q
noncomputable def zz(x:Nat):Nat:=fop .sub .f64 x (fOI .f64 (f2iV .f64 x .i64))
noncomputable def qq(x:Nat):Nat:=if fcmp .lss .f64 (zz x) 0=true then fop .add .f64 (zz x) 4607182418800017408 else zz x
noncomputable def sineV(x:Nat):Nat:=sineA (qq x)
def smallB(x:Nat):Bool:=decide (rg FloatKind.f64.format x<4841369599423283200)
theorem zhw{x:Nat}(h:smallB x=true):finW .f64 x=true:=u06 (Nat.le_of_lt (of_decide_eq_true h)) (by decide +kernel)
theorem zxk{x:Nat}(h:smallB x=true):mg .f64 x/2^1074≤4503599627370496:=by
 have h1:mg .f64 x≤rungV FloatKind.f64.format 4841369599423283200:=u1i (Nat.le_of_lt (of_decide_eq_true h))
 have h2:rungV FloatKind.f64.format 4841369599423283200≤4503599627370496*2^1074:=by decide +kernel
 exact div_bound _ _ 1074 (Nat.le_trans h1 h2)
theorem y65{x:Nat}(h:smallB x=true):f2iB .f64 x .i64=true∧f2iV .f64 x .i64=sg (nn .f64 x) (mg .f64 x/2^1074):=by
 have hw:=zxk h
 have hi:=integral_zero (zhw h) (N:=1074) (by decide +kernel)
 generalize mg .f64 x/2^1074=w at hw hi ⊢
 have hi:(FloatKind.f64.decode x).integral .zero=.number (nn .f64 x) w 0:=hi
 have e:floatToIntVal .f64 x .i64=some (sg (nn .f64 x) w):=by
  unfold floatToIntVal Ieee.Datum.toInt
  rw[hi]
  simp only[u1q,Nat.pow_zero,Nat.mul_one]
  have hmin:IntKind.i64.min=-9223372036854775808:=by decide
  have hmax:IntKind.i64.max=9223372036854775807:=by decide
  rw[hmin,hmax,if_pos]
  unfold sg
  by_cases hs:nn .f64 x=true
  ·rw[if_pos hs];omega
  ·rw[if_neg hs];omega
 unfold f2iB f2iV
 rw[e,u1g (zhw h)]
 exact⟨rfl,rfl⟩
theorem zz_rg{x:Nat}(h:smallB x=true):rg FloatKind.f64.format (zz x)≤4607182418800017408:=by
 have hw:=zxk h
 obtain⟨_,h2⟩:=y65 h
 unfold zz
 rw[h2]
 have hmd:=Nat.div_add_mod (mg .f64 x) (2^1074)
 have hlt:=Nat.mod_lt (mg .f64 x) (Nat.two_pow_pos 1074)
 generalize hW:mg .f64 x/2^1074=w at hw hmd ⊢
 obtain⟨r,r1,r2,r3⟩:=fOI_exact (n:=sg (nn .f64 x) w) (by rw[u39];omega)
 rw[u39] at r3
 show rg FloatKind.f64.format (fop .sub .f64 x (floatOfInt .f64 (sg (nn .f64 x) w)))≤_
 rw[r2]
 have hf2:finW .f64 (FloatKind.f64.format.word (decide (sg (nn .f64 x) w<0)) r)=true:=u06 (by rw[u0f _ _ (Nat.le_of_lt r1)];exact Nat.le_refl _) r1
 rw[u28 (zhw h) hf2,u0f _ _ (u0i _ _ _)]
 refine u13 FloatKind.f64.format (u:=0) (v:=0) (by unfold lp;omega) ?_
 rw[Nat.pow_zero,Nat.mul_one,Nat.mul_one]
 have h1:rungV FloatKind.f64.format 4607182418800017408=2^1074:=by decide +kernel
 rw[h1]
 have hv:vl .f64 (FloatKind.f64.format.word (decide (sg (nn .f64 x) w<0)) r)=sg (nn .f64 x) (w*2^1074):=by
  unfold vl
  rw[u9x _ _ (Nat.le_of_lt r1),u3m _ _ (Nat.le_of_lt r1),r3]
  generalize (2:Nat)^1074=T
  unfold sg
  by_cases hs:nn .f64 x=true
  ·rw[if_pos hs,if_pos hs]
   by_cases h0:w=0
   ·subst h0;simp
   ·rw[if_pos (decide_eq_true (by omega))]
  ·rw[if_neg hs,if_neg hs,if_neg (by simp)]
 rw[hv]
 unfold vl
 generalize 2^1074=T at hmd hlt ⊢
 have hm:mg .f64 x=w*T+mg .f64 x%T:=by rw[Nat.mul_comm];exact hmd.symm
 unfold sg
 by_cases hs:nn .f64 x=true
 ·rw[if_pos hs,if_pos hs];omega
 ·rw[if_neg hs,if_neg hs];omega
theorem y6b{x:Nat}(h:smallB x=true):z5c x=some (qq x):=by
 obtain⟨_,h2⟩:=y65 h
 have hw:=zxk h
 have hi:=integral_zero (zhw h) (N:=1074) (by decide +kernel)
 have hf:fint .zero x=FloatKind.f64.format.nearest (nn .f64 x) (mg .f64 x/2^1074) 0:=by
  have hi:(FloatKind.f64.decode x).integral .zero=.number (nn .f64 x) (mg .f64 x/2^1074) 0:=hi
  unfold fint
  rw[u1g (zhw h),hi,if_neg (by decide)]
  rfl
 obtain⟨p,q⟩:=ye1 (show za8 x=some (fint .zero x) by
  unfold za8 znz
  simp only[nanQ,u1g (zhw h),bnot,Bool.not_false,grd_true])
 unfold z5c zdf
 rw[p,q]
 generalize hW:mg .f64 x/2^1074=w at hw h2 hf
 have hz:zz x=fop .sub .f64 x (if w=0 then 0 else fint .zero x)∧fcmp .eql .f64 (fint .zero x) 0=decide (w=0):=by
  by_cases h0:w=0
  ·rw[if_pos h0,decide_eq_true h0]
   subst h0
   constructor
   ·unfold zz
    rw[h2]
    have:sg (nn .f64 x) 0=0:=by cases nn .f64 x<;>rfl
    rw[this]
    have:fOI .f64 0=0:=by decide +kernel
    rw[this]
   ·rw[hf]
    cases nn .f64 x<;>decide +kernel
  ·rw[if_neg h0,decide_eq_false h0]
   obtain⟨r,r1,r2,r3⟩:=fOI_exact (n:=sg (nn .f64 x) w) (by rw[u39];omega)
   have hs:decide (sg (nn .f64 x) w<0)=nn .f64 x:=by
    unfold sg
    cases nn .f64 x
    ·exact decide_eq_false (by simp)
    ·exact decide_eq_true (by simp;omega)
   have hr:rnd FloatKind.f64.format w 0=r:=by
    have e:=ube .f64 (sg (nn .f64 x) w)
    rw[r2,u39] at e
    have e2:=congrArg (rg FloatKind.f64.format) e
    rw[u0f _ _ (Nat.le_of_lt r1),u0f _ _ (u0i _ _ _)] at e2
    exact e2.symm
   have hfi:fint .zero x=FloatKind.f64.format.word (nn .f64 x) r:=by rw[hf,(u0b _ _ _ _).1,hr]
   have hr0:r≠0:=by
    rintro rfl
    rw[u5q,u39] at r3
    have:=Nat.mul_pos (show 0<w by omega) (Nat.two_pow_pos 1074)
    omega
   constructor
   ·unfold zz
    rw[h2,show fOI .f64 (sg (nn .f64 x) w)=floatOfInt .f64 (sg (nn .f64 x) w) from rfl,r2,hs,hfi]
   ·have hn1:nanB .f64 (fint .zero x)=false:=by rw[hfi];exact u3b .f64 _ (Nat.le_of_lt r1)
    rw[(u53 .f64 hn1 (by decide +kernel)).1]
    refine decide_eq_false ?_
    intro e
    rw[show srung FloatKind.f64.format 0=0 from by decide +kernel] at e
    have:rg FloatKind.f64.format (fint .zero x)=r:=by rw[hfi];exact u0f _ _ (Nat.le_of_lt r1)
    unfold srung at e
    rw[this] at e
    unfold sg at e
    by_cases hs:ngB FloatKind.f64.format (fint .zero x)=true
    ·rw[if_pos hs] at e;omega
    ·rw[if_neg hs] at e;omega
 rw[hz.2]
 unfold qq
 rw[hz.1]
 by_cases h0:w=0
 ·rw[decide_eq_true h0,if_pos h0,br_true]
  cases fcmp .lss .f64 (fop .sub .f64 x 0) 0<;>rfl
 ·rw[decide_eq_false h0,if_neg h0,br_false]
  cases fcmp .lss .f64 (fop .sub .f64 x (fint .zero x)) 0<;>rfl
theorem yec{x:Nat}(h:smallB x=true):zc3 x=some (sineV x):=by
 obtain⟨p,q⟩:=y60 (y6b h)
 have h1:=fun u=>(zzq u).1
 have h2:=fun u=>(zzq u).2
 unfold zc3 zqn
 simp only[p,q,h1,h2,grd_true]
 unfold sineV sineA halfS
 generalize qq x=q
 cases fcmp .geq .f64 q 4602678819172646912
 ·cases fcmp .gtr .f64 q 4598175219545276416<;>rfl
 ·cases fcmp .gtr .f64 (fop .sub .f64 q 4602678819172646912) 4598175219545276416<;>rfl
theorem yb0(x:Nat):finW .f64 (fcvV .f32 .f64 x)=finW .f32 x:=by
 cases hn:nanB .f32 x with
 | true=>
  have e:fcvV .f32 .f64 x=qn .f64:=by unfold fcvV fcv;rw[hn];rfl
  rw[e,yhf,zts hn]
 | false=>
  cases hf:finW .f32 x with
  | true=>
   have h1:rg FloatKind.f32.format x≤2139095039:=by
    have:=u21 hf
    have hi:FloatKind.f32.format.infRung=2139095040:=by decide
    omega
   exact u06 (up_rg (c:=5183643170566569984) (N:=925) h1 (by decide +kernel) (by decide +kernel) (by decide +kernel)) (by decide +kernel)
  | false=>
   have hr:=inf_read hn hf
   have e:fcvV .f32 .f64 x=FloatKind.f64.format.word (nn .f32 x) FloatKind.f64.format.infRung:=by
    obtain⟨r,hr2⟩:=u8p x
    have hv:fcvV .f32 .f64 x=r:=by unfold fcvV;rw[hr2];rfl
    rw[hv]
    unfold fcv at hr2
    rw[hn] at hr2
    simp only[Bool.false_eq_true,if_false] at hr2
    unfold floatToFloatBits at hr2
    rw[if_neg (by intro h;cases h)] at hr2
    have hd:FloatKind.f32.decode x=.infinity (nn .f32 x):=hr
    rw[hd] at hr2
    simp only at hr2
    cases hr2
    rfl
   rw[e]
   unfold finW
   rw[u0f _ _ (Nat.le_refl _)]
   exact decide_eq_false (by omega)
theorem up_is{x:Nat}(h:finW .f32 x=true):∃ s r,fcvV .f32 .f64 x=FloatKind.f64.format.word s r∧r<FloatKind.f64.format.infRung:=by
 have e:=uf7 h
 have hf:finW .f64 (fcvV .f32 .f64 x)=true:=by rw[yb0,h]
 refine⟨_,_,e,?_⟩
 have:=u21 hf
 rw[e] at this
 have hw:rg FloatKind.f64.format (Ieee.double.word (nn .f32 x) (rnd Ieee.double (mg .f32 x) (lp .f32)))=_:=u0f .f64 _ (u0i _ _ _)
 rw[hw] at this
 exact this
theorem yf0{s:Bool}{r:Nat}(h:r<FloatKind.f64.format.infRung):zg1 (FloatKind.f64.format.word s r)=some r:=by
 have hi:FloatKind.f64.format.infRung=9218868437227405312:=by decide
 rw[hi] at h
 have hn:nanB .f64 (FloatKind.f64.format.word s r)=false:=u3b .f64 s (by rw[hi];omega)
 have hn2:nanB .f64 r=false:=by
  have:=u3b .f64 false (r:=r) (by rw[hi];omega)
  exact this
 have hw:FloatKind.f64.format.word s r%9223372036854775808=r:=by
  have:rg FloatKind.f64.format (FloatKind.f64.format.word s r)=r:=u0f _ _ (by rw[hi];omega)
  exact this
 have hb:bitI .andNot .u64 (Int.ofNat (FloatKind.f64.format.word s r)) 9223372036854775808=Int.ofNat r:=by
  generalize FloatKind.f64.format.word s r=x at hw
  have e1:bitI .andNot .u64 (Int.ofNat x) 9223372036854775808=IntKind.u64.wrap ((BitVec.ofInt 64 (Int.ofNat x) &&& ~~~BitVec.ofInt 64 9223372036854775808).toNat):=rfl
  have e2:BitVec.ofInt 64 (Int.ofNat x)=BitVec.ofNat 64 x:=BitVec.ofInt_natCast ..
  have e3:(~~~BitVec.ofInt 64 9223372036854775808).toNat=2^63-1:=by decide +kernel
  rw[e1,e2,BitVec.toNat_and,e3,BitVec.toNat_ofNat,Nat.and_two_pow_sub_one_eq_mod]
  have e4:x%2^64%2^63=r:=by omega
  rw[e4]
  simp[IntKind.wrap,IntKind.bits,IntKind.signed]
  omega
 unfold zg1 ztm
 rw[hb]
 have ho:okU .f64 (Int.ofNat r)=true:=decide_eq_true ⟨by simp,by
  show r<2^FloatKind.f64.format.width
  have:FloatKind.f64.format.width=64:=by decide
  rw[this];omega⟩
 have hc:cnI .f64 (Int.ofNat r)=r:=by
  show cn .f64 r=r
  exact u03 hn2
 rw[ho,hc]
 simp only[nanQ,hn,bnot,Bool.not_false,grd_true]
theorem ycw{x:Nat}{s:Bool}{r:Nat}(e:x=FloatKind.f64.format.word s r)(h:r<FloatKind.f64.format.infRung):z90 x=some (!smallB x):=by
 obtain⟨p,q⟩:=yf1 (yf0 (s:=s) h)
 unfold z90 zkg
 rw[e,p,q]
 have hn:nanB .f64 r=false:=u3b .f64 false (Nat.le_of_lt h)
 have hs:srung FloatKind.f64.format r=(r:Int):=by
  have h1:rg FloatKind.f64.format r=r:=u0f .f64 false (Nat.le_of_lt h)
  have h2:nn .f64 r=false:=u3m .f64 false (Nat.le_of_lt h)
  unfold srung
  rw[h1,show ngB FloatKind.f64.format r=false from h2]
  rfl
 rw[(u53 .f64 hn (by decide +kernel)).2.2.2.2.2,hs,show srung FloatKind.f64.format 4841369599423283200=4841369599423283200 from by decide +kernel]
 unfold smallB
 rw[u0f _ _ (Nat.le_of_lt h)]
 by_cases hh:r<4841369599423283200
 ·rw[decide_eq_true hh,decide_eq_false (by omega)];rfl
 ·rw[decide_eq_false hh,decide_eq_true (by omega)];rfl
theorem yfw{x:Nat}{s:Bool}{r:Nat}(e:x=FloatKind.f64.format.word s r)(h:r<FloatKind.f64.format.infRung):(fcmp .geq .f64 x 4841369599423283200||fcmp .leq .f64 x 14064741636278059008)=!smallB x:=by
 have hn:nanB .f64 x=false:=by rw[e];exact u3b .f64 s (Nat.le_of_lt h)
 have hs:srung FloatKind.f64.format x=sg s r:=by
  have h1:rg FloatKind.f64.format x=r:=by rw[e];exact u0f .f64 s (Nat.le_of_lt h)
  have h2:nn .f64 x=s:=by rw[e];exact u3m .f64 s (Nat.le_of_lt h)
  unfold srung
  rw[h1,show ngB FloatKind.f64.format x=s from h2]
 rw[(u53 .f64 hn (by decide +kernel)).2.2.2.2.2,(u53 .f64 hn (by decide +kernel)).2.2.2.1,hs,show srung FloatKind.f64.format 4841369599423283200=4841369599423283200 from by decide +kernel,show srung FloatKind.f64.format 14064741636278059008=-4841369599423283200 from by decide +kernel]
 unfold smallB
 rw[show rg FloatKind.f64.format x=r from by rw[e];exact u0f .f64 s (Nat.le_of_lt h)]
 unfold sg
 by_cases hh:r<4841369599423283200
 ·rw[decide_eq_true hh]
  cases s
  ·rw[if_neg (by decide),decide_eq_false (by omega),decide_eq_false (by omega)];rfl
  ·rw[if_pos rfl,decide_eq_false (by omega),decide_eq_false (by omega)];rfl
 ·rw[decide_eq_false hh]
  cases s
  ·rw[if_neg (by decide),decide_eq_true (by omega)];rfl
  ·rw[if_pos rfl,decide_eq_true (p:=-(r:Int)≤-4841369599423283200) (by omega)]
   simp
theorem zmf{u D p a b m c d B:Nat}(hu:rg FloatKind.f64.format u≤a)(hp:rg FloatKind.f64.format p≤b)(ha:a<FloatKind.f64.format.infRung)(hb:b<FloatKind.f64.format.infRung)(hm:m<FloatKind.f64.format.infRung)(hc:c<FloatKind.f64.format.infRung)
  (h1:rungV FloatKind.f64.format a*rungV FloatKind.f64.format b≤rungV FloatKind.f64.format m*2^1074) (hD:finW .f64 D=true) (hB:B≤mg .f64 D) (hB0:0<B) (h2:2*rungV FloatKind.f64.format m*2^1074≤rungV FloatKind.f64.format c*B)
  (h3:rungV FloatKind.f64.format 4607182418800017408+rungV FloatKind.f64.format c≤rungV FloatKind.f64.format d):rg FloatKind.f64.format (rnd1 u D p)≤d:=by
 have g1:rg FloatKind.f64.format (fop .mul .f64 u p)≤m:=mul_rg (N:=1074) hu hp ha hb (by decide +kernel) h1
 have g2:rg FloatKind.f64.format (fop .quo .f64 (fop .mul .f64 u p) D)≤c:=quo_rg (N:=1074) (u06 g1 hm) hD (u1i g1) hB hB0 (by decide +kernel) h2
 exact ubu (show rg FloatKind.f64.format 4607182418800017408≤4607182418800017408 by decide +kernel) g2 (by decide +kernel) hc h3
theorem yh5{u:Nat}(hu:rg FloatKind.f64.format u≤4661225614328463360):rg FloatKind.f64.format (poly u)≤5039527983027585024:=by
 have g0:=zmf (a:=4661225614328463360) (b:=4607182418800017408) (m:=4661225614328463360) (c:=4656722014701092864) (d:=4661225614328463360) (B:=6*2^1074) (D:=4643492690795692032) hu (show rg FloatKind.f64.format 4607182418800017408≤4607182418800017408 by decide +kernel) (by decide +kernel) (by decide +kernel) (by decide +kernel) (by decide +kernel) (by decide +kernel) (by decide +kernel) (by decide +kernel) (by decide +kernel) (by decide +kernel) (by decide +kernel)
 have g1:=zmf (a:=4661225614328463360) (b:=4661225614328463360) (m:=4715268809856909312) (c:=4710765210229538816) (d:=4715268809856909312) (B:=6*2^1074) (D:=4641592734702895104) hu g0 (by decide +kernel) (by decide +kernel) (by decide +kernel) (by decide +kernel) (by decide +kernel) (by decide +kernel) (by decide +kernel) (by decide +kernel) (by decide +kernel) (by decide +kernel)
 have g2:=zmf (a:=4661225614328463360) (b:=4715268809856909312) (m:=4769312005385355264) (c:=4764808405757984768) (d:=4769312005385355264) (B:=6*2^1074) (D:=4639692778610098176) hu g1 (by decide +kernel) (by decide +kernel) (by decide +kernel) (by decide +kernel) (by decide +kernel) (by decide +kernel) (by decide +kernel) (by decide +kernel) (by decide +kernel) (by decide +kernel)
 have g3:=zmf (a:=4661225614328463360) (b:=4769312005385355264) (m:=4823355200913801216) (c:=4818851601286430720) (d:=4823355200913801216) (B:=6*2^1074) (D:=4637440978796412928) hu g2 (by decide +kernel) (by decide +kernel) (by decide +kernel) (by decide +kernel) (by decide +kernel) (by decide +kernel) (by decide +kernel) (by decide +kernel) (by decide +kernel) (by decide +kernel)
 have g4:=zmf (a:=4661225614328463360) (b:=4823355200913801216) (m:=4877398396442247168) (c:=4872894796814876672) (d:=4877398396442247168) (B:=6*2^1074) (D:=4634766966517661696) hu g3 (by decide +kernel) (by decide +kernel) (by decide +kernel) (by decide +kernel) (by decide +kernel) (by decide +kernel) (by decide +kernel) (by decide +kernel) (by decide +kernel) (by decide +kernel)
 have g5:=zmf (a:=4661225614328463360) (b:=4877398396442247168) (m:=4931441591970693120) (c:=4926937992343322624) (d:=4931441591970693120) (B:=6*2^1074) (D:=4631107791820423168) hu g4 (by decide +kernel) (by decide +kernel) (by decide +kernel) (by decide +kernel) (by decide +kernel) (by decide +kernel) (by decide +kernel) (by decide +kernel) (by decide +kernel) (by decide +kernel)
 have g6:=zmf (a:=4661225614328463360) (b:=4931441591970693120) (m:=4985484787499139072) (c:=4980981187871768576) (d:=4985484787499139072) (B:=6*2^1074) (D:=4626322717216342016) hu g5 (by decide +kernel) (by decide +kernel) (by decide +kernel) (by decide +kernel) (by decide +kernel) (by decide +kernel) (by decide +kernel) (by decide +kernel) (by decide +kernel) (by decide +kernel)
 have g7:=zmf (a:=4661225614328463360) (b:=4985484787499139072) (m:=5039527983027585024) (c:=5035024383400214528) (d:=5039527983027585024) (B:=6*2^1074) (D:=4618441417868443648) hu g6 (by decide +kernel) (by decide +kernel) (by decide +kernel) (by decide +kernel) (by decide +kernel) (by decide +kernel) (by decide +kernel) (by decide +kernel) (by decide +kernel) (by decide +kernel)
 exact g7
theorem yhd(x:Nat)(h:nanB .f64 x=false):rg FloatKind.f64.format (fneg .f64 x)=rg FloatKind.f64.format x:=by
 have e:fneg .f64 x=x ^^^ 2^63:=by
  unfold fneg
  rw[h,if_neg (by decide)]
  rfl
 rw[e]
 show (x ^^^ 2^63)%FloatKind.f64.format.signWeight=x%FloatKind.f64.format.signWeight
 rw[show FloatKind.f64.format.signWeight=2^63 from by decide,Nat.xor_mod_two_pow,Nat.mod_self,Nat.xor_zero]
theorem yen{r:Nat}(h:rg FloatKind.f64.format r≤4616189618054758400):rg FloatKind.f64.format (halfS r)≤5066549580791808000:=by
 have key:∀ y,rg FloatKind.f64.format y≤4620693217682128896→rg FloatKind.f64.format (fop .mul .f64 (fop .mul .f64 y 4618760256179416344) (poly (fop .mul .f64 (fop .mul .f64 y 4618760256179416344) (fop .mul .f64 y 4618760256179416344))))≤5066549580791808000:=by
  intro y hy
  have g1:rg FloatKind.f64.format (fop .mul .f64 y 4618760256179416344)≤4634204016564240384:=mul_rg (N:=1074) hy (show rg FloatKind.f64.format 4618760256179416344≤4618760256179416344 by decide +kernel) (by decide +kernel) (by decide +kernel) (by decide +kernel) (by decide +kernel)
  have g2:rg FloatKind.f64.format (fop .mul .f64 (fop .mul .f64 y 4618760256179416344) (fop .mul .f64 y 4618760256179416344))≤4661225614328463360:=mul_rg (N:=1074) g1 g1 (by decide +kernel) (by decide +kernel) (by decide +kernel) (by decide +kernel)
  exact mul_rg (N:=1074) g1 (yh5 g2) (by decide +kernel) (by decide +kernel) (by decide +kernel) (by decide +kernel)
 unfold halfS
 split
 ·exact key _ (ubu (show rg FloatKind.f64.format 4602678819172646912≤4602678819172646912 by decide +kernel) h (by decide +kernel) (by decide +kernel) (by decide +kernel))
 ·exact key _ (Nat.le_trans h (by decide))
theorem ygo{x:Nat}(h:smallB x=true):rg FloatKind.f64.format (sineV x)≤5066549580791808000:=by
 have g0:=zz_rg h
 have g1:rg FloatKind.f64.format (qq x)≤4611686018427387904:=by
  unfold qq
  split
  ·exact uel g0 (show rg FloatKind.f64.format 4607182418800017408≤4607182418800017408 by decide +kernel) (by decide +kernel) (by decide +kernel) (by decide +kernel)
  ·exact Nat.le_trans g0 (by decide)
 unfold sineV sineA
 generalize qq x=q at g1
 split
 ·have g2:rg FloatKind.f64.format (halfS (fop .sub .f64 q 4602678819172646912))≤5066549580791808000:=yen (ubu g1 (show rg FloatKind.f64.format 4602678819172646912≤4602678819172646912 by decide +kernel) (by decide +kernel) (by decide +kernel) (by decide +kernel))
  rw[yhd _ (u1g (u06 g2 (by decide +kernel)))]
  exact g2
 ·exact yen (Nat.le_trans g1 (by decide))
theorem ybq{x:Nat}(h:smallB x=true):fcvB .f64 .f32 (sineV x)=true:=
 uba (c:=1920991232) (N:=925) (ygo h) (by decide +kernel) (by decide +kernel) (by decide +kernel) (by decide +kernel)
noncomputable def sineT(x:Nat):Nat:=if finB x=true then (if smallB (fcvV .f32 .f64 x)=true then fcvV .f64 .f32 (sineV (fcvV .f32 .f64 x)) else 0) else qn .f32
theorem y8x:zfc=some (qn .f64):=by
 unfold zfc ztg
 rw[show okU .f64 9221120237041090561=true from by decide +kernel,show cnI .f64 9221120237041090561=qn .f64 from by decide +kernel];rfl
theorem z73(x:Nat):z6d x=some (sineT x):=by
 obtain⟨p1,q1⟩:=z3s (z3w x)
 obtain⟨p2,q2⟩:=y8w y8x
 unfold z6d zeu sineT
 rw[p1,q1,p2,q2,show fcvB .f64 .f32 (qn .f64)=true from by decide +kernel,show fcvV .f64 .f32 (qn .f64)=qn .f32 from by decide +kernel]
 cases hf:finB x
 ·rfl
 ·rw[zqa] at hf
  obtain⟨s,r,e,hr⟩:=up_is hf
  obtain⟨p3,q3⟩:=ycl (ycw e hr)
  rw[p3,q3]
  cases hs:smallB (fcvV .f32 .f64 x)
  ·rfl
  ·obtain⟨p4,q4⟩:=yeh (yec hs)
   rw[p4,q4,ybq hs];rfl
theorem y2z{x:Nat}(hb:smallB x=true)(hg:fcmp .geq .f64 x 4841369599423283200=false)(hl:fcmp .leq .f64 x 14064741636278059008=false):z28 x=some (sineV x):=by
 obtain⟨h0,_⟩:=y65 hb
 have h1:=fun u=>(zzi u).1
 have h2:=fun u=>(zzi u).2
 have h3:fcmp .neq .f64 (fop .sub .f64 x x) 0=false:=by rw[zx8,zhw hb];rfl
 unfold z28 z6o
 simp only[h0,h1,h2,h3,hg,hl,grd_true,br_false]
 unfold sineV sineA halfS qq zz
 generalize fop .sub .f64 x (fOI .f64 (f2iV .f64 x .i64))=z
 cases fcmp .lss .f64 z 0
 ·cases h5:fcmp .geq .f64 z 4602678819172646912
  ·cases hc:fcmp .gtr .f64 z 4598175219545276416<;>simp[br,hc,h5]
  ·cases hc:fcmp .gtr .f64 (fop .sub .f64 z 4602678819172646912) 4598175219545276416<;>simp[br,hc,h5]
 ·generalize fop .add .f64 z 4607182418800017408=z
  cases h5:fcmp .geq .f64 z 4602678819172646912
  ·cases hc:fcmp .gtr .f64 z 4598175219545276416<;>simp[br,hc,h5]
  ·cases hc:fcmp .gtr .f64 (fop .sub .f64 z 4602678819172646912) 4598175219545276416<;>simp[br,hc,h5]
theorem zsw{x:Nat}(h:fcvB .f64 .f32 x=true):z63 x=some (fcvV .f64 .f32 x):=by
 unfold z63 zer
 rw[h];rfl
theorem z8j(x:Nat):z6l x=some (sineT x):=by
 have key:∀ v,z28 (fcvV .f32 .f64 x)=some v→fcvB .f64 .f32 v=true→z6l x=some (fcvV .f64 .f32 v):=by
  intro v h1 h2
  obtain⟨p1,q1⟩:=y4k h1
  obtain⟨p2,q2⟩:=zt5 (zsw h2)
  unfold z6l zii
  rw[p1,q1,p2,q2];rfl
 unfold sineT
 cases hf:finB x
 ·have h3:fcmp .neq .f64 (fop .sub .f64 (fcvV .f32 .f64 x) (fcvV .f32 .f64 x)) 0=true:=by
   rw[zx8,yb0,← zqa,hf];rfl
  obtain⟨p2,q2⟩:=y8w y8x
  have:=key (qn .f64) (by unfold z28 z6o;rw[h3,p2,q2];rfl) (by decide +kernel)
  rw[this,show fcvV .f64 .f32 (qn .f64)=qn .f32 from by decide +kernel];rfl
 ·have hf':=hf
  rw[zqa] at hf
  obtain⟨s,r,e,hr⟩:=up_is hf
  have hh:=yfw e hr
  have h3:fcmp .neq .f64 (fop .sub .f64 (fcvV .f32 .f64 x) (fcvV .f32 .f64 x)) 0=false:=by
   rw[zx8,yb0,hf];rfl
  cases hs:smallB (fcvV .f32 .f64 x)
  ·rw[hs] at hh
   have:=key 0 (by
    unfold z28 z6o
    rw[h3]
    cases hg:fcmp .geq .f64 (fcvV .f32 .f64 x) 4841369599423283200
    ·rw[hg] at hh
     have hl:fcmp .leq .f64 (fcvV .f32 .f64 x) 14064741636278059008=true:=hh
     rw[hl];rfl
    ·rfl) (by decide +kernel)
   rw[this,show fcvV .f64 .f32 0=0 from by decide +kernel];rfl
  ·rw[hs] at hh
   have hg:fcmp .geq .f64 (fcvV .f32 .f64 x) 4841369599423283200=false:=by
    cases hg:fcmp .geq .f64 (fcvV .f32 .f64 x) 4841369599423283200 with
    | false=>rfl
    | true=>rw[hg] at hh;cases hh
   have hl:fcmp .leq .f64 (fcvV .f32 .f64 x) 14064741636278059008=false:=by
    rw[hg] at hh
    exact hh
   exact key _ (y2z hs hg hl) (ybq hs)
def listOf(f:Nat→Nat)(n:Nat):List Nat:=(List.range n).map f
theorem z8z(f:Nat→Nat)(n:Nat):(listOf f n).length=n:=by simp[listOf]
theorem zx5(f:Nat→Nat)(n:Nat):listOf f (n+1)=listOf f n++[f n]:=by simp[listOf,List.range_succ]
theorem yg7(f:Nat→Nat)(n:Nat):pF (listOf f n) 0 (muN n 1)=listOf f n:=by
 have:=pF_all (listOf f n);rw[z8z] at this;exact this
theorem ygp{y:Nat}(hn:nanB .f64 y=false)(h:fcvB .f64 .f32 y=true):nanB .f32 (fcvV .f64 .f32 y)=false:=by
 unfold fcvB at h
 obtain⟨r,hr⟩:=Option.isSome_iff_exists.1 h
 have hv:fcvV .f64 .f32 y=r:=by unfold fcvV;rw[hr];rfl
 rw[hv]
 unfold fcv at hr
 rw[hn] at hr
 simp only[Bool.false_eq_true,if_false] at hr
 unfold floatToFloatBits at hr
 rw[if_neg (by intro h;cases h)] at hr
 split at hr
 ·cases hr
 ·cases hr
  exact u3b .f32 _ (Nat.le_refl _)
 ·split at hr
  ·cases hr
  ·cases hr
   show nanB .f32 (FloatKind.f32.format.nearest _ _ _)=false
   rw[(u0b _ _ _ _).1]
   exact u3b .f32 _ (u0i _ _ _)
noncomputable def wrapY(x:Nat):Nat:=fop .sub .f64 (fcvV .f32 .f64 x) (fint .down (fop .add .f64 (fcvV .f32 .f64 x) 4602678819172646912))
noncomputable def wrapV(x:Nat):Nat:=if fcmp .geq .f32 (fcvV .f64 .f32 (wrapY x)) 1056964608=true then 3204448256 else fcvV .f64 .f32 (wrapY x)
theorem yel{x:Nat}(h:finB x=true):finW .f64 (fcvV .f32 .f64 x)=true∧rg FloatKind.f64.format (fcvV .f32 .f64 x)≤5183643171103440896:=by
 rw[zqa] at h
 have h1:rg FloatKind.f32.format x≤2139095039:=by
  have:=u21 h
  have hi:FloatKind.f32.format.infRung=2139095040:=by decide
  omega
 exact⟨by rw[yb0,h],up_rg (N:=925) h1 (by decide +kernel) (by decide +kernel) (by decide +kernel)⟩
theorem yfr{x:Nat}(h:finB x=true):nanB .f32 (wrapV x)=false:=by
 obtain⟨h1,h2⟩:=yel h
 obtain⟨w1,w2,w3⟩:=wrap_down h1 h2
 unfold wrapV
 split
 ·decide +kernel
 ·exact ygp w3 w2
theorem y6z{x:Nat}(h:finB x=true):z68 x=some (wrapV x):=by
 obtain⟨h1,h2⟩:=yel h
 obtain⟨w1,w2,w3⟩:=wrap_down h1 h2
 obtain⟨p,q⟩:=y2v (y2x w1)
 unfold z68 zev wrapV wrapY
 rw[p,q,w2,br_if]
 split<;>rfl
theorem ybm{x:Nat}(h:finB x=true):z7w x=some (wrapV x):=by
 obtain⟨h1,h2⟩:=yel h
 obtain⟨w1,w2,w3⟩:=wrap_down h1 h2
 obtain⟨p,q⟩:=y2v (y2x w1)
 obtain⟨p2,q2⟩:=zt5 (zsw w2)
 unfold z7w zif wrapV wrapY
 rw[p,q,p2,q2,br_if]
 split<;>rfl
theorem yh1(f:Ieee.Format){m:Nat}(h:0<m)(hi:1≤f.infRung)(hb:rungV f 1≤1):rnd f m f.leastPlace≠0:=by
 have:=u5x f (m:=m) (r:=1) (u:=0) (v:=0) (place:=f.leastPlace) hi rfl (by rw[Nat.pow_zero,Nat.mul_one,Nat.mul_one];omega)
 omega
theorem sub_zero{x y:Nat}(hx:finW .f32 x=true)(hy:finW .f32 y=true):fcmp .eql .f32 (fop .sub .f32 x y) 0=fcmp .eql .f32 x y:=by
 have hsub:=u28 hx hy
 have hn:nanB .f32 (fop .sub .f32 x y)=false:=by rw[hsub];exact u3b .f32 _ (u0i _ _ _)
 rw[(u53 .f32 hn yef).1,(u53 .f32 (u1g hx) (u1g hy)).1]
 have hr:rg FloatKind.f32.format (fop .sub .f32 x y)=rnd FloatKind.f32.format (vl .f32 x-vl .f32 y).natAbs (lp .f32):=by rw[hsub];exact u0f _ _ (u0i _ _ _)
 have h0:srung FloatKind.f32.format 0=0:=by decide +kernel
 rw[h0]
 have e1:srung FloatKind.f32.format (fop .sub .f32 x y)=0↔vl .f32 x=vl .f32 y:=by
  have:srung FloatKind.f32.format (fop .sub .f32 x y)=0↔rg FloatKind.f32.format (fop .sub .f32 x y)=0:=by
   unfold srung sg
   by_cases hs:ngB FloatKind.f32.format (fop .sub .f32 x y)=true
   ·rw[if_pos hs];omega
   ·rw[if_neg hs];omega
  rw[this,hr]
  constructor
  ·intro h
   by_cases hd:(vl .f32 x-vl .f32 y).natAbs=0
   ·omega
   ·exact absurd h (yh1 FloatKind.f32.format (by omega) (by decide) (by decide +kernel))
  ·intro h
   have:(vl .f32 x-vl .f32 y).natAbs=0:=by omega
   rw[this,u8j]
 have e2:vl .f32 x=vl .f32 y↔srung FloatKind.f32.format x=srung FloatKind.f32.format y:=by
  have h:=ueh FloatKind.f32.format (nn .f32 x) (nn .f32 y) (rg FloatKind.f32.format x) (rg FloatKind.f32.format y)
  have key:∀ a b:Int,compare a b=.eq↔a=b:=by
   intro a b
   rw[u23]
   by_cases h1:a<b
   ·rw[if_pos h1];constructor
    ·intro h;cases h
    ·intro h;omega
   ·rw[if_neg h1]
    by_cases h2:a=b
    ·rw[if_pos h2];simp[h2]
    ·rw[if_neg h2];constructor
     ·intro h;cases h
     ·intro h;exact absurd h h2
  rw[← key,← key]
  show compare (sg (nn .f32 x) (rungV _ _)) (sg (nn .f32 y) (rungV _ _))=_↔compare (sg _ _) (sg _ _)=_
  rw[h];exact Iff.rfl
 exact decide_eq_decide.2 (e1.trans e2)
theorem ygv{x y:Nat}(hx:nanB .f32 x=false)(hy:nanB .f32 y=false):fcmp .neq .f32 x y=!fcmp .eql .f32 y x:=by
 rw[(u53 .f32 hx hy).2.1,(u53 .f32 hy hx).1]
 congr 1
 exact decide_eq_decide.2 ⟨Eq.symm,Eq.symm⟩
theorem ybo{α β:Type} {L:Nat→Int→Option (α⊕β)} {len:Nat} (p:Nat→Bool) {g:Nat→α} {e:β}
  (hs:∀ n i,i<len→L (n+1) (Int.ofNat i)=if p i=true then L n (Int.ofNat (i+1)) else some (.inl (g i)))
  (he:∀ n,L (n+1) (Int.ofNat len)=some (.inr e)) :
  ∀ k i n,i+k=len→k<n→((∀ j,i≤j→j<len→p j=true)∧L n (Int.ofNat i)=some (.inr e))∨∃ j,i≤j∧j<len∧p j=false∧(∀ l,i≤l→l<j→p l=true)∧L n (Int.ofNat i)=some (.inl (g j))
 | 0,i,n,hk,hn=>by
  obtain⟨n,rfl⟩:∃ m,n=m+1:=⟨n-1,by omega⟩
  obtain rfl:i=len:=by omega
  exact .inl ⟨fun j h1 h2=>by omega,he n⟩
 | k+1,i,n,hk,hn=>by
  obtain⟨n,rfl⟩:∃ m,n=m+1:=⟨n-1,by omega⟩
  have hi:i<len:=by omega
  rw[hs n i hi]
  cases hp:p i with
  | false=>exact .inr ⟨i,Nat.le_refl _,hi,hp,fun l h1 h2=>by omega,by simp⟩
  | true=>
   simp only[if_pos]
   rcases ybo p hs he k (i+1) n (by omega) (by omega) with⟨h1,h2⟩ | ⟨j,h1,h2,h3,h5,h4⟩
   ·refine .inl ⟨fun j h3 h4 => ?_,h2⟩
    by_cases e:j=i
    ·rw[e];exact hp
    ·exact h1 j (by omega) h4
   ·refine .inr ⟨j,by omega,h2,h3,fun l h6 h7 => ?_,h4⟩
    by_cases e:l=i
    ·rw[e];exact hp
    ·exact h5 l (by omega) h7
theorem y0a{as:List Nat}{j:Nat}(h:knotB as j=true):rg FloatKind.f32.format (as.getD j 0)≤1056964608:=by
 unfold knotB fromToB at h
 simp only[Bool.and_eq_true] at h
 exact between_rg (k:=.f32) (by decide +kernel) (by decide +kernel) (by decide +kernel) (by decide +kernel) h.1.1 h.1.2
theorem yf8{as:List Nat}{n:Nat}(h:∀ j,j<n→knotB as j=true):∀ d i,i+d<n→srung FloatKind.f32.format (as.getD i 0)≤srung FloatKind.f32.format (as.getD (i+d) 0)
 | 0,i,_=>Int.le_refl _
 | d+1,i,hi=>by
  have h1:=yf8 h d i (by omega)
  have h2:=h (i+(d+1)) hi
  have n1:nanB .f32 (as.getD (i+(d+1)) 0)=false:=u1g (u06 (y0a h2) (by decide +kernel))
  have n2:nanB .f32 (as.getD (i+d) 0)=false:=u1g (u06 (y0a (h (i+d) (by omega))) (by decide +kernel))
  unfold knotB at h2
  rw[decide_eq_false (by omega),Bool.and_eq_true,Bool.false_or,show i+(d+1)-1=i+d by omega] at h2
  rw[(u53 .f32 n1 n2).2.2.2.1] at h2
  have h3:=h2.2
  simp only[Bool.not_eq_true',decide_eq_false_iff_not] at h3
  omega
def aboveB(as:List Nat)(t j:Nat):Bool:=fcmp .gtr .f32 (as.getD j 0) t
theorem y74{as:List Nat}{t:Nat}(hl:as.length≤24) :
  ((∀ j,j<as.length→aboveB as t j=false)∧z00 as.length (Int.ofNat as.length) as t big 0=some (.inr (Int.ofNat as.length,false))) ∨
  ∃ j,j<as.length∧aboveB as t j=true∧(∀ l,l<j→aboveB as t l=false)∧z00 as.length (Int.ofNat as.length) as t big 0=some (.inl (Int.ofNat j)):=by
 rcases ybo (L:=z00 as.length (Int.ofNat as.length) as t) (len:=as.length) (fun j=>!aboveB as t j) (g:=fun j=>Int.ofNat j) (e:=(Int.ofNat as.length,false))
  (fun n i hi=>by
   rw[z4e];unfold z0a
   rw[ltN_t hi,okIx_t hi,ix1,addI1 (by omega)]
   unfold aboveB
   simp only[gF,br_true,grd_true]
   cases fcmp .gtr .f32 (as.getD i 0) t<;>rfl)
  (fun n=>by rw[z4e];unfold z0a;rw[ltN_f (Nat.le_refl _)];rfl) as.length 0 big (by omega) (uet (by omega)) with⟨h1,h2⟩ | ⟨j,_,h2,h3,h4,h5⟩
 ·exact .inl ⟨fun j hj=>by simpa using h1 j (Nat.zero_le _) hj,h2⟩
 ·exact .inr ⟨j,h2,by simpa using h3,fun l hl=>by simpa using h4 l (Nat.zero_le _) hl,h5⟩
theorem zpc{as:List Nat}{t j:Nat}(hl:as.length≤24)(h1:∀ l,l<j→aboveB as t l=false)(h2:∀ l,j≤l→l<as.length→aboveB as t l=true) :
  ∀ d m,j+d≤as.length→d<m→z1j t as as.length m ((j:Int)+(d:Int)-1)=some ((j:Int)-1,false)
 | 0,m,hd,hm=>by
  obtain⟨m,rfl⟩:∃ k,m=k+1:=⟨m-1,by omega⟩
  rw[zk5];unfold z38
  by_cases h0:j=0
  ·subst h0;rfl
  ·have e:(j:Int)+((0:Nat):Int)-1=Int.ofNat (j-1):=by simp;omega
   have e2:(j:Int)-1=Int.ofNat (j-1):=by simp;omega
   have ha:=h1 (j-1) (by omega)
   unfold aboveB at ha
   rw[e,e2,show leI 0 (Int.ofNat (j-1))=true from decide_eq_true (by simp),okIx_t (show j-1<as.length by omega),ix1]
   show br true (grd true (br (fcmp .gtr .f32 (as.getD (j-1) 0) t) _ (some (_,fcmp .gtr .f32 (as.getD (j-1) 0) t)))) _=_
   rw[ha];rfl
 | d+1,m,hd,hm=>by
  obtain⟨m,rfl⟩:∃ k,m=k+1:=⟨m-1,by omega⟩
  have e:(j:Int)+((d+1:Nat):Int)-1=Int.ofNat (j+d):=by simp;omega
  have ha:=h2 (j+d) (by omega) (by omega)
  unfold aboveB at ha
  rw[zk5];unfold z38
  rw[e,show leI 0 (Int.ofNat (j+d))=true from decide_eq_true (by simp;omega),okIx_t (show j+d<as.length by omega),ix1]
  have e3:subI .i64 (Int.ofNat (j+d)) 1=(j:Int)+(d:Int)-1:=by
   have:subI .i64 (Int.ofNat (j+d)) 1=((j+d:Nat):Int)-1:=uem (by simp;omega) (by simp;omega)
   rw[this];omega
  show br true (grd true (br (fcmp .gtr .f32 (as.getD (j+d) 0) t) (z1j t as as.length m (subI .i64 (Int.ofNat (j+d)) 1)) _)) _=_
  rw[ha,e3]
  exact zpc hl h1 h2 d m (by omega) (by omega)
def pairR(as:List Nat)(j:Nat):Nat×Nat×Nat×Nat:=
 if j=0 then (as.length-1,0,fop .sub .f32 (as.getD (as.length-1) 0) 1065353216,as.getD 0 0)
 else if j=as.length then (as.length-1,0,as.getD (as.length-1) 0,fop .add .f32 (as.getD 0 0) 1065353216)
 else (j-1,j,as.getD (j-1) 0,as.getD j 0)
theorem yf7{x y:Nat}:fcmp .lss .f32 x y=fcmp .gtr .f32 y x:=by
 cases hx:nanB .f32 x with
 | true=>rw[(u89 .f32 (.inl hx)).2.2.1,(u89 .f32 (.inr hx)).2.2.2.2.1]
 | false=>
  cases hy:nanB .f32 y with
  | true=>rw[(u89 .f32 (.inr hy)).2.2.1,(u89 .f32 (.inl hy)).2.2.2.2.1]
  | false=>rw[(u53 .f32 hx hy).2.2.1,(u53 .f32 hy hx).2.2.2.2.1]
theorem ybk{as ls ds:List Nat}(h:validProfB as ls ds=true):∀ j,j<as.length→knotB as j=true:=by
 unfold validProfB at h
 simp only[Bool.and_eq_true] at h
 intro j hj
 have:=zhi.1 h.2.2.2.2 j hj
 unfold profB at this
 rw[Bool.and_eq_true] at this
 exact this.1
theorem yfj{as ls ds:List Nat}{t j l:Nat}(hv:validProfB as ls ds=true)(ht:nanB .f32 t=false)(hj:j<as.length)(ha:aboveB as t j=true)(h1:j≤l)(h2:l<as.length):aboveB as t l=true:=by
 have hk:=ybk hv
 have h3:=yf8 hk (l-j) j (by omega)
 rw[show j+(l-j)=l by omega] at h3
 have n1:nanB .f32 (as.getD j 0)=false:=u1g (u06 (y0a (hk j hj)) (by decide +kernel))
 have n2:nanB .f32 (as.getD l 0)=false:=u1g (u06 (y0a (hk l h2)) (by decide +kernel))
 unfold aboveB at ha ⊢
 rw[(u53 .f32 n1 ht).2.2.2.2.1] at ha
 rw[(u53 .f32 n2 ht).2.2.2.2.1]
 have:=of_decide_eq_true ha
 exact decide_eq_true (by omega)
theorem ygt{as ls ds:List Nat}{x:Nat}(hv:validProfB as ls ds=true)(hx:finB x=true):∃ j,j≤as.length ∧
  z0x as.length as ls.length ls ds.length ds x=some (Int.ofNat (pairR as j).1,Int.ofNat (pairR as j).2.1,(pairR as j).2.2.1,(pairR as j).2.2.2,wrapV x) ∧
  z3c as.length as ls.length ls ds.length ds x=some (Int.ofNat (pairR as j).1,Int.ofNat (pairR as j).2.1,(if fcmp .eql .f32 (fop .sub .f32 (pairR as j).2.2.2 (pairR as j).2.2.1) 0=true then 0 else fop .quo .f32 (fop .sub .f32 (wrapV x) (pairR as j).2.2.1) (fop .sub .f32 (pairR as j).2.2.2 (pairR as j).2.2.1)),fop .sub .f32 (pairR as j).2.2.2 (pairR as j).2.2.1):=by
 obtain⟨c1,c2,c3,c4⟩:=zqj hv
 have ht:=yfr hx
 obtain⟨p1,q1⟩:=y7e (y6z hx)
 obtain⟨p2,q2⟩:=yb6 (ybm hx)
 have hn1:subI .i64 (Int.ofNat as.length) 1=Int.ofNat (as.length-1):=subN1 (by omega) (by omega)
 have o1:okIx (Int.ofNat (as.length-1)) as.length=true:=okIx_t (by omega)
 have o0:okIx 0 as.length=true:=okIx_t (i:=0) (by omega)
 have i0:ixO 0 0 1=0:=rfl
 generalize wrapV x=t at ht q1 q2 ⊢
 rcases y74 (t:=t) c2 with⟨k1,k2⟩ | ⟨j,k1,k2,k3,k4⟩
 ·refine⟨as.length,Nat.le_refl _,?_,?_⟩
  ·obtain⟨g1,g2,_⟩:=zar rfl k2
   have hr:pairR as as.length=(as.length-1,0,as.getD (as.length-1) 0,fop .add .f32 (as.getD 0 0) 1065353216):=by unfold pairR;rw[if_neg (by omega),if_pos rfl]
   rw[hr]
   unfold z0x z5w
   simp only[p1,q1,g1,g2,hn1,o1,o0,ix1,i0,gF,grd_true,br_false]
   rfl
  ·have hd:=zpc (t:=t) (j:=as.length) c2 k1 (fun l h1 h2=>by omega) 0 big (by omega) (uet (by omega))
   rw[show (as.length:Int)+((0:Nat):Int)-1=Int.ofNat (as.length-1) by simp;omega] at hd
   rw[show (as.length:Int)-1=Int.ofNat (as.length-1) by simp;omega] at hd
   obtain⟨g1,g2,_⟩:=zp5 rfl hd
   have hr:pairR as as.length=(as.length-1,0,as.getD (as.length-1) 0,fop .add .f32 (as.getD 0 0) 1065353216):=by unfold pairR;rw[if_neg (by omega),if_pos rfl]
   rw[hr]
   have e1:ltI (Int.ofNat (as.length-1)) 0=false:=ltI_f (by simp)
   have e2:addI .i64 (Int.ofNat (as.length-1)) 1=Int.ofNat as.length:=by rw[addI1 (by omega),show as.length-1+1=as.length by omega]
   have e3:eqI (Int.ofNat as.length) (Int.ofNat as.length)=true:=by simp[eqI]
   have e4:fcmp .lss .f32 t (as.getD 0 0)=false:=by rw[yf7];exact k1 0 (by omega)
   have e5:eqI 0 0=true:=rfl
   unfold z3c zdl
   simp only[zbh,z06,z8p,zbb,zbs,zbx,z5m,z8m,z6y,z8o,z4q,z6c,z66,z9z,z64,z6a,z2b,z67,z2a,p2,q2,hn1,g1,g2,e1,e2,e3,e4,e5,o1,o0,ix1,i0,gF,grd_true,br_false,br_true]
   rw[br_if]
   split<;>rfl
 ·refine⟨j,by omega,?_,?_⟩
  ·obtain⟨g1,g2,g3⟩:=zal rfl k4
   unfold z0x z5w
   simp only[p1,q1,g1,g2,g3,grd_true,br_true]
   by_cases h0:j=0
   ·subst h0
    have hr:pairR as 0=(as.length-1,0,fop .sub .f32 (as.getD (as.length-1) 0) 1065353216,as.getD 0 0):=by unfold pairR;rw[if_pos rfl]
    rw[hr,eqN0]
    simp only[hn1,o1,o0,ix1,i0,gF,grd_true,br_true,decide_eq_true (rfl:(0:Nat)=0)]
    rfl
   ·have hr:pairR as j=(j-1,j,as.getD (j-1) 0,as.getD j 0):=by unfold pairR;rw[if_neg h0,if_neg (by omega)]
    rw[hr,eqN0,decide_eq_false h0,show ltI (Int.ofNat j) 0=false from ltI_f (by simp),subN1 h0 (by omega),okIx_t (show j-1<as.length by omega),okIx_t k1,ix1,ix1]
    rfl
  ·have hd:=zpc (t:=t) (j:=j) c2 k3 (fun l h1 h2=>yfj hv ht k1 k2 h1 h2) (as.length-j) big (by omega) (uet (by omega))
   rw[show (j:Int)+((as.length-j:Nat):Int)-1=Int.ofNat (as.length-1) by simp;omega] at hd
   obtain⟨g1,g2,_⟩:=zp5 rfl hd
   have e5:eqI 0 0=true:=rfl
   unfold z3c zdl
   by_cases h0:j=0
   ·subst h0
    have hr:pairR as 0=(as.length-1,0,fop .sub .f32 (as.getD (as.length-1) 0) 1065353216,as.getD 0 0):=by unfold pairR;rw[if_pos rfl]
    rw[hr]
    have e1:ltI (((0:Nat):Int)-1) 0=true:=rfl
    have e4:fcmp .lss .f32 t (as.getD 0 0)=true:=by rw[yf7];exact k2
    simp only[zbh,z06,z8p,zbb,zbs,zbx,z5m,z8m,z6y,z8o,z4q,z6c,z66,z9z,z64,z6a,z2b,z67,z2a,p2,q2,hn1,g1,g2,e1,e4,e5,o1,o0,ix1,i0,gF,grd_true,br_true]
    rw[br_if]
    split<;>rfl
   ·have hr:pairR as j=(j-1,j,as.getD (j-1) 0,as.getD j 0):=by unfold pairR;rw[if_neg h0,if_neg (by omega)]
    rw[hr]
    have e0:(j:Int)-1=Int.ofNat (j-1):=by simp;omega
    rw[e0] at g2
    have e1:ltI (Int.ofNat (j-1)) 0=false:=ltI_f (by simp)
    have e2:addI .i64 (Int.ofNat (j-1)) 1=Int.ofNat j:=by rw[addI1 (by omega),show j-1+1=j by omega]
    have e3:eqI (Int.ofNat j) (Int.ofNat as.length)=false:=by unfold eqI;exact decide_eq_false (by simp;omega)
    have e6:eqI (Int.ofNat j) 0=false:=by rw[eqN0];exact decide_eq_false h0
    simp only[zbh,z06,z8p,zbb,zbs,zbx,z5m,z8m,z6y,z8o,z4q,z6c,z66,z9z,z64,z6a,z2b,z67,z2a,p2,q2,hn1,g1,g2,e1,e2,e3,e6,okIx_t (show j-1<as.length by omega),okIx_t k1,ix1,gF,grd_true,br_false]
    rw[br_if]
    split<;>rfl
theorem yfs{as ls ds:List Nat}{j:Nat}(hv:validProfB as ls ds=true)(hj:j≤as.length):finW .f32 (pairR as j).2.2.1=true∧finW .f32 (pairR as j).2.2.2=true∧(pairR as j).1<as.length∧(pairR as j).2.1<as.length:=by
 obtain⟨c1,c2,c3,c4⟩:=zqj hv
 have hk:=ybk hv
 have hf:∀ i,i<as.length→rg FloatKind.f32.format (as.getD i 0)≤1056964608:=fun i hi=>y0a (hk i hi)
 have h1:∀ i,i<as.length→finW .f32 (as.getD i 0)=true:=fun i hi=>u06 (hf i hi) (by decide +kernel)
 unfold pairR
 split
 ·refine⟨?_,h1 0 (by omega),by show as.length-1<as.length;omega,by show 0<as.length;omega⟩
  exact u06 (ubu (c:=1073741824) (hf _ (by omega)) (show rg FloatKind.f32.format 1065353216≤1065353216 by decide +kernel) (by decide +kernel) (by decide +kernel) (by decide +kernel)) (by decide +kernel)
 ·split
  ·refine⟨h1 _ (by omega),?_,by show as.length-1<as.length;omega,by show 0<as.length;omega⟩
   exact u06 (uel (c:=1073741824) (hf _ (by omega)) (show rg FloatKind.f32.format 1065353216≤1065353216 by decide +kernel) (by decide +kernel) (by decide +kernel) (by decide +kernel)) (by decide +kernel)
  ·exact⟨h1 _ (by omega),h1 _ (by omega),by show j-1<as.length;omega,by show j<as.length;omega⟩
theorem at_eq{as ls ds xs:List Nat}{x:Nat}(hv:validProfB as ls ds=true)(hx:finB x=true)(hl:xs.length=as.length) :
  ∃ v,z5g as.length as ls.length ls ds.length ds xs.length xs x=some v∧za7 as.length as ls.length ls ds.length ds xs.length xs x=some v:=by
 obtain⟨j,hj,h1,h2⟩:=ygt hv hx
 obtain⟨f1,f2,f3,f4⟩:=yfs hv hj
 generalize pairR as j=P at *
 obtain⟨a,b,low,high⟩:=P
 simp only at h1 h2 f1 f2 f3 f4
 obtain⟨i0,i1,i2,i3,i4,i5⟩:=zw0 h1
 obtain⟨s0,s1,s2,s3,s4⟩:=yas h2
 have hne:fcmp .neq .f32 low high=!fcmp .eql .f32 (fop .sub .f32 high low) 0:=by rw[sub_zero f2 f1,ygv (u1g f1) (u1g f2)]
 have oa:okIx (Int.ofNat a) xs.length=true:=okIx_t (by omega)
 have ob:okIx (Int.ofNat b) xs.length=true:=okIx_t (by omega)
 refine⟨mixed (xs.getD a 0) (xs.getD b 0) (if fcmp .eql .f32 (fop .sub .f32 high low) 0=true then 0 else fop .quo .f32 (fop .sub .f32 (wrapV x) low) (fop .sub .f32 high low)),?_,?_⟩
 ·unfold z5g zd7
  have m:=fun p q s=>ye7 (show ze1 p q s=some (mixed p q s) from rfl)
  simp only[pF_all,i0,i1,i2,i3,i4,i5,hne,oa,ob,ix1,gF,grd_true,(m _ _ _).1,(m _ _ _).2]
  cases fcmp .eql .f32 (fop .sub .f32 high low) 0<;>rfl
 ·unfold za7 zmr
  simp only[pF_all,s0,s1,s2,s3,s4,oa,ob,ix1,gF,grd_true]
  rfl
noncomputable def tipW(st:List Nat)(count:Int)(tip:Nat)(i:Int):Nat:=fop .quo .f32 (fop .mul .f32 (fOI .f32 count) (fop .sub .f32 tip (gF st (ixO 0 i 3)))) (fop .mul .f32 1073741824 (gF st (ixO 0 i 3)))
noncomputable def tipS(st:List Nat)(count:Int)(tip:Nat)(i:Int)(s:Nat):Nat:=fop .quo .f32 (tipW st count tip i) (fop .add .f32 (tipW st count tip i) s)
theorem zga{as ls ds st:List Nat}{n:Nat}{count:Int}{hub tip:Nat}(h:validRotorB as ls ds st n count hub tip=true):n≤12:=by
 unfold validRotorB at h
 simp only[Bool.and_eq_true,decide_eq_true_eq] at h
 exact h.2.2.2.1
def flowB(x:Nat):Bool:=fromToB x 981668463 1048508891
theorem ydb(x:Nat):z8y x=some (flowB x):=by
 obtain⟨p,q⟩:=zui (zvd x 981668463 1048508891)
 unfold z8y zkf
 rw[p,q];rfl
theorem y5d{as ls ds st:List Nat}{n:Nat}{count:Int}{hub tip:Nat}(i:Int)(z:st.length=n*3) :
  z5f as.length as ls.length ls ds.length ds n st count hub tip i=some (validRotorB as ls ds st n count hub tip&&stationB n i):=by
 have hst:pF st 0 (muN n 3)=st:=pF_all3 z
 obtain⟨p1,q1⟩:=y2t (y2l (as:=as) (ls:=ls) (ds:=ds) (st:=st) (n:=n) (count:=count) (hub:=hub) (tip:=tip))
 obtain⟨p2,q2⟩:=y2i (y2q i 0 (subI .i64 (Int.ofNat n) 1))
 unfold z5f zd1
 simp only[pF_all,hst,p1,q1,p2,q2,grd_true]
 cases validRotorB as ls ds st n count hub tip<;>rfl
theorem yez{σ α β:Type}{p:Nat→σ→Bool}{f:Nat→σ→σ}{g:Nat→σ→α}{e:σ→β}{k i:Nat}{s:σ} (h:(walkS p f g e k i s).isRight=true) {j:Nat} (h1:i≤j) (h2:j<i+k):∃ s',p j s'=true:=by
 by_cases hc:∃ s',p j s'=true
 ·exact hc
 ·exfalso
  obtain⟨r,hr⟩:=ydo (p:=p) (f:=f) (g:=g) (e:=e) (j:=j) k i s (fun s'=>by
   cases hp:p j s' with
   | false=>rfl
   | true=>exact absurd ⟨s',hp⟩ hc) h1 h2
  rw[hr] at h
  cases h
theorem yg6{as ls ds st:List Nat}{n:Nat}{count:Int}{hub tip:Nat}{i:Int}(hv:validRotorB as ls ds st n count hub tip=true)(hi:stationB n i=true):finB (gF st (Nat.succ (Nat.succ (ixO 0 i 3))))=true:=by
 have hn:=zga hv
 have h1:=of_decide_eq_true (zfd hi (by omega))
 obtain⟨j,rfl⟩:=Int.eq_ofNat_of_zero_le h1.1
 have hj:j<n:=by omega
 unfold validRotorB at hv
 simp only[Bool.and_eq_true] at hv
 obtain⟨s,hs⟩:=yez hv.2.2.2.2.2.2 (Nat.zero_le j) (by omega)
 unfold ringP at hs
 simp only[Bool.and_eq_true] at hs
 rw[show ixO 0 ((j:Nat):Int) 3=j*3 from ix3 j]
 exact hs.2.2.2
theorem yfo{as ls ds st:List Nat}{n:Nat}{count:Int}{hub tip:Nat}(h:validRotorB as ls ds st n count hub tip=true):validProfB as ls ds=true:=by
 unfold validRotorB at h
 simp only[Bool.and_eq_true] at h
 exact h.1
theorem ygn{x:Nat}(h:flw x):flowB x=true:=by
 obtain⟨h0,h1,h2⟩:=h
 have hl:nanB .f32 981668463=false:=by decide +kernel
 have hh:nanB .f32 1048508891=false:=by decide +kernel
 have el:srung FloatKind.f32.format 981668463=981668463:=by decide +kernel
 have eh:srung FloatKind.f32.format 1048508891=1048508891:=by decide +kernel
 have hn:nanB .f32 x=false:=u1g (u06 h2 (by rw[i32];omega))
 have hs:srung FloatKind.f32.format x=(rg FloatKind.f32.format x:Int):=by
  unfold srung sg
  rw[show ngB FloatKind.f32.format x=false from h0]
  rfl
 unfold flowB fromToB
 rw[(u53 .f32 hn hl).2.2.2.2.2,(u53 .f32 hn hh).2.2.2.1,el,eh,hs,decide_eq_true (by omega),decide_eq_true (by omega)]
 rfl
theorem zyk:flw 981668463:=by unfold flw;decide +kernel
theorem y0l:flw 1048508891:=by unfold flw;decide +kernel
theorem yg5{x:Nat}(h:flw x):rg FloatKind.f32.format x≤1048576000:=by have:=h.2.2;omega
def angB(st:List Nat)(i:Int)(pitch x:Nat):Nat:=fop .sub .f32 (fop .sub .f32 x (gF st (Nat.succ (Nat.succ (ixO 0 i 3))))) pitch
theorem yfa{as ls ds st:List Nat}{n:Nat}{count:Int}{hub tip:Nat}{i:Int}{pitch x y:Nat}(hv:validRotorB as ls ds st n count hub tip=true)(hi:stationB n i=true)(hp:finB pitch=true)(hx:flw x)(hy:flw y):finB (angB st i pitch x)=finB (angB st i pitch y):=by
 have ht:=yg6 hv hi
 rw[zqa] at ht hp
 rw[zqa,zqa]
 exact flow_fin (yg5 hx) (yg5 hy) ht hp
def mayB(as ls ds st:List Nat)(n:Nat)(count:Int)(hub tip:Nat)(i:Int)(wind speed pitch:Nat):Bool:=
 validRotorB as ls ds st n count hub tip&&(stationB n i&&(posB wind&&(posB speed&&(finB pitch&&finB (angB st i pitch 981668463)))))
theorem zwp{as ls ds st:List Nat}{n:Nat}{count:Int}{hub tip:Nat}(i:Int)(wind speed pitch:Nat)(z:st.length=n*3)(hl:ls.length<281474976710656)(hd:ds.length<281474976710656) :
  z81 as.length as ls.length ls ds.length ds n st count hub tip i wind speed pitch=some (mayB as ls ds st n count hub tip i wind speed pitch):=by
 have hst:pF st 0 (muN n 3)=st:=pF_all3 z
 obtain⟨p1,q1⟩:=zqu (zr6 (as:=as) (st:=st) (n:=n) (count:=count) (hub:=hub) (tip:=tip) hl hd)
 obtain⟨p2,q2⟩:=zvr (zvt (as:=as) (ls:=ls) (ds:=ds) (st:=st) (n:=n) (count:=count) (hub:=hub) (tip:=tip) i)
 obtain⟨p3,q3⟩:=zgt (y1e wind speed)
 obtain⟨p4,q4⟩:=z3s (z3w pitch)
 obtain⟨p5,q5⟩:=z3s (z3w (fop .sub .f32 (fop .sub .f32 981668463 (gF st (Nat.succ (Nat.succ (ixO 0 i 3))))) pitch))
 unfold z81 zik mayB
 simp only[pF_all,hst,p1,q1,p2,q2,p3,q3,p4,q4,p5,q5,grd_true]
 cases hv:validRotorB as ls ds st n count hub tip
 ·rfl
 ·cases hi:stationB n i
  ·rfl
  ·have hn:=zga hv
   rw[zfd hi (by omega)]
   cases posB wind<;>cases posB speed<;>cases finB pitch<;>rfl
theorem y9e{as ls ds st:List Nat}{n:Nat}{count:Int}{hub tip:Nat}{i:Int}{pitch:Nat}(hix:okIx i n=true):z6v as.length as ls.length ls ds.length ds n st count hub tip i pitch=some (finB (angB st i pitch 981668463)&&finB (angB st i pitch 1048508891)):=by
 obtain⟨p5,q5⟩:=z1l (z1k (fop .sub .f32 (fop .sub .f32 981668463 (gF st (Nat.succ (Nat.succ (ixO 0 i 3))))) pitch))
 obtain⟨p6,q6⟩:=z1l (z1k (fop .sub .f32 (fop .sub .f32 1048508891 (gF st (Nat.succ (Nat.succ (ixO 0 i 3))))) pitch))
 unfold z6v zh2
 simp only[hix,p5,q5,p6,q6,grd_true]
 show br (finB (angB st i pitch 981668463)) (some (finB (angB st i pitch 1048508891))) (some false)=_
 cases finB (angB st i pitch 981668463)<;>rfl
theorem yda{as ls ds st:List Nat}{n:Nat}{count:Int}{hub tip:Nat}(i:Int)(wind speed pitch:Nat)(z:st.length=n*3) :
  z93 as.length as ls.length ls ds.length ds n st count hub tip i wind speed pitch=some (mayB as ls ds st n count hub tip i wind speed pitch):=by
 have hst:pF st 0 (muN n 3)=st:=pF_all3 z
 obtain⟨p1,q1⟩:=y59 (y5d (as:=as) (ls:=ls) (ds:=ds) (st:=st) (n:=n) (count:=count) (hub:=hub) (tip:=tip) i z)
 obtain⟨p2,q2⟩:=zel (zeo wind)
 obtain⟨p3,q3⟩:=zel (zeo speed)
 obtain⟨p4,q4⟩:=z1l (z1k pitch)
 unfold z93 zk8 mayB
 simp only[pF_all,hst,p1,q1,p2,q2,p3,q3,p4,q4,grd_true]
 cases hv:validRotorB as ls ds st n count hub tip
 ·rfl
 ·cases hi:stationB n i
  ·rfl
  ·have hn:=zga hv
   obtain⟨p5,q5⟩:=y9i (y9e (as:=as) (ls:=ls) (ds:=ds) (st:=st) (count:=count) (hub:=hub) (tip:=tip) (pitch:=pitch) (zfd hi (by omega)))
   rw[p5,q5]
   cases posB wind
   ·rfl
   ·cases posB speed
    ·rfl
    ·cases hp:finB pitch
     ·rfl
     ·rw[← yfa hv hi hp zyk y0l]
      cases finB (angB st i pitch 981668463)<;>rfl
theorem yds{as ls ds st:List Nat}{n:Nat}{count:Int}{hub tip:Nat}{i:Int}{wind speed pitch:Nat}(h:mayB as ls ds st n count hub tip i wind speed pitch=true):validRotorB as ls ds st n count hub tip=true∧stationB n i=true∧finB pitch=true∧∀ x,flw x→finB (angB st i pitch x)=true:=by
 unfold mayB at h
 simp only[Bool.and_eq_true] at h
 obtain⟨h1,h2,h3,h4,h5,h6⟩:=h
 exact⟨h1,h2,h5,fun x hx=>by rw[← yfa h1 h2 h5 zyk hx];exact h6⟩
theorem yge{as ls ds st:List Nat}{n:Nat}{count:Int}{hub tip:Nat}{i:Int}{x pitch:Nat}(z:st.length=n*3)(hv:validRotorB as ls ds st n count hub tip=true)(hi:stationB n i=true) (ha:finB (angB st i pitch x)=true) :
  ∃ a b,z2d as.length as ls.length ls ds.length ds n st count hub tip i x pitch=some (a,b)∧z4u as.length as ls.length ls ds.length ds n st count hub tip i x pitch=some (a,b):=by
 have hst:pF st 0 (muN n 3)=st:=pF_all3 z
 have hn:=zga hv
 have hp:=yfo hv
 have hix:=zfd hi (by omega)
 obtain⟨_,_,c3,c4⟩:=zqj hp
 obtain⟨l,l1,l2⟩:=at_eq hp ha c3
 obtain⟨d,d1,d2⟩:=at_eq hp ha c4
 obtain⟨l3,l4⟩:=zqw l1
 obtain⟨d3,d4⟩:=zqw d1
 obtain⟨l5,l6⟩:=y2s l2
 obtain⟨d5,d6⟩:=y2s d2
 obtain⟨l7,l8⟩:=ybp (show z7v as.length as ls.length ls ds.length ds (angB st i pitch x)=some l by
  unfold z7v zi4
  simp only[pF_all,l5,l6,grd_true])
 obtain⟨d7,d8⟩:=yay (show z7r as.length as ls.length ls ds.length ds (angB st i pitch x)=some d by
  unfold z7r zi2
  simp only[pF_all,d5,d6,grd_true])
 obtain⟨s1,s2⟩:=z72 (z73 x)
 obtain⟨s3,s4⟩:=z72 (z73 (fop .add .f32 x 1048576000))
 obtain⟨s5,s6⟩:=z8i (z8j x)
 obtain⟨s7,s8⟩:=z8i (z8j (fop .add .f32 x 1048576000))
 have ea:fop .sub .f32 (fop .sub .f32 x (gF st (Nat.succ (Nat.succ (ixO 0 i 3))))) pitch=angB st i pitch x:=rfl
 refine⟨fop .add .f32 (fop .mul .f32 l (sineT (fop .add .f32 x 1048576000))) (fop .mul .f32 d (sineT x)),fop .sub .f32 (fop .mul .f32 l (sineT x)) (fop .mul .f32 d (sineT (fop .add .f32 x 1048576000))),?_,?_⟩
 rotate_left
 ·unfold z4u zf8
  simp only[pF_all,hst,hix,ea,l7,l8,d7,d8,s5,s6,s7,s8,grd_true]
 ·unfold z2d zak
  simp only[pF_all,hst,hix,ea,l3,l4,d3,d4,s1,s2,s3,s4,grd_true]
theorem yff{as ls ds st:List Nat}{n:Nat}{count:Int}{hub tip:Nat}{i:Int}{x pitch:Nat}(z:st.length=n*3)(hv:validRotorB as ls ds st n count hub tip=true)(hi:stationB n i=true) (ha:finB (angB st i pitch x)=true) :
  ∃ k m a b,z35 as.length as ls.length ls ds.length ds n st count hub tip i x pitch=some (k,m)∧z2d as.length as ls.length ls ds.length ds n st count hub tip i x pitch=some (a,b)∧z44 as.length as ls.length ls ds.length ds n st count hub tip i x pitch=some (k,m,a,b):=by
 have hst:pF st 0 (muN n 3)=st:=pF_all3 z
 have hn:=zga hv
 have hix:=zfd hi (by omega)
 obtain⟨a,b,h1,h2⟩:=yge z hv hi ha
 obtain⟨a1,a2,a3⟩:=zob h1
 obtain⟨b1,b2,b3⟩:=y7o h2
 obtain⟨s1,s2⟩:=z72 (z73 x)
 obtain⟨s3,s4⟩:=z72 (z73 (fop .add .f32 x 1048576000))
 obtain⟨s5,s6⟩:=z8i (z8j x)
 obtain⟨s7,s8⟩:=z8i (z8j (fop .add .f32 x 1048576000))
 obtain⟨t1,t2⟩:=zxy (show z3h as.length as ls.length ls ds.length ds n st count hub tip i x=some (tipS st count tip i (sineT x)) by
  unfold z3h z8u
  rw[hix,s1,s2];rfl)
 obtain⟨t3,t4⟩:=ycd (show z96 as.length as ls.length ls ds.length ds n st count hub tip i (sineT x)=some (tipS st count tip i (sineT x)) by
  unfold z96 zkb
  rw[hix];rfl)
 obtain⟨o1,o2⟩:=zx9 (show z3g as.length as ls.length ls ds.length ds n st count hub tip i=some (solid st count i) by
  unfold z3g z8x
  rw[hix];rfl)
 obtain⟨o3,o4⟩:=y3y (show z4l as.length as ls.length ls ds.length ds n st count hub tip i=some (solid st count i) by
  unfold z4l zbn
  rw[hix];rfl)
 refine⟨fop .quo .f32 (fop .mul .f32 (solid st count i) a) (fop .mul .f32 (fop .mul .f32 (fop .mul .f32 1082130432 (tipS st count tip i (sineT x))) (sineT x)) (sineT x)),
  fop .quo .f32 (fop .mul .f32 (solid st count i) b) (fop .mul .f32 (fop .mul .f32 (fop .mul .f32 1082130432 (tipS st count tip i (sineT x))) (sineT x)) (sineT (fop .add .f32 x 1048576000))),a,b,?_,h1,?_⟩
 rotate_left
 ·unfold z44 zi3
  simp only[pF_all,hst,b1,b2,b3,s5,s6,s7,s8,t3,t4,o3,o4,grd_true]
 ·unfold z35 zah
  simp only[pF_all,hst,a1,a2,a3,s1,s2,s3,s4,t1,t2,o1,o2,grd_true]
theorem yhc{as ls ds st:List Nat}{n:Nat}{count:Int}{hub tip:Nat}{i:Int}{x wind speed pitch:Nat}(z:st.length=n*3)(hv:validRotorB as ls ds st n count hub tip=true)(hi:stationB n i=true) (ha:finB (angB st i pitch x)=true) :
  ∃ v,z2v as.length as ls.length ls ds.length ds n st count hub tip i x wind speed pitch=some v∧z39 as.length as ls.length ls ds.length ds n st count hub tip i x wind speed pitch=some v:=by
 have hst:pF st 0 (muN n 3)=st:=pF_all3 z
 have hn:=zga hv
 have hix:=zfd hi (by omega)
 obtain⟨k,m,a,b,h1,h2,h3⟩:=yff z hv hi ha
 obtain⟨a1,a2,a3⟩:=znc h1
 obtain⟨b1,b2,b3,b4,b5⟩:=zwq h3
 obtain⟨s1,s2⟩:=z72 (z73 x)
 obtain⟨s3,s4⟩:=z72 (z73 (fop .add .f32 x 1048576000))
 obtain⟨s5,s6⟩:=z8i (z8j x)
 obtain⟨s7,s8⟩:=z8i (z8j (fop .add .f32 x 1048576000))
 refine⟨fop .sub .f32 (fop .mul .f32 (sineT x) (fop .add .f32 1065353216 k)) (fop .mul .f32 (fop .mul .f32 (fop .quo .f32 wind (fop .mul .f32 speed (gF st (ixO 0 i 3)))) (sineT (fop .add .f32 x 1048576000))) (fop .sub .f32 1065353216 m)),?_,?_⟩
 rotate_left
 ·unfold z39 zcy
  simp only[pF_all,hst,hix,b1,b2,b3,s5,s6,s7,s8,grd_true]
 ·unfold z2v z9f
  simp only[pF_all,hst,hix,a1,a2,a3,s1,s2,s3,s4,grd_true]
theorem y64(x y:Nat):z36 x y=some (if (finB x&&finB y)=true then (x,y,true) else (0,0,false)):=by
 obtain⟨p,q⟩:=zsh (show z4v 2 (pF [x,y] 0 (muN 2 1))=some ([x,y].all finB) from zt1 (xs:=[x,y]) (by simp))
 unfold z36 zde
 rw[p,q]
 simp only[List.all_cons,List.all_nil,Bool.and_true,grd_true]
 cases finB x<;>cases finB y<;>rfl
theorem ybt(x y:Nat):z60 x y=some (if (finB x&&finB y)=true then (x,y,true) else (0,0,false)):=by
 obtain⟨p,q⟩:=z1l (z1k x)
 obtain⟨p2,q2⟩:=z1l (z1k y)
 unfold z60 zke
 rw[p,q,p2,q2]
 simp only[grd_true]
 cases finB x<;>cases finB y<;>rfl
noncomputable def balV(as ls ds st:List Nat)(n:Nat)(count:Int)(hub tip:Nat)(i:Int)(wind speed pitch x:Nat):Nat:=(z39 as.length as ls.length ls ds.length ds n st count hub tip i x wind speed pitch).getD 0
theorem yei{as ls ds st:List Nat}{n:Nat}{count:Int}{hub tip:Nat}{i:Int}{wind speed pitch x:Nat}(z:st.length=n*3)(h:mayB as ls ds st n count hub tip i wind speed pitch=true)(hx:flw x) :
  z2v as.length as ls.length ls ds.length ds n st count hub tip i x wind speed pitch=some (balV as ls ds st n count hub tip i wind speed pitch x)∧z39 as.length as ls.length ls ds.length ds n st count hub tip i x wind speed pitch=some (balV as ls ds st n count hub tip i wind speed pitch x):=by
 obtain⟨hv,hi,hp,ha⟩:=yds h
 obtain⟨v,h1,h2⟩:=yhc (wind:=wind) (speed:=speed) (pitch:=pitch) z hv hi (ha x hx)
 have:balV as ls ds st n count hub tip i wind speed pitch x=v:=by unfold balV;rw[h2];rfl
 rw[this]
 exact⟨h1,h2⟩
theorem y86{as ls ds st:List Nat}{n:Nat}{count:Int}{hub tip:Nat}{i:Int}{wind speed pitch x:Nat}(z:st.length=n*3)(hl:ls.length<281474976710656)(hd:ds.length<281474976710656)(h:mayB as ls ds st n count hub tip i wind speed pitch=true)(hx:flw x) :
  z4r as.length as ls.length ls ds.length ds n st count hub tip i x wind speed pitch=some (checkV (balV as ls ds st n count hub tip i wind speed pitch x),finB (balV as ls ds st n count hub tip i wind speed pitch x)):=by
 have hst:pF st 0 (muN n 3)=st:=pF_all3 z
 obtain⟨p1,q1⟩:=zwn (zwp (as:=as) (ls:=ls) (ds:=ds) (st:=st) (n:=n) (count:=count) (hub:=hub) (tip:=tip) i wind speed pitch z hl hd)
 obtain⟨p2,q2⟩:=ydd (ydb x)
 rw[h] at q1
 rw[ygn hx] at q2
 obtain⟨h1,_⟩:=yei z h hx
 obtain⟨p3,q3⟩:=y07 h1
 obtain⟨p4,q4,r4⟩:=zmx (znr (balV as ls ds st n count hub tip i wind speed pitch x))
 unfold z4r zeq
 simp only[pF_all,hst,p1,q1,p2,q2,p3,q3,p4,q4,r4,grd_true,z7a,br_false]
def mid(x y:Nat):Nat:=fop .mul .f32 1056964608 (fop .add .f32 x y)
def bis(B:Nat→Nat):Nat→Nat→Nat→Option (Nat×Nat)
 | 0,low,high=>some (low,high)
 | k+1,low,high=>if finB (B (mid low high))=true then (if fcmp .gtr .f32 (B (mid low high)) 0=true then bis B k low (mid low high) else bis B k (mid low high) high) else none
theorem ycm{B:Nat→Nat}:∀ (k low high:Nat) (r:Nat×Nat),flw low→flw high→bis B k low high=some r→flw r.1
 | 0,low,high,r,hl,hh,h=>by cases h;exact hl
 | k+1,low,high,r,hl,hh,h=>by
  have hm:flw (mid low high):=flw_mid hl hh
  unfold bis at h
  split at h
  ·split at h
   ·exact ycm k low _ r hl hm h
   ·exact ycm k _ high r hm hh h
  ·cases h
def bisE(k:Nat) (r:Option (Nat×Nat)):Unit⊕(Nat×Nat×Int×Bool):=match r with | none=>.inl () | some r=>.inr (r.1,r.2,24,false)
theorem y9d{as ls ds st:List Nat}{n:Nat}{count:Int}{hub tip:Nat}{i:Int}{wind speed pitch:Nat}(z:st.length=n*3)(h:mayB as ls ds st n count hub tip i wind speed pitch=true) :
  ∀ (k t f low high:Nat),t+k=24→k<f→flw low→flw high→z0j i wind speed pitch as ls ds st as.length ls.length ds.length n count hub tip f low high (Int.ofNat t)=some (bisE k (bis (balV as ls ds st n count hub tip i wind speed pitch) k low high))
 | 0,t,f,low,high,ht,hf,_,_=>by
  obtain⟨f,rfl⟩:∃ m,f=m+1:=⟨f-1,by omega⟩
  obtain rfl:t=24:=by omega
  rw[zi1];unfold z2g
  rw[show ltI (Int.ofNat 24) 24=false from ltI_f (by decide)]
  rfl
 | k+1,t,f,low,high,ht,hf,hl,hh=>by
  obtain⟨f,rfl⟩:∃ m,f=m+1:=⟨f-1,by omega⟩
  have hst:pF st 0 (muN n 3)=st:=pF_all3 z
  have hm:flw (mid low high):=flw_mid hl hh
  obtain⟨_,h2⟩:=yei z h hm
  obtain⟨r3,t3⟩:=y5h h2
  obtain⟨p5,q5⟩:=z1l (z1k (balV as ls ds st n count hub tip i wind speed pitch (mid low high)))
  have em:fop .mul .f32 1056964608 (fop .add .f32 low high)=mid low high:=rfl
  rw[zi1];unfold z2g
  rw[show ltI (Int.ofNat t) 24=true from ltI_t (by simp;omega),addI1 (by omega)]
  simp only[em,pF_all,hst,r3,t3,p5,q5,grd_true,br_true]
  unfold bis
  cases finB (balV as ls ds st n count hub tip i wind speed pitch (mid low high))
  ·rfl
  ·cases fcmp .gtr .f32 (balV as ls ds st n count hub tip i wind speed pitch (mid low high)) 0
   ·exact y9d z h k (t+1) f (mid low high) high (by omega) (by omega) hm hh
   ·exact y9d z h k (t+1) f low (mid low high) (by omega) (by omega) hl hm
theorem y96{as ls ds st:List Nat}{n:Nat}{count:Int}{hub tip:Nat}{i:Int}{wind speed pitch:Nat}(z:st.length=n*3)(hl0:ls.length<281474976710656)(hd0:ds.length<281474976710656)(h:mayB as ls ds st n count hub tip i wind speed pitch=true) :
  ∀ (k t f low high:Nat),t+k=24→k<f→flw low→flw high→z0w i wind speed pitch as ls ds st as.length ls.length ds.length n count hub tip f low high (Int.ofNat t)=some (bisE k (bis (balV as ls ds st n count hub tip i wind speed pitch) k low high))
 | 0,t,f,low,high,ht,hf,_,_=>by
  obtain⟨f,rfl⟩:∃ m,f=m+1:=⟨f-1,by omega⟩
  obtain rfl:t=24:=by omega
  rw[zma];unfold z3z
  rw[show ltI (Int.ofNat 24) 24=false from ltI_f (by decide)]
  rfl
 | k+1,t,f,low,high,ht,hf,hl,hh=>by
  obtain⟨f,rfl⟩:∃ m,f=m+1:=⟨f-1,by omega⟩
  have hst:pF st 0 (muN n 3)=st:=pF_all3 z
  have hm:flw (mid low high):=flw_mid hl hh
  obtain⟨r3,t3,u3⟩:=y6w (y86 z hl0 hd0 h hm)
  have em:fop .quo .f32 (fop .add .f32 low high) 1073741824=mid low high:=half_eq _
  rw[zma];unfold z3z
  rw[show ltI (Int.ofNat t) 24=true from ltI_t (by simp;omega),addI1 (by omega)]
  simp only[em,pF_all,hst,r3,t3,u3,grd_true,br_true]
  unfold bis checkV
  cases finB (balV as ls ds st n count hub tip i wind speed pitch (mid low high))
  ·rfl
  ·simp only[if_true]
   cases fcmp .gtr .f32 (balV as ls ds st n count hub tip i wind speed pitch (mid low high)) 0
   ·exact y96 z hl0 hd0 h k (t+1) f (mid low high) high (by omega) (by omega) hm hh
   ·exact y96 z hl0 hd0 h k (t+1) f low (mid low high) (by omega) (by omega) hl hm
noncomputable def flowO(as ls ds st:List Nat)(n:Nat)(count:Int)(hub tip:Nat)(i:Int)(wind speed pitch:Nat):Option (Nat×Nat):=bis (balV as ls ds st n count hub tip i wind speed pitch) 24 981668463 1048508891
def flowR (r:Option (Nat×Nat)):Nat×Bool:=match r with | none=>(0,false) | some r=>(r.1,true)
theorem y8r{as ls ds st:List Nat}{n:Nat}{count:Int}{hub tip:Nat}{i:Int}{wind speed pitch:Nat}(z:st.length=n*3)(h:mayB as ls ds st n count hub tip i wind speed pitch=true) :
  z4w as.length as ls.length ls ds.length ds n st count hub tip i wind speed pitch=some (flowR (flowO as ls ds st n count hub tip i wind speed pitch)):=by
 have hst:pF st 0 (muN n 3)=st:=pF_all3 z
 have hb:=y9d z h 24 0 big 981668463 1048508891 (by omega) (uet (by omega)) zyk y0l
 unfold z4w zfj flowO
 cases hc:bis (balV as ls ds st n count hub tip i wind speed pitch) 24 981668463 1048508891 with
 | none=>
  rw[hc] at hb
  obtain⟨g1,g2⟩:=zys rfl (show z0j i wind speed pitch as ls ds st as.length ls.length ds.length n count hub tip big 981668463 1048508891 0=some (.inl ()) from hb)
  simp only[pF_all,hst,g1,g2,grd_true,br_true,flowR]
 | some r=>
  rw[hc] at hb
  obtain⟨g1,g2,g3,_⟩:=zz2 rfl (show z0j i wind speed pitch as ls ds st as.length ls.length ds.length n count hub tip big 981668463 1048508891 0=some (.inr (r.1,r.2,24,false)) from hb)
  simp only[pF_all,hst,g1,g2,g3,grd_true,br_false,flowR]
theorem yd7{as ls ds st:List Nat}{n:Nat}{count:Int}{hub tip:Nat}(i:Int)(wind speed pitch:Nat)(z:st.length=n*3)(hl:ls.length<281474976710656)(hd:ds.length<281474976710656) :
  z79 as.length as ls.length ls ds.length ds n st count hub tip i wind speed pitch=some (if mayB as ls ds st n count hub tip i wind speed pitch=true then flowR (flowO as ls ds st n count hub tip i wind speed pitch) else (0,false)):=by
 have hst:pF st 0 (muN n 3)=st:=pF_all3 z
 obtain⟨p1,q1⟩:=zwn (zwp (as:=as) (ls:=ls) (ds:=ds) (st:=st) (n:=n) (count:=count) (hub:=hub) (tip:=tip) i wind speed pitch z hl hd)
 unfold z79 zka
 simp only[pF_all,hst,p1,q1,grd_true]
 cases h:mayB as ls ds st n count hub tip i wind speed pitch
 ·rfl
 ·have hb:=y96 z hl hd h 24 0 big 981668463 1048508891 (by omega) (uet (by omega)) zyk y0l
  unfold flowO
  cases hc:bis (balV as ls ds st n count hub tip i wind speed pitch) 24 981668463 1048508891 with
  | none=>
   rw[hc] at hb
   obtain⟨g1,g2⟩:=y5m rfl (show z0w i wind speed pitch as ls ds st as.length ls.length ds.length n count hub tip big 981668463 1048508891 0=some (.inl ()) from hb)
   simp only[g1,g2,grd_true,z7a,br_true,br_false,flowR,if_true]
  | some r=>
   rw[hc] at hb
   obtain⟨g1,g2,g3,_⟩:=y5p rfl (show z0w i wind speed pitch as ls ds st as.length ls.length ds.length n count hub tip big 981668463 1048508891 0=some (.inr (r.1,r.2,24,false)) from hb)
   simp only[g1,g2,g3,grd_true,z7a,br_false,flowR,if_true]
theorem yfy{as ls ds st:List Nat}{n:Nat}{count:Int}{hub tip:Nat}{i:Int}{wind speed pitch:Nat}{r:Nat×Nat}(h:flowO as ls ds st n count hub tip i wind speed pitch=some r):flw r.1:=ycm 24 _ _ r zyk y0l h
theorem y1s(x:Nat):z1r 1 (pF [x] 0 (muN 1 1))=some (posB x):=by
 have h:z1r 1 [x]=some (posB x):=by
  have:=zgn (xs:=[x]) (by simp)
  simpa using this
 exact h
theorem zp3{as ls ds st:List Nat}{n:Nat}{count:Int}{hub tip:Nat}(i:Int)(wind speed pitch density:Nat)(z:st.length=n*3)(hl:ls.length<281474976710656)(hd:ds.length<281474976710656) :
  ∃ r,z1p as.length as ls.length ls ds.length ds n st count hub tip i wind speed pitch density=some r∧((mayB as ls ds st n count hub tip i wind speed pitch&&posB density)=false→r=(0,0,false)) ∧
   ((mayB as ls ds st n count hub tip i wind speed pitch&&posB density)=true→z1x as.length as ls.length ls ds.length ds n st count hub tip i wind speed pitch density=some r):=by
 have hst:pF st 0 (muN n 3)=st:=pF_all3 z
 obtain⟨p1,q1,u1⟩:=ycu (yd7 (as:=as) (ls:=ls) (ds:=ds) (st:=st) (n:=n) (count:=count) (hub:=hub) (tip:=tip) i wind speed pitch z hl hd)
 obtain⟨p9,q9⟩:=zgt (y1s density)
 unfold z1p z9a
 simp only[z3f,zdq,zdj,ze9,z6m,z6j,pF_all,hst,p1,q1,u1,p9,q9,grd_true]
 cases h:mayB as ls ds st n count hub tip i wind speed pitch
 ·exact⟨_,rfl,fun _=>rfl,fun h=>by simp at h⟩
 ·obtain⟨hv,hi,hp,ha⟩:=yds h
  have hn:=zga hv
  have hix:=zfd hi (by omega)
  obtain⟨p2,q2,u2⟩:=y79 (y8r z h)
  cases hc:flowO as ls ds st n count hub tip i wind speed pitch with
  | none=>
   rw[hc] at q2 u2
   have hF0:z1x as.length as ls.length ls ds.length ds n st count hub tip i wind speed pitch density=some (0,0,false):=by
    unfold z1x za6
    simp only[z5k,zd3,zcx,zd6,z76,z74,pF_all,hst,p2,q2,u2,grd_true,flowR]
    rfl
   simp only[flowR,grd_true,z7a,br_false,if_true]
   cases posB density
   ·exact⟨_,rfl,fun _=>rfl,fun h=>by simp at h⟩
   ·exact⟨_,rfl,fun h=>by simp at h,fun _=>hF0⟩
  | some r=>
   rw[hc] at q2 u2
   obtain⟨k,m,a,b,h1,h2,h3⟩:=yff z hv hi (ha _ (yfy hc))
   obtain⟨a1,a2,a3⟩:=znc h1
   obtain⟨e1,e2,e3⟩:=zob h2
   obtain⟨b1,b2,b3,b4,b5⟩:=zwq h3
   cases hd:posB density
   ·simp only[flowR,grd_true,z7a,br_false,if_true]
    exact⟨_,rfl,fun _=>rfl,fun h=>by simp at h⟩
   ·have fin:∀ x y,zj2 x y=true∧zhv x y=zi6 x y∧zhj x y=zi5 x y∧zhh x y=zib x y∧zry x y=true:=by
     intro x y
     obtain⟨c1,c2,c3,c4⟩:=y4v (y64 x y)
     obtain⟨d1,d2,d3,d4⟩:=ybw (ybt x y)
     exact⟨c1,c2.trans d2.symm,c3.trans d3.symm,c4.trans d4.symm,d1⟩
    simp only[flowR] at q2 u2
    simp only[flowR,a1,a2,a3,e1,e2,e3,hix,(fin _ _).1,(fin _ _).2.1,(fin _ _).2.2.1,(fin _ _).2.2.2.1,grd_true,z7a,br_false,if_true]
    have hF:z1x as.length as ls.length ls ds.length ds n st count hub tip i wind speed pitch density=some (zi6 (fop .mul .f32 (fop .mul .f32 (fop .mul .f32 (fop .mul .f32 1056964608 density) (fop .add .f32 (fop .mul .f32 (fop .quo .f32 wind (fop .add .f32 1065353216 k)) (fop .quo .f32 wind (fop .add .f32 1065353216 k))) (fop .mul .f32 (fop .quo .f32 (fop .mul .f32 speed (gF st (ixO 0 i 3))) (fop .sub .f32 1065353216 m)) (fop .quo .f32 (fop .mul .f32 speed (gF st (ixO 0 i 3))) (fop .sub .f32 1065353216 m))))) (gF st (Nat.succ (ixO 0 i 3)))) a) (fop .mul .f32 (fop .mul .f32 (fop .mul .f32 (fop .mul .f32 1056964608 density) (fop .add .f32 (fop .mul .f32 (fop .quo .f32 wind (fop .add .f32 1065353216 k)) (fop .quo .f32 wind (fop .add .f32 1065353216 k))) (fop .mul .f32 (fop .quo .f32 (fop .mul .f32 speed (gF st (ixO 0 i 3))) (fop .sub .f32 1065353216 m)) (fop .quo .f32 (fop .mul .f32 speed (gF st (ixO 0 i 3))) (fop .sub .f32 1065353216 m))))) (gF st (Nat.succ (ixO 0 i 3)))) b),
      zi5 (fop .mul .f32 (fop .mul .f32 (fop .mul .f32 (fop .mul .f32 1056964608 density) (fop .add .f32 (fop .mul .f32 (fop .quo .f32 wind (fop .add .f32 1065353216 k)) (fop .quo .f32 wind (fop .add .f32 1065353216 k))) (fop .mul .f32 (fop .quo .f32 (fop .mul .f32 speed (gF st (ixO 0 i 3))) (fop .sub .f32 1065353216 m)) (fop .quo .f32 (fop .mul .f32 speed (gF st (ixO 0 i 3))) (fop .sub .f32 1065353216 m))))) (gF st (Nat.succ (ixO 0 i 3)))) a) (fop .mul .f32 (fop .mul .f32 (fop .mul .f32 (fop .mul .f32 1056964608 density) (fop .add .f32 (fop .mul .f32 (fop .quo .f32 wind (fop .add .f32 1065353216 k)) (fop .quo .f32 wind (fop .add .f32 1065353216 k))) (fop .mul .f32 (fop .quo .f32 (fop .mul .f32 speed (gF st (ixO 0 i 3))) (fop .sub .f32 1065353216 m)) (fop .quo .f32 (fop .mul .f32 speed (gF st (ixO 0 i 3))) (fop .sub .f32 1065353216 m))))) (gF st (Nat.succ (ixO 0 i 3)))) b),
      zib (fop .mul .f32 (fop .mul .f32 (fop .mul .f32 (fop .mul .f32 1056964608 density) (fop .add .f32 (fop .mul .f32 (fop .quo .f32 wind (fop .add .f32 1065353216 k)) (fop .quo .f32 wind (fop .add .f32 1065353216 k))) (fop .mul .f32 (fop .quo .f32 (fop .mul .f32 speed (gF st (ixO 0 i 3))) (fop .sub .f32 1065353216 m)) (fop .quo .f32 (fop .mul .f32 speed (gF st (ixO 0 i 3))) (fop .sub .f32 1065353216 m))))) (gF st (Nat.succ (ixO 0 i 3)))) a) (fop .mul .f32 (fop .mul .f32 (fop .mul .f32 (fop .mul .f32 1056964608 density) (fop .add .f32 (fop .mul .f32 (fop .quo .f32 wind (fop .add .f32 1065353216 k)) (fop .quo .f32 wind (fop .add .f32 1065353216 k))) (fop .mul .f32 (fop .quo .f32 (fop .mul .f32 speed (gF st (ixO 0 i 3))) (fop .sub .f32 1065353216 m)) (fop .quo .f32 (fop .mul .f32 speed (gF st (ixO 0 i 3))) (fop .sub .f32 1065353216 m))))) (gF st (Nat.succ (ixO 0 i 3)))) b)):=by
     unfold z1x za6
     simp only[z5k,zd3,zcx,zd6,z76,z74,pF_all,hst,p2,q2,u2,b1,b2,b3,b4,b5,hix,(fin _ _).2.2.2.2,grd_true,z7a,br_false]
    exact⟨_,rfl,fun h=>by simp at h,fun _=>hF⟩
noncomputable def sfR(as ls ds st:List Nat)(n:Nat)(count:Int)(hub tip wind speed pitch density i:Nat):Nat×Nat×Bool:=
 (z1p as.length as ls.length ls ds.length ds n st count hub tip (Int.ofNat i) wind speed pitch density).getD default
noncomputable def sf0(as ls ds st:List Nat)(n:Nat)(count:Int)(hub tip wind speed pitch density i:Nat):Nat:=(sfR as ls ds st n count hub tip wind speed pitch density i).1
noncomputable def sf1(as ls ds st:List Nat)(n:Nat)(count:Int)(hub tip wind speed pitch density i:Nat):Nat:=(sfR as ls ds st n count hub tip wind speed pitch density i).2.1
noncomputable def sf2(as ls ds st:List Nat)(n:Nat)(count:Int)(hub tip wind speed pitch density i:Nat):Bool:=(sfR as ls ds st n count hub tip wind speed pitch density i).2.2
theorem ygy{as ls ds st:List Nat}{n:Nat}{count:Int}{hub tip:Nat}(wind speed pitch density i:Nat)(z:st.length=n*3)(hl:ls.length<281474976710656)(hd:ds.length<281474976710656) :
  z9b as.length as ls.length ls ds.length ds n st count hub tip (Int.ofNat i) wind speed pitch density=true∧z8s as.length as ls.length ls ds.length ds n st count hub tip (Int.ofNat i) wind speed pitch density=sf0 as ls ds st n count hub tip wind speed pitch density i∧z8k as.length as ls.length ls ds.length ds n st count hub tip (Int.ofNat i) wind speed pitch density=sf1 as ls ds st n count hub tip wind speed pitch density i ∧
   z8v as.length as ls.length ls ds.length ds n st count hub tip (Int.ofNat i) wind speed pitch density=sf2 as ls ds st n count hub tip wind speed pitch density i:=by
 obtain⟨r,h,_⟩:=zp3 (as:=as) (ls:=ls) (ds:=ds) (st:=st) (n:=n) (count:=count) (hub:=hub) (tip:=tip) (Int.ofNat i) wind speed pitch density z hl hd
 obtain⟨p,q0,q1,q2⟩:=zyg h
 have e:sfR as ls ds st n count hub tip wind speed pitch density i=r:=by unfold sfR;rw[h];rfl
 exact⟨p,by rw[q0,← e];rfl,by rw[q1,← e];rfl,by rw[q2,← e];rfl⟩
theorem yfb{as ls ds st:List Nat}{n:Nat}{count:Int}{hub tip:Nat}(wind speed pitch density i:Nat)(z:st.length=n*3)(hl:ls.length<281474976710656)(hd:ds.length<281474976710656) :
  ((mayB as ls ds st n count hub tip (Int.ofNat i) wind speed pitch&&posB density)=false∧sf2 as ls ds st n count hub tip wind speed pitch density i=false) ∨
  ((mayB as ls ds st n count hub tip (Int.ofNat i) wind speed pitch&&posB density)=true∧zki as.length as ls.length ls ds.length ds n st count hub tip (Int.ofNat i) wind speed pitch density=true∧zd4 as.length as ls.length ls ds.length ds n st count hub tip (Int.ofNat i) wind speed pitch density=sf0 as ls ds st n count hub tip wind speed pitch density i ∧
   zdb as.length as ls.length ls ds.length ds n st count hub tip (Int.ofNat i) wind speed pitch density=sf1 as ls ds st n count hub tip wind speed pitch density i∧ziv as.length as ls.length ls ds.length ds n st count hub tip (Int.ofNat i) wind speed pitch density=sf2 as ls ds st n count hub tip wind speed pitch density i):=by
 obtain⟨r,h,h1,h2⟩:=zp3 (as:=as) (ls:=ls) (ds:=ds) (st:=st) (n:=n) (count:=count) (hub:=hub) (tip:=tip) (Int.ofNat i) wind speed pitch density z hl hd
 have e:sfR as ls ds st n count hub tip wind speed pitch density i=r:=by unfold sfR;rw[h];rfl
 cases hm:(mayB as ls ds st n count hub tip (Int.ofNat i) wind speed pitch&&posB density)
 ·exact .inl ⟨rfl,by unfold sf2;rw[e,h1 hm]⟩
 ·obtain⟨p,q0,q1,q2⟩:=y7h (h2 hm)
  exact .inr ⟨rfl,p,by rw[q0,← e];rfl,by rw[q1,← e];rfl,by rw[q2,← e];rfl⟩
noncomputable def allR(as ls ds st:List Nat)(n:Nat)(count:Int)(hub tip wind speed pitch density:Nat):Nat×Nat×Bool×List Nat×List Nat:=
 if (validRotorB as ls ds st n count hub tip&&(List.range n).all (sf2 as ls ds st n count hub tip wind speed pitch density))=true then (n,n,true,listOf (sf0 as ls ds st n count hub tip wind speed pitch density) n,listOf (sf1 as ls ds st n count hub tip wind speed pitch density) n) else (0,0,false,[],[])
theorem zx6{n:Nat}{p:Nat→Bool}(h:∀ j,0≤j→j<n→p j=true):(List.range n).all p=true:=by
 rw[List.all_eq_true];intro x hx;exact h x (Nat.zero_le _) (List.mem_range.1 hx)
theorem ztk{n j:Nat}{p:Nat→Bool}(hj:j<n)(h:p j=false):(List.range n).all p=false:=by
 rw[List.all_eq_false];exact⟨j,List.mem_range.2 hj,by simp[h]⟩
theorem ye8{as ls ds st:List Nat}{n:Nat}{count:Int}{hub tip:Nat}(wind speed pitch density:Nat)(z:st.length=n*3)(hl:ls.length<281474976710656)(hd:ds.length<281474976710656)(hn:n≤12)(hp:posB density=true) :
  ((List.range n).all (sf2 as ls ds st n count hub tip wind speed pitch density)=true∧z0g wind speed pitch density as ls ds st as.length ls.length ds.length n count hub tip big 0 0 0 [] []=some (.inr (n,n,Int.ofNat n,false,listOf (sf0 as ls ds st n count hub tip wind speed pitch density) n,listOf (sf1 as ls ds st n count hub tip wind speed pitch density) n))) ∨
  ((List.range n).all (sf2 as ls ds st n count hub tip wind speed pitch density)=false∧z0g wind speed pitch density as ls ds st as.length ls.length ds.length n count hub tip big 0 0 0 [] []=some (.inl ())):=by
 have hst:pF st 0 (muN n 3)=st:=pF_all3 z
 rcases scan (L:=fun m i=>z0g wind speed pitch density as ls ds st as.length ls.length ds.length n count hub tip m i.toNat i.toNat i (listOf (sf0 as ls ds st n count hub tip wind speed pitch density) i.toNat) (listOf (sf1 as ls ds st n count hub tip wind speed pitch density) i.toNat)) (len:=n) (sf2 as ls ds st n count hub tip wind speed pitch density) (g:=fun _=>()) (e:=(n,n,Int.ofNat n,false,listOf (sf0 as ls ds st n count hub tip wind speed pitch density) n,listOf (sf1 as ls ds st n count hub tip wind speed pitch density) n))
  (fun m i hi=>by
   show z0g _ _ _ _ _ _ _ _ _ _ _ _ _ _ _ _ i i (Int.ofNat i) (listOf (sf0 as ls ds st n count hub tip wind speed pitch density) i) (listOf (sf1 as ls ds st n count hub tip wind speed pitch density) i)=if sf2 as ls ds st n count hub tip wind speed pitch density i=true then z0g _ _ _ _ _ _ _ _ _ _ _ _ _ _ _ _ (i+1) (i+1) (Int.ofNat (i+1)) (listOf (sf0 as ls ds st n count hub tip wind speed pitch density) (i+1)) (listOf (sf1 as ls ds st n count hub tip wind speed pitch density) (i+1)) else _
   obtain⟨r1,t1⟩:=ych (yda (as:=as) (ls:=ls) (ds:=ds) (st:=st) (n:=n) (count:=count) (hub:=hub) (tip:=tip) (Int.ofNat i) wind speed pitch z)
   rw[zm5];unfold z3t
   rw[ltN_t hi,addI1 (by omega),zx5,zx5]
   simp only[pF_all,hst,r1,t1,grd_true,br_of]
   rcases yfb (as:=as) (ls:=ls) (ds:=ds) (st:=st) (n:=n) (count:=count) (hub:=hub) (tip:=tip) wind speed pitch density i z hl hd with⟨h1,h2⟩ | ⟨h1,h2,h3,h4,h5⟩
   ·rw[hp,Bool.and_true] at h1
    rw[h1,h2];rfl
   ·rw[hp,Bool.and_true] at h1
    simp only[h1,h2,h3,h4,h5,yeu _ (b:=listOf (sf0 as ls ds st n count hub tip wind speed pitch density) i) (z8z _ _) (by omega),yeu _ (b:=listOf (sf1 as ls ds st n count hub tip wind speed pitch density) i) (z8z _ _) (by omega),grd_true,z7a,br_false]
    cases sf2 as ls ds st n count hub tip wind speed pitch density i<;>rfl)
  (fun m=>by
   show z0g _ _ _ _ _ _ _ _ _ _ _ _ _ _ _ _ n n (Int.ofNat n) (listOf (sf0 as ls ds st n count hub tip wind speed pitch density) n) (listOf (sf1 as ls ds st n count hub tip wind speed pitch density) n)=_
   rw[zm5];unfold z3t;rw[ltN_f (Nat.le_refl _)];rfl) n 0 big (by omega) (uet (by omega)) with⟨h1,h2⟩ | ⟨j,h1,h2,h3,h4⟩
 ·exact .inl ⟨zx6 h1,h2⟩
 ·exact .inr ⟨ztk h2 h3,h4⟩
theorem ya1{as ls ds st:List Nat}{n:Nat}{count:Int}{hub tip:Nat}(h:validRotorB as ls ds st n count hub tip=true):2≤n:=by
 unfold validRotorB at h
 simp only[Bool.and_eq_true,decide_eq_true_eq] at h
 omega
theorem yc6{as ls ds st:List Nat}{n:Nat}{count:Int}{hub tip:Nat}(wind speed pitch density:Nat)(z:st.length=n*3)(hl:ls.length<281474976710656)(hd:ds.length<281474976710656) :
  z43 as.length as ls.length ls ds.length ds n st count hub tip wind speed pitch density=some (allR as ls ds st n count hub tip wind speed pitch density):=by
 have hst:pF st 0 (muN n 3)=st:=pF_all3 z
 obtain⟨p1,q1⟩:=y2t (y2l (as:=as) (ls:=ls) (ds:=ds) (st:=st) (n:=n) (count:=count) (hub:=hub) (tip:=tip))
 obtain⟨p2,q2⟩:=zel (zeo density)
 unfold z43 zkd allR
 simp only[pF_all,hst,p1,q1,p2,q2,grd_true]
 cases hv:validRotorB as ls ds st n count hub tip
 ·rfl
 ·have hn:=zga hv
  have hn2:=ya1 hv
  cases hp:posB density
  ·have:(List.range n).all (sf2 as ls ds st n count hub tip wind speed pitch density)=false:=ztk (j:=0) (by omega) (by
    rcases yfb (as:=as) (ls:=ls) (ds:=ds) (st:=st) (n:=n) (count:=count) (hub:=hub) (tip:=tip) wind speed pitch density 0 z hl hd with⟨_,h⟩ | ⟨h,_⟩
    ·exact h
    ·rw[hp,Bool.and_false] at h;cases h)
   rw[this];rfl
  ·rcases ye8 (as:=as) (ls:=ls) (ds:=ds) (st:=st) (n:=n) (count:=count) (hub:=hub) (tip:=tip) wind speed pitch density z hl hd hn hp with⟨c,l⟩ | ⟨c,l⟩
   ·obtain⟨g1,g2,g3,g4,g5,g6,g7,g8⟩:=y67 rfl l
    rw[g1,g2,g3,g4,g7,g8,c];rfl
   ·obtain⟨g1,g2⟩:=y5v rfl l
    rw[g1,g2,c];rfl
noncomputable def sharedR(as ls ds st:List Nat)(n:Nat)(count:Int)(hub tip wind speed pitch density:Nat)(w:Int):Nat×Nat×Bool×List Nat×List Nat:=
 if inB w 1 8=true then allR as ls ds st n count hub tip wind speed pitch density else (0,0,false,[],[])
theorem y36{xs:List Bool}(hl:xs.length<281474976710656):z1h xs.length xs false=some (!xs.all id):=by
 have hp:∀ ys:List Bool,pB ys 0 (muN ys.length 1)=ys:=fun ys=>by simp[pB,muN]
 have key:∃ r:Int,z22 xs.length xs false=some r∧leI 0 r=!xs.all id:=by
  unfold z22 z6r
  rcases scan (L:=fun m i=>z05 xs.length false (Int.ofNat xs.length) xs m i) (len:=xs.length) (fun i=>xs.getD i false) (g:=fun i=>Int.ofNat i) (e:=(Int.ofNat xs.length,false))
   (fun m i hi=>by
    show z05 _ _ _ _ _ _=_
    rw[z9u];unfold z0y
    rw[ltN_t hi,okIx_t hi,ix1,addI1 (by omega)]
    show br true (grd true (br (beqB false (xs.getD i false)) _ _)) _=_
    cases xs.getD i false<;>rfl)
   (fun m=>by
    show z05 _ _ _ _ _ _=_
    rw[z9u];unfold z0y;rw[ltN_f (Nat.le_refl _)];rfl) xs.length 0 big (by omega) (uet hl) with⟨h1,h2⟩ | ⟨j,h1,h2,h3,h4⟩
  ·obtain⟨g1,g2,_⟩:=zo9 rfl (show z05 xs.length false (Int.ofNat xs.length) xs big 0=_ from h2)
   refine⟨Int.negSucc 0,by rw[g1,g2];rfl,?_⟩
   have:xs.all id=true:=by
    rw[List.all_eq_true]
    intro x hx
    obtain⟨i,hi,rfl⟩:=List.getElem_of_mem hx
    have:=h1 i (Nat.zero_le _) hi
    simpa [List.getD_eq_getElem?_getD,hi] using this
   rw[this];rfl
  ·obtain⟨g1,g2,g3⟩:=zo8 rfl (show z05 xs.length false (Int.ofNat xs.length) xs big 0=_ from h4)
   refine⟨Int.ofNat j,by rw[g1,g2,g3];rfl,?_⟩
   have:xs.all id=false:=by
    rw[List.all_eq_false]
    refine⟨xs[j],List.getElem_mem _,?_⟩
    simpa [List.getD_eq_getElem?_getD,h2] using h3
   rw[this];exact decide_eq_true (by simp)
 obtain⟨r,h1,h2⟩:=key
 obtain⟨g1,g2⟩:=zrf h1
 unfold z1h z54
 rw[hp,g1,g2,h2];rfl
theorem ycz{as ls ds st:List Nat}{n:Nat}{count:Int}{hub tip:Nat}(wind speed pitch density:Nat)(w:Int)(z:st.length=n*3)(hl:ls.length<281474976710656)(hd:ds.length<281474976710656) :
  z7m as.length as ls.length ls ds.length ds n st count hub tip wind speed pitch density w=true∧z55 as.length as ls.length ls ds.length ds n st count hub tip wind speed pitch density w=(sharedR as ls ds st n count hub tip wind speed pitch density w).1∧z50 as.length as ls.length ls ds.length ds n st count hub tip wind speed pitch density w=(sharedR as ls ds st n count hub tip wind speed pitch density w).2.1 ∧
   z18 as.length as ls.length ls ds.length ds n st count hub tip wind speed pitch density w=(sharedR as ls ds st n count hub tip wind speed pitch density w).2.2.1∧z51 as.length as ls.length ls ds.length ds n st count hub tip wind speed pitch density w=(sharedR as ls ds st n count hub tip wind speed pitch density w).2.2.2.1∧z4z as.length as ls.length ls ds.length ds n st count hub tip wind speed pitch density w=(sharedR as ls ds st n count hub tip wind speed pitch density w).2.2.2.2:=by
 have hst:pF st 0 (muN n 3)=st:=pF_all3 z
 have hsf:=fun i=>ygy (as:=as) (ls:=ls) (ds:=ds) (st:=st) (n:=n) (count:=count) (hub:=hub) (tip:=tip) wind speed pitch density i z hl hd
 obtain⟨p1,q1⟩:=zqu (zr6 (as:=as) (st:=st) (n:=n) (count:=count) (hub:=hub) (tip:=tip) hl hd)
 obtain⟨p2,q2⟩:=zq5 (zpn w 1 8)
 have e0:z9j as.length as ls.length ls ds.length ds n st count hub tip wind speed pitch density w=listOf (sf0 as ls ds st n count hub tip wind speed pitch density) n:=by
  unfold z9j listOf
  simp only[pF_all,hst,(hsf _).2.1]
 have e1:z9m as.length as ls.length ls ds.length ds n st count hub tip wind speed pitch density w=listOf (sf1 as ls ds st n count hub tip wind speed pitch density) n:=by
  unfold z9m listOf
  simp only[pF_all,hst,(hsf _).2.2.1]
 have e2:z9c as.length as ls.length ls ds.length ds n st count hub tip wind speed pitch density w=(List.range n).map (sf2 as ls ds st n count hub tip wind speed pitch density):=by
  unfold z9c
  simp only[pF_all,hst,(hsf _).2.2.2]
 have ei:zep as.length as ls.length ls ds.length ds n st count hub tip wind speed pitch density w=true:=by
  unfold zep
  simp only[pF_all,hst,(hsf _).1,List.all_eq_true,implies_true]
 have hc:n≤12→z52 n (pB ((List.range n).map (sf2 as ls ds st n count hub tip wind speed pitch density)) 0 (muN n 1)) Bool.false=true∧z4k n (pB ((List.range n).map (sf2 as ls ds st n count hub tip wind speed pitch density)) 0 (muN n 1)) Bool.false=!(List.range n).all (sf2 as ls ds st n count hub tip wind speed pitch density):=by
  intro hn
  have hp:pB ((List.range n).map (sf2 as ls ds st n count hub tip wind speed pitch density)) 0 (muN n 1)=(List.range n).map (sf2 as ls ds st n count hub tip wind speed pitch density):=by
   simp only[pB,muN,List.drop_zero,Nat.mul_one]
   exact List.take_of_length_le (by simp)
  have:=zos (y36 (xs:=(List.range n).map (sf2 as ls ds st n count hub tip wind speed pitch density)) (by simp;omega))
  rw[List.length_map,List.length_range] at this
  rw[hp]
  refine⟨this.1,?_⟩
  rw[this.2]
  simp[List.all_map]
 have ev:z18 as.length as ls.length ls ds.length ds n st count hub tip wind speed pitch density w=(sharedR as ls ds st n count hub tip wind speed pitch density w).2.2.1∧z7m as.length as ls.length ls ds.length ds n st count hub tip wind speed pitch density w=true:=by
  unfold z18 z7m sharedR allR
  rw[e2,ei]
  simp only[pF_all,hst,p1,q1,p2,q2]
  cases hv:validRotorB as ls ds st n count hub tip
  ·cases inB w 1 8<;>exact⟨rfl,rfl⟩
  ·have hn:=zga hv
   have hn2:=ya1 hv
   cases hw:inB w 1 8
   ·exact⟨rfl,rfl⟩
   ·have hw2:=yfq hw
    obtain⟨c1,c2⟩:=hc hn
    have k1:okMk (Int.ofNat n) (Int.ofNat n) 4=true:=decide_eq_true (by simp;omega)
    have k2:okMk (Int.ofNat n) (Int.ofNat n) 1=true:=decide_eq_true (by simp;omega)
    rw[c1,c2,k1,k2,decide_eq_true (show 0<n∧n≤281474976710656 by omega),decide_eq_true (show 1≤w∧w≤8 from hw2)]
    cases (List.range n).all (sf2 as ls ds st n count hub tip wind speed pitch density)<;>exact⟨rfl,rfl⟩
 have hk:sharedR as ls ds st n count hub tip wind speed pitch density w=if (sharedR as ls ds st n count hub tip wind speed pitch density w).2.2.1=true then (n,n,true,listOf (sf0 as ls ds st n count hub tip wind speed pitch density) n,listOf (sf1 as ls ds st n count hub tip wind speed pitch density) n) else (0,0,false,[],[]):=by
  unfold sharedR allR
  cases inB w 1 8<;>cases (validRotorB as ls ds st n count hub tip&&(List.range n).all (sf2 as ls ds st n count hub tip wind speed pitch density))<;>rfl
 unfold z55 z50 z51 z4z
 rw[ev.1,e0,e1]
 refine⟨ev.2,?_⟩
 rw[hk]
 cases (sharedR as ls ds st n count hub tip wind speed pitch density w).2.2.1<;>exact⟨rfl,rfl,rfl,rfl,rfl⟩
theorem y0c{as ls ds st:List Nat}{n:Nat}{count:Int}{hub tip:Nat}(wind speed pitch density:Nat)(z:st.length=n*3)(hl:ls.length<281474976710656)(hd:ds.length<281474976710656) :
  z1d as.length as ls.length ls ds.length ds n st count hub tip wind speed pitch density=some (allR as ls ds st n count hub tip wind speed pitch density):=by
 have hst:pF st 0 (muN n 3)=st:=pF_all3 z
 obtain⟨p,q0,q1,q2,q3,q4⟩:=ycz (as:=as) (ls:=ls) (ds:=ds) (st:=st) (n:=n) (count:=count) (hub:=hub) (tip:=tip) wind speed pitch density 1 z hl hd
 have e:sharedR as ls ds st n count hub tip wind speed pitch density 1=allR as ls ds st n count hub tip wind speed pitch density:=rfl
 rw[e] at q0 q1 q2 q3 q4
 unfold z1d z9d
 simp only[pF_all,hst,p,q0,q1,q2,q3,q4,grd_true]
def sumS(st l:List Nat):Nat→Nat
 | 0=>0
 | k+1=>fop .add .f32 (sumS st l k) (fop .mul .f32 (fop .sub .f32 (gF st (ixO 0 (Int.ofNat (k+1)) 3)) (gF st (ixO 0 (Int.ofNat k) 3))) (fop .mul .f32 1056964608 (fop .add .f32 (gF l k) (gF l (k+1)))))
theorem yea{st l:List Nat}{n:Nat}(hn:n+1≤12):z11 (n+1) st (n+1) l big 0 0=some (sumS st l n,Int.ofNat n,false):=by
 have:=runs (L:=fun m i=>z11 (n+1) st (n+1) l m (sumS st l i.toNat) i) (len:=n) (e:=(sumS st l n,Int.ofNat n,false))
  (fun m i hi=>by
   show z11 _ _ _ _ _ (sumS st l i) _=z11 _ _ _ _ _ (sumS st l (i+1)) _
   rw[zmg];unfold z3u
   rw[addI1 (by omega),ltN_t (by omega),okIx_t (show i+1<n+1 by omega),okIx_t (show i<n+1 by omega),ix1,ix1]
   rfl)
  (fun m=>by
   show z11 _ _ _ _ _ (sumS st l n) _=_
   rw[zmg];unfold z3u;rw[addI1 (by omega),ltN_f (Nat.le_refl _)];rfl) (by omega)
 exact this
theorem ygm{i:Nat}(h:i<4611686018427387904):subI .i64 (Int.ofNat (i+1)) 1=Int.ofNat i:=by
 have:subI .i64 (Int.ofNat (i+1)) 1=((i+1:Nat):Int)-1:=uem (by simp<;>omega) (by simp<;>omega)
 rw[this];simp
theorem ydz{st l:List Nat}{n:Nat}(hn:n+1≤12):z0f (n+1) st l (n+1) big 0 1=some (sumS st l n,Int.ofNat (n+1),false):=by
 have:=runs (L:=fun m i=>z0f (n+1) st l (n+1) m (sumS st l i.toNat) (Int.ofNat (i.toNat+1))) (len:=n) (e:=(sumS st l n,Int.ofNat (n+1),false))
  (fun m i hi=>by
   show z0f _ _ _ _ _ (sumS st l i) (Int.ofNat (i+1))=z0f _ _ _ _ _ (sumS st l (i+1)) (Int.ofNat (i+1+1))
   rw[zdm];unfold z1e
   rw[addI1 (by omega),ltN_t (by omega),ygm (by omega),okIx_t (show i+1<n+1 by omega),okIx_t (show i<n+1 by omega),ix1,ix1,half_eq]
   rfl)
  (fun m=>by
   show z0f _ _ _ _ _ (sumS st l n) (Int.ofNat (n+1))=_
   rw[zdm];unfold z1e;rw[ltN_f (Nat.le_refl _)];rfl) (by omega)
 exact this
theorem yco{as ls ds st:List Nat}{n:Nat}{count:Int}{hub tip:Nat}{l:List Nat}(h:1≤n∧n≤12):z95 as.length as ls.length ls ds.length ds n st count hub tip n l=some (sumS st l (n-1)):=by
 obtain⟨m,rfl⟩:∃ m,n=m+1:=⟨n-1,by omega⟩
 obtain⟨g1,g2,_⟩:=y51 rfl (yea (st:=st) (l:=l) h.2)
 unfold z95 zkc
 rw[g1,g2];rfl
theorem yao{as ls ds st:List Nat}{n:Nat}{count:Int}{hub tip:Nat}{l:List Nat}(h:1≤n∧n≤12):z3x as.length as ls.length ls ds.length ds n st count hub tip n l=some (sumS st l (n-1)):=by
 obtain⟨m,rfl⟩:∃ m,n=m+1:=⟨n-1,by omega⟩
 obtain⟨g1,g2,_⟩:=zth rfl (ydz (st:=st) (l:=l) h.2)
 unfold z3x z9h
 rw[g1,g2];rfl
theorem ybd(as ls ds st:List Nat)(n:Nat)(count:Int)(hub tip wind speed pitch density:Nat):allR as ls ds st n count hub tip wind speed pitch density=(0,0,false,[],[])∨((2≤n∧n≤12∧validRotorB as ls ds st n count hub tip=true)∧allR as ls ds st n count hub tip wind speed pitch density=(n,n,true,listOf (sf0 as ls ds st n count hub tip wind speed pitch density) n,listOf (sf1 as ls ds st n count hub tip wind speed pitch density) n)):=by
 unfold allR
 cases hv:validRotorB as ls ds st n count hub tip
 ·exact .inl rfl
 ·cases (List.range n).all (sf2 as ls ds st n count hub tip wind speed pitch density)
  ·exact .inl rfl
  ·exact .inr ⟨⟨ya1 hv,zga hv,rfl⟩,rfl⟩
def torL(st l:List Nat)(n:Nat):List Nat:=(List.range' 0 n).foldl (fun s j=>sF s j (fop .mul .f32 (gF s j) (gF st (ixO 0 (Int.ofNat j) 3)))) l
theorem y2o(g:List Nat→Nat→Nat):∀ (js l:List Nat),(js.foldl (fun s j=>sF s j (g s j)) l).length=l.length
 | [],l=>rfl
 | j::js,l=>by
  rw[List.foldl_cons,y2o g js]
  exact List.length_set
theorem yf9{st l:List Nat}{n:Nat}(h:l.length=n):pF (torL st l n) 0 (muN n 1)=torL st l n:=by
 have:=pF_all (torL st l n)
 rw[show (torL st l n).length=n from (y2o _ _ _).trans h] at this
 exact this
theorem yam{st l:List Nat}{n:Nat}(hn:n≤12):z1a n n (Int.ofNat n) st big 0 l=some (Int.ofNat n,false,torL st l n):=
 uev (L:=fun m i s=>z1a n n (Int.ofNat n) st m i s) (len:=n) (fun j s=>sF s j (fop .mul .f32 (gF s j) (gF st (ixO 0 (Int.ofNat j) 3)))) (e:=fun s=>(Int.ofNat n,false,s))
  (fun m i s hi=>by rw[zil];unfold z2q;rw[ltN_t hi,okIx_t hi,ix1,addI1 (by omega)];rfl)
  (fun m s=>by rw[zil];unfold z2q;rw[ltN_f (Nat.le_refl _)];rfl) n 0 big l (by omega) (uet (by omega))
theorem ya6{st l:List Nat}{n:Nat}(hn:n≤12):z15 n (Int.ofNat n) st n big 0 l=some (Int.ofNat n,false,torL st l n):=
 uev (L:=fun m i s=>z15 n (Int.ofNat n) st n m i s) (len:=n) (fun j s=>sF s j (fop .mul .f32 (gF s j) (gF st (ixO 0 (Int.ofNat j) 3)))) (e:=fun s=>(Int.ofNat n,false,s))
  (fun m i s hi=>by rw[zhp];unfold z2h;rw[ltN_t hi,okIx_t hi,ix1,addI1 (by omega)];rfl)
  (fun m s=>by rw[zhp];unfold z2h;rw[ltN_f (Nat.le_refl _)];rfl) n 0 big l (by omega) (uet (by omega))
noncomputable def torR(as ls ds st:List Nat)(n:Nat)(count:Int)(hub tip wind speed pitch density:Nat):Nat×Bool:=
 match (allR as ls ds st n count hub tip wind speed pitch density).2.2.1 with
 | true=>(checkV (fop .mul .f32 (fOI .f32 count) (sumS st (torL st (listOf (sf1 as ls ds st n count hub tip wind speed pitch density) n) n) (n-1))),finB (fop .mul .f32 (fOI .f32 count) (sumS st (torL st (listOf (sf1 as ls ds st n count hub tip wind speed pitch density) n) n) (n-1))))
 | false=>(0,false)
theorem y98{as ls ds st:List Nat}{n:Nat}{count:Int}{hub tip:Nat}(wind speed pitch density:Nat)(z:st.length=n*3)(hl:ls.length<281474976710656)(hd:ds.length<281474976710656):z5p as.length as ls.length ls ds.length ds n st count hub tip wind speed pitch density=some (torR as ls ds st n count hub tip wind speed pitch density):=by
 have hst:pF st 0 (muN n 3)=st:=pF_all3 z
 obtain⟨p,q0,q1,q2,q3,q4⟩:=zzk (y0c (as:=as) (ls:=ls) (ds:=ds) (st:=st) (n:=n) (count:=count) (hub:=hub) (tip:=tip) wind speed pitch density z hl hd)
 unfold z5p zhb torR
 rcases ybd as ls ds st n count hub tip wind speed pitch density with e | ⟨⟨h1,h2,_⟩,e⟩
 ·rw[e] at q1 q2 q4 ⊢
  simp only[pF_all,hst,p,q1,q2,q4,grd_true]
  rfl
 ·rw[e] at q1 q2 q4 ⊢
  obtain⟨g1,_,_,g2⟩:=y11 rfl (yam (st:=st) (l:=listOf (sf1 as ls ds st n count hub tip wind speed pitch density) n) h2)
  obtain⟨p1,q5⟩:=y01 (yao (as:=as) (ls:=ls) (ds:=ds) (st:=st) (n:=n) (count:=count) (hub:=hub) (tip:=tip) (l:=torL st (listOf (sf1 as ls ds st n count hub tip wind speed pitch density) n) n) ⟨by omega,h2⟩)
  obtain⟨p2,q6,q7⟩:=zmx (znr (fop .mul .f32 (fOI .f32 count) (sumS st (torL st (listOf (sf1 as ls ds st n count hub tip wind speed pitch density) n) n) (n-1))))
  simp only[pF_all,hst,p,q1,q2,q4,g1,g2,yf9 (z8z _ _),p1,q5,p2,q6,q7,grd_true]
  rfl
theorem y7a{as ls ds st:List Nat}{n:Nat}{count:Int}{hub tip:Nat}(wind speed pitch density:Nat)(z:st.length=n*3)(hl:ls.length<281474976710656)(hd:ds.length<281474976710656):z4t as.length as ls.length ls ds.length ds n st count hub tip wind speed pitch density=some (torR as ls ds st n count hub tip wind speed pitch density):=by
 have hst:pF st 0 (muN n 3)=st:=pF_all3 z
 obtain⟨p,q0,q1,q2,q3,q4⟩:=yc3 (yc6 (as:=as) (ls:=ls) (ds:=ds) (st:=st) (n:=n) (count:=count) (hub:=hub) (tip:=tip) wind speed pitch density z hl hd)
 unfold z4t zfo torR
 rcases ybd as ls ds st n count hub tip wind speed pitch density with e | ⟨⟨h1,h2,_⟩,e⟩
 ·rw[e] at q1 q2 q4 ⊢
  simp only[pF_all,hst,p,q1,q2,q4,grd_true]
  rfl
 ·rw[e] at q1 q2 q4 ⊢
  obtain⟨g1,_,_,g2⟩:=zzl rfl (ya6 (st:=st) (l:=listOf (sf1 as ls ds st n count hub tip wind speed pitch density) n) h2)
  obtain⟨p1,q5⟩:=ydf (yco (as:=as) (ls:=ls) (ds:=ds) (st:=st) (n:=n) (count:=count) (hub:=hub) (tip:=tip) (l:=torL st (listOf (sf1 as ls ds st n count hub tip wind speed pitch density) n) n) ⟨by omega,h2⟩)
  obtain⟨p2,q6,q7⟩:=zsk (zt0 (fop .mul .f32 (fOI .f32 count) (sumS st (torL st (listOf (sf1 as ls ds st n count hub tip wind speed pitch density) n) n) (n-1))))
  simp only[pF_all,hst,p,q1,q2,q4,g1,g2,yf9 (z8z _ _),p1,q5,p2,q6,q7,grd_true]
  rfl
noncomputable def powR(as ls ds st:List Nat)(n:Nat)(count:Int)(hub tip wind speed pitch density:Nat):Nat×Bool:=
 match (torR as ls ds st n count hub tip wind speed pitch density).2 with
 | true=>(checkV (fop .mul .f32 (torR as ls ds st n count hub tip wind speed pitch density).1 speed),finB (fop .mul .f32 (torR as ls ds st n count hub tip wind speed pitch density).1 speed))
 | false=>(0,false)
theorem y8y{as ls ds st:List Nat}{n:Nat}{count:Int}{hub tip:Nat}(wind speed pitch density:Nat)(z:st.length=n*3)(hl:ls.length<281474976710656)(hd:ds.length<281474976710656):z5s as.length as ls.length ls ds.length ds n st count hub tip wind speed pitch density=some (powR as ls ds st n count hub tip wind speed pitch density):=by
 have hst:pF st 0 (muN n 3)=st:=pF_all3 z
 obtain⟨p,q0,q1⟩:=y7d (y7a (as:=as) (ls:=ls) (ds:=ds) (st:=st) (n:=n) (count:=count) (hub:=hub) (tip:=tip) wind speed pitch density z hl hd)
 obtain⟨p2,q6,q7⟩:=zsk (zt0 (fop .mul .f32 (torR as ls ds st n count hub tip wind speed pitch density).1 speed))
 unfold z5s zhc powR
 simp only[pF_all,hst,p,q0,q1,p2,q6,q7,grd_true]
 cases (torR as ls ds st n count hub tip wind speed pitch density).2<;>rfl
def bstL(l:List Nat):Nat→Nat
 | 0=>0
 | k+1=>match fcmp .gtr .f32 (gF l k) (gF l (bstL l k)) with | true=>k | false=>bstL l k
def mstL(l:List Nat):Nat→Nat
 | 0=>0
 | k+1=>gF l (bstL l (k+1))
theorem ygj(l:List Nat):bstL l 1=0:=by
 show (match fcmp .gtr .f32 (gF l 0) (gF l (bstL l 0)) with | true=>0 | false=>bstL l 0)=0
 split<;>rfl
theorem yd8(l:List Nat):∀ {k n:Nat},k≤n→0<n→bstL l k<n
 | 0,n,_,h=>h
 | k+1,n,h1,h2=>by
  show (match fcmp .gtr .f32 (gF l k) (gF l (bstL l k)) with | true=>k | false=>bstL l k)<n
  split
  ·omega
  ·exact yd8 l (by omega) h2
theorem yet(l:List Nat){k:Nat}(h:0<k):mstL l k=gF l (bstL l k):=by
 obtain⟨m,rfl⟩:∃ m,k=m+1:=⟨k-1,by omega⟩
 rfl
theorem ygf{R:Type}{l:List Nat}{i x:Nat}(hx:gF l i=x)(K:Int→Nat→Option R) :
  br (eqI (Int.ofNat i) 0) (K (Int.ofNat i) x) (br (fcmp .gtr .f32 x (mstL l i)) (K (Int.ofNat i) x) (K (Int.ofNat (bstL l i)) (mstL l i)))=K (Int.ofNat (bstL l (i+1))) (mstL l (i+1)):=by
 rw[eqN0]
 by_cases h:i=0
 ·subst h
  show K (Int.ofNat 0) x=K (Int.ofNat (bstL l 1)) (gF l (bstL l 1))
  rw[ygj,hx]
 ·rw[decide_eq_false h,br_false,yet l (by omega),← hx]
  show _=K (Int.ofNat (match fcmp .gtr .f32 (gF l i) (gF l (bstL l i)) with | true=>i | false=>bstL l i)) (gF l (match fcmp .gtr .f32 (gF l i) (gF l (bstL l i)) with | true=>i | false=>bstL l i))
  cases fcmp .gtr .f32 (gF l i) (gF l (bstL l i))<;>rfl
theorem yc1{l:List Nat}(hl:l.length≤32)(h0:0<l.length):z0u l.length (Int.ofNat l.length) l big 0 0=some (Int.ofNat (bstL l l.length),Int.ofNat l.length,false):=by
 have:=runs (L:=fun m i=>z0u l.length (Int.ofNat l.length) l m (Int.ofNat (bstL l i.toNat)) i) (len:=l.length) (e:=(Int.ofNat (bstL l l.length),Int.ofNat l.length,false))
  (fun m i hi=>by
   show z0u _ _ _ _ (Int.ofNat (bstL l i)) _=z0u _ _ _ _ (Int.ofNat (match fcmp .gtr .f32 (gF l i) (gF l (bstL l i)) with | true=>i | false=>bstL l i)) _
   rw[zjz];unfold z37
   rw[ltN_t hi,okIx_t hi,okIx_t (yd8 l (by omega) h0),ix1,ix1,addI1 (by omega)]
   cases fcmp .gtr .f32 (gF l i) (gF l (bstL l i))<;>rfl)
  (fun m=>by
   show z0u _ _ _ _ (Int.ofNat (bstL l l.length)) _=_
   rw[zjz];unfold z37;rw[ltN_f (Nat.le_refl _)];rfl) (by omega)
 exact this
theorem yat{l:List Nat}(hl:l.length≤32)(h0:0<l.length):z6i l.length l=some (Int.ofNat (bstL l l.length),gF l (bstL l l.length)):=by
 obtain⟨g1,g2,_⟩:=y4j rfl (yc1 hl h0)
 unfold z6i zig
 rw[g1,g2,okIx_t (yd8 l (Nat.le_refl _) h0),ix1];rfl
theorem yg3(f:Nat→Nat){n i:Nat}(h:i<n):gF (listOf f n) i=f i:=by simp[gF,listOf,List.getD_eq_getElem?_getD,h]
noncomputable def bspP(as ls ds st:List Nat)(n:Nat)(count:Int)(hub tip:Nat)(ws:List Nat)(wind pitch density i:Nat):Nat×Bool:=powR as ls ds st n count hub tip wind (ws.getD i 0) pitch density
noncomputable def bspL(as ls ds st:List Nat)(n:Nat)(count:Int)(hub tip:Nat)(ws:List Nat)(wind pitch density:Nat):List Nat:=listOf (fun i=>(bspP as ls ds st n count hub tip ws wind pitch density i).1) ws.length
noncomputable def bspR(as ls ds st:List Nat)(n:Nat)(count:Int)(hub tip:Nat)(ws:List Nat)(wind pitch density:Nat):Int×Nat×Bool:=
 if (decide (1≤ws.length)&&(decide (ws.length≤32)&&(List.range ws.length).all fun i=>(bspP as ls ds st n count hub tip ws wind pitch density i).2))=true then
  (Int.ofNat (bstL (bspL as ls ds st n count hub tip ws wind pitch density) ws.length),gF (bspL as ls ds st n count hub tip ws wind pitch density) (bstL (bspL as ls ds st n count hub tip ws wind pitch density) ws.length),true) else (0,0,false)
theorem y4h{as ls ds st:List Nat}{n:Nat}{count:Int}{hub tip:Nat}{ws:List Nat}(wind pitch density:Nat)(z:st.length=n*3)(hl:ls.length<281474976710656)(hd:ds.length<281474976710656)(hw:ws.length≤32)(h0:0<ws.length) :
  let l:=bspL as ls ds st n count hub tip ws wind pitch density
  let p:=fun i=>(bspP as ls ds st n count hub tip ws wind pitch density i).2
  ((List.range ws.length).all p=true∧z04 ws.length (Int.ofNat ws.length) as ls ds st ws as.length ls.length ds.length n count hub tip wind pitch density big 0 0 0=some (.inr (Int.ofNat (bstL l ws.length),gF l (bstL l ws.length),Int.ofNat ws.length,false))) ∨
  ((List.range ws.length).all p=false∧z04 ws.length (Int.ofNat ws.length) as ls ds st ws as.length ls.length ds.length n count hub tip wind pitch density big 0 0 0=some (.inl ())):=by
 intro l p
 have hst:pF st 0 (muN n 3)=st:=pF_all3 z
 rcases scan (L:=fun m i=>z04 ws.length (Int.ofNat ws.length) as ls ds st ws as.length ls.length ds.length n count hub tip wind pitch density m (Int.ofNat (bstL l i.toNat)) (mstL l i.toNat) i) (len:=ws.length) p (g:=fun _=>()) (e:=(Int.ofNat (bstL l ws.length),gF l (bstL l ws.length),Int.ofNat ws.length,false))
  (fun m i hi=>by
   show z04 _ _ _ _ _ _ _ _ _ _ _ _ _ _ _ _ _ _ (Int.ofNat (bstL l i)) (mstL l i) (Int.ofNat i)=if p i=true then z04 _ _ _ _ _ _ _ _ _ _ _ _ _ _ _ _ _ _ (Int.ofNat (bstL l (i+1))) (mstL l (i+1)) (Int.ofNat (i+1)) else _
   have hx:gF l i=(bspP as ls ds st n count hub tip ws wind pitch density i).1:=yg3 _ hi
   have hp:p i=(bspP as ls ds st n count hub tip ws wind pitch density i).2:=rfl
   rw[hp]
   obtain⟨r1,r2,r3⟩:=y9b (y98 (as:=as) (ls:=ls) (ds:=ds) (st:=st) (n:=n) (count:=count) (hub:=hub) (tip:=tip) wind (ws.getD i 0) pitch density z hl hd)
   obtain⟨c1,c2,c3⟩:=zmx (znr (fop .mul .f32 (torR as ls ds st n count hub tip wind (ws.getD i 0) pitch density).1 (ws.getD i 0)))
   rw[za4];unfold z13
   rw[ltN_t hi,okIx_t hi,ix1,addI1 (by omega)]
   simp only[pF_all,hst,show gF ws i=ws.getD i 0 from rfl,r1,r2,r3,c1,c2,c3,grd_true,br_true,z7a]
   have hv:bspP as ls ds st n count hub tip ws wind pitch density i=match (torR as ls ds st n count hub tip wind (ws.getD i 0) pitch density).2 with
    | true=>(checkV (fop .mul .f32 (torR as ls ds st n count hub tip wind (ws.getD i 0) pitch density).1 (ws.getD i 0)),finB (fop .mul .f32 (torR as ls ds st n count hub tip wind (ws.getD i 0) pitch density).1 (ws.getD i 0)))
    | false=>(0,false):=rfl
   cases ht:(torR as ls ds st n count hub tip wind (ws.getD i 0) pitch density).2
   ·rw[ht] at hv
    rw[hv];rfl
   ·rw[ht] at hv
    rw[hv] at hx ⊢
    cases hf:finB (fop .mul .f32 (torR as ls ds st n count hub tip wind (ws.getD i 0) pitch density).1 (ws.getD i 0))
    ·rfl
    ·simp only[z7a,br_false,if_true]
     exact ygf hx (fun b m'=>z04 ws.length (Int.ofNat ws.length) as ls ds st ws as.length ls.length ds.length n count hub tip wind pitch density m b m' (Int.ofNat (i+1))))
  (fun m=>by
   show z04 _ _ _ _ _ _ _ _ _ _ _ _ _ _ _ _ _ _ (Int.ofNat (bstL l ws.length)) (mstL l ws.length) (Int.ofNat ws.length)=_
   rw[za4];unfold z13;rw[ltN_f (Nat.le_refl _),yet l h0];rfl) ws.length 0 big (by omega) (uet (by omega)) with⟨h1,h2⟩ | ⟨j,h1,h2,h3,h4⟩
 ·exact .inl ⟨zx6 h1,h2⟩
 ·exact .inr ⟨ztk h2 h3,h4⟩
theorem y3h{as ls ds st:List Nat}{n:Nat}{count:Int}{hub tip:Nat}{ws:List Nat}(wind pitch density:Nat)(z:st.length=n*3)(hl:ls.length<281474976710656)(hd:ds.length<281474976710656)(hw:ws.length≤32) :
  let p:=fun i=>(bspP as ls ds st n count hub tip ws wind pitch density i).2
  ((List.range ws.length).all p=true∧z0e wind ws.length pitch density (Int.ofNat ws.length) as ls ds st ws as.length ls.length ds.length n count hub tip big 0 0 []=some (.inr (ws.length,Int.ofNat ws.length,false,bspL as ls ds st n count hub tip ws wind pitch density)))∨((List.range ws.length).all p=false∧z0e wind ws.length pitch density (Int.ofNat ws.length) as ls ds st ws as.length ls.length ds.length n count hub tip big 0 0 []=some (.inl ())):=by
 intro p
 have hst:pF st 0 (muN n 3)=st:=pF_all3 z
 let f:=fun i=>(bspP as ls ds st n count hub tip ws wind pitch density i).1
 rcases scan (L:=fun m i=>z0e wind ws.length pitch density (Int.ofNat ws.length) as ls ds st ws as.length ls.length ds.length n count hub tip m i.toNat i (listOf f i.toNat)) (len:=ws.length) p (g:=fun _=>()) (e:=(ws.length,Int.ofNat ws.length,false,listOf f ws.length))
  (fun m i hi=>by
   show z0e _ _ _ _ _ _ _ _ _ _ _ _ _ _ _ _ _ _ i (Int.ofNat i) (listOf f i)=if p i=true then z0e _ _ _ _ _ _ _ _ _ _ _ _ _ _ _ _ _ _ (i+1) (Int.ofNat (i+1)) (listOf f (i+1)) else _
   obtain⟨r1,r2,r3⟩:=yaa (y8y (as:=as) (ls:=ls) (ds:=ds) (st:=st) (n:=n) (count:=count) (hub:=hub) (tip:=tip) wind (ws.getD i 0) pitch density z hl hd)
   rw[zhr];unfold z2f
   rw[ltN_t hi,okIx_t hi,ix1,addI1 (by omega),zx5]
   simp only[gF,pF_all,hst,r1,r2,r3,grd_true,yeu _ (b:=listOf f i) (z8z _ _) (by omega)]
   show br true (br (bnot (p i)) _ _) _=_
   cases p i<;>rfl)
  (fun m=>by
   show z0e _ _ _ _ _ _ _ _ _ _ _ _ _ _ _ _ _ _ ws.length (Int.ofNat ws.length) (listOf f ws.length)=_
   rw[zhr];unfold z2f;rw[ltN_f (Nat.le_refl _)];rfl) ws.length 0 big (by omega) (uet (by omega)) with⟨h1,h2⟩ | ⟨j,h1,h2,h3,h4⟩
 ·exact .inl ⟨zx6 h1,h2⟩
 ·exact .inr ⟨ztk h2 h3,h4⟩
theorem y71{as ls ds st:List Nat}{n:Nat}{count:Int}{hub tip:Nat}{ws:List Nat}(wind pitch density:Nat)(z:st.length=n*3)(hl:ls.length<281474976710656)(hd:ds.length<281474976710656):z3v as.length as ls.length ls ds.length ds n st count hub tip wind ws.length ws pitch density=some (bspR as ls ds st n count hub tip ws wind pitch density):=by
 have hst:pF st 0 (muN n 3)=st:=pF_all3 z
 unfold z3v zf6 bspR
 rw[show ltI (Int.ofNat ws.length) 1=decide (ws.length<1) from ltN _ 1,show ltI 32 (Int.ofNat ws.length)=!decide (ws.length≤32) from gtN 32 _]
 by_cases h1:1≤ws.length
 ·rw[decide_eq_true h1,decide_eq_false (show ¬ ws.length<1 by omega)]
  by_cases h2:ws.length≤32
  ·rw[decide_eq_true h2]
   rcases y4h (as:=as) (ls:=ls) (ds:=ds) (st:=st) (n:=n) (count:=count) (hub:=hub) (tip:=tip) (ws:=ws) wind pitch density z hl hd h2 (by omega) with⟨c,l⟩ | ⟨c,l⟩
   ·obtain⟨g1,g2,g3,g4,_⟩:=zou rfl l
    rw[c]
    simp only[pF_all,hst,g1,g2,g3,g4]
    rfl
   ·obtain⟨g1,g2⟩:=zot rfl l
    rw[c]
    simp only[pF_all,hst,g1,g2]
    rfl
  ·rw[decide_eq_false h2];rfl
 ·rw[decide_eq_false h1,decide_eq_true (show ws.length<1 by omega)];rfl
theorem y85{as ls ds st:List Nat}{n:Nat}{count:Int}{hub tip:Nat}{ws:List Nat}(wind pitch density:Nat)(z:st.length=n*3)(hl:ls.length<281474976710656)(hd:ds.length<281474976710656):z40 as.length as ls.length ls ds.length ds n st count hub tip wind ws.length ws pitch density=some (bspR as ls ds st n count hub tip ws wind pitch density):=by
 have hst:pF st 0 (muN n 3)=st:=pF_all3 z
 unfold z40 zfi bspR
 rw[show ltI (Int.ofNat ws.length) 1=decide (ws.length<1) from ltN _ 1,show ltI 32 (Int.ofNat ws.length)=!decide (ws.length≤32) from gtN 32 _]
 by_cases h1:1≤ws.length
 ·rw[decide_eq_true h1,decide_eq_false (show ¬ ws.length<1 by omega)]
  by_cases h2:ws.length≤32
  ·rw[decide_eq_true h2]
   rcases y3h (as:=as) (ls:=ls) (ds:=ds) (st:=st) (n:=n) (count:=count) (hub:=hub) (tip:=tip) (ws:=ws) wind pitch density z hl hd h2 with⟨c,l⟩ | ⟨c,l⟩
   ·obtain⟨g1,g2,g3,_,_,g6⟩:=zzs rfl l
    have hL:(bspL as ls ds st n count hub tip ws wind pitch density).length=ws.length:=z8z _ _
    have hpf:pF (bspL as ls ds st n count hub tip ws wind pitch density) 0 (muN ws.length 1)=bspL as ls ds st n count hub tip ws wind pitch density:=yg7 _ _
    obtain⟨b1,b2,b3⟩:=ybi (yat (l:=bspL as ls ds st n count hub tip ws wind pitch density) (by omega) (by omega))
    rw[hL] at b1 b2 b3
    rw[c]
    simp only[pF_all,hst,g1,g2,g3,g6,hpf,b1,b2,b3]
    rfl
   ·obtain⟨g1,g2⟩:=zzr rfl l
    rw[c]
    simp only[pF_all,hst,g1,g2]
    rfl
  ·rw[decide_eq_false h2];rfl
 ·rw[decide_eq_false h1,decide_eq_true (show ws.length<1 by omega)];rfl
theorem plain_FnExactBestSpeed{as ls ds st:List Nat}{n:Nat}{count:Int}{hub tip:Nat}{ws:List Nat}{wind pitch density:Nat}(ka:∀ x∈as,canW .f32 x)(ma:as.length≤maxLen)(kl:∀ x∈ls,canW .f32 x)(ml:ls.length≤maxLen)(kd:∀ x∈ds,canW .f32 x)(md:ds.length≤maxLen)
  (z:st.length=n*3) (ks:∀ x∈st,canW .f32 x) (mn:n≤maxLen) (kc:bdI .i64 count) (kh:canW .f32 hub) (kt:canW .f32 tip) (kw:canW .f32 wind) (kws:∀ x∈ws,canW .f32 x) (mws:ws.length≤maxLen) (kv:canW .f32 pitch) (kd2:canW .f32 density):z2l as.length as ls.length ls ds.length ds n st count hub tip wind ws.length ws pitch density=some true:=by
 have e9:ltI 1048576 (Int.ofNat ws.length)=decide (1048576<ws.length):=ltN 1048576 _
 obtain⟨r,p1,q1,_,h⟩:=ygd (count:=count) (hub:=hub) (tip:=tip) ma ml md z mn (left:=1048576) (by decide) (by decide)
 have hst:pF st 0 (muN n 3)=st:=pF_all3 z
 unfold z2l z7f
 simp only[laws_FnExactBestSpeed_c0,laws_FnExactBestSpeed_c1,laws_FnExactBestSpeed_c2,laws_FnExactBestSpeed_c3,laws_FnExactBestSpeed_c4,laws_FnExactBestSpeed_c5,laws_FnExactBestSpeed_c6,laws_FnExactBestSpeed_c7,laws_FnExactBestSpeed_c8,laws_FnExactBestSpeed_c9,laws_FnExactBestSpeed_c10,laws_FnExactBestSpeed_c11,pF_all,hst,p1,q1,grd_true,e9]
 by_cases hw:1048576<ws.length
 ·rw[decide_eq_true hw];rfl
 rw[decide_eq_false hw]
 rcases h with h | ⟨e,l,t0,t1,t2,t3,t4,t5,t6,t7,t8,e0,e1⟩
 ·rw[ltI_t h];rfl
 ·skip
  obtain⟨u0,u1,u2⟩:=zbk (zbe (xs:=ws) (by omega))
  obtain⟨v0,v1⟩:=zby (z9k (xs:=ws) (by omega))
  obtain⟨i0,i1,i2,i3⟩:=y8b (y71 (as:=as) (ls:=ls) (ds:=ds) (st:=st) (n:=n) (count:=count) (hub:=hub) (tip:=tip) (ws:=ws) wind pitch density z (by omega) (by omega))
  obtain⟨s0,s1,s2,s3⟩:=y81 (y85 (as:=as) (ls:=ls) (ds:=ds) (st:=st) (n:=n) (count:=count) (hub:=hub) (tip:=tip) (ws:=ws) wind pitch density z (by omega) (by omega))
  obtain⟨p6,q6⟩:=z5a (z4c (fcvV .f32 .f64 (bspR as ls ds st n count hub tip ws wind pitch density).2.1))
  simp only[laws_FnExactBestSpeed_c0,laws_FnExactBestSpeed_c1,laws_FnExactBestSpeed_c2,laws_FnExactBestSpeed_c3,laws_FnExactBestSpeed_c4,laws_FnExactBestSpeed_c5,laws_FnExactBestSpeed_c6,laws_FnExactBestSpeed_c7,laws_FnExactBestSpeed_c8,laws_FnExactBestSpeed_c9,laws_FnExactBestSpeed_c10,laws_FnExactBestSpeed_c11,e,t0,t1,t2,t3,t4,t5,t6,t7,t8,e0,e1,pF_all,hst,u0,u1,u2,v0,v1,i0,i1,i2,i3,s0,s1,s2,s3,p6,q6,grd_true,br_false,z7a,yg8,y9a]
end Go.Rf
