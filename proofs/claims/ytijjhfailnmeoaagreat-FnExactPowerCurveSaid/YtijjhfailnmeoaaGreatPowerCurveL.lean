import Derived.Test.YtijjhfailnmeoaaGreatPowerCurveP
set_option linter.unusedVariables false
set_option linter.unusedSimpArgs false
set_option linter.unusedSectionVars false
set_option maxRecDepth 100000
set_option maxHeartbeats 4000000
namespace Go.Rf
open Go
def finB(x:Nat):Bool:=fcmp .eql .f32 (fop .sub .f32 x x) 0
def leastB(x:Nat):Bool:=finB x&&fcmp .geq .f32 x 0
def posB(x:Nat):Bool:=finB x&&fcmp .gtr .f32 x 0
theorem yh4{op:BinOp}{k:FloatKind}{x y:Nat}(h:nanB k x=true∨nanB k y=true):floatBits op k x y=none:=by
 unfold floatBits
 rcases h with h | h
 ·obtain⟨s,f,e⟩:=u2b h
  cases op<;>simp only[Ieee.Format.add,Ieee.Format.sub,Ieee.Format.mul,Ieee.Format.div,e,u4d,u5g,u4n,Option.map_none]
 ·obtain⟨s,f,e⟩:=u2b h
  cases op<;>simp only[Ieee.Format.add,Ieee.Format.sub,Ieee.Format.mul,Ieee.Format.div,e,u40,u4o,u4i,Option.map_none,Ieee.Datum.opposite]
theorem yii{op:BinOp}{k:FloatKind}{x y:Nat}(h:nanB k x=true∨nanB k y=true):fop op k x y=qn k:=by
 unfold fop
 rw[yh4 h];rfl
theorem yif{x:Nat}(h:finB x=true):nanB .f32 x=false:=by
 cases hn:nanB .f32 x with
 | false=>rfl
 | true=>
  unfold finB at h
  rw[yii (.inl hn),(u89 .f32 (.inl (u9v .f32))).1] at h
  cases h
theorem yhz:nanB .f32 0=false:=by decide +kernel
theorem yi8{x y:Nat}(hx:nanB .f32 x=false)(hy:nanB .f32 y=false):fcmp .leq .f32 x y=!fcmp .gtr .f32 x y:=by
 obtain⟨_,_,_,h4,h5,_⟩:=u53 .f32 hx hy
 rw[h4,h5]
 by_cases h:srung FloatKind.f32.format x≤srung FloatKind.f32.format y
 ·rw[decide_eq_true h,decide_eq_false (by omega)];rfl
 ·rw[decide_eq_false h,decide_eq_true (by omega)];rfl
theorem z3l(x:Nat):z9p x=some (finB x):=rfl
theorem z1q(x:Nat):z98 x=some (finB x):=rfl
theorem zzp(x:Nat):z96 x=some (leastB x):=by
 obtain⟨h1,h2⟩:=z3h (z3l x)
 unfold z96 zkx leastB
 rw[h1,h2]
 cases finB x<;>rfl
theorem zx5(x:Nat):z88 x=some (leastB x):=by
 obtain⟨h1,h2⟩:=z1p (z1q x)
 unfold z88 zjq leastB
 rw[h1,h2]
 cases finB x<;>rfl
theorem z93(x:Nat):z89 x=some (posB x):=by
 obtain⟨h1,h2⟩:=z1p (z1q x)
 unfold z89 zjh posB
 rw[h1,h2]
 cases finB x<;>rfl
theorem y2c(x:Nat):z4t x=some (!posB x):=by
 obtain⟨h1,h2⟩:=z3h (z3l x)
 unfold z4t zaq posB
 rw[h1,h2]
 cases hf:finB x with
 | false=>rfl
 | true=>simp only[br_if,grd_true,bnot,Bool.not_true,yi8 (yif hf) yhz];simp
theorem y92(x:Nat):z6d x=some (!leastB x):=by
 obtain⟨h1,h2⟩:=zzx (zzp x)
 unfold z6d zfo
 rw[h1,h2];rfl
def checkV(x:Nat):Nat:=if finB x then x else 0
theorem zqg(x:Nat):z7m x=some (checkV x,finB x):=by
 obtain⟨h1,h2⟩:=z3h (z3l x)
 unfold z7m zko checkV
 rw[h1,h2]
 cases finB x<;>rfl
theorem z6n(x:Nat):z79 x x=some true:=by
 unfold z79 zhq
 simp only[neq_self]
 cases hn:nanB .f64 x with
 | true=>rfl
 | false=>
  have he:fcmp .eql .f64 x x=true:=by rw[(u53 .f64 hn hn).1];simp
  simp only[br_if,Bool.false_eq_true,if_false,he,beqB,BEq.rfl]
  split<;>rfl
theorem zwe{xs:List Nat}(hl:xs.length<281474976710656):∃ r:Int,z17 xs.length xs=some r∧leI 0 r=!xs.all leastB:=by
 unfold z17 z32
 rcases scan_all (L:=z03 xs.length (Int.ofNat xs.length) xs) xs leastB (g:=fun i=>Int.ofNat i) (e:=(Int.ofNat xs.length,false))
  (fun n i hi=>by
   rw[z63];unfold z0k;rw[ltN_t hi,okIx_t hi,ix1,addI1 (by omega)]
   simp only[gF]
   generalize xs.getD i 0=x
   obtain⟨h1,h2⟩:=y9j (y92 x)
   simp only[br_if,grd_true,h1,h2]
   rcases Bool.eq_false_or_eq_true (leastB x) with h | h<;>simp[h])
  (fun n=>by rw[z63];unfold z0k;rw[ltN_f (Nat.le_refl _)];rfl) hl with⟨h1,h2⟩ | ⟨j,h2,h3,h4⟩
 ·obtain⟨g1,g2,_⟩:=zeo rfl h2
  exact⟨Int.negSucc 0,by rw[g1,g2];rfl,by rw[h1];rfl⟩
 ·obtain⟨g1,g2,g3⟩:=zej rfl h4
  exact⟨Int.ofNat j,by rw[g1,g2,g3];rfl,by rw[h3];exact decide_eq_true (by simp)⟩
theorem zso{xs:List Nat}(hl:xs.length<281474976710656):z10 xs.length xs=some (!xs.all leastB):=by
 obtain⟨r,h1,h2⟩:=zwe hl
 obtain⟨g1,g2⟩:=zii h1
 unfold z10 z2k
 rw[pF_all,g1,g2,h2];rfl
theorem yci{xs:List Nat}(hl:xs.length<281474976710656):z8c xs.length xs=some (xs.all leastB):=by
 obtain⟨g1,g2⟩:=zfq (zso hl)
 unfold z8c zjp
 rw[pF_all,g1,g2]
 simp[grd_true,bnot]
theorem zsq{xs:List Nat}(hl:xs.length<281474976710656):∃ r:Int,z11 xs.length xs=some r∧leI 0 r=!xs.all posB:=by
 unfold z11 z2j
 rcases scan_all (L:=z01 xs.length (Int.ofNat xs.length) xs) xs posB (g:=fun i=>Int.ofNat i) (e:=(Int.ofNat xs.length,false))
  (fun n i hi=>by
   rw[z5c];unfold z0h;rw[ltN_t hi,okIx_t hi,ix1,addI1 (by omega)]
   simp only[gF]
   generalize xs.getD i 0=x
   obtain⟨h1,h2⟩:=y38 (y2c x)
   simp only[br_if,grd_true,h1,h2]
   rcases Bool.eq_false_or_eq_true (posB x) with h | h<;>simp[h])
  (fun n=>by rw[z5c];unfold z0h;rw[ltN_f (Nat.le_refl _)];rfl) hl with⟨h1,h2⟩ | ⟨j,h2,h3,h4⟩
 ·obtain⟨g1,g2,_⟩:=zcc rfl h2
  exact⟨Int.negSucc 0,by rw[g1,g2];rfl,by rw[h1];rfl⟩
 ·obtain⟨g1,g2,g3⟩:=zci rfl h4
  exact⟨Int.ofNat j,by rw[g1,g2,g3];rfl,by rw[h3];exact decide_eq_true (by simp)⟩
theorem zpc{xs:List Nat}(hl:xs.length<281474976710656):z0r xs.length xs=some (!xs.all posB):=by
 obtain⟨r,h1,h2⟩:=zsq hl
 obtain⟨g1,g2⟩:=zg1 h1
 unfold z0r z20
 rw[pF_all,g1,g2,h2];rfl
theorem zir{xs:List Nat}(hl:xs.length<281474976710656):z24 xs.length xs=some (xs.all posB):=by
 obtain⟨g1,g2⟩:=zdj (zpc hl)
 unfold z24 zcz
 rw[pF_all,g1,g2]
 simp[grd_true,bnot]
theorem zqo(x y:Nat):z24 2 (pF [x,y] 0 (muN 2 1))=some (posB x&&posB y):=by
 have:=zir (xs:=[x,y]) (by simp)
 simpa [pF,muN] using this
def fromToB(x low high:Nat):Bool:=fcmp .geq .f32 x low&&fcmp .leq .f32 x high
theorem zxb(x low high:Nat):z8a x low high=some (fromToB x low high):=by
 unfold z8a zjr fromToB
 rcases Bool.eq_false_or_eq_true (fcmp .geq .f32 x low) with h | h<;>simp[h,br_if]
theorem zk0(n:Nat)(xs:List Nat)(left:Int):∃ r,z69 n xs left=some r∧(0≤left→left≤1048576→n≤9223372036854775807→(0≤r→r=left-n∧(n:Int)≤left)∧r≤1048576):=by
 unfold z69 zfe
 by_cases h:subI .i64 left (Int.ofNat n)<0
 ·rw[ltI_t h]
  exact⟨_,rfl,fun _ _ _=>⟨fun q=>by simp at q,by decide⟩⟩
 ·rw[ltI_f h]
  refine⟨_,rfl,fun h1 h2 h3 => ?_⟩
  have e:subI .i64 left (Int.ofNat n)=left-n:=uem (by simp;omega) (by simp;omega)
  rw[e] at h ⊢
  exact⟨fun _=>⟨rfl,by omega⟩,by omega⟩
theorem zdl{xs:List Nat}(hl:xs.length≤1099511627776):z4z xs.length xs=some (xs.length,xs):=by
 have hf:=uev (L:=z1k xs.length xs.length xs) (len:=xs.length) (fun i s=>s.set i (xs.getD i 0)) (e:=fun s=>(Int.ofNat xs.length,false,s))
  (fun n i s hi=>by rw[zju];unfold z2q;rw[ltN_t hi,okIx_t hi,ix1,addI1 (by omega)];rfl)
  (fun n s=>by rw[zju];unfold z2q;rw[ltN_f (Nat.le_refl _)];rfl) xs.length 0 big (List.replicate xs.length 0) (by omega) (uet (by omega))
 rw[uc7 xs _ _ _ (by omega) (by simp)] at hf
 simp only[List.take_zero,List.drop_zero,List.nil_append] at hf
 obtain⟨g1,_,_,g2⟩:=y1h rfl hf
 have e:rF (muN (toN (Int.ofNat xs.length)) 1)=List.replicate xs.length 0:=by simp[rF,muN,toN]
 have ho:okMk (Int.ofNat xs.length) (Int.ofNat xs.length) 4=true:=decide_eq_true ⟨rfl,by simp,by simp;omega,by decide⟩
 unfold z4z zfa
 rw[e,ho,toN_nat]
 show grd (zia xs.length xs.length xs (Int.ofNat 0) (List.replicate xs.length 0)) (some (_,zck xs.length xs.length xs (Int.ofNat 0) (List.replicate xs.length 0)))=_
 rw[g1,g2];rfl
theorem z8d{xs:List Nat}(hl:xs.length<281474976710656):z6a xs.length xs xs.length xs=some true:=by
 have hn:neI (Int.ofNat xs.length) (Int.ofNat xs.length)=false:=by simp[neI]
 unfold z6a zfj
 rw[hn]
 rcases scan_all (L:=z1i xs.length xs.length xs xs) xs (fun _=>true) (g:=fun i=>()) (e:=(Int.ofNat xs.length,false))
  (fun n i hi=>by
   obtain⟨h1,h2⟩:=z8m (z6n (fcvV FloatKind.f32 FloatKind.f64 (gF xs i)))
   rw[zjb];unfold z2m;rw[ltN_t hi,okIx_t hi,ix1,addI1 (by omega),h1,h2]
   rfl)
  (fun n=>by rw[zjb];unfold z2m;rw[ltN_f (Nat.le_refl _)];rfl) hl with⟨h1,h2⟩ | ⟨j,h2,h3,h4⟩
 ·obtain⟨g1,g2,_⟩:=y16 rfl h2
  rw[g1,g2];rfl
 ·simp at h3
theorem yj2(b:Bool):beqB b b=true:=by cases b<;>rfl
theorem ycl(i:Int):neI i i=false:=by simp[neI]
theorem zb0:bnot true=false:=rfl
theorem ltN(a b:Nat):ltI (Int.ofNat a) (Int.ofNat b)=decide (a<b):=by by_cases h:a<b<;>simp[ltI,h]<;>omega
theorem yk1{xs:List Nat}{i:Nat}(h:i<xs.length):xs.getD i 0∈xs:=by
 rw[List.getD_eq_getElem?_getD,List.getElem?_eq_getElem h];exact List.getElem_mem _
theorem y5o{x:Nat}(h:nanB .f64 x=false):zbo x=some (fint .down x):=by
 unfold zbo zqu
 simp only[nanQ,h,bnot,Bool.not_false,grd_true]
def inB(n low high:Int):Bool:=decide (low≤n)&&decide (n≤high)
theorem y5z(n low high:Int):zbe n low high=some (inB n low high):=by
 unfold zbe zq5 inB leI
 cases decide (low≤n)<;>rfl
theorem zsw(n low high:Int):zac n low high=some (inB n low high):=by
 unfold zac zn4 inB leI
 cases decide (low≤n)<;>rfl
theorem yjg{n l h:Int}(e:inB n l h=true):l≤n∧n≤h:=by
 unfold inB at e
 rw[Bool.and_eq_true] at e
 exact⟨of_decide_eq_true e.1,of_decide_eq_true e.2⟩
def marks(k0:Int)(n:Nat):List Nat:=(List.range n).map fun (j:Nat)=>fOI .f32 (k0+(j:Int))
theorem zjy(k0:Int)(n:Nat):(marks k0 n).length=n:=by simp[marks]
theorem zty{k0:Int}{n i:Nat}(h:i<n):(marks k0 n).getD i 0=fOI .f32 (k0+(i:Int)):=by
 simp[marks,List.getD_eq_getElem?_getD,h]
theorem yk8(k:FloatKind)(n:Int):nanB k (fOI k n)=false:=by
 rw[show fOI k n=floatOfInt k n from rfl,ube]
 exact u3b k _ (u0i _ _ _)
theorem yf9{a b:Int}(h1:-9223372036854775808≤a+b)(h2:a+b≤9223372036854775807):addI .i64 a b=a+b:=uem h1 h2
theorem zts {L:Nat→Int→Int→List Nat→Option (Int×Int×Bool×List Nat)} {len:Nat} {k0:Int} {ys:List Nat} (hy:ys.length=len) (hk:0≤k0) (hk2:k0≤1099511627776) (hl:len<281474976710656)
  (hs:∀ n k i b,L (n+1) k i b=br (ltI i (Int.ofNat len)) (grd (okIx i len) (L n (addI .i64 k 1) (addI .i64 i 1) (sF b (ixO 0 i 1) (fOI .f32 k)))) (some (k,i,ltI i (Int.ofNat len),b))) :
  L big k0 0 ys=some (k0+(len:Int),Int.ofNat len,false,marks k0 len):=by
 have hf:=uev (L:=fun n i s=>L n (k0+i) i s) (len:=len) (fun i s=>s.set i ((marks k0 len).getD i 0)) (e:=fun s=>(k0+(len:Int),Int.ofNat len,false,s))
  (fun n i s hi=>by
   show L _ _ _ _=L _ _ _ _
   rw[hs,ltN_t hi,okIx_t hi,ix1,addI1 (by omega),yf9 (by simp;omega) (by simp;omega),zty hi]
   have:k0+Int.ofNat i+1=k0+Int.ofNat (i+1):=by simp;omega
   rw[this];rfl)
  (fun n s=>by show L _ _ _ _=_;rw[hs,ltN_f (Nat.le_refl _)];rfl) len 0 big ys (by omega) (uet hl)
 have hm:=uc7 (marks k0 len) len 0 ys (by simp[zjy]) (by rw[zjy,hy])
 rw[hm] at hf
 simpa using hf
theorem y3x{k0:Int}{n:Nat}(hk:0≤k0)(hk2:k0≤1099511627776)(hl:n<281474976710656):z56 n (marks k0 n) k0=some (k0+(n:Int)):=by
 unfold z56 zbr
 rcases scan (L:=fun m i=>z0n n (marks k0 n) m (k0+i) i) (len:=n) (fun _=>true) (g:=fun _=>()) (e:=(k0+(n:Int),Int.ofNat n,false))
  (fun m i hi=>by
   show z0n _ _ _ _ _=_
   rw[zgz];unfold z22
   rw[ltN_t hi,okIx_t hi,ix1,addI1 (by omega),yf9 (by simp;omega) (by simp;omega)]
   have e:fcmp .neq .f32 (gF (marks k0 n) i) (fOI .f32 (k0+Int.ofNat i))=false:=by
    show fcmp .neq .f32 ((marks k0 n).getD i 0) _=false
    rw[zty hi]
    show fcmp .neq .f32 (fOI .f32 (k0+Int.ofNat i)) (fOI .f32 (k0+Int.ofNat i))=false
    rw[neq_self,yk8]
   have:k0+Int.ofNat i+1=k0+Int.ofNat (i+1):=by simp;omega
   rw[e,this];rfl)
  (fun m=>by show z0n _ _ _ _ _=_;rw[zgz];unfold z22;rw[ltN_f (Nat.le_refl _)];rfl) n 0 big (by omega) (uet hl) with⟨k1,k2⟩ | ⟨j,k1,k2,k3,k4⟩
 ·have k2:z0n n (marks k0 n) big k0 0=some (Sum.inr (k0+(n:Int),Int.ofNat n,false)):=by simpa using k2
  obtain⟨g1,g2,g3,_⟩:=zxg rfl k2
  rw[g1,g2,g3];rfl
 ·cases k3
theorem yfe{ys:List Nat}{i:Nat}(h:i<ys.length):ys.take i++[ys.getD i 0]=ys.take (i+1):=by
 rw[List.take_succ_eq_append_getElem h];simp[List.getD_eq_getElem?_getD,h]
theorem yeg{n:Nat}{b:List Nat}(x:Nat)(hb:b.length=n)(hn:n<1099511627776):okA2 n 1 4 (nF (pF [x] 0 (muN 1 1))) (nF b) 1=true:=
 decide_eq_true ⟨by omega,by omega,by simp[nF,pF,muN],by simp[nF,hb]⟩
theorem runs{ρ:Type}{L:Nat→Int→Option ρ}{len:Nat}{e:ρ} (hs:∀ n i,i<len→L (n+1) (Int.ofNat i)=L n (Int.ofNat (i+1))) (he:∀ n,L (n+1) (Int.ofNat len)=some e) (hl:len<281474976710656):L big 0=some e:=by
 have:=uev (L:=fun n i (_:Unit)=>L n i) (len:=len) (fun _ _=>()) (e:=fun _=>e) (fun n i _ hi=>hs n i hi) (fun n _=>he n) len 0 big () (by omega) (uet hl)
 exact this
theorem y6k(x:Nat):z5m x=some (!finB x):=by
 obtain⟨h1,h2⟩:=z3h (z3l x)
 unfold z5m zdm
 rw[h1,h2];rfl
theorem zu9{xs:List Nat}(hl:xs.length<281474976710656):∃ r:Int,z14 xs.length xs=some r∧leI 0 r=!xs.all finB:=by
 unfold z14 z2u
 rcases scan_all (L:=z02 xs.length (Int.ofNat xs.length) xs) xs finB (g:=fun i=>Int.ofNat i) (e:=(Int.ofNat xs.length,false))
  (fun n i hi=>by
   rw[z5r];unfold z0j;rw[ltN_t hi,okIx_t hi,ix1,addI1 (by omega)]
   simp only[gF]
   generalize xs.getD i 0=x
   obtain⟨h1,h2⟩:=y62 (y6k x)
   simp only[br_if,grd_true,h1,h2]
   rcases Bool.eq_false_or_eq_true (finB x) with h | h<;>simp[h])
  (fun n=>by rw[z5r];unfold z0j;rw[ltN_f (Nat.le_refl _)];rfl) hl with⟨h1,h2⟩ | ⟨j,h2,h3,h4⟩
 ·obtain⟨g1,g2,_⟩:=zdr rfl h2
  exact⟨Int.negSucc 0,by rw[g1,g2];rfl,by rw[h1];rfl⟩
 ·obtain⟨g1,g2,g3⟩:=zdq rfl h4
  exact⟨Int.ofNat j,by rw[g1,g2,g3];rfl,by rw[h3];exact decide_eq_true (by simp)⟩
theorem zri{xs:List Nat}(hl:xs.length<281474976710656):z0x xs.length xs=some (!xs.all finB):=by
 obtain⟨r,h1,h2⟩:=zu9 hl
 obtain⟨g1,g2⟩:=zhb h1
 unfold z0x z2d
 rw[pF_all,g1,g2,h2];rfl
theorem zv5{xs:List Nat}(hl:xs.length<281474976710656):z5j xs.length xs=some (xs.all finB):=by
 obtain⟨g1,g2⟩:=zei (zri hl)
 unfold z5j zi8
 rw[pF_all,g1,g2]
 simp[grd_true,bnot]
theorem zsl(x:Nat):finB x=finW .f32 x:=by
 cases hn:nanB .f32 x with
 | true=>
  have h1:finB x=false:=by
   cases h:finB x with
   | false=>rfl
   | true=>rw[yif h] at hn;cases hn
  have h2:finW .f32 x=false:=by
   cases h:finW .f32 x with
   | false=>rfl
   | true=>rw[u1g h] at hn;cases hn
  rw[h1,h2]
 | false=>
  cases hf:finW .f32 x with
  | true=>
   unfold finB
   rw[u28 hf hf]
   have h0:(vl .f32 x-vl .f32 x).natAbs=0:=by simp
   rw[h0,u8j]
   generalize sgn0 _ _ _=s
   cases s<;>decide +kernel
  | false=>
   have hr:=inf_read hn hf
   unfold finB
   have e:fop .sub .f32 x x=qn .f32:=by
    unfold fop floatBits Ieee.Format.sub
    simp only[hr]
    cases nn .f32 x<;>simp[Ieee.Datum.opposite,Ieee.Datum.sum]
   rw[e]
   decide +kernel
theorem zx6{k:FloatKind}{x:Nat}(h:nanB k x=true):finW k x=false:=by
 cases hf:finW k x with
 | false=>rfl
 | true=>rw[u1g hf] at h;cases h
theorem ykm(k:FloatKind):finW k (qn k)=false:=zx6 (u9v k)
def walkS{σ α β:Type}(p:Nat→σ→Bool)(f:Nat→σ→σ)(g:Nat→σ→α)(e:σ→β):Nat→Nat→σ→α⊕β
 | 0,_,s=>.inr (e s)
 | k+1,i,s=>if p i s=true then walkS p f g e k (i+1) (f i s) else .inl (g i s)
theorem walks{σ α β:Type} {L:Nat→Int→σ→Option (α⊕β)} {len:Nat} (p:Nat→σ→Bool) (f:Nat→σ→σ) {g:Nat→σ→α} {e:σ→β}
  (hs:∀ n i s,i<len→L (n+1) (Int.ofNat i) s=if p i s=true then L n (Int.ofNat (i+1)) (f i s) else some (.inl (g i s))) (he:∀ n s,L (n+1) (Int.ofNat len) s=some (.inr (e s))) :
  ∀ k i n s,i+k=len→k<n→L n (Int.ofNat i) s=some (walkS p f g e k i s)
 | 0,i,n,s,hk,hn=>by
  obtain⟨n,rfl⟩:∃ m,n=m+1:=⟨n-1,by omega⟩
  obtain rfl:i=len:=by omega
  exact he n s
 | k+1,i,n,s,hk,hn=>by
  obtain⟨n,rfl⟩:∃ m,n=m+1:=⟨n-1,by omega⟩
  rw[hs n i s (by omega)]
  unfold walkS
  cases p i s
  ·simp
  ·simp only[if_true]
   exact walks p f hs he k (i+1) n (f i s) (by omega) (by omega)
theorem ygu{σ α β:Type}{p:Nat→σ→Bool}{f:Nat→σ→σ}{g:Nat→σ→α}{e:σ→β}{j:Nat}:∀ (k i:Nat) (s:σ),(∀ s,p j s=false)→i≤j→j<i+k→∃ r,walkS p f g e k i s=.inl r
 | 0,i,s,h,h1,h2=>by omega
 | k+1,i,s,h,h1,h2=>by
  unfold walkS
  by_cases hp:p i s=true
  ·rw[if_pos hp]
   have:j≠i:=by rintro rfl;rw[h s] at hp;cases hp
   exact ygu k (i+1) (f i s) h (by omega) (by omega)
  ·rw[if_neg hp];exact⟨_,rfl⟩
theorem eqN0(i:Nat):eqI (Int.ofNat i) 0=decide (i=0):=by
 unfold eqI
 by_cases h:i=0
 ·subst h;rfl
 ·rw[decide_eq_false h];exact decide_eq_false (by simp;omega)
theorem y8a{σ α β γ:Type}{p:Nat→σ→Bool}{f:Nat→σ→σ}{g:Nat→σ→α}{e:σ→β}:∀ (k i:Nat) (s:σ),walkS p f g e k i s=(walkS p f g id k i s).map id e
 | 0,i,s=>rfl
 | k+1,i,s=>by
  unfold walkS
  by_cases h:p i s=true
  ·rw[if_pos h,if_pos h];exact y8a (γ:=γ) k (i+1) (f i s)
  ·rw[if_neg h,if_neg h];rfl
theorem ix3(i:Nat):ixO 0 (Int.ofNat i) 3=i*3:=by simp[ixO]
theorem put1{xs zs:List Nat}(hz:zs.length=xs.length){j:Nat}(h:j<xs.length):(xs.take j++zs.drop j).set j (xs.getD j 0)=xs.take (j+1)++zs.drop (j+1):=by
 have h1:(xs.take j).length=j:=by simp;omega
 have h2:zs.drop j=zs[j]::zs.drop (j+1):=List.drop_eq_getElem_cons (by omega)
 rw[← yfe h,h2,List.set_append_right j _ (by omega),h1,Nat.sub_self,List.set_cons_zero,List.append_assoc]
 rfl
theorem put3{xs zs:List Nat}{n i:Nat}(hx:xs.length=n*3)(hz:zs.length=xs.length)(h:i<n) :
  ((((xs.take (i*3)++zs.drop (i*3)).set (i*3) (xs.getD (i*3) 0)).set (i*3).succ (xs.getD (i*3).succ 0)).set (i*3).succ.succ (xs.getD (i*3).succ.succ 0))=xs.take ((i+1)*3)++zs.drop ((i+1)*3):=by
 rw[put1 hz (by omega),put1 hz (j:=(i*3).succ) (by omega),put1 hz (j:=(i*3).succ.succ) (by omega)]
 simp only[Nat.succ_eq_add_one,Nat.add_mul,Nat.one_mul]
theorem ykg{n b:Nat}(h:n≤1099511627776)(hb:b≤64):okMk (Int.ofNat n) (Int.ofNat n) b=true:=decide_eq_true ⟨rfl,by simp,by simp;omega,hb⟩
theorem y64(a b c:Nat):zyg a b c=true:=rfl
theorem y7x{xs:List Nat}{n:Nat}(hx:xs.length=n*3)(hl:n≤1099511627776):z51 n xs=some (n,xs):=by
 have hz:(rF (muN (toN (Int.ofNat n)) 3)).length=xs.length:=by simp[rF,muN,hx]
 have hf:=runs (L:=fun m i=>z12 n n xs m i (xs.take (i.toNat*3)++(rF (muN (toN (Int.ofNat n)) 3)).drop (i.toNat*3))) (len:=n) (e:=(Int.ofNat n,false,xs))
  (fun m i hi=>by
   show z12 n n xs _ _ (xs.take (i*3)++(rF (muN (toN (Int.ofNat n)) 3)).drop (i*3))=z12 n n xs _ _ (xs.take ((i+1)*3)++(rF (muN (toN (Int.ofNat n)) 3)).drop ((i+1)*3))
   rw[← put3 hx hz hi,zjk];unfold z2p
   rw[ltN_t hi,okIx_t hi,ix3,addI1 (by omega),y64];rfl)
  (fun m=>by
   show z12 n n xs _ _ (xs.take (n*3)++(rF (muN (toN (Int.ofNat n)) 3)).drop (n*3))=_
   rw[zjk];unfold z2p;rw[ltN_f (Nat.le_refl _),br_false,List.take_of_length_le (by omega),List.drop_of_length_le (by omega),List.append_nil]) (by omega)
 obtain⟨g1,_,_,g2⟩:=y0d rfl hf
 have e0:xs.take (Int.toNat 0*3)++(rF (muN (toN (Int.ofNat n)) 3)).drop (Int.toNat 0*3)=rF (muN (toN (Int.ofNat n)) 3):=by simp
 rw[e0] at g1 g2
 unfold z51 zfi
 rw[ykg hl (by omega)]
 show grd (zhg n n xs 0 (rF (muN (toN (Int.ofNat n)) 3))) (some (n,zcq n n xs 0 (rF (muN (toN (Int.ofNat n)) 3))))=_
 rw[g1,g2];rfl
theorem y72(a b c:Nat):z7b a b c a b c=some true:=by
 obtain⟨p1,q1⟩:=z8m (z6n (fcvV .f32 .f64 a))
 obtain⟨p2,q2⟩:=z8m (z6n (fcvV .f32 .f64 b))
 obtain⟨p3,q3⟩:=z8m (z6n (fcvV .f32 .f64 c))
 unfold z7b zhk
 rw[p1,q1,p2,q2,p3,q3];rfl
theorem y4n{xs:List Nat}{n:Nat}(hl:n<281474976710656):z68 n xs n xs=some true:=by
 unfold z68 zf9
 rw[ycl]
 rcases scan (L:=z1h n n xs xs) (len:=n) (fun _=>true) (g:=fun i=>()) (e:=(Int.ofNat n,false))
  (fun m i hi=>by
   rw[zje];unfold z2s
   obtain⟨h1,h2⟩:=yaz (y72 (gF xs (ixO 0 (Int.ofNat i) 3)) (gF xs (Nat.succ (ixO 0 (Int.ofNat i) 3))) (gF xs (Nat.succ (Nat.succ (ixO 0 (Int.ofNat i) 3)))))
   rw[ltN_t hi,okIx_t hi,addI1 (by omega),h1,h2];rfl)
  (fun m=>by rw[zje];unfold z2s;rw[ltN_f (Nat.le_refl _)];rfl) n 0 big (by omega) (uet hl) with⟨h1,h2⟩ | ⟨j,_,h2,h3,h4⟩
 ·obtain⟨g1,g2,_⟩:=y1a rfl h2
  show grd (zid n n xs xs (Int.ofNat 0)) (br (zg8 n n xs xs (Int.ofNat 0)) _ _)=_
  rw[g1,g2];rfl
 ·cases h3
theorem y7r(n:Nat)(xs:List Nat)(left:Int):∃ r,z64 n xs left=some r∧(0≤left→left≤1048576→n≤9223372036854775807→(0≤r→r=left-n∧(n:Int)≤left)∧r≤1048576):=by
 unfold z64 zff
 by_cases h:subI .i64 left (Int.ofNat n)<0
 ·rw[ltI_t h]
  exact⟨_,rfl,fun _ _ _=>⟨fun q=>by simp at q,by decide⟩⟩
 ·rw[ltI_f h]
  refine⟨_,rfl,fun h1 h2 h3 => ?_⟩
  have e:subI .i64 left (Int.ofNat n)=left-n:=uem (by simp;omega) (by simp;omega)
  rw[e] at h ⊢
  exact⟨fun _=>⟨rfl,by omega⟩,by omega⟩
theorem yay{as ls ds:List Nat}{left:Int}(ha:as.length≤maxLen)(hl:ls.length≤maxLen)(hd:ds.length≤maxLen)(h0:0≤left)(h1:left≤1048576) :
  ∃ r,z7d as.length as ls.length ls ds.length ds left=some r∧(0≤r→as.length+ls.length+ds.length≤1048576)∧r≤1048576:=by
 have hm:maxLen=9223372036854775807:=by decide
 rw[hm] at ha hl hd
 obtain⟨r1,h2,k1⟩:=zk0 as.length as left
 obtain⟨p1,q1⟩:=zjx h2
 obtain⟨k1,k1'⟩:=k1 h0 h1 ha
 obtain⟨r2,h3,k2⟩:=zk0 ls.length ls r1
 obtain⟨p2,q2⟩:=zjx h3
 obtain⟨r3,h4,k3⟩:=zk0 ds.length ds r2
 obtain⟨p3,q3⟩:=zjx h4
 unfold z7d zhp
 simp only[pF_all,p1,q1,grd_true,p2,q2,p3,q3]
 by_cases c1:r1<0
 ·rw[ltI_t c1]
  exact⟨_,rfl,fun h=>by simp at h,by decide⟩
 ·rw[ltI_f c1]
  obtain⟨e1,e2⟩:=k1 (by omega)
  obtain⟨k2,k2'⟩:=k2 (by omega) (by omega) hl
  by_cases c2:r2<0
  ·rw[ltI_t c2]
   exact⟨_,rfl,fun h=>by simp at h,by decide⟩
  ·rw[ltI_f c2]
   obtain⟨e3,e4⟩:=k2 (by omega)
   obtain⟨k3,k3'⟩:=k3 (by omega) (by omega) hd
   by_cases c3:r3<0
   ·rw[ltI_t c3]
    exact⟨_,rfl,fun h=>by simp at h,by decide⟩
   ·rw[ltI_f c3]
    obtain⟨e5,e6⟩:=k3 (by omega)
    exact⟨_,rfl,fun h=>by omega,by omega⟩
theorem ybh{as ls ds:List Nat}(ha:as.length≤1099511627776)(hl:ls.length≤1099511627776)(hd:ds.length≤1099511627776):z2g as.length as ls.length ls ds.length ds=some (as.length,ls.length,ds.length,as,ls,ds):=by
 obtain⟨p1,q1,r1⟩:=zcx (zdl ha)
 obtain⟨p2,q2,r2⟩:=zcx (zdl hl)
 obtain⟨p3,q3,r3⟩:=zcx (zdl hd)
 unfold z2g zhu
 simp only[pF_all,p1,q1,r1,p2,q2,r2,p3,q3,r3,grd_true]
theorem y6t{as ls ds:List Nat}(ha:as.length<281474976710656)(hl:ls.length<281474976710656)(hd:ds.length<281474976710656):z78 as.length as ls.length ls ds.length ds as.length as ls.length ls ds.length ds=some true:=by
 obtain⟨p1,q1⟩:=z9n (z8d ha)
 obtain⟨p2,q2⟩:=z9n (z8d hl)
 obtain⟨p3,q3⟩:=z9n (z8d hd)
 unfold z78 zhf
 simp only[pF_all,p1,q1,p2,q2,p3,q3,grd_true]
 rfl
theorem yj1{as ls ds st:List Nat}{n:Nat}{count:Int}{hub tip:Nat}(ma:as.length≤maxLen)(ml:ls.length≤maxLen)(md:ds.length≤maxLen)(z:st.length=n*3)(mn:n≤maxLen){left:Int}(h0:0≤left)(h1:left≤1048576) :
  ∃ r,zs6 as.length as ls.length ls ds.length ds n st count hub tip left=true∧zqk as.length as ls.length ls ds.length ds n st count hub tip left=r∧r≤1048576 ∧
  (r<0∨(ltI r 0=false∧as.length+ls.length+ds.length+n≤2097152∧zsz as.length as ls.length ls ds.length ds n st count hub tip=true∧zpw as.length as ls.length ls ds.length ds n st count hub tip=as.length ∧
   zqh as.length as ls.length ls ds.length ds n st count hub tip=ls.length∧zqw as.length as ls.length ls ds.length ds n st count hub tip=ds.length∧zqt as.length as ls.length ls ds.length ds n st count hub tip=n ∧
   zr2 as.length as ls.length ls ds.length ds n st count hub tip=as∧zqn as.length as ls.length ls ds.length ds n st count hub tip=ls∧zq6 as.length as ls.length ls ds.length ds n st count hub tip=ds∧zq3 as.length as ls.length ls ds.length ds n st count hub tip=st ∧
   zsx as.length as ls.length ls ds.length ds n st count hub tip as.length as ls.length ls ds.length ds n st count hub tip=true∧zqi as.length as ls.length ls ds.length ds n st count hub tip as.length as ls.length ls ds.length ds n st count hub tip=true)):=by
 have hm:maxLen=9223372036854775807:=by decide
 obtain⟨r1,h2,k1,k1'⟩:=yay ma ml md h0 h1
 obtain⟨p1,q1⟩:=ya9 h2
 obtain⟨r2,h3,k2⟩:=y7r n st r1
 obtain⟨p2,q2⟩:=y7w h3
 have hst:pF st 0 (muN n 3)=st:=pF_all3 z
 have key:z9b as.length as ls.length ls ds.length ds n st count hub tip left=some (if r1<0 then -1 else if r2<0 then -1 else r2):=by
  unfold z9b zku
  simp only[pF_all,hst,p1,q1,grd_true,p2,q2]
  by_cases c1:r1<0
  ·rw[ltI_t c1,if_pos c1];rfl
  ·rw[ltI_f c1,if_neg c1]
   by_cases c2:r2<0
   ·rw[ltI_t c2,if_pos c2];rfl
   ·rw[ltI_f c2,if_neg c2];rfl
 obtain⟨p0,q0⟩:=ydr key
 refine⟨_,p0,q0,?_,?_⟩
 ·by_cases c1:r1<0
  ·rw[if_pos c1];decide
  ·rw[if_neg c1]
   by_cases c2:r2<0
   ·rw[if_pos c2];decide
   ·rw[if_neg c2]
    exact (k2 (by omega) (by omega) (by rw[hm] at mn;exact mn)).2
 ·by_cases c1:r1<0
  ·rw[if_pos c1];exact .inl (by decide)
  ·rw[if_neg c1]
   by_cases c2:r2<0
   ·rw[if_pos c2];exact .inl (by decide)
   ·rw[if_neg c2]
    have l1:=k1 (by omega)
    obtain⟨k2,_⟩:=k2 (by omega) (by omega) (by rw[hm] at mn;exact mn)
    obtain⟨_,l2⟩:=k2 (by omega)
    obtain⟨p3,a3,b3,c3,d3,e3,f3⟩:=yah (ybh (as:=as) (ls:=ls) (ds:=ds) (by omega) (by omega) (by omega))
    obtain⟨p4,a4,b4⟩:=y9d (y7x z (by omega))
    have kt:z2a as.length as ls.length ls ds.length ds n st count hub tip=some (as.length,ls.length,ds.length,n,as,ls,ds,st):=by
     unfold z2a zl3
     simp only[pF_all,hst,p3,a3,b3,c3,d3,e3,f3,p4,a4,b4,grd_true]
    obtain⟨p5,q5⟩:=yap (y6t (as:=as) (ls:=ls) (ds:=ds) (by omega) (by omega) (by omega))
    obtain⟨p6,q6⟩:=y8r (y4n (xs:=st) (n:=n) (by omega))
    obtain⟨p7,q7⟩:=z8m (z6n (fcvV .f32 .f64 hub))
    obtain⟨p8,q8⟩:=z8m (z6n (fcvV .f32 .f64 tip))
    have ke:z9c as.length as ls.length ls ds.length ds n st count hub tip as.length as ls.length ls ds.length ds n st count hub tip=some true:=by
     unfold z9c zkv
     simp only[pF_all,hst,p5,q5,p6,q6,p7,q7,p8,q8,grd_true,ycl,zb0,br_false]
    obtain⟨t0,t1,t2,t3,t4,t5,t6,t7,t8⟩:=ydv kt
    obtain⟨e0,e1⟩:=yec ke
    exact .inr ⟨ltI_f c2,by omega,t0,t1,t2,t3,t4,t5,t6,t7,t8,e0,e1⟩
def knotB(as:List Nat)(j:Nat):Bool:=fromToB (as.getD j 0) 3204448256 1056964608&&(decide (j=0)||!fcmp .leq .f32 (as.getD j 0) (as.getD (j-1) 0))
def profB(as ls ds:List Nat)(j:Nat):Bool:=knotB as j&&(finB (ls.getD j 0)&&leastB (ds.getD j 0))
def validProfB(as ls ds:List Nat):Bool:=decide (2≤as.length)&&(decide (as.length≤24)&&(decide (ls.length=as.length)&&(decide (ds.length=as.length)&&(List.range as.length).all (profB as ls ds))))
theorem zki{n:Nat}{p:Nat→Bool}:(List.range n).all p=true↔∀ j,j<n→p j=true:=by simp[List.all_eq_true]
theorem yk7{x y:Nat}:fcmp .geq .f32 x y=fcmp .leq .f32 y x:=by
 cases hx:nanB .f32 x with
 | true=>rw[(u89 .f32 (.inl hx)).2.2.2.2.2,(u89 .f32 (.inr hx)).2.2.2.1]
 | false=>
  cases hy:nanB .f32 y with
  | true=>rw[(u89 .f32 (.inr hy)).2.2.2.2.2,(u89 .f32 (.inl hy)).2.2.2.1]
  | false=>rw[(u53 .f32 hx hy).2.2.2.2.2,(u53 .f32 hy hx).2.2.2.1]
theorem ltN0(i:Nat):ltI 0 (Int.ofNat i)=!decide (i=0):=by
 rw[show ltI 0 (Int.ofNat i)=decide (0<i) from ltN 0 i]
 by_cases h:i=0
 ·rw[decide_eq_true h,decide_eq_false (by omega)];rfl
 ·rw[decide_eq_false h,decide_eq_true (by omega)];rfl
theorem subN1{i:Nat}(h:i≠0)(h2:i<4611686018427387904):subI .i64 (Int.ofNat i) 1=Int.ofNat (i-1):=by
 have:subI .i64 (Int.ofNat i) 1=(i:Int)-1:=uem (by simp;omega) (by simp;omega)
 rw[this];simp;omega
theorem y1f{as:List Nat}(hl:as.length≤24) :
  z9k as.length (Int.ofNat as.length) as as.length 0=true∧z8u as.length (Int.ofNat as.length) as as.length 0=!(List.range as.length).all (knotB as):=by
 rcases scan (L:=z15 as.length (Int.ofNat as.length) as as.length) (len:=as.length) (knotB as) (g:=fun _=>()) (e:=(Int.ofNat as.length,false))
  (fun n i hi=>by
   rw[zh1];unfold z1x
   obtain⟨p1,q1⟩:=zxs (zxb (as.getD i 0) 3204448256 1056964608)
   rw[ltN_t hi,okIx_t hi,ix1,addI1 (by omega),ltN0]
   simp only[gF,p1,q1,grd_true,br_true]
   unfold knotB
   by_cases h0:i=0
   ·subst h0
    cases fromToB (as.getD 0 0) 3204448256 1056964608<;>rfl
   ·rw[subN1 h0 (by omega),okIx_t (show i-1<as.length by omega),ix1,yk7,decide_eq_false h0]
    cases fromToB (as.getD i 0) 3204448256 1056964608
    ·rfl
    ·cases fcmp .leq .f32 (as.getD i 0) (as.getD (i-1) 0)<;>rfl)
  (fun n=>by rw[zh1];unfold z1x;rw[ltN_f (Nat.le_refl _)];rfl) as.length 0 big (by omega) (uet (by omega)) with⟨h1,h2⟩ | ⟨j,_,h2,h3,h4⟩
 ·obtain⟨g1,g2,_⟩:=zyn rfl h2
  rw[zki.2 fun j hj=>h1 j (Nat.zero_le _) hj]
  exact⟨g1,g2⟩
 ·obtain⟨g1,g2⟩:=zx4 rfl h4
  have:(List.range as.length).all (knotB as)=false:=by
   cases hh:(List.range as.length).all (knotB as) with
   | false=>rfl
   | true=>rw[zki.1 hh j h2] at h3;cases h3
  rw[this]
  exact⟨g1,g2⟩
theorem yhk{xs:List Nat}{p:Nat→Bool}:xs.all p=true↔∀ j,j<xs.length→p (xs.getD j 0)=true:=by
 rw[List.all_eq_true]
 constructor
 ·intro h j hj;exact h _ (yk1 hj)
 ·intro h x hx
  obtain⟨i,hi,rfl⟩:=List.getElem_of_mem hx
  have:=h i hi
  simpa [List.getD_eq_getElem?_getD,hi] using this
theorem ltN2(n:Nat):ltI (Int.ofNat n) 2=!decide (2≤n):=by
 rw[show ltI (Int.ofNat n) 2=decide (n<2) from ltN n 2]
 by_cases h:2≤n
 ·rw[decide_eq_true h,decide_eq_false (by omega)];rfl
 ·rw[decide_eq_false h,decide_eq_true (by omega)];rfl
theorem gtN(c n:Nat):ltI (Int.ofNat c) (Int.ofNat n)=!decide (n≤c):=by
 rw[ltN]
 by_cases h:n≤c
 ·rw[decide_eq_true h,decide_eq_false (by omega)];rfl
 ·rw[decide_eq_false h,decide_eq_true (by omega)];rfl
theorem neN(m n:Nat):neI (Int.ofNat m) (Int.ofNat n)=!decide (m=n):=by
 unfold neI
 by_cases h:m=n
 ·subst h;simp
 ·rw[decide_eq_false h];simp;omega
theorem y58{as ls ds:List Nat}(hl:ls.length<281474976710656)(hd:ds.length<281474976710656):z54 as.length as ls.length ls ds.length ds=some (validProfB as ls ds):=by
 obtain⟨p1,q1⟩:=zvp (zv5 hl)
 obtain⟨p2,q2⟩:=yd9 (yci hd)
 unfold z54 zbt validProfB
 rw[ltN2,show ltI 24 (Int.ofNat as.length)=!decide (as.length≤24) from gtN 24 _,neN,neN]
 simp only[pF_all,p1,q1,p2,q2,grd_true]
 by_cases c1:2≤as.length
 ·by_cases c2:as.length≤24
  ·by_cases c3:ls.length=as.length
   ·by_cases c4:ds.length=as.length
    ·obtain⟨g1,g2⟩:=y1f c2
     rw[decide_eq_true c1,decide_eq_true c2,decide_eq_true c3,decide_eq_true c4,g1,g2]
     have key:(List.range as.length).all (profB as ls ds)=(ls.all finB&&(ds.all leastB&&(List.range as.length).all (knotB as))):=by
      rw[Bool.eq_iff_iff,Bool.and_eq_true,Bool.and_eq_true,zki,zki,yhk,yhk,c3,c4]
      constructor
      ·intro h
       refine⟨fun j hj => ?_,fun j hj => ?_,fun j hj => ?_⟩
       all_goals have:=h j hj;unfold profB at this;simp only[Bool.and_eq_true] at this
       ·exact this.2.1
       ·exact this.2.2
       ·exact this.1
      ·rintro⟨h1,h2,h3⟩ j hj
       unfold profB
       rw[h1 j hj,h2 j hj,h3 j hj];rfl
     rw[key]
     cases ls.all finB<;>cases ds.all leastB<;>cases (List.range as.length).all (knotB as)<;>rfl
    ·rw[decide_eq_false c4]
     rw[decide_eq_true c1,decide_eq_true c2,decide_eq_true c3];rfl
   ·rw[decide_eq_false c3]
    rw[decide_eq_true c1,decide_eq_true c2];rfl
  ·rw[decide_eq_false c2]
   rw[decide_eq_true c1];rfl
 ·rw[decide_eq_false c1];rfl
theorem yh9{as ls ds:List Nat}:zbi as.length as ls.length ls ds.length ds=some (validProfB as ls ds):=by
 unfold zbi zqj validProfB
 rw[ltN2,show ltI 24 (Int.ofNat as.length)=!decide (as.length≤24) from gtN 24 _,neN,neN]
 by_cases c1:2≤as.length
 ·by_cases c2:as.length≤24
  ·by_cases c3:ls.length=as.length
   ·by_cases c4:ds.length=as.length
    ·rw[decide_eq_true c1,decide_eq_true c2,decide_eq_true c3,decide_eq_true c4]
     rcases scan (L:=z29 (Int.ofNat as.length) as ls ds as.length ls.length ds.length) (len:=as.length) (profB as ls ds) (g:=fun _=>()) (e:=(Int.ofNat as.length,false))
      (fun n i hi=>by
       rw[zql];unfold z59
       obtain⟨p1,q1⟩:=z1p (z1q (ls.getD i 0))
       obtain⟨p2,q2⟩:=zxi (zx5 (ds.getD i 0))
       rw[ltN_t hi,okIx_t hi,ix1,addI1 (by omega),ltN0,okIx_t (show i<ls.length by omega),okIx_t (show i<ds.length by omega)]
       simp only[gF,p1,q1,p2,q2,grd_true,br_true]
       unfold profB knotB fromToB
       by_cases h0:i=0
       ·subst h0
        cases fcmp .geq .f32 (as.getD 0 0) 3204448256<;>cases fcmp .leq .f32 (as.getD 0 0) 1056964608<;>cases finB (ls.getD 0 0)<;>cases leastB (ds.getD 0 0)<;>rfl
       ·rw[subN1 h0 (by omega),okIx_t (show i-1<as.length by omega),ix1,decide_eq_false h0]
        cases fcmp .geq .f32 (as.getD i 0) 3204448256<;>cases fcmp .leq .f32 (as.getD i 0) 1056964608<;>cases fcmp .leq .f32 (as.getD i 0) (as.getD (i-1) 0)<;>cases finB (ls.getD i 0)<;>cases leastB (ds.getD i 0)<;>rfl)
      (fun n=>by rw[zql];unfold z59;rw[ltN_f (Nat.le_refl _)];rfl) as.length 0 big (by omega) (uet (by omega)) with⟨h1,h2⟩ | ⟨j,_,h2,h3,h4⟩
     ·obtain⟨g1,g2,_⟩:=yb3 rfl h2
      rw[zki.2 fun j hj=>h1 j (Nat.zero_le _) hj]
      show grd (zcu (Int.ofNat as.length) as ls ds as.length ls.length ds.length (Int.ofNat 0)) (br (zb7 (Int.ofNat as.length) as ls ds as.length ls.length ds.length (Int.ofNat 0)) _ _)=_
      rw[g1,g2];rfl
     ·obtain⟨g1,g2⟩:=yam rfl h4
      have:(List.range as.length).all (profB as ls ds)=false:=by
       cases hh:(List.range as.length).all (profB as ls ds) with
       | false=>rfl
       | true=>rw[zki.1 hh j h2] at h3;cases h3
      rw[this]
      show grd (zcu (Int.ofNat as.length) as ls ds as.length ls.length ds.length (Int.ofNat 0)) (br (zb7 (Int.ofNat as.length) as ls ds as.length ls.length ds.length (Int.ofNat 0)) _ _)=_
      rw[g1,g2];rfl
    ·rw[decide_eq_false c4]
     rw[decide_eq_true c1,decide_eq_true c2,decide_eq_true c3];rfl
   ·rw[decide_eq_false c3]
    rw[decide_eq_true c1,decide_eq_true c2];rfl
  ·rw[decide_eq_false c2]
   rw[decide_eq_true c1];rfl
 ·rw[decide_eq_false c1];rfl
def ringP(st:List Nat)(tip i s:Nat):Bool:=fcmp .gtr .f32 (st.getD (i*3) 0) s&&(fcmp .lss .f32 (st.getD (i*3) 0) tip&&(posB (st.getD (i*3).succ 0)&&finB (st.getD (i*3).succ.succ 0)))
def ringsW(st:List Nat)(n hub tip:Nat):Unit⊕Nat:=walkS (ringP st tip) (fun i _=>st.getD (i*3) 0) (fun _ _=>()) id n 0 hub
def validRotorB(as ls ds st:List Nat)(n:Nat)(count:Int)(hub tip:Nat):Bool:=
 validProfB as ls ds&&(inB count 1 6&&(decide (2≤n)&&(decide (n≤12)&&(leastB hub&&(finB tip&&(ringsW st n hub tip).isRight)))))
theorem y5f{st:List Nat}{n hub tip:Nat}(hl:n≤12):zah n (Int.ofNat n) st tip hub 0=true∧za0 n (Int.ofNat n) st tip hub 0=!(ringsW st n hub tip).isRight:=by
 have hf:=walks (L:=fun m i s=>z0q n (Int.ofNat n) st tip m s i) (len:=n) (ringP st tip) (fun i _=>st.getD (i*3) 0) (g:=fun _ _=>()) (e:=fun s=>(s,Int.ofNat n,false))
  (fun m i s hi=>by
   show z0q _ _ _ _ _ _ _=if _ then z0q _ _ _ _ _ _ _ else _
   rw[zjm];unfold z2n
   obtain⟨p1,q1⟩:=zbp (show z24 1 (pF [st.getD (i*3).succ 0] 0 (muN 1 1))=some (posB (st.getD (i*3).succ 0)) by
    have:=zir (xs:=[st.getD (i*3).succ 0]) (by simp)
    simpa [pF,muN] using this)
   obtain⟨p2,q2⟩:=z3h (z3l (st.getD (i*3).succ.succ 0))
   rw[ltN_t hi,okIx_t hi,ix3,addI1 (by omega)]
   simp only[gF,p1,q1,p2,q2,grd_true,br_true]
   unfold ringP
   cases fcmp .gtr .f32 (st.getD (i*3) 0) s<;>cases fcmp .lss .f32 (st.getD (i*3) 0) tip<;>cases posB (st.getD (i*3).succ 0)<;>cases finB (st.getD (i*3).succ.succ 0)<;>rfl)
  (fun m s=>by show z0q _ _ _ _ _ _ _=_;rw[zjm];unfold z2n;rw[ltN_f (Nat.le_refl _)];rfl) n 0 big hub (by omega) (uet (by omega))
 rw[y8a (γ:=Unit)] at hf
 have hw:ringsW st n hub tip=walkS (ringP st tip) (fun i _=>st.getD (i*3) 0) (fun _ _=>()) id n 0 hub:=rfl
 rw[← hw] at hf
 cases hc:ringsW st n hub tip with
 | inl u=>rw[hc] at hf;obtain⟨g1,g2⟩:=y19 rfl hf;exact⟨g1,g2⟩
 | inr s=>rw[hc] at hf;obtain⟨g1,g2,_⟩:=y0h rfl hf;exact⟨g1,g2⟩
theorem ye8{st:List Nat}{n hub tip:Nat}(hl:n≤12):zja (Int.ofNat n) st n tip hub 0=true∧zhy (Int.ofNat n) st n tip hub 0=!(ringsW st n hub tip).isRight:=by
 have hf:=walks (L:=fun m i s=>z1f (Int.ofNat n) st n tip m s i) (len:=n) (ringP st tip) (fun i _=>st.getD (i*3) 0) (g:=fun _ _=>()) (e:=fun s=>(s,Int.ofNat n,false))
  (fun m i s hi=>by
   show z1f _ _ _ _ _ _ _=if _ then z1f _ _ _ _ _ _ _ else _
   rw[zrc];unfold z5b
   obtain⟨p1,q1⟩:=z9d (z93 (st.getD (i*3).succ 0))
   obtain⟨p2,q2⟩:=z1p (z1q (st.getD (i*3).succ.succ 0))
   rw[ltN_t hi,okIx_t hi,ix3,addI1 (by omega)]
   simp only[gF,p1,q1,p2,q2,grd_true,br_true]
   unfold ringP
   cases fcmp .gtr .f32 (st.getD (i*3) 0) s<;>cases fcmp .lss .f32 (st.getD (i*3) 0) tip<;>cases posB (st.getD (i*3).succ 0)<;>cases finB (st.getD (i*3).succ.succ 0)<;>rfl)
  (fun m s=>by show z1f _ _ _ _ _ _ _=_;rw[zrc];unfold z5b;rw[ltN_f (Nat.le_refl _)];rfl) n 0 big hub (by omega) (uet (by omega))
 rw[y8a (γ:=Unit)] at hf
 have hw:ringsW st n hub tip=walkS (ringP st tip) (fun i _=>st.getD (i*3) 0) (fun _ _=>()) id n 0 hub:=rfl
 rw[← hw] at hf
 cases hc:ringsW st n hub tip with
 | inl u=>rw[hc] at hf;obtain⟨g1,g2⟩:=yax rfl hf;exact⟨g1,g2⟩
 | inr s=>rw[hc] at hf;obtain⟨g1,g2,_⟩:=yb5 rfl hf;exact⟨g1,g2⟩
theorem zkl{as ls ds st:List Nat}{n:Nat}{count:Int}{hub tip:Nat}(hl:ls.length<281474976710656)(hd:ds.length<281474976710656) :
  z66 as.length as ls.length ls ds.length ds n st count hub tip=some (validRotorB as ls ds st n count hub tip):=by
 obtain⟨p1,q1⟩:=y5e (y58 (as:=as) hl hd)
 obtain⟨p2,q2⟩:=zs9 (zsw count 1 6)
 obtain⟨p3,q3⟩:=zzx (zzp hub)
 obtain⟨p4,q4⟩:=z3h (z3l tip)
 unfold z66 zfn validRotorB
 rw[ltN2,show ltI 12 (Int.ofNat n)=!decide (n≤12) from gtN 12 _]
 simp only[pF_all,p1,q1,p2,q2,p3,q3,p4,q4,grd_true]
 by_cases c2:n≤12
 ·obtain⟨g1,g2⟩:=y5f (st:=st) (hub:=hub) (tip:=tip) c2
  rw[g1,g2,decide_eq_true c2]
  cases validProfB as ls ds<;>cases inB count 1 6<;>cases decide (2≤n)<;>cases leastB hub<;>cases finB tip<;>cases (ringsW st n hub tip).isRight<;>rfl
 ·rw[decide_eq_false c2]
  cases validProfB as ls ds<;>cases inB count 1 6<;>cases decide (2≤n)<;>rfl
theorem zui{as ls ds st:List Nat}{n:Nat}{count:Int}{hub tip:Nat} :
  zb4 as.length as ls.length ls ds.length ds n st count hub tip=some (validRotorB as ls ds st n count hub tip):=by
 obtain⟨p1,q1⟩:=yh1 (yh9 (as:=as) (ls:=ls) (ds:=ds))
 obtain⟨p2,q2⟩:=y5v (y5z count 1 6)
 obtain⟨p3,q3⟩:=zxi (zx5 hub)
 obtain⟨p4,q4⟩:=z1p (z1q tip)
 unfold zb4 zqz validRotorB
 rw[ltN2,show ltI 12 (Int.ofNat n)=!decide (n≤12) from gtN 12 _]
 simp only[pF_all,p1,q1,p2,q2,p3,q3,p4,q4,grd_true]
 by_cases c2:n≤12
 ·obtain⟨g1,g2⟩:=ye8 (st:=st) (hub:=hub) (tip:=tip) c2
  rw[g1,g2,decide_eq_true c2]
  cases validProfB as ls ds<;>cases inB count 1 6<;>cases decide (2≤n)<;>cases leastB hub<;>cases finB tip<;>cases (ringsW st n hub tip).isRight<;>rfl
 ·rw[decide_eq_false c2]
  cases validProfB as ls ds<;>cases inB count 1 6<;>cases decide (2≤n)<;>rfl
theorem zvj(x:Nat):z5f x=some (checkV x,finB x):=by
 obtain⟨h1,h2⟩:=z1p (z1q x)
 unfold z5f zic checkV
 rw[h1,h2]
 cases finB x<;>rfl
def solid(st:List Nat)(count i:Int):Nat:=fop .quo .f32 (fop .mul .f32 (fOI .f32 count) (gF st (Nat.succ (ixO 0 i 3)))) (fop .mul .f32 1086918619 (gF st (ixO 0 i 3)))
def stationB(n:Nat)(i:Int):Bool:=inB i 0 (subI .i64 (Int.ofNat n) 1)
theorem zi2{n:Nat}{i:Int}(h:stationB n i=true)(hn:n≤1099511627776):okIx i n=true:=by
 have h1:=yjg h
 have:subI .i64 (Int.ofNat n) 1=(n:Int)-1:=uem (by simp;omega) (by simp;omega)
 rw[this] at h1
 exact decide_eq_true ⟨h1.1,by omega⟩
theorem zzi{as ls ds st:List Nat}{n:Nat}{count:Int}{hub tip:Nat}(i:Int):z3f as.length as ls.length ls ds.length ds n st count hub tip i=some (stationB n i):=by
 obtain⟨p,q⟩:=zs9 (zsw i 0 (subI .i64 (Int.ofNat n) 1))
 unfold z3f z9i
 rw[p,q];rfl
theorem yjl(k0:Int)(m:Nat):pF (marks k0 m) 0 (muN m 1)=marks k0 m:=by
 have:=pF_all (marks k0 m);rw[zjy] at this;exact this
def mixed(a b s:Nat):Nat:=fop .add .f32 a (fop .mul .f32 s (fop .sub .f32 b a))
theorem zs3{as ls ds:List Nat}(h:validProfB as ls ds=true):2≤as.length∧as.length≤24∧ls.length=as.length∧ds.length=as.length:=by
 unfold validProfB at h
 simp only[Bool.and_eq_true,decide_eq_true_eq] at h
 exact⟨h.1,h.2.1,h.2.2.1,h.2.2.2.1⟩
theorem y15(k:FloatKind)(x:Nat):fcmp .neq k (fop .sub k x x) 0=!finW k x:=by
 cases hn:nanB k x with
 | true=>
  rw[yii (.inl hn),(u89 k (.inl (u9v k))).2.1,zx6 hn];rfl
 | false=>
  cases hf:finW k x with
  | true=>
   rw[u28 hf hf]
   have h0:(vl k x-vl k x).natAbs=0:=by simp
   rw[h0,u8j]
   generalize sgn0 _ _ _=s
   cases k<;>cases s<;>decide +kernel
  | false=>
   have hr:=inf_read hn hf
   have e:fop .sub k x x=qn k:=by
    unfold fop floatBits Ieee.Format.sub
    simp only[hr]
    cases nn k x<;>simp[Ieee.Datum.opposite,Ieee.Datum.sum]
   rw[e,(u89 k (.inl (u9v k))).2.1];rfl
def rnd1(u D p:Nat):Nat:=fop .sub .f64 4607182418800017408 (fop .quo .f64 (fop .mul .f64 u p) D)
def poly(u:Nat):Nat:=rnd1 u 4618441417868443648 (rnd1 u 4626322717216342016 (rnd1 u 4631107791820423168 (rnd1 u 4634766966517661696 (rnd1 u 4637440978796412928 (rnd1 u 4639692778610098176 (rnd1 u 4641592734702895104 (rnd1 u 4643492690795692032 4607182418800017408)))))))
theorem y1m(u:Nat):zb3 u 4607182418800017408 4620693217682128896=true∧z8h u 4607182418800017408 4620693217682128896=poly u:=by
 obtain⟨n,hn⟩:∃ n,big=n+9:=⟨big-9,by have:=uet (k:=9) (by decide);omega⟩
 have step:∀ m p k k' D,fcmp .geq .f64 k 4607182418800017408=true→fop .sub .f64 k 4607182418800017408=k'→fop .mul .f64 (fop .mul .f64 4611686018427387904 k) (fop .add .f64 (fop .mul .f64 4611686018427387904 k) 4607182418800017408)=D →
   z2c u (m+1) p k=z2c u m (rnd1 u D p) k':=by
  intro m p k k' D h1 h2 h3
  rw[zrs];unfold z5z
  rw[h1,h2,h3];rfl
 have hf:z2c u big 4607182418800017408 4620693217682128896=some (poly u,0,false):=by
  rw[hn,step (n+8) _ 4620693217682128896 4619567317775286272 4643492690795692032 (by decide +kernel) (by decide +kernel) (by decide +kernel),
   step (n+7) _ 4619567317775286272 4618441417868443648 4641592734702895104 (by decide +kernel) (by decide +kernel) (by decide +kernel),
   step (n+6) _ 4618441417868443648 4617315517961601024 4639692778610098176 (by decide +kernel) (by decide +kernel) (by decide +kernel),
   step (n+5) _ 4617315517961601024 4616189618054758400 4637440978796412928 (by decide +kernel) (by decide +kernel) (by decide +kernel),
   step (n+4) _ 4616189618054758400 4613937818241073152 4634766966517661696 (by decide +kernel) (by decide +kernel) (by decide +kernel),
   step (n+3) _ 4613937818241073152 4611686018427387904 4631107791820423168 (by decide +kernel) (by decide +kernel) (by decide +kernel),
   step (n+2) _ 4611686018427387904 4607182418800017408 4626322717216342016 (by decide +kernel) (by decide +kernel) (by decide +kernel),
   step (n+1) _ 4607182418800017408 0 4618441417868443648 (by decide +kernel) (by decide +kernel) (by decide +kernel)]
  rw[zrs];unfold z5z
  rw[show fcmp .geq .f64 0 4607182418800017408=false from by decide +kernel];rfl
 obtain⟨g1,g2,_⟩:=ycc rfl hf
 exact⟨g1,g2⟩
theorem y22(u:Nat):z1n u 4607182418800017408 8=true∧z0d u 4607182418800017408 8=poly u:=by
 obtain⟨n,hn⟩:∃ n,big=n+9:=⟨big-9,by have:=uet (k:=9) (by decide);omega⟩
 have step:∀ m p (k k':Int) D,leI 1 k=true→subI .i64 k 1=k'→fOI .f64 (mulI .i64 (mulI .i64 2 k) (addI .i64 (mulI .i64 2 k) 1))=D →
   z0y u (m+1) p k=z0y u m (rnd1 u D p) k':=by
  intro m p k k' D h1 h2 h3
  rw[zh0];unfold z1y
  rw[h1,h2,h3];rfl
 have hf:z0y u big 4607182418800017408 8=some (poly u,0,false):=by
  rw[hn,step (n+8) _ 8 7 4643492690795692032 (by decide +kernel) (by decide +kernel) (by decide +kernel),
   step (n+7) _ 7 6 4641592734702895104 (by decide +kernel) (by decide +kernel) (by decide +kernel),
   step (n+6) _ 6 5 4639692778610098176 (by decide +kernel) (by decide +kernel) (by decide +kernel),
   step (n+5) _ 5 4 4637440978796412928 (by decide +kernel) (by decide +kernel) (by decide +kernel),
   step (n+4) _ 4 3 4634766966517661696 (by decide +kernel) (by decide +kernel) (by decide +kernel),
   step (n+3) _ 3 2 4631107791820423168 (by decide +kernel) (by decide +kernel) (by decide +kernel),
   step (n+2) _ 2 1 4626322717216342016 (by decide +kernel) (by decide +kernel) (by decide +kernel),
   step (n+1) _ 1 0 4618441417868443648 (by decide +kernel) (by decide +kernel) (by decide +kernel)]
  rw[zh0];unfold z1y
  rw[show leI 1 0=false from by decide +kernel];rfl
 obtain⟨g1,g2,_⟩:=zyd rfl hf
 exact⟨g1,g2⟩
def halfS(r:Nat):Nat:=
 if fcmp .gtr .f64 r 4598175219545276416=true then fop .mul .f64 (fop .mul .f64 (fop .sub .f64 4602678819172646912 r) 4618760256179416344) (poly (fop .mul .f64 (fop .mul .f64 (fop .sub .f64 4602678819172646912 r) 4618760256179416344) (fop .mul .f64 (fop .sub .f64 4602678819172646912 r) 4618760256179416344)))
 else fop .mul .f64 (fop .mul .f64 r 4618760256179416344) (poly (fop .mul .f64 (fop .mul .f64 r 4618760256179416344) (fop .mul .f64 r 4618760256179416344)))
def sineA(q:Nat):Nat:=if fcmp .geq .f64 q 4602678819172646912=true then fneg .f64 (halfS (fop .sub .f64 q 4602678819172646912)) else halfS q
noncomputable def zz(x:Nat):Nat:=fop .sub .f64 x (fOI .f64 (f2iV .f64 x .i64))
noncomputable def qq(x:Nat):Nat:=if fcmp .lss .f64 (zz x) 0=true then fop .add .f64 (zz x) 4607182418800017408 else zz x
noncomputable def sineV(x:Nat):Nat:=sineA (qq x)
def smallB(x:Nat):Bool:=decide (rg FloatKind.f64.format x<4841369599423283200)
theorem zjw{x:Nat}(h:smallB x=true):finW .f64 x=true:=u06 (Nat.le_of_lt (of_decide_eq_true h)) (by decide +kernel)
theorem y10{x:Nat}(h:smallB x=true):mg .f64 x/2^1074≤4503599627370496:=by
 have h1:mg .f64 x≤rungV FloatKind.f64.format 4841369599423283200:=u1i (Nat.le_of_lt (of_decide_eq_true h))
 have h2:rungV FloatKind.f64.format 4841369599423283200≤4503599627370496*2^1074:=by decide +kernel
 exact div_bound _ _ 1074 (Nat.le_trans h1 h2)
theorem y7p{x:Nat}(h:smallB x=true):f2iB .f64 x .i64=true∧f2iV .f64 x .i64=sg (nn .f64 x) (mg .f64 x/2^1074):=by
 have hw:=y10 h
 have hi:=integral_zero (zjw h) (N:=1074) (by decide +kernel)
 generalize mg .f64 x/2^1074=w at hw hi ⊢
 have hi:(FloatKind.f64.decode x).integral .zero=.number (nn .f64 x) w 0:=hi
 have e:floatToIntVal .f64 x .i64=some (sg (nn .f64 x) w):=by
  unfold floatToIntVal Ieee.Datum.toInt
  rw[hi]
  simp only[u1q,Nat.pow_zero,Nat.mul_one]
  have hmin:IntKind.i64.min=-9223372036854775808:=by decide
  have hmax:IntKind.i64.max=9223372036854775807:=by decide
  rw[hmin,hmax,if_pos]
  unfold sg
  by_cases hs:nn .f64 x=true
  ·rw[if_pos hs];omega
  ·rw[if_neg hs];omega
 unfold f2iB f2iV
 rw[e,u1g (zjw h)]
 exact⟨rfl,rfl⟩
theorem zz_rg{x:Nat}(h:smallB x=true):rg FloatKind.f64.format (zz x)≤4607182418800017408:=by
 have hw:=y10 h
 obtain⟨_,h2⟩:=y7p h
 unfold zz
 rw[h2]
 have hmd:=Nat.div_add_mod (mg .f64 x) (2^1074)
 have hlt:=Nat.mod_lt (mg .f64 x) (Nat.two_pow_pos 1074)
 generalize hW:mg .f64 x/2^1074=w at hw hmd ⊢
 obtain⟨r,r1,r2,r3⟩:=fOI_exact (n:=sg (nn .f64 x) w) (by rw[u39];omega)
 rw[u39] at r3
 show rg FloatKind.f64.format (fop .sub .f64 x (floatOfInt .f64 (sg (nn .f64 x) w)))≤_
 rw[r2]
 have hf2:finW .f64 (FloatKind.f64.format.word (decide (sg (nn .f64 x) w<0)) r)=true:=u06 (by rw[u0f _ _ (Nat.le_of_lt r1)];exact Nat.le_refl _) r1
 rw[u28 (zjw h) hf2,u0f _ _ (u0i _ _ _)]
 refine u13 FloatKind.f64.format (u:=0) (v:=0) (by unfold lp;omega) ?_
 rw[Nat.pow_zero,Nat.mul_one,Nat.mul_one]
 have h1:rungV FloatKind.f64.format 4607182418800017408=2^1074:=by decide +kernel
 rw[h1]
 have hv:vl .f64 (FloatKind.f64.format.word (decide (sg (nn .f64 x) w<0)) r)=sg (nn .f64 x) (w*2^1074):=by
  unfold vl
  rw[u9x _ _ (Nat.le_of_lt r1),u3m _ _ (Nat.le_of_lt r1),r3]
  generalize (2:Nat)^1074=T
  unfold sg
  by_cases hs:nn .f64 x=true
  ·rw[if_pos hs,if_pos hs]
   by_cases h0:w=0
   ·subst h0;simp
   ·rw[if_pos (decide_eq_true (by omega))]
  ·rw[if_neg hs,if_neg hs,if_neg (by simp)]
 rw[hv]
 unfold vl
 generalize 2^1074=T at hmd hlt ⊢
 have hm:mg .f64 x=w*T+mg .f64 x%T:=by rw[Nat.mul_comm];exact hmd.symm
 unfold sg
 by_cases hs:nn .f64 x=true
 ·rw[if_pos hs,if_pos hs];omega
 ·rw[if_neg hs,if_neg hs];omega
theorem y9b{x:Nat}(h:smallB x=true):z6c x=some (qq x):=by
 obtain⟨_,h2⟩:=y7p h
 have hw:=y10 h
 have hi:=integral_zero (zjw h) (N:=1074) (by decide +kernel)
 have hf:fint .zero x=FloatKind.f64.format.nearest (nn .f64 x) (mg .f64 x/2^1074) 0:=by
  have hi:(FloatKind.f64.decode x).integral .zero=.number (nn .f64 x) (mg .f64 x/2^1074) 0:=hi
  unfold fint
  rw[u1g (zjw h),hi,if_neg (by decide)]
  rfl
 obtain⟨p,q⟩:=yh8 (show zbg x=some (fint .zero x) by
  unfold zbg zqd
  simp only[nanQ,u1g (zjw h),bnot,Bool.not_false,grd_true])
 unfold z6c zfc
 rw[p,q]
 generalize hW:mg .f64 x/2^1074=w at hw h2 hf
 have hz:zz x=fop .sub .f64 x (if w=0 then 0 else fint .zero x)∧fcmp .eql .f64 (fint .zero x) 0=decide (w=0):=by
  by_cases h0:w=0
  ·rw[if_pos h0,decide_eq_true h0]
   subst h0
   constructor
   ·unfold zz
    rw[h2]
    have:sg (nn .f64 x) 0=0:=by cases nn .f64 x<;>rfl
    rw[this]
    have:fOI .f64 0=0:=by decide +kernel
    rw[this]
   ·rw[hf]
    cases nn .f64 x<;>decide +kernel
  ·rw[if_neg h0,decide_eq_false h0]
   obtain⟨r,r1,r2,r3⟩:=fOI_exact (n:=sg (nn .f64 x) w) (by rw[u39];omega)
   have hs:decide (sg (nn .f64 x) w<0)=nn .f64 x:=by
    unfold sg
    cases nn .f64 x
    ·exact decide_eq_false (by simp)
    ·exact decide_eq_true (by simp;omega)
   have hr:rnd FloatKind.f64.format w 0=r:=by
    have e:=ube .f64 (sg (nn .f64 x) w)
    rw[r2,u39] at e
    have e2:=congrArg (rg FloatKind.f64.format) e
    rw[u0f _ _ (Nat.le_of_lt r1),u0f _ _ (u0i _ _ _)] at e2
    exact e2.symm
   have hfi:fint .zero x=FloatKind.f64.format.word (nn .f64 x) r:=by rw[hf,(u0b _ _ _ _).1,hr]
   have hr0:r≠0:=by
    rintro rfl
    rw[u5q,u39] at r3
    have:=Nat.mul_pos (show 0<w by omega) (Nat.two_pow_pos 1074)
    omega
   constructor
   ·unfold zz
    rw[h2,show fOI .f64 (sg (nn .f64 x) w)=floatOfInt .f64 (sg (nn .f64 x) w) from rfl,r2,hs,hfi]
   ·have hn1:nanB .f64 (fint .zero x)=false:=by rw[hfi];exact u3b .f64 _ (Nat.le_of_lt r1)
    rw[(u53 .f64 hn1 (by decide +kernel)).1]
    refine decide_eq_false ?_
    intro e
    rw[show srung FloatKind.f64.format 0=0 from by decide +kernel] at e
    have:rg FloatKind.f64.format (fint .zero x)=r:=by rw[hfi];exact u0f _ _ (Nat.le_of_lt r1)
    unfold srung at e
    rw[this] at e
    unfold sg at e
    by_cases hs:ngB FloatKind.f64.format (fint .zero x)=true
    ·rw[if_pos hs] at e;omega
    ·rw[if_neg hs] at e;omega
 rw[hz.2]
 unfold qq
 rw[hz.1]
 by_cases h0:w=0
 ·rw[decide_eq_true h0,if_pos h0,br_true]
  cases fcmp .lss .f64 (fop .sub .f64 x 0) 0<;>rfl
 ·rw[decide_eq_false h0,if_neg h0,br_false]
  cases fcmp .lss .f64 (fop .sub .f64 x (fint .zero x)) 0<;>rfl
theorem yhx{x:Nat}(h:smallB x=true):zdx x=some (sineV x):=by
 obtain⟨p,q⟩:=y8d (y9b h)
 have h1:=fun u=>(y1m u).1
 have h2:=fun u=>(y1m u).2
 unfold zdx ztc
 simp only[p,q,h1,h2,grd_true]
 unfold sineV sineA halfS
 generalize qq x=q
 cases fcmp .geq .f64 q 4602678819172646912
 ·cases fcmp .gtr .f64 q 4598175219545276416<;>rfl
 ·cases fcmp .gtr .f64 (fop .sub .f64 q 4602678819172646912) 4598175219545276416<;>rfl
theorem ye7(x:Nat):finW .f64 (fcvV .f32 .f64 x)=finW .f32 x:=by
 cases hn:nanB .f32 x with
 | true=>
  have e:fcvV .f32 .f64 x=qn .f64:=by unfold fcvV fcv;rw[hn];rfl
  rw[e,ykm,zx6 hn]
 | false=>
  cases hf:finW .f32 x with
  | true=>
   have h1:rg FloatKind.f32.format x≤2139095039:=by
    have:=u21 hf
    have hi:FloatKind.f32.format.infRung=2139095040:=by decide
    omega
   exact u06 (up_rg (c:=5183643170566569984) (N:=925) h1 (by decide +kernel) (by decide +kernel) (by decide +kernel)) (by decide +kernel)
  | false=>
   have hr:=inf_read hn hf
   have e:fcvV .f32 .f64 x=FloatKind.f64.format.word (nn .f32 x) FloatKind.f64.format.infRung:=by
    obtain⟨r,hr2⟩:=u8p x
    have hv:fcvV .f32 .f64 x=r:=by unfold fcvV;rw[hr2];rfl
    rw[hv]
    unfold fcv at hr2
    rw[hn] at hr2
    simp only[Bool.false_eq_true,if_false] at hr2
    unfold floatToFloatBits at hr2
    rw[if_neg (by intro h;cases h)] at hr2
    have hd:FloatKind.f32.decode x=.infinity (nn .f32 x):=hr
    rw[hd] at hr2
    simp only at hr2
    cases hr2
    rfl
   rw[e]
   unfold finW
   rw[u0f _ _ (Nat.le_refl _)]
   exact decide_eq_false (by omega)
theorem up_is{x:Nat}(h:finW .f32 x=true):∃ s r,fcvV .f32 .f64 x=FloatKind.f64.format.word s r∧r<FloatKind.f64.format.infRung:=by
 have e:=uf7 h
 have hf:finW .f64 (fcvV .f32 .f64 x)=true:=by rw[ye7,h]
 refine⟨_,_,e,?_⟩
 have:=u21 hf
 rw[e] at this
 have hw:rg FloatKind.f64.format (Ieee.double.word (nn .f32 x) (rnd Ieee.double (mg .f32 x) (lp .f32)))=_:=u0f .f64 _ (u0i _ _ _)
 rw[hw] at this
 exact this
theorem yi6{s:Bool}{r:Nat}(h:r<FloatKind.f64.format.infRung):zi1 (FloatKind.f64.format.word s r)=some r:=by
 have hi:FloatKind.f64.format.infRung=9218868437227405312:=by decide
 rw[hi] at h
 have hn:nanB .f64 (FloatKind.f64.format.word s r)=false:=u3b .f64 s (by rw[hi];omega)
 have hn2:nanB .f64 r=false:=by
  have:=u3b .f64 false (r:=r) (by rw[hi];omega)
  exact this
 have hw:FloatKind.f64.format.word s r%9223372036854775808=r:=by
  have:rg FloatKind.f64.format (FloatKind.f64.format.word s r)=r:=u0f _ _ (by rw[hi];omega)
  exact this
 have hb:bitI .andNot .u64 (Int.ofNat (FloatKind.f64.format.word s r)) 9223372036854775808=Int.ofNat r:=by
  generalize FloatKind.f64.format.word s r=x at hw
  have e1:bitI .andNot .u64 (Int.ofNat x) 9223372036854775808=IntKind.u64.wrap ((BitVec.ofInt 64 (Int.ofNat x) &&& ~~~BitVec.ofInt 64 9223372036854775808).toNat):=rfl
  have e2:BitVec.ofInt 64 (Int.ofNat x)=BitVec.ofNat 64 x:=BitVec.ofInt_natCast ..
  have e3:(~~~BitVec.ofInt 64 9223372036854775808).toNat=2^63-1:=by decide +kernel
  rw[e1,e2,BitVec.toNat_and,e3,BitVec.toNat_ofNat,Nat.and_two_pow_sub_one_eq_mod]
  have e4:x%2^64%2^63=r:=by omega
  rw[e4]
  simp[IntKind.wrap,IntKind.bits,IntKind.signed]
  omega
 unfold zi1 zw2
 rw[hb]
 have ho:okU .f64 (Int.ofNat r)=true:=decide_eq_true ⟨by simp,by
  show r<2^FloatKind.f64.format.width
  have:FloatKind.f64.format.width=64:=by decide
  rw[this];omega⟩
 have hc:cnI .f64 (Int.ofNat r)=r:=by
  show cn .f64 r=r
  exact u03 hn2
 rw[ho,hc]
 simp only[nanQ,hn,bnot,Bool.not_false,grd_true]
theorem yf1{x:Nat}{s:Bool}{r:Nat}(e:x=FloatKind.f64.format.word s r)(h:r<FloatKind.f64.format.infRung):za7 x=some (!smallB x):=by
 obtain⟨p,q⟩:=yi5 (yi6 (s:=s) h)
 unfold za7 zn7
 rw[e,p,q]
 have hn:nanB .f64 r=false:=u3b .f64 false (Nat.le_of_lt h)
 have hs:srung FloatKind.f64.format r=(r:Int):=by
  have h1:rg FloatKind.f64.format r=r:=u0f .f64 false (Nat.le_of_lt h)
  have h2:nn .f64 r=false:=u3m .f64 false (Nat.le_of_lt h)
  unfold srung
  rw[h1,show ngB FloatKind.f64.format r=false from h2]
  rfl
 rw[(u53 .f64 hn (by decide +kernel)).2.2.2.2.2,hs,show srung FloatKind.f64.format 4841369599423283200=4841369599423283200 from by decide +kernel]
 unfold smallB
 rw[u0f _ _ (Nat.le_of_lt h)]
 by_cases hh:r<4841369599423283200
 ·rw[decide_eq_true hh,decide_eq_false (by omega)];rfl
 ·rw[decide_eq_false hh,decide_eq_true (by omega)];rfl
theorem yj0{x:Nat}{s:Bool}{r:Nat}(e:x=FloatKind.f64.format.word s r)(h:r<FloatKind.f64.format.infRung):(fcmp .geq .f64 x 4841369599423283200||fcmp .leq .f64 x 14064741636278059008)=!smallB x:=by
 have hn:nanB .f64 x=false:=by rw[e];exact u3b .f64 s (Nat.le_of_lt h)
 have hs:srung FloatKind.f64.format x=sg s r:=by
  have h1:rg FloatKind.f64.format x=r:=by rw[e];exact u0f .f64 s (Nat.le_of_lt h)
  have h2:nn .f64 x=s:=by rw[e];exact u3m .f64 s (Nat.le_of_lt h)
  unfold srung
  rw[h1,show ngB FloatKind.f64.format x=s from h2]
 rw[(u53 .f64 hn (by decide +kernel)).2.2.2.2.2,(u53 .f64 hn (by decide +kernel)).2.2.2.1,hs,show srung FloatKind.f64.format 4841369599423283200=4841369599423283200 from by decide +kernel,show srung FloatKind.f64.format 14064741636278059008=-4841369599423283200 from by decide +kernel]
 unfold smallB
 rw[show rg FloatKind.f64.format x=r from by rw[e];exact u0f .f64 s (Nat.le_of_lt h)]
 unfold sg
 by_cases hh:r<4841369599423283200
 ·rw[decide_eq_true hh]
  cases s
  ·rw[if_neg (by decide),decide_eq_false (by omega),decide_eq_false (by omega)];rfl
  ·rw[if_pos rfl,decide_eq_false (by omega),decide_eq_false (by omega)];rfl
 ·rw[decide_eq_false hh]
  cases s
  ·rw[if_neg (by decide),decide_eq_true (by omega)];rfl
  ·rw[if_pos rfl,decide_eq_true (p:=-(r:Int)≤-4841369599423283200) (by omega)]
   simp
theorem zpa{u D p a b m c d B:Nat}(hu:rg FloatKind.f64.format u≤a)(hp:rg FloatKind.f64.format p≤b)(ha:a<FloatKind.f64.format.infRung)(hb:b<FloatKind.f64.format.infRung)(hm:m<FloatKind.f64.format.infRung)(hc:c<FloatKind.f64.format.infRung)
  (h1:rungV FloatKind.f64.format a*rungV FloatKind.f64.format b≤rungV FloatKind.f64.format m*2^1074) (hD:finW .f64 D=true) (hB:B≤mg .f64 D) (hB0:0<B) (h2:2*rungV FloatKind.f64.format m*2^1074≤rungV FloatKind.f64.format c*B)
  (h3:rungV FloatKind.f64.format 4607182418800017408+rungV FloatKind.f64.format c≤rungV FloatKind.f64.format d):rg FloatKind.f64.format (rnd1 u D p)≤d:=by
 have g1:rg FloatKind.f64.format (fop .mul .f64 u p)≤m:=mul_rg (N:=1074) hu hp ha hb (by decide +kernel) h1
 have g2:rg FloatKind.f64.format (fop .quo .f64 (fop .mul .f64 u p) D)≤c:=quo_rg (N:=1074) (u06 g1 hm) hD (u1i g1) hB hB0 (by decide +kernel) h2
 exact ubu (show rg FloatKind.f64.format 4607182418800017408≤4607182418800017408 by decide +kernel) g2 (by decide +kernel) hc h3
theorem yk9{u:Nat}(hu:rg FloatKind.f64.format u≤4661225614328463360):rg FloatKind.f64.format (poly u)≤5039527983027585024:=by
 have g0:=zpa (a:=4661225614328463360) (b:=4607182418800017408) (m:=4661225614328463360) (c:=4656722014701092864) (d:=4661225614328463360) (B:=6*2^1074) (D:=4643492690795692032) hu (show rg FloatKind.f64.format 4607182418800017408≤4607182418800017408 by decide +kernel) (by decide +kernel) (by decide +kernel) (by decide +kernel) (by decide +kernel) (by decide +kernel) (by decide +kernel) (by decide +kernel) (by decide +kernel) (by decide +kernel) (by decide +kernel)
 have g1:=zpa (a:=4661225614328463360) (b:=4661225614328463360) (m:=4715268809856909312) (c:=4710765210229538816) (d:=4715268809856909312) (B:=6*2^1074) (D:=4641592734702895104) hu g0 (by decide +kernel) (by decide +kernel) (by decide +kernel) (by decide +kernel) (by decide +kernel) (by decide +kernel) (by decide +kernel) (by decide +kernel) (by decide +kernel) (by decide +kernel)
 have g2:=zpa (a:=4661225614328463360) (b:=4715268809856909312) (m:=4769312005385355264) (c:=4764808405757984768) (d:=4769312005385355264) (B:=6*2^1074) (D:=4639692778610098176) hu g1 (by decide +kernel) (by decide +kernel) (by decide +kernel) (by decide +kernel) (by decide +kernel) (by decide +kernel) (by decide +kernel) (by decide +kernel) (by decide +kernel) (by decide +kernel)
 have g3:=zpa (a:=4661225614328463360) (b:=4769312005385355264) (m:=4823355200913801216) (c:=4818851601286430720) (d:=4823355200913801216) (B:=6*2^1074) (D:=4637440978796412928) hu g2 (by decide +kernel) (by decide +kernel) (by decide +kernel) (by decide +kernel) (by decide +kernel) (by decide +kernel) (by decide +kernel) (by decide +kernel) (by decide +kernel) (by decide +kernel)
 have g4:=zpa (a:=4661225614328463360) (b:=4823355200913801216) (m:=4877398396442247168) (c:=4872894796814876672) (d:=4877398396442247168) (B:=6*2^1074) (D:=4634766966517661696) hu g3 (by decide +kernel) (by decide +kernel) (by decide +kernel) (by decide +kernel) (by decide +kernel) (by decide +kernel) (by decide +kernel) (by decide +kernel) (by decide +kernel) (by decide +kernel)
 have g5:=zpa (a:=4661225614328463360) (b:=4877398396442247168) (m:=4931441591970693120) (c:=4926937992343322624) (d:=4931441591970693120) (B:=6*2^1074) (D:=4631107791820423168) hu g4 (by decide +kernel) (by decide +kernel) (by decide +kernel) (by decide +kernel) (by decide +kernel) (by decide +kernel) (by decide +kernel) (by decide +kernel) (by decide +kernel) (by decide +kernel)
 have g6:=zpa (a:=4661225614328463360) (b:=4931441591970693120) (m:=4985484787499139072) (c:=4980981187871768576) (d:=4985484787499139072) (B:=6*2^1074) (D:=4626322717216342016) hu g5 (by decide +kernel) (by decide +kernel) (by decide +kernel) (by decide +kernel) (by decide +kernel) (by decide +kernel) (by decide +kernel) (by decide +kernel) (by decide +kernel) (by decide +kernel)
 have g7:=zpa (a:=4661225614328463360) (b:=4985484787499139072) (m:=5039527983027585024) (c:=5035024383400214528) (d:=5039527983027585024) (B:=6*2^1074) (D:=4618441417868443648) hu g6 (by decide +kernel) (by decide +kernel) (by decide +kernel) (by decide +kernel) (by decide +kernel) (by decide +kernel) (by decide +kernel) (by decide +kernel) (by decide +kernel) (by decide +kernel)
 exact g7
theorem ykf(x:Nat)(h:nanB .f64 x=false):rg FloatKind.f64.format (fneg .f64 x)=rg FloatKind.f64.format x:=by
 have e:fneg .f64 x=x ^^^ 2^63:=by
  unfold fneg
  rw[h,if_neg (by decide)]
  rfl
 rw[e]
 show (x ^^^ 2^63)%FloatKind.f64.format.signWeight=x%FloatKind.f64.format.signWeight
 rw[show FloatKind.f64.format.signWeight=2^63 from by decide,Nat.xor_mod_two_pow,Nat.mod_self,Nat.xor_zero]
theorem yi2{r:Nat}(h:rg FloatKind.f64.format r≤4616189618054758400):rg FloatKind.f64.format (halfS r)≤5066549580791808000:=by
 have key:∀ y,rg FloatKind.f64.format y≤4620693217682128896→rg FloatKind.f64.format (fop .mul .f64 (fop .mul .f64 y 4618760256179416344) (poly (fop .mul .f64 (fop .mul .f64 y 4618760256179416344) (fop .mul .f64 y 4618760256179416344))))≤5066549580791808000:=by
  intro y hy
  have g1:rg FloatKind.f64.format (fop .mul .f64 y 4618760256179416344)≤4634204016564240384:=mul_rg (N:=1074) hy (show rg FloatKind.f64.format 4618760256179416344≤4618760256179416344 by decide +kernel) (by decide +kernel) (by decide +kernel) (by decide +kernel) (by decide +kernel)
  have g2:rg FloatKind.f64.format (fop .mul .f64 (fop .mul .f64 y 4618760256179416344) (fop .mul .f64 y 4618760256179416344))≤4661225614328463360:=mul_rg (N:=1074) g1 g1 (by decide +kernel) (by decide +kernel) (by decide +kernel) (by decide +kernel)
  exact mul_rg (N:=1074) g1 (yk9 g2) (by decide +kernel) (by decide +kernel) (by decide +kernel) (by decide +kernel)
 unfold halfS
 split
 ·exact key _ (ubu (show rg FloatKind.f64.format 4602678819172646912≤4602678819172646912 by decide +kernel) h (by decide +kernel) (by decide +kernel) (by decide +kernel))
 ·exact key _ (Nat.le_trans h (by decide))
theorem yjr{x:Nat}(h:smallB x=true):rg FloatKind.f64.format (sineV x)≤5066549580791808000:=by
 have g0:=zz_rg h
 have g1:rg FloatKind.f64.format (qq x)≤4611686018427387904:=by
  unfold qq
  split
  ·exact uel g0 (show rg FloatKind.f64.format 4607182418800017408≤4607182418800017408 by decide +kernel) (by decide +kernel) (by decide +kernel) (by decide +kernel)
  ·exact Nat.le_trans g0 (by decide)
 unfold sineV sineA
 generalize qq x=q at g1
 split
 ·have g2:rg FloatKind.f64.format (halfS (fop .sub .f64 q 4602678819172646912))≤5066549580791808000:=yi2 (ubu g1 (show rg FloatKind.f64.format 4602678819172646912≤4602678819172646912 by decide +kernel) (by decide +kernel) (by decide +kernel) (by decide +kernel))
  rw[ykf _ (u1g (u06 g2 (by decide +kernel)))]
  exact g2
 ·exact yi2 (Nat.le_trans g1 (by decide))
theorem yek{x:Nat}(h:smallB x=true):fcvB .f64 .f32 (sineV x)=true:=
 uba (c:=1920991232) (N:=925) (yjr h) (by decide +kernel) (by decide +kernel) (by decide +kernel) (by decide +kernel)
noncomputable def sineT(x:Nat):Nat:=if finB x=true then (if smallB (fcvV .f32 .f64 x)=true then fcvV .f64 .f32 (sineV (fcvV .f32 .f64 x)) else 0) else qn .f32
theorem ybq:zhh=some (qn .f64):=by
 unfold zhh zw6
 rw[show okU .f64 9221120237041090561=true from by decide +kernel,show cnI .f64 9221120237041090561=qn .f64 from by decide +kernel];rfl
theorem z8l(x:Nat):z7e x=some (sineT x):=by
 obtain⟨p1,q1⟩:=z3h (z3l x)
 obtain⟨p2,q2⟩:=ybs ybq
 unfold z7e zh7 sineT
 rw[p1,q1,p2,q2,show fcvB .f64 .f32 (qn .f64)=true from by decide +kernel,show fcvV .f64 .f32 (qn .f64)=qn .f32 from by decide +kernel]
 cases hf:finB x
 ·rfl
 ·rw[zsl] at hf
  obtain⟨s,r,e,hr⟩:=up_is hf
  obtain⟨p3,q3⟩:=yf6 (yf1 e hr)
  rw[p3,q3]
  cases hs:smallB (fcvV .f32 .f64 x)
  ·rfl
  ·obtain⟨p4,q4⟩:=yhy (yhx hs)
   rw[p4,q4,yek hs];rfl
theorem y7j{x:Nat}(hb:smallB x=true)(hg:fcmp .geq .f64 x 4841369599423283200=false)(hl:fcmp .leq .f64 x 14064741636278059008=false):z2t x=some (sineV x):=by
 obtain⟨h0,_⟩:=y7p hb
 have h1:=fun u=>(y22 u).1
 have h2:=fun u=>(y22 u).2
 have h3:fcmp .neq .f64 (fop .sub .f64 x x) 0=false:=by rw[y15,zjw hb];rfl
 unfold z2t z7o
 simp only[h0,h1,h2,h3,hg,hl,grd_true,br_false]
 unfold sineV sineA halfS qq zz
 generalize fop .sub .f64 x (fOI .f64 (f2iV .f64 x .i64))=z
 cases fcmp .lss .f64 z 0
 ·cases h5:fcmp .geq .f64 z 4602678819172646912
  ·cases hc:fcmp .gtr .f64 z 4598175219545276416<;>simp[br,hc,h5]
  ·cases hc:fcmp .gtr .f64 (fop .sub .f64 z 4602678819172646912) 4598175219545276416<;>simp[br,hc,h5]
 ·generalize fop .add .f64 z 4607182418800017408=z
  cases h5:fcmp .geq .f64 z 4602678819172646912
  ·cases hc:fcmp .gtr .f64 z 4598175219545276416<;>simp[br,hc,h5]
  ·cases hc:fcmp .gtr .f64 (fop .sub .f64 z 4602678819172646912) 4598175219545276416<;>simp[br,hc,h5]
theorem zv7{x:Nat}(h:fcvB .f64 .f32 x=true):z7f x=some (fcvV .f64 .f32 x):=by
 unfold z7f zh9
 rw[h];rfl
theorem z9q(x:Nat):z7y x=some (sineT x):=by
 have key:∀ v,z2t (fcvV .f32 .f64 x)=some v→fcvB .f64 .f32 v=true→z7y x=some (fcvV .f64 .f32 v):=by
  intro v h1 h2
  obtain⟨p1,q1⟩:=y6l h1
  obtain⟨p2,q2⟩:=zv8 (zv7 h2)
  unfold z7y zkt
  rw[p1,q1,p2,q2];rfl
 unfold sineT
 cases hf:finB x
 ·have h3:fcmp .neq .f64 (fop .sub .f64 (fcvV .f32 .f64 x) (fcvV .f32 .f64 x)) 0=true:=by
   rw[y15,ye7,← zsl,hf];rfl
  obtain⟨p2,q2⟩:=ybs ybq
  have:=key (qn .f64) (by unfold z2t z7o;rw[h3,p2,q2];rfl) (by decide +kernel)
  rw[this,show fcvV .f64 .f32 (qn .f64)=qn .f32 from by decide +kernel];rfl
 ·have hf':=hf
  rw[zsl] at hf
  obtain⟨s,r,e,hr⟩:=up_is hf
  have hh:=yj0 e hr
  have h3:fcmp .neq .f64 (fop .sub .f64 (fcvV .f32 .f64 x) (fcvV .f32 .f64 x)) 0=false:=by
   rw[y15,ye7,hf];rfl
  cases hs:smallB (fcvV .f32 .f64 x)
  ·rw[hs] at hh
   have:=key 0 (by
    unfold z2t z7o
    rw[h3]
    cases hg:fcmp .geq .f64 (fcvV .f32 .f64 x) 4841369599423283200
    ·rw[hg] at hh
     have hl:fcmp .leq .f64 (fcvV .f32 .f64 x) 14064741636278059008=true:=hh
     rw[hl];rfl
    ·rfl) (by decide +kernel)
   rw[this,show fcvV .f64 .f32 0=0 from by decide +kernel];rfl
  ·rw[hs] at hh
   have hg:fcmp .geq .f64 (fcvV .f32 .f64 x) 4841369599423283200=false:=by
    cases hg:fcmp .geq .f64 (fcvV .f32 .f64 x) 4841369599423283200 with
    | false=>rfl
    | true=>rw[hg] at hh;cases hh
   have hl:fcmp .leq .f64 (fcvV .f32 .f64 x) 14064741636278059008=false:=by
    rw[hg] at hh
    exact hh
   exact key _ (y7j hs hg hl) (yek hs)
def listOf(f:Nat→Nat)(n:Nat):List Nat:=(List.range n).map f
theorem zaa(f:Nat→Nat)(n:Nat):(listOf f n).length=n:=by simp[listOf]
theorem ztb(f:Nat→Nat)(n:Nat):listOf f (n+1)=listOf f n++[f n]:=by simp[listOf,List.range_succ]
theorem yjp{y:Nat}(hn:nanB .f64 y=false)(h:fcvB .f64 .f32 y=true):nanB .f32 (fcvV .f64 .f32 y)=false:=by
 unfold fcvB at h
 obtain⟨r,hr⟩:=Option.isSome_iff_exists.1 h
 have hv:fcvV .f64 .f32 y=r:=by unfold fcvV;rw[hr];rfl
 rw[hv]
 unfold fcv at hr
 rw[hn] at hr
 simp only[Bool.false_eq_true,if_false] at hr
 unfold floatToFloatBits at hr
 rw[if_neg (by intro h;cases h)] at hr
 split at hr
 ·cases hr
 ·cases hr
  exact u3b .f32 _ (Nat.le_refl _)
 ·split at hr
  ·cases hr
  ·cases hr
   show nanB .f32 (FloatKind.f32.format.nearest _ _ _)=false
   rw[(u0b _ _ _ _).1]
   exact u3b .f32 _ (u0i _ _ _)
noncomputable def wrapY(x:Nat):Nat:=fop .sub .f64 (fcvV .f32 .f64 x) (fint .down (fop .add .f64 (fcvV .f32 .f64 x) 4602678819172646912))
noncomputable def wrapV(x:Nat):Nat:=if fcmp .geq .f32 (fcvV .f64 .f32 (wrapY x)) 1056964608=true then 3204448256 else fcvV .f64 .f32 (wrapY x)
theorem yhn{x:Nat}(h:finB x=true):finW .f64 (fcvV .f32 .f64 x)=true∧rg FloatKind.f64.format (fcvV .f32 .f64 x)≤5183643171103440896:=by
 rw[zsl] at h
 have h1:rg FloatKind.f32.format x≤2139095039:=by
  have:=u21 h
  have hi:FloatKind.f32.format.infRung=2139095040:=by decide
  omega
 exact⟨by rw[ye7,h],up_rg (N:=925) h1 (by decide +kernel) (by decide +kernel) (by decide +kernel)⟩
theorem yj3{x:Nat}(h:finB x=true):nanB .f32 (wrapV x)=false:=by
 obtain⟨h1,h2⟩:=yhn h
 obtain⟨w1,w2,w3⟩:=wrap_down h1 h2
 unfold wrapV
 split
 ·decide +kernel
 ·exact yjp w3 w2
theorem yaw{x:Nat}(h:finB x=true):z7h x=some (wrapV x):=by
 obtain⟨h1,h2⟩:=yhn h
 obtain⟨w1,w2,w3⟩:=wrap_down h1 h2
 obtain⟨p,q⟩:=y5t (y5o w1)
 unfold z7h zhm wrapV wrapY
 rw[p,q,w2,br_if]
 split<;>rfl
theorem ye3{x:Nat}(h:finB x=true):z90 x=some (wrapV x):=by
 obtain⟨h1,h2⟩:=yhn h
 obtain⟨w1,w2,w3⟩:=wrap_down h1 h2
 obtain⟨p,q⟩:=y5t (y5o w1)
 obtain⟨p2,q2⟩:=zv8 (zv7 w2)
 unfold z90 zkw wrapV wrapY
 rw[p,q,p2,q2,br_if]
 split<;>rfl
theorem yjx(f:Ieee.Format){m:Nat}(h:0<m)(hi:1≤f.infRung)(hb:rungV f 1≤1):rnd f m f.leastPlace≠0:=by
 have:=u5x f (m:=m) (r:=1) (u:=0) (v:=0) (place:=f.leastPlace) hi rfl (by rw[Nat.pow_zero,Nat.mul_one,Nat.mul_one];omega)
 omega
theorem sub_zero{x y:Nat}(hx:finW .f32 x=true)(hy:finW .f32 y=true):fcmp .eql .f32 (fop .sub .f32 x y) 0=fcmp .eql .f32 x y:=by
 have hsub:=u28 hx hy
 have hn:nanB .f32 (fop .sub .f32 x y)=false:=by rw[hsub];exact u3b .f32 _ (u0i _ _ _)
 rw[(u53 .f32 hn yhz).1,(u53 .f32 (u1g hx) (u1g hy)).1]
 have hr:rg FloatKind.f32.format (fop .sub .f32 x y)=rnd FloatKind.f32.format (vl .f32 x-vl .f32 y).natAbs (lp .f32):=by rw[hsub];exact u0f _ _ (u0i _ _ _)
 have h0:srung FloatKind.f32.format 0=0:=by decide +kernel
 rw[h0]
 have e1:srung FloatKind.f32.format (fop .sub .f32 x y)=0↔vl .f32 x=vl .f32 y:=by
  have:srung FloatKind.f32.format (fop .sub .f32 x y)=0↔rg FloatKind.f32.format (fop .sub .f32 x y)=0:=by
   unfold srung sg
   by_cases hs:ngB FloatKind.f32.format (fop .sub .f32 x y)=true
   ·rw[if_pos hs];omega
   ·rw[if_neg hs];omega
  rw[this,hr]
  constructor
  ·intro h
   by_cases hd:(vl .f32 x-vl .f32 y).natAbs=0
   ·omega
   ·exact absurd h (yjx FloatKind.f32.format (by omega) (by decide) (by decide +kernel))
  ·intro h
   have:(vl .f32 x-vl .f32 y).natAbs=0:=by omega
   rw[this,u8j]
 have e2:vl .f32 x=vl .f32 y↔srung FloatKind.f32.format x=srung FloatKind.f32.format y:=by
  have h:=ueh FloatKind.f32.format (nn .f32 x) (nn .f32 y) (rg FloatKind.f32.format x) (rg FloatKind.f32.format y)
  have key:∀ a b:Int,compare a b=.eq↔a=b:=by
   intro a b
   rw[u23]
   by_cases h1:a<b
   ·rw[if_pos h1];constructor
    ·intro h;cases h
    ·intro h;omega
   ·rw[if_neg h1]
    by_cases h2:a=b
    ·rw[if_pos h2];simp[h2]
    ·rw[if_neg h2];constructor
     ·intro h;cases h
     ·intro h;exact absurd h h2
  rw[← key,← key]
  show compare (sg (nn .f32 x) (rungV _ _)) (sg (nn .f32 y) (rungV _ _))=_↔compare (sg _ _) (sg _ _)=_
  rw[h];exact Iff.rfl
 exact decide_eq_decide.2 (e1.trans e2)
theorem ykc{x y:Nat}(hx:nanB .f32 x=false)(hy:nanB .f32 y=false):fcmp .neq .f32 x y=!fcmp .eql .f32 y x:=by
 rw[(u53 .f32 hx hy).2.1,(u53 .f32 hy hx).1]
 congr 1
 exact decide_eq_decide.2 ⟨Eq.symm,Eq.symm⟩
theorem ye4{α β:Type} {L:Nat→Int→Option (α⊕β)} {len:Nat} (p:Nat→Bool) {g:Nat→α} {e:β}
  (hs:∀ n i,i<len→L (n+1) (Int.ofNat i)=if p i=true then L n (Int.ofNat (i+1)) else some (.inl (g i)))
  (he:∀ n,L (n+1) (Int.ofNat len)=some (.inr e)) :
  ∀ k i n,i+k=len→k<n→((∀ j,i≤j→j<len→p j=true)∧L n (Int.ofNat i)=some (.inr e))∨∃ j,i≤j∧j<len∧p j=false∧(∀ l,i≤l→l<j→p l=true)∧L n (Int.ofNat i)=some (.inl (g j))
 | 0,i,n,hk,hn=>by
  obtain⟨n,rfl⟩:∃ m,n=m+1:=⟨n-1,by omega⟩
  obtain rfl:i=len:=by omega
  exact .inl ⟨fun j h1 h2=>by omega,he n⟩
 | k+1,i,n,hk,hn=>by
  obtain⟨n,rfl⟩:∃ m,n=m+1:=⟨n-1,by omega⟩
  have hi:i<len:=by omega
  rw[hs n i hi]
  cases hp:p i with
  | false=>exact .inr ⟨i,Nat.le_refl _,hi,hp,fun l h1 h2=>by omega,by simp⟩
  | true=>
   simp only[if_pos]
   rcases ye4 p hs he k (i+1) n (by omega) (by omega) with⟨h1,h2⟩ | ⟨j,h1,h2,h3,h5,h4⟩
   ·refine .inl ⟨fun j h3 h4 => ?_,h2⟩
    by_cases e:j=i
    ·rw[e];exact hp
    ·exact h1 j (by omega) h4
   ·refine .inr ⟨j,by omega,h2,h3,fun l h6 h7 => ?_,h4⟩
    by_cases e:l=i
    ·rw[e];exact hp
    ·exact h5 l (by omega) h7
theorem y21{as:List Nat}{j:Nat}(h:knotB as j=true):rg FloatKind.f32.format (as.getD j 0)≤1056964608:=by
 unfold knotB fromToB at h
 simp only[Bool.and_eq_true] at h
 exact between_rg (k:=.f32) (by decide +kernel) (by decide +kernel) (by decide +kernel) (by decide +kernel) h.1.1 h.1.2
theorem yij{as:List Nat}{n:Nat}(h:∀ j,j<n→knotB as j=true):∀ d i,i+d<n→srung FloatKind.f32.format (as.getD i 0)≤srung FloatKind.f32.format (as.getD (i+d) 0)
 | 0,i,_=>Int.le_refl _
 | d+1,i,hi=>by
  have h1:=yij h d i (by omega)
  have h2:=h (i+(d+1)) hi
  have n1:nanB .f32 (as.getD (i+(d+1)) 0)=false:=u1g (u06 (y21 h2) (by decide +kernel))
  have n2:nanB .f32 (as.getD (i+d) 0)=false:=u1g (u06 (y21 (h (i+d) (by omega))) (by decide +kernel))
  unfold knotB at h2
  rw[decide_eq_false (by omega),Bool.and_eq_true,Bool.false_or,show i+(d+1)-1=i+d by omega] at h2
  rw[(u53 .f32 n1 n2).2.2.2.1] at h2
  have h3:=h2.2
  simp only[Bool.not_eq_true',decide_eq_false_iff_not] at h3
  omega
def aboveB(as:List Nat)(t j:Nat):Bool:=fcmp .gtr .f32 (as.getD j 0) t
theorem yag{as:List Nat}{t:Nat}(hl:as.length≤24) :
  ((∀ j,j<as.length→aboveB as t j=false)∧z00 as.length (Int.ofNat as.length) as t big 0=some (.inr (Int.ofNat as.length,false))) ∨
  ∃ j,j<as.length∧aboveB as t j=true∧(∀ l,l<j→aboveB as t l=false)∧z00 as.length (Int.ofNat as.length) as t big 0=some (.inl (Int.ofNat j)):=by
 rcases ye4 (L:=z00 as.length (Int.ofNat as.length) as t) (len:=as.length) (fun j=>!aboveB as t j) (g:=fun j=>Int.ofNat j) (e:=(Int.ofNat as.length,false))
  (fun n i hi=>by
   rw[z58];unfold z0f
   rw[ltN_t hi,okIx_t hi,ix1,addI1 (by omega)]
   unfold aboveB
   simp only[gF,br_true,grd_true]
   cases fcmp .gtr .f32 (as.getD i 0) t<;>rfl)
  (fun n=>by rw[z58];unfold z0f;rw[ltN_f (Nat.le_refl _)];rfl) as.length 0 big (by omega) (uet (by omega)) with⟨h1,h2⟩ | ⟨j,_,h2,h3,h4,h5⟩
 ·exact .inl ⟨fun j hj=>by simpa using h1 j (Nat.zero_le _) hj,h2⟩
 ·exact .inr ⟨j,h2,by simpa using h3,fun l hl=>by simpa using h4 l (Nat.zero_le _) hl,h5⟩
theorem zs8{as:List Nat}{t j:Nat}(hl:as.length≤24)(h1:∀ l,l<j→aboveB as t l=false)(h2:∀ l,j≤l→l<as.length→aboveB as t l=true) :
  ∀ d m,j+d≤as.length→d<m→z1w t as as.length m ((j:Int)+(d:Int)-1)=some ((j:Int)-1,false)
 | 0,m,hd,hm=>by
  obtain⟨m,rfl⟩:∃ k,m=k+1:=⟨m-1,by omega⟩
  rw[zn1];unfold z40
  by_cases h0:j=0
  ·subst h0;rfl
  ·have e:(j:Int)+((0:Nat):Int)-1=Int.ofNat (j-1):=by simp;omega
   have e2:(j:Int)-1=Int.ofNat (j-1):=by simp;omega
   have ha:=h1 (j-1) (by omega)
   unfold aboveB at ha
   rw[e,e2,show leI 0 (Int.ofNat (j-1))=true from decide_eq_true (by simp),okIx_t (show j-1<as.length by omega),ix1]
   show br true (grd true (br (fcmp .gtr .f32 (as.getD (j-1) 0) t) _ (some (_,fcmp .gtr .f32 (as.getD (j-1) 0) t)))) _=_
   rw[ha];rfl
 | d+1,m,hd,hm=>by
  obtain⟨m,rfl⟩:∃ k,m=k+1:=⟨m-1,by omega⟩
  have e:(j:Int)+((d+1:Nat):Int)-1=Int.ofNat (j+d):=by simp;omega
  have ha:=h2 (j+d) (by omega) (by omega)
  unfold aboveB at ha
  rw[zn1];unfold z40
  rw[e,show leI 0 (Int.ofNat (j+d))=true from decide_eq_true (by simp;omega),okIx_t (show j+d<as.length by omega),ix1]
  have e3:subI .i64 (Int.ofNat (j+d)) 1=(j:Int)+(d:Int)-1:=by
   have:subI .i64 (Int.ofNat (j+d)) 1=((j+d:Nat):Int)-1:=uem (by simp;omega) (by simp;omega)
   rw[this];omega
  show br true (grd true (br (fcmp .gtr .f32 (as.getD (j+d) 0) t) (z1w t as as.length m (subI .i64 (Int.ofNat (j+d)) 1)) _)) _=_
  rw[ha,e3]
  exact zs8 hl h1 h2 d m (by omega) (by omega)
def pairR(as:List Nat)(j:Nat):Nat×Nat×Nat×Nat:=
 if j=0 then (as.length-1,0,fop .sub .f32 (as.getD (as.length-1) 0) 1065353216,as.getD 0 0)
 else if j=as.length then (as.length-1,0,as.getD (as.length-1) 0,fop .add .f32 (as.getD 0 0) 1065353216)
 else (j-1,j,as.getD (j-1) 0,as.getD j 0)
theorem yi9{x y:Nat}:fcmp .lss .f32 x y=fcmp .gtr .f32 y x:=by
 cases hx:nanB .f32 x with
 | true=>rw[(u89 .f32 (.inl hx)).2.2.1,(u89 .f32 (.inr hx)).2.2.2.2.1]
 | false=>
  cases hy:nanB .f32 y with
  | true=>rw[(u89 .f32 (.inr hy)).2.2.1,(u89 .f32 (.inl hy)).2.2.2.2.1]
  | false=>rw[(u53 .f32 hx hy).2.2.1,(u53 .f32 hy hx).2.2.2.2.1]
theorem ydz{as ls ds:List Nat}(h:validProfB as ls ds=true):∀ j,j<as.length→knotB as j=true:=by
 unfold validProfB at h
 simp only[Bool.and_eq_true] at h
 intro j hj
 have:=zki.1 h.2.2.2.2 j hj
 unfold profB at this
 rw[Bool.and_eq_true] at this
 exact this.1
theorem yiq{as ls ds:List Nat}{t j l:Nat}(hv:validProfB as ls ds=true)(ht:nanB .f32 t=false)(hj:j<as.length)(ha:aboveB as t j=true)(h1:j≤l)(h2:l<as.length):aboveB as t l=true:=by
 have hk:=ydz hv
 have h3:=yij hk (l-j) j (by omega)
 rw[show j+(l-j)=l by omega] at h3
 have n1:nanB .f32 (as.getD j 0)=false:=u1g (u06 (y21 (hk j hj)) (by decide +kernel))
 have n2:nanB .f32 (as.getD l 0)=false:=u1g (u06 (y21 (hk l h2)) (by decide +kernel))
 unfold aboveB at ha ⊢
 rw[(u53 .f32 n1 ht).2.2.2.2.1] at ha
 rw[(u53 .f32 n2 ht).2.2.2.2.1]
 have:=of_decide_eq_true ha
 exact decide_eq_true (by omega)
theorem yk5{as ls ds:List Nat}{x:Nat}(hv:validProfB as ls ds=true)(hx:finB x=true):∃ j,j≤as.length ∧
  z1a as.length as ls.length ls ds.length ds x=some (Int.ofNat (pairR as j).1,Int.ofNat (pairR as j).2.1,(pairR as j).2.2.1,(pairR as j).2.2.2,wrapV x) ∧
  z46 as.length as ls.length ls ds.length ds x=some (Int.ofNat (pairR as j).1,Int.ofNat (pairR as j).2.1,(if fcmp .eql .f32 (fop .sub .f32 (pairR as j).2.2.2 (pairR as j).2.2.1) 0=true then 0 else fop .quo .f32 (fop .sub .f32 (wrapV x) (pairR as j).2.2.1) (fop .sub .f32 (pairR as j).2.2.2 (pairR as j).2.2.1)),fop .sub .f32 (pairR as j).2.2.2 (pairR as j).2.2.1):=by
 obtain⟨c1,c2,c3,c4⟩:=zs3 hv
 have ht:=yj3 hx
 obtain⟨p1,q1⟩:=yb9 (yaw hx)
 obtain⟨p2,q2⟩:=ydq (ye3 hx)
 have hn1:subI .i64 (Int.ofNat as.length) 1=Int.ofNat (as.length-1):=subN1 (by omega) (by omega)
 have o1:okIx (Int.ofNat (as.length-1)) as.length=true:=okIx_t (by omega)
 have o0:okIx 0 as.length=true:=okIx_t (i:=0) (by omega)
 have i0:ixO 0 0 1=0:=rfl
 generalize wrapV x=t at ht q1 q2 ⊢
 rcases yag (t:=t) c2 with⟨k1,k2⟩ | ⟨j,k1,k2,k3,k4⟩
 ·refine⟨as.length,Nat.le_refl _,?_,?_⟩
  ·obtain⟨g1,g2,_⟩:=zc2 rfl k2
   have hr:pairR as as.length=(as.length-1,0,as.getD (as.length-1) 0,fop .add .f32 (as.getD 0 0) 1065353216):=by unfold pairR;rw[if_neg (by omega),if_pos rfl]
   rw[hr]
   unfold z1a z6r
   simp only[p1,q1,g1,g2,hn1,o1,o0,ix1,i0,gF,grd_true,br_false]
   rfl
  ·have hd:=zs8 (t:=t) (j:=as.length) c2 k1 (fun l h1 h2=>by omega) 0 big (by omega) (uet (by omega))
   rw[show (as.length:Int)+((0:Nat):Int)-1=Int.ofNat (as.length-1) by simp;omega] at hd
   rw[show (as.length:Int)-1=Int.ofNat (as.length-1) by simp;omega] at hd
   obtain⟨g1,g2,_⟩:=zrl rfl hd
   have hr:pairR as as.length=(as.length-1,0,as.getD (as.length-1) 0,fop .add .f32 (as.getD 0 0) 1065353216):=by unfold pairR;rw[if_neg (by omega),if_pos rfl]
   rw[hr]
   have e1:ltI (Int.ofNat (as.length-1)) 0=false:=ltI_f (by simp)
   have e2:addI .i64 (Int.ofNat (as.length-1)) 1=Int.ofNat as.length:=by rw[addI1 (by omega),show as.length-1+1=as.length by omega]
   have e3:eqI (Int.ofNat as.length) (Int.ofNat as.length)=true:=by simp[eqI]
   have e4:fcmp .lss .f32 t (as.getD 0 0)=false:=by rw[yi9];exact k1 0 (by omega)
   have e5:eqI 0 0=true:=rfl
   unfold z46 zg9
   simp only[zd7,z0b,z9w,zcv,zcw,zd4,z6g,za2,z87,z9u,z5g,z77,z7a,zb6,z7c,z76,z2y,z7i,z2x,p2,q2,hn1,g1,g2,e1,e2,e3,e4,e5,o1,o0,ix1,i0,gF,grd_true,br_false,br_true]
   rw[br_if]
   split<;>rfl
 ·refine⟨j,by omega,?_,?_⟩
  ·obtain⟨g1,g2,g3⟩:=zc6 rfl k4
   unfold z1a z6r
   simp only[p1,q1,g1,g2,g3,grd_true,br_true]
   by_cases h0:j=0
   ·subst h0
    have hr:pairR as 0=(as.length-1,0,fop .sub .f32 (as.getD (as.length-1) 0) 1065353216,as.getD 0 0):=by unfold pairR;rw[if_pos rfl]
    rw[hr,eqN0]
    simp only[hn1,o1,o0,ix1,i0,gF,grd_true,br_true,decide_eq_true (rfl:(0:Nat)=0)]
    rfl
   ·have hr:pairR as j=(j-1,j,as.getD (j-1) 0,as.getD j 0):=by unfold pairR;rw[if_neg h0,if_neg (by omega)]
    rw[hr,eqN0,decide_eq_false h0,show ltI (Int.ofNat j) 0=false from ltI_f (by simp),subN1 h0 (by omega),okIx_t (show j-1<as.length by omega),okIx_t k1,ix1,ix1]
    rfl
  ·have hd:=zs8 (t:=t) (j:=j) c2 k3 (fun l h1 h2=>yiq hv ht k1 k2 h1 h2) (as.length-j) big (by omega) (uet (by omega))
   rw[show (j:Int)+((as.length-j:Nat):Int)-1=Int.ofNat (as.length-1) by simp;omega] at hd
   obtain⟨g1,g2,_⟩:=zrl rfl hd
   have e5:eqI 0 0=true:=rfl
   unfold z46 zg9
   by_cases h0:j=0
   ·subst h0
    have hr:pairR as 0=(as.length-1,0,fop .sub .f32 (as.getD (as.length-1) 0) 1065353216,as.getD 0 0):=by unfold pairR;rw[if_pos rfl]
    rw[hr]
    have e1:ltI (((0:Nat):Int)-1) 0=true:=rfl
    have e4:fcmp .lss .f32 t (as.getD 0 0)=true:=by rw[yi9];exact k2
    simp only[zd7,z0b,z9w,zcv,zcw,zd4,z6g,za2,z87,z9u,z5g,z77,z7a,zb6,z7c,z76,z2y,z7i,z2x,p2,q2,hn1,g1,g2,e1,e4,e5,o1,o0,ix1,i0,gF,grd_true,br_true]
    rw[br_if]
    split<;>rfl
   ·have hr:pairR as j=(j-1,j,as.getD (j-1) 0,as.getD j 0):=by unfold pairR;rw[if_neg h0,if_neg (by omega)]
    rw[hr]
    have e0:(j:Int)-1=Int.ofNat (j-1):=by simp;omega
    rw[e0] at g2
    have e1:ltI (Int.ofNat (j-1)) 0=false:=ltI_f (by simp)
    have e2:addI .i64 (Int.ofNat (j-1)) 1=Int.ofNat j:=by rw[addI1 (by omega),show j-1+1=j by omega]
    have e3:eqI (Int.ofNat j) (Int.ofNat as.length)=false:=by unfold eqI;exact decide_eq_false (by simp;omega)
    have e6:eqI (Int.ofNat j) 0=false:=by rw[eqN0];exact decide_eq_false h0
    simp only[zd7,z0b,z9w,zcv,zcw,zd4,z6g,za2,z87,z9u,z5g,z77,z7a,zb6,z7c,z76,z2y,z7i,z2x,p2,q2,hn1,g1,g2,e1,e2,e3,e6,okIx_t (show j-1<as.length by omega),okIx_t k1,ix1,gF,grd_true,br_false]
    rw[br_if]
    split<;>rfl
theorem yiy{as ls ds:List Nat}{j:Nat}(hv:validProfB as ls ds=true)(hj:j≤as.length):finW .f32 (pairR as j).2.2.1=true∧finW .f32 (pairR as j).2.2.2=true∧(pairR as j).1<as.length∧(pairR as j).2.1<as.length:=by
 obtain⟨c1,c2,c3,c4⟩:=zs3 hv
 have hk:=ydz hv
 have hf:∀ i,i<as.length→rg FloatKind.f32.format (as.getD i 0)≤1056964608:=fun i hi=>y21 (hk i hi)
 have h1:∀ i,i<as.length→finW .f32 (as.getD i 0)=true:=fun i hi=>u06 (hf i hi) (by decide +kernel)
 unfold pairR
 split
 ·refine⟨?_,h1 0 (by omega),by show as.length-1<as.length;omega,by show 0<as.length;omega⟩
  exact u06 (ubu (c:=1073741824) (hf _ (by omega)) (show rg FloatKind.f32.format 1065353216≤1065353216 by decide +kernel) (by decide +kernel) (by decide +kernel) (by decide +kernel)) (by decide +kernel)
 ·split
  ·refine⟨h1 _ (by omega),?_,by show as.length-1<as.length;omega,by show 0<as.length;omega⟩
   exact u06 (uel (c:=1073741824) (hf _ (by omega)) (show rg FloatKind.f32.format 1065353216≤1065353216 by decide +kernel) (by decide +kernel) (by decide +kernel) (by decide +kernel)) (by decide +kernel)
  ·exact⟨h1 _ (by omega),h1 _ (by omega),by show j-1<as.length;omega,by show j<as.length;omega⟩
theorem at_eq{as ls ds xs:List Nat}{x:Nat}(hv:validProfB as ls ds=true)(hx:finB x=true)(hl:xs.length=as.length) :
  ∃ v,z65 as.length as ls.length ls ds.length ds xs.length xs x=some v∧zbf as.length as ls.length ls ds.length ds xs.length xs x=some v:=by
 obtain⟨j,hj,h1,h2⟩:=yk5 hv hx
 obtain⟨f1,f2,f3,f4⟩:=yiy hv hj
 generalize pairR as j=P at *
 obtain⟨a,b,low,high⟩:=P
 simp only at h1 h2 f1 f2 f3 f4
 obtain⟨i0,i1,i2,i3,i4,i5⟩:=zz1 h1
 obtain⟨s0,s1,s2,s3,s4⟩:=ye0 h2
 have hne:fcmp .neq .f32 low high=!fcmp .eql .f32 (fop .sub .f32 high low) 0:=by rw[sub_zero f2 f1,ykc (u1g f1) (u1g f2)]
 have oa:okIx (Int.ofNat a) xs.length=true:=okIx_t (by omega)
 have ob:okIx (Int.ofNat b) xs.length=true:=okIx_t (by omega)
 refine⟨mixed (xs.getD a 0) (xs.getD b 0) (if fcmp .eql .f32 (fop .sub .f32 high low) 0=true then 0 else fop .quo .f32 (fop .sub .f32 (wrapV x) low) (fop .sub .f32 high low)),?_,?_⟩
 ·unfold z65 zfb
  have m:=fun p q s=>yh3 (show zg4 p q s=some (mixed p q s) from rfl)
  simp only[pF_all,i0,i1,i2,i3,i4,i5,hne,oa,ob,ix1,gF,grd_true,(m _ _ _).1,(m _ _ _).2]
  cases fcmp .eql .f32 (fop .sub .f32 high low) 0<;>rfl
 ·unfold zbf zqx
  simp only[pF_all,s0,s1,s2,s3,s4,oa,ob,ix1,gF,grd_true]
  rfl
noncomputable def tipW(st:List Nat)(count:Int)(tip:Nat)(i:Int):Nat:=fop .quo .f32 (fop .mul .f32 (fOI .f32 count) (fop .sub .f32 tip (gF st (ixO 0 i 3)))) (fop .mul .f32 1073741824 (gF st (ixO 0 i 3)))
noncomputable def tipS(st:List Nat)(count:Int)(tip:Nat)(i:Int)(s:Nat):Nat:=fop .quo .f32 (tipW st count tip i) (fop .add .f32 (tipW st count tip i) s)
theorem zip{as ls ds st:List Nat}{n:Nat}{count:Int}{hub tip:Nat}(h:validRotorB as ls ds st n count hub tip=true):n≤12:=by
 unfold validRotorB at h
 simp only[Bool.and_eq_true,decide_eq_true_eq] at h
 exact h.2.2.2.1
def flowB(x:Nat):Bool:=fromToB x 981668463 1048508891
theorem ygb(x:Nat):za8 x=some (flowB x):=by
 obtain⟨p,q⟩:=zxs (zxb x 981668463 1048508891)
 unfold za8 zn3
 rw[p,q];rfl
theorem y8f{as ls ds st:List Nat}{n:Nat}{count:Int}{hub tip:Nat}(i:Int)(z:st.length=n*3) :
  z6e as.length as ls.length ls ds.length ds n st count hub tip i=some (validRotorB as ls ds st n count hub tip&&stationB n i):=by
 have hst:pF st 0 (muN n 3)=st:=pF_all3 z
 obtain⟨p1,q1⟩:=zux (zui (as:=as) (ls:=ls) (ds:=ds) (st:=st) (n:=n) (count:=count) (hub:=hub) (tip:=tip))
 obtain⟨p2,q2⟩:=y5v (y5z i 0 (subI .i64 (Int.ofNat n) 1))
 unfold z6e zf5
 simp only[pF_all,hst,p1,q1,p2,q2,grd_true]
 cases validRotorB as ls ds st n count hub tip<;>rfl
theorem yde{k:Int}(h0:0≤k)(h1:k≤4611686018427387904):addI .i64 k 1=k+1:=yf9 (by omega) (by omega)
theorem yip {L:Nat→Int→Int→List Nat→Option (Int×Int×Bool×List Nat)} {n:Nat} {k0:Int} {ys:List Nat} (hy:ys.length=n*3) (hk:0≤k0) (hk2:k0≤1099511627776) (hl:n≤1099511627776)
  (hs:∀ m k i b,okIx i n=true→ltI i (Int.ofNat n)=true→L (m+1) k i b=L m (addI .i64 (addI .i64 (addI .i64 k 1) 1) 1) (addI .i64 i 1) (sF (sF (sF b (ixO 0 i 3) (fOI .f32 k)) (Nat.succ (ixO 0 i 3)) (fOI .f32 (addI .i64 k 1))) (Nat.succ (Nat.succ (ixO 0 i 3))) (fOI .f32 (addI .i64 (addI .i64 k 1) 1))))
  (he:∀ m k i b,ltI i (Int.ofNat n)=false→L (m+1) k i b=some (k,i,false,b)) :
  L big k0 0 ys=some (k0+(n:Int)*3,Int.ofNat n,false,marks k0 (n*3)):=by
 have hm:(marks k0 (n*3)).length=n*3:=zjy _ _
 have:=runs (L:=fun m i=>L m (k0+i*3) i ((marks k0 (n*3)).take (i.toNat*3)++ys.drop (i.toNat*3))) (len:=n) (e:=(k0+(n:Int)*3,Int.ofNat n,false,marks k0 (n*3)))
  (fun m i hi=>by
   show L (m+1) (k0+(i:Int)*3) i ((marks k0 (n*3)).take (i*3)++ys.drop (i*3))=L m (k0+((i+1:Nat):Int)*3) ((i+1:Nat):Int) ((marks k0 (n*3)).take ((i+1)*3)++ys.drop ((i+1)*3))
   have e1:addI .i64 (k0+(i:Int)*3) 1=k0+((i*3+1:Nat):Int):=by rw[yde (by omega) (by omega)];omega
   have e2:addI .i64 (k0+((i*3+1:Nat):Int)) 1=k0+((i*3+2:Nat):Int):=by rw[yde (by omega) (by omega)];omega
   have e3:addI .i64 (k0+((i*3+2:Nat):Int)) 1=k0+((i+1:Nat):Int)*3:=by rw[yde (by omega) (by omega)];omega
   have e0:k0+(i:Int)*3=k0+((i*3:Nat):Int):=by omega
   rw[hs m _ (i:Int) _ (okIx_t hi) (ltN_t hi),e1,e2,e3,show addI .i64 (i:Int) 1=((i+1:Nat):Int) from addI1 (by omega),show ixO 0 (i:Int) 3=i*3 from ix3 i,e0]
   rw[← put3 (xs:=marks k0 (n*3)) (zs:=ys) hm (by rw[hy,hm]) hi,zty (by omega),zty (by omega),zty (by omega)])
  (fun m=>by
   show L (m+1) (k0+(n:Int)*3) n ((marks k0 (n*3)).take (n*3)++ys.drop (n*3))=_
   rw[he m _ (n:Int) _ (ltN_f (Nat.le_refl _)),List.take_of_length_le (by omega),List.drop_of_length_le (by omega),List.append_nil]
   rfl) (by omega)
 have h0:k0+(0:Int)*3=k0:=by omega
 simpa [h0] using this
theorem yj5(k0:Int)(n:Nat):pF (marks k0 (n*3)) 0 (muN n 3)=marks k0 (n*3):=pF_all3 (zjy _ _)
theorem yi3{σ α β:Type}{p:Nat→σ→Bool}{f:Nat→σ→σ}{g:Nat→σ→α}{e:σ→β}{k i:Nat}{s:σ} (h:(walkS p f g e k i s).isRight=true) {j:Nat} (h1:i≤j) (h2:j<i+k):∃ s',p j s'=true:=by
 by_cases hc:∃ s',p j s'=true
 ·exact hc
 ·exfalso
  obtain⟨r,hr⟩:=ygu (p:=p) (f:=f) (g:=g) (e:=e) (j:=j) k i s (fun s'=>by
   cases hp:p j s' with
   | false=>rfl
   | true=>exact absurd ⟨s',hp⟩ hc) h1 h2
  rw[hr] at h
  cases h
theorem yiz{as ls ds st:List Nat}{n:Nat}{count:Int}{hub tip:Nat}{i:Int}(hv:validRotorB as ls ds st n count hub tip=true)(hi:stationB n i=true):finB (gF st (Nat.succ (Nat.succ (ixO 0 i 3))))=true:=by
 have hn:=zip hv
 have h1:=of_decide_eq_true (zi2 hi (by omega))
 obtain⟨j,rfl⟩:=Int.eq_ofNat_of_zero_le h1.1
 have hj:j<n:=by omega
 unfold validRotorB at hv
 simp only[Bool.and_eq_true] at hv
 obtain⟨s,hs⟩:=yi3 hv.2.2.2.2.2.2 (Nat.zero_le j) (by omega)
 unfold ringP at hs
 simp only[Bool.and_eq_true] at hs
 rw[show ixO 0 ((j:Nat):Int) 3=j*3 from ix3 j]
 exact hs.2.2.2
theorem yir{as ls ds st:List Nat}{n:Nat}{count:Int}{hub tip:Nat}(h:validRotorB as ls ds st n count hub tip=true):validProfB as ls ds=true:=by
 unfold validRotorB at h
 simp only[Bool.and_eq_true] at h
 exact h.1
theorem yjq{x:Nat}(h:flw x):flowB x=true:=by
 obtain⟨h0,h1,h2⟩:=h
 have hl:nanB .f32 981668463=false:=by decide +kernel
 have hh:nanB .f32 1048508891=false:=by decide +kernel
 have el:srung FloatKind.f32.format 981668463=981668463:=by decide +kernel
 have eh:srung FloatKind.f32.format 1048508891=1048508891:=by decide +kernel
 have hn:nanB .f32 x=false:=u1g (u06 h2 (by rw[i32];omega))
 have hs:srung FloatKind.f32.format x=(rg FloatKind.f32.format x:Int):=by
  unfold srung sg
  rw[show ngB FloatKind.f32.format x=false from h0]
  rfl
 unfold flowB fromToB
 rw[(u53 .f32 hn hl).2.2.2.2.2,(u53 .f32 hn hh).2.2.2.1,el,eh,hs,decide_eq_true (by omega),decide_eq_true (by omega)]
 rfl
theorem y2n:flw 981668463:=by unfold flw;decide +kernel
theorem y51:flw 1048508891:=by unfold flw;decide +kernel
theorem yjj{x:Nat}(h:flw x):rg FloatKind.f32.format x≤1048576000:=by have:=h.2.2;omega
def angB(st:List Nat)(i:Int)(pitch x:Nat):Nat:=fop .sub .f32 (fop .sub .f32 x (gF st (Nat.succ (Nat.succ (ixO 0 i 3))))) pitch
theorem yid{as ls ds st:List Nat}{n:Nat}{count:Int}{hub tip:Nat}{i:Int}{pitch x y:Nat}(hv:validRotorB as ls ds st n count hub tip=true)(hi:stationB n i=true)(hp:finB pitch=true)(hx:flw x)(hy:flw y):finB (angB st i pitch x)=finB (angB st i pitch y):=by
 have ht:=yiz hv hi
 rw[zsl] at ht hp
 rw[zsl,zsl]
 exact flow_fin (yjj hx) (yjj hy) ht hp
def mayB(as ls ds st:List Nat)(n:Nat)(count:Int)(hub tip:Nat)(i:Int)(wind speed pitch:Nat):Bool:=
 validRotorB as ls ds st n count hub tip&&(stationB n i&&(posB wind&&(posB speed&&(finB pitch&&finB (angB st i pitch 981668463)))))
theorem zzr{as ls ds st:List Nat}{n:Nat}{count:Int}{hub tip:Nat}(i:Int)(wind speed pitch:Nat)(z:st.length=n*3)(hl:ls.length<281474976710656)(hd:ds.length<281474976710656) :
  z9a as.length as ls.length ls ds.length ds n st count hub tip i wind speed pitch=some (mayB as ls ds st n count hub tip i wind speed pitch):=by
 have hst:pF st 0 (muN n 3)=st:=pF_all3 z
 obtain⟨p1,q1⟩:=zkb (zkl (as:=as) (st:=st) (n:=n) (count:=count) (hub:=hub) (tip:=tip) hl hd)
 obtain⟨p2,q2⟩:=zyr (zzi (as:=as) (ls:=ls) (ds:=ds) (st:=st) (n:=n) (count:=count) (hub:=hub) (tip:=tip) i)
 obtain⟨p3,q3⟩:=zbp (zqo wind speed)
 obtain⟨p4,q4⟩:=z3h (z3l pitch)
 obtain⟨p5,q5⟩:=z3h (z3l (fop .sub .f32 (fop .sub .f32 981668463 (gF st (Nat.succ (Nat.succ (ixO 0 i 3))))) pitch))
 unfold z9a zky mayB
 simp only[pF_all,hst,p1,q1,p2,q2,p3,q3,p4,q4,p5,q5,grd_true]
 cases hv:validRotorB as ls ds st n count hub tip
 ·rfl
 ·cases hi:stationB n i
  ·rfl
  ·have hn:=zip hv
   rw[zi2 hi (by omega)]
   cases posB wind<;>cases posB speed<;>cases finB pitch<;>rfl
theorem ycs{as ls ds st:List Nat}{n:Nat}{count:Int}{hub tip:Nat}{i:Int}{pitch:Nat}(hix:okIx i n=true):z8f as.length as ls.length ls ds.length ds n st count hub tip i pitch=some (finB (angB st i pitch 981668463)&&finB (angB st i pitch 1048508891)):=by
 obtain⟨p5,q5⟩:=z1p (z1q (fop .sub .f32 (fop .sub .f32 981668463 (gF st (Nat.succ (Nat.succ (ixO 0 i 3))))) pitch))
 obtain⟨p6,q6⟩:=z1p (z1q (fop .sub .f32 (fop .sub .f32 1048508891 (gF st (Nat.succ (Nat.succ (ixO 0 i 3))))) pitch))
 unfold z8f zjl
 simp only[hix,p5,q5,p6,q6,grd_true]
 show br (finB (angB st i pitch 981668463)) (some (finB (angB st i pitch 1048508891))) (some false)=_
 cases finB (angB st i pitch 981668463)<;>rfl
theorem yey{as ls ds st:List Nat}{n:Nat}{count:Int}{hub tip:Nat}(i:Int)(wind speed pitch:Nat)(z:st.length=n*3) :
  zab as.length as ls.length ls ds.length ds n st count hub tip i wind speed pitch=some (mayB as ls ds st n count hub tip i wind speed pitch):=by
 have hst:pF st 0 (muN n 3)=st:=pF_all3 z
 obtain⟨p1,q1⟩:=y98 (y8f (as:=as) (ls:=ls) (ds:=ds) (st:=st) (n:=n) (count:=count) (hub:=hub) (tip:=tip) i z)
 obtain⟨p2,q2⟩:=z9d (z93 wind)
 obtain⟨p3,q3⟩:=z9d (z93 speed)
 obtain⟨p4,q4⟩:=z1p (z1q pitch)
 unfold zab znc mayB
 simp only[pF_all,hst,p1,q1,p2,q2,p3,q3,p4,q4,grd_true]
 cases hv:validRotorB as ls ds st n count hub tip
 ·rfl
 ·cases hi:stationB n i
  ·rfl
  ·have hn:=zip hv
   obtain⟨p5,q5⟩:=ydd (ycs (as:=as) (ls:=ls) (ds:=ds) (st:=st) (count:=count) (hub:=hub) (tip:=tip) (pitch:=pitch) (zi2 hi (by omega)))
   rw[p5,q5]
   cases posB wind
   ·rfl
   ·cases posB speed
    ·rfl
    ·cases hp:finB pitch
     ·rfl
     ·rw[← yid hv hi hp y2n y51]
      cases finB (angB st i pitch 981668463)<;>rfl
theorem ygt{as ls ds st:List Nat}{n:Nat}{count:Int}{hub tip:Nat}{i:Int}{wind speed pitch:Nat}(h:mayB as ls ds st n count hub tip i wind speed pitch=true):validRotorB as ls ds st n count hub tip=true∧stationB n i=true∧finB pitch=true∧∀ x,flw x→finB (angB st i pitch x)=true:=by
 unfold mayB at h
 simp only[Bool.and_eq_true] at h
 obtain⟨h1,h2,h3,h4,h5,h6⟩:=h
 exact⟨h1,h2,h5,fun x hx=>by rw[← yid h1 h2 h5 y2n hx];exact h6⟩
theorem yje{as ls ds st:List Nat}{n:Nat}{count:Int}{hub tip:Nat}{i:Int}{x pitch:Nat}(z:st.length=n*3)(hv:validRotorB as ls ds st n count hub tip=true)(hi:stationB n i=true) (ha:finB (angB st i pitch x)=true) :
  ∃ a b,z31 as.length as ls.length ls ds.length ds n st count hub tip i x pitch=some (a,b)∧z5l as.length as ls.length ls ds.length ds n st count hub tip i x pitch=some (a,b):=by
 have hst:pF st 0 (muN n 3)=st:=pF_all3 z
 have hn:=zip hv
 have hp:=yir hv
 have hix:=zi2 hi (by omega)
 obtain⟨_,_,c3,c4⟩:=zs3 hp
 obtain⟨l,l1,l2⟩:=at_eq hp ha c3
 obtain⟨d,d1,d2⟩:=at_eq hp ha c4
 obtain⟨l3,l4⟩:=ztr l1
 obtain⟨d3,d4⟩:=ztr d1
 obtain⟨l5,l6⟩:=y5y l2
 obtain⟨d5,d6⟩:=y5y d2
 obtain⟨l7,l8⟩:=yem (show z92 as.length as ls.length ls ds.length ds (angB st i pitch x)=some l by
  unfold z92 zkm
  simp only[pF_all,l5,l6,grd_true])
 obtain⟨d7,d8⟩:=ydi (show z9e as.length as ls.length ls ds.length ds (angB st i pitch x)=some d by
  unfold z9e zkr
  simp only[pF_all,d5,d6,grd_true])
 obtain⟨s1,s2⟩:=z8j (z8l x)
 obtain⟨s3,s4⟩:=z8j (z8l (fop .add .f32 x 1048576000))
 obtain⟨s5,s6⟩:=za1 (z9q x)
 obtain⟨s7,s8⟩:=za1 (z9q (fop .add .f32 x 1048576000))
 have ea:fop .sub .f32 (fop .sub .f32 x (gF st (Nat.succ (Nat.succ (ixO 0 i 3))))) pitch=angB st i pitch x:=rfl
 refine⟨fop .add .f32 (fop .mul .f32 l (sineT (fop .add .f32 x 1048576000))) (fop .mul .f32 d (sineT x)),fop .sub .f32 (fop .mul .f32 l (sineT x)) (fop .mul .f32 d (sineT (fop .add .f32 x 1048576000))),?_,?_⟩
 rotate_left
 ·unfold z5l zhx
  simp only[pF_all,hst,hix,ea,l7,l8,d7,d8,s5,s6,s7,s8,grd_true]
 ·unfold z31 zbs
  simp only[pF_all,hst,hix,ea,l3,l4,d3,d4,s1,s2,s3,s4,grd_true]
theorem yib{as ls ds st:List Nat}{n:Nat}{count:Int}{hub tip:Nat}{i:Int}{x pitch:Nat}(z:st.length=n*3)(hv:validRotorB as ls ds st n count hub tip=true)(hi:stationB n i=true) (ha:finB (angB st i pitch x)=true) :
  ∃ k m a b,z3x as.length as ls.length ls ds.length ds n st count hub tip i x pitch=some (k,m)∧z31 as.length as ls.length ls ds.length ds n st count hub tip i x pitch=some (a,b)∧z4x as.length as ls.length ls ds.length ds n st count hub tip i x pitch=some (k,m,a,b):=by
 have hst:pF st 0 (muN n 3)=st:=pF_all3 z
 have hn:=zip hv
 have hix:=zi2 hi (by omega)
 obtain⟨a,b,h1,h2⟩:=yje z hv hi ha
 obtain⟨a1,a2,a3⟩:=zr9 h1
 obtain⟨b1,b2,b3⟩:=yb2 h2
 obtain⟨s1,s2⟩:=z8j (z8l x)
 obtain⟨s3,s4⟩:=z8j (z8l (fop .add .f32 x 1048576000))
 obtain⟨s5,s6⟩:=za1 (z9q x)
 obtain⟨s7,s8⟩:=za1 (z9q (fop .add .f32 x 1048576000))
 obtain⟨t1,t2⟩:=y14 (show z4d as.length as ls.length ls ds.length ds n st count hub tip i x=some (tipS st count tip i (sineT x)) by
  unfold z4d z9r
  rw[hix,s1,s2];rfl)
 obtain⟨t3,t4⟩:=ygk (show za4 as.length as ls.length ls ds.length ds n st count hub tip i (sineT x)=some (tipS st count tip i (sineT x)) by
  unfold za4 zn8
  rw[hix];rfl)
 obtain⟨o1,o2⟩:=y0v (show z49 as.length as ls.length ls ds.length ds n st count hub tip i=some (solid st count i) by
  unfold z49 z9t
  rw[hix];rfl)
 obtain⟨o3,o4⟩:=y6m (show z5q as.length as ls.length ls ds.length ds n st count hub tip i=some (solid st count i) by
  unfold z5q zdg
  rw[hix];rfl)
 refine⟨fop .quo .f32 (fop .mul .f32 (solid st count i) a) (fop .mul .f32 (fop .mul .f32 (fop .mul .f32 1082130432 (tipS st count tip i (sineT x))) (sineT x)) (sineT x)),
  fop .quo .f32 (fop .mul .f32 (solid st count i) b) (fop .mul .f32 (fop .mul .f32 (fop .mul .f32 1082130432 (tipS st count tip i (sineT x))) (sineT x)) (sineT (fop .add .f32 x 1048576000))),a,b,?_,h1,?_⟩
 rotate_left
 ·unfold z4x zl2
  simp only[pF_all,hst,b1,b2,b3,s5,s6,s7,s8,t3,t4,o3,o4,grd_true]
 ·unfold z3x zbq
  simp only[pF_all,hst,a1,a2,a3,s1,s2,s3,s4,t1,t2,o1,o2,grd_true]
theorem ykj{as ls ds st:List Nat}{n:Nat}{count:Int}{hub tip:Nat}{i:Int}{x wind speed pitch:Nat}(z:st.length=n*3)(hv:validRotorB as ls ds st n count hub tip=true)(hi:stationB n i=true) (ha:finB (angB st i pitch x)=true) :
  ∃ v,z3a as.length as ls.length ls ds.length ds n st count hub tip i x wind speed pitch=some v∧z42 as.length as ls.length ls ds.length ds n st count hub tip i x wind speed pitch=some v:=by
 have hst:pF st 0 (muN n 3)=st:=pF_all3 z
 have hn:=zip hv
 have hix:=zi2 hi (by omega)
 obtain⟨k,m,a,b,h1,h2,h3⟩:=yib z hv hi ha
 obtain⟨a1,a2,a3⟩:=zqm h1
 obtain⟨b1,b2,b3,b4,b5⟩:=zzw h3
 obtain⟨s1,s2⟩:=z8j (z8l x)
 obtain⟨s3,s4⟩:=z8j (z8l (fop .add .f32 x 1048576000))
 obtain⟨s5,s6⟩:=za1 (z9q x)
 obtain⟨s7,s8⟩:=za1 (z9q (fop .add .f32 x 1048576000))
 refine⟨fop .sub .f32 (fop .mul .f32 (sineT x) (fop .add .f32 1065353216 k)) (fop .mul .f32 (fop .mul .f32 (fop .quo .f32 wind (fop .mul .f32 speed (gF st (ixO 0 i 3)))) (sineT (fop .add .f32 x 1048576000))) (fop .sub .f32 1065353216 m)),?_,?_⟩
 rotate_left
 ·unfold z42 zfh
  simp only[pF_all,hst,hix,b1,b2,b3,s5,s6,s7,s8,grd_true]
 ·unfold z3a zay
  simp only[pF_all,hst,hix,a1,a2,a3,s1,s2,s3,s4,grd_true]
theorem y7y(x y:Nat):z3y x y=some (if (finB x&&finB y)=true then (x,y,true) else (0,0,false)):=by
 obtain⟨p,q⟩:=zvp (show z5j 2 (pF [x,y] 0 (muN 2 1))=some ([x,y].all finB) from zv5 (xs:=[x,y]) (by simp))
 unfold z3y zf4
 rw[p,q]
 simp only[List.all_cons,List.all_nil,Bool.and_true,grd_true]
 cases finB x<;>cases finB y<;>rfl
theorem yev(x y:Nat):z6z x y=some (if (finB x&&finB y)=true then (x,y,true) else (0,0,false)):=by
 obtain⟨p,q⟩:=z1p (z1q x)
 obtain⟨p2,q2⟩:=z1p (z1q y)
 unfold z6z zn5
 rw[p,q,p2,q2]
 simp only[grd_true]
 cases finB x<;>cases finB y<;>rfl
noncomputable def balV(as ls ds st:List Nat)(n:Nat)(count:Int)(hub tip:Nat)(i:Int)(wind speed pitch x:Nat):Nat:=(z42 as.length as ls.length ls ds.length ds n st count hub tip i x wind speed pitch).getD 0
theorem yho{as ls ds st:List Nat}{n:Nat}{count:Int}{hub tip:Nat}{i:Int}{wind speed pitch x:Nat}(z:st.length=n*3)(h:mayB as ls ds st n count hub tip i wind speed pitch=true)(hx:flw x) :
  z3a as.length as ls.length ls ds.length ds n st count hub tip i x wind speed pitch=some (balV as ls ds st n count hub tip i wind speed pitch x)∧z42 as.length as ls.length ls ds.length ds n st count hub tip i x wind speed pitch=some (balV as ls ds st n count hub tip i wind speed pitch x):=by
 obtain⟨hv,hi,hp,ha⟩:=ygt h
 obtain⟨v,h1,h2⟩:=ykj (wind:=wind) (speed:=speed) (pitch:=pitch) z hv hi (ha x hx)
 have:balV as ls ds st n count hub tip i wind speed pitch x=v:=by unfold balV;rw[h2];rfl
 rw[this]
 exact⟨h1,h2⟩
theorem ya6{as ls ds st:List Nat}{n:Nat}{count:Int}{hub tip:Nat}{i:Int}{wind speed pitch x:Nat}(z:st.length=n*3)(hl:ls.length<281474976710656)(hd:ds.length<281474976710656)(h:mayB as ls ds st n count hub tip i wind speed pitch=true)(hx:flw x) :
  z5p as.length as ls.length ls ds.length ds n st count hub tip i x wind speed pitch=some (checkV (balV as ls ds st n count hub tip i wind speed pitch x),finB (balV as ls ds st n count hub tip i wind speed pitch x)):=by
 have hst:pF st 0 (muN n 3)=st:=pF_all3 z
 obtain⟨p1,q1⟩:=zzu (zzr (as:=as) (ls:=ls) (ds:=ds) (st:=st) (n:=n) (count:=count) (hub:=hub) (tip:=tip) i wind speed pitch z hl hd)
 obtain⟨p2,q2⟩:=yfq (ygb x)
 rw[h] at q1
 rw[yjq hx] at q2
 obtain⟨h1,_⟩:=yho z h hx
 obtain⟨p3,q3⟩:=y28 h1
 obtain⟨p4,q4,r4⟩:=zq1 (zqg (balV as ls ds st n count hub tip i wind speed pitch x))
 unfold z5p zhw
 simp only[pF_all,hst,p1,q1,p2,q2,p3,q3,p4,q4,r4,grd_true,zb0,br_false]
def mid(x y:Nat):Nat:=fop .mul .f32 1056964608 (fop .add .f32 x y)
def bis(B:Nat→Nat):Nat→Nat→Nat→Option (Nat×Nat)
 | 0,low,high=>some (low,high)
 | k+1,low,high=>if finB (B (mid low high))=true then (if fcmp .gtr .f32 (B (mid low high)) 0=true then bis B k low (mid low high) else bis B k (mid low high) high) else none
theorem yfa{B:Nat→Nat}:∀ (k low high:Nat) (r:Nat×Nat),flw low→flw high→bis B k low high=some r→flw r.1
 | 0,low,high,r,hl,hh,h=>by cases h;exact hl
 | k+1,low,high,r,hl,hh,h=>by
  have hm:flw (mid low high):=flw_mid hl hh
  unfold bis at h
  split at h
  ·split at h
   ·exact yfa k low _ r hl hm h
   ·exact yfa k _ high r hm hh h
  ·cases h
def bisE(k:Nat) (r:Option (Nat×Nat)):Unit⊕(Nat×Nat×Int×Bool):=match r with | none=>.inl () | some r=>.inr (r.1,r.2,24,false)
theorem ycg{as ls ds st:List Nat}{n:Nat}{count:Int}{hub tip:Nat}{i:Int}{wind speed pitch:Nat}(z:st.length=n*3)(h:mayB as ls ds st n count hub tip i wind speed pitch=true) :
  ∀ (k t f low high:Nat),t+k=24→k<f→flw low→flw high→z0w i wind speed pitch as ls ds st as.length ls.length ds.length n count hub tip f low high (Int.ofNat t)=some (bisE k (bis (balV as ls ds st n count hub tip i wind speed pitch) k low high))
 | 0,t,f,low,high,ht,hf,_,_=>by
  obtain⟨f,rfl⟩:∃ m,f=m+1:=⟨f-1,by omega⟩
  obtain rfl:t=24:=by omega
  rw[zke];unfold z2z
  rw[show ltI (Int.ofNat 24) 24=false from ltI_f (by decide)]
  rfl
 | k+1,t,f,low,high,ht,hf,hl,hh=>by
  obtain⟨f,rfl⟩:∃ m,f=m+1:=⟨f-1,by omega⟩
  have hst:pF st 0 (muN n 3)=st:=pF_all3 z
  have hm:flw (mid low high):=flw_mid hl hh
  obtain⟨_,h2⟩:=yho z h hm
  obtain⟨r3,t3⟩:=y97 h2
  obtain⟨p5,q5⟩:=z1p (z1q (balV as ls ds st n count hub tip i wind speed pitch (mid low high)))
  have em:fop .mul .f32 1056964608 (fop .add .f32 low high)=mid low high:=rfl
  rw[zke];unfold z2z
  rw[show ltI (Int.ofNat t) 24=true from ltI_t (by simp;omega),addI1 (by omega)]
  simp only[em,pF_all,hst,r3,t3,p5,q5,grd_true,br_true]
  unfold bis
  cases finB (balV as ls ds st n count hub tip i wind speed pitch (mid low high))
  ·rfl
  ·cases fcmp .gtr .f32 (balV as ls ds st n count hub tip i wind speed pitch (mid low high)) 0
   ·exact ycg z h k (t+1) f (mid low high) high (by omega) (by omega) hm hh
   ·exact ycg z h k (t+1) f low (mid low high) (by omega) (by omega) hl hm
theorem yca{as ls ds st:List Nat}{n:Nat}{count:Int}{hub tip:Nat}{i:Int}{wind speed pitch:Nat}(z:st.length=n*3)(hl0:ls.length<281474976710656)(hd0:ds.length<281474976710656)(h:mayB as ls ds st n count hub tip i wind speed pitch=true) :
  ∀ (k t f low high:Nat),t+k=24→k<f→flw low→flw high→z19 i wind speed pitch as ls ds st as.length ls.length ds.length n count hub tip f low high (Int.ofNat t)=some (bisE k (bis (balV as ls ds st n count hub tip i wind speed pitch) k low high))
 | 0,t,f,low,high,ht,hf,_,_=>by
  obtain⟨f,rfl⟩:∃ m,f=m+1:=⟨f-1,by omega⟩
  obtain rfl:t=24:=by omega
  rw[zp4];unfold z4p
  rw[show ltI (Int.ofNat 24) 24=false from ltI_f (by decide)]
  rfl
 | k+1,t,f,low,high,ht,hf,hl,hh=>by
  obtain⟨f,rfl⟩:∃ m,f=m+1:=⟨f-1,by omega⟩
  have hst:pF st 0 (muN n 3)=st:=pF_all3 z
  have hm:flw (mid low high):=flw_mid hl hh
  obtain⟨r3,t3,u3⟩:=ya3 (ya6 z hl0 hd0 h hm)
  have em:fop .quo .f32 (fop .add .f32 low high) 1073741824=mid low high:=half_eq _
  rw[zp4];unfold z4p
  rw[show ltI (Int.ofNat t) 24=true from ltI_t (by simp;omega),addI1 (by omega)]
  simp only[em,pF_all,hst,r3,t3,u3,grd_true,br_true]
  unfold bis checkV
  cases finB (balV as ls ds st n count hub tip i wind speed pitch (mid low high))
  ·rfl
  ·simp only[if_true]
   cases fcmp .gtr .f32 (balV as ls ds st n count hub tip i wind speed pitch (mid low high)) 0
   ·exact yca z hl0 hd0 h k (t+1) f (mid low high) high (by omega) (by omega) hm hh
   ·exact yca z hl0 hd0 h k (t+1) f low (mid low high) (by omega) (by omega) hl hm
noncomputable def flowO(as ls ds st:List Nat)(n:Nat)(count:Int)(hub tip:Nat)(i:Int)(wind speed pitch:Nat):Option (Nat×Nat):=bis (balV as ls ds st n count hub tip i wind speed pitch) 24 981668463 1048508891
def flowR (r:Option (Nat×Nat)):Nat×Bool:=match r with | none=>(0,false) | some r=>(r.1,true)
theorem yan{as ls ds st:List Nat}{n:Nat}{count:Int}{hub tip:Nat}{i:Int}{wind speed pitch:Nat}(z:st.length=n*3)(h:mayB as ls ds st n count hub tip i wind speed pitch=true) :
  z5o as.length as ls.length ls ds.length ds n st count hub tip i wind speed pitch=some (flowR (flowO as ls ds st n count hub tip i wind speed pitch)):=by
 have hst:pF st 0 (muN n 3)=st:=pF_all3 z
 have hb:=ycg z h 24 0 big 981668463 1048508891 (by omega) (uet (by omega)) y2n y51
 unfold z5o zh4 flowO
 cases hc:bis (balV as ls ds st n count hub tip i wind speed pitch) 24 981668463 1048508891 with
 | none=>
  rw[hc] at hb
  obtain⟨g1,g2⟩:=y26 rfl (show z0w i wind speed pitch as ls ds st as.length ls.length ds.length n count hub tip big 981668463 1048508891 0=some (.inl ()) from hb)
  simp only[pF_all,hst,g1,g2,grd_true,br_true,flowR]
 | some r=>
  rw[hc] at hb
  obtain⟨g1,g2,g3,_⟩:=y2o rfl (show z0w i wind speed pitch as ls ds st as.length ls.length ds.length n count hub tip big 981668463 1048508891 0=some (.inr (r.1,r.2,24,false)) from hb)
  simp only[pF_all,hst,g1,g2,g3,grd_true,br_false,flowR]
theorem yg3{as ls ds st:List Nat}{n:Nat}{count:Int}{hub tip:Nat}(i:Int)(wind speed pitch:Nat)(z:st.length=n*3)(hl:ls.length<281474976710656)(hd:ds.length<281474976710656) :
  z8n as.length as ls.length ls ds.length ds n st count hub tip i wind speed pitch=some (if mayB as ls ds st n count hub tip i wind speed pitch=true then flowR (flowO as ls ds st n count hub tip i wind speed pitch) else (0,false)):=by
 have hst:pF st 0 (muN n 3)=st:=pF_all3 z
 obtain⟨p1,q1⟩:=zzu (zzr (as:=as) (ls:=ls) (ds:=ds) (st:=st) (n:=n) (count:=count) (hub:=hub) (tip:=tip) i wind speed pitch z hl hd)
 unfold z8n zna
 simp only[pF_all,hst,p1,q1,grd_true]
 cases h:mayB as ls ds st n count hub tip i wind speed pitch
 ·rfl
 ·have hb:=yca z hl hd h 24 0 big 981668463 1048508891 (by omega) (uet (by omega)) y2n y51
  unfold flowO
  cases hc:bis (balV as ls ds st n count hub tip i wind speed pitch) 24 981668463 1048508891 with
  | none=>
   rw[hc] at hb
   obtain⟨g1,g2⟩:=y8n rfl (show z19 i wind speed pitch as ls ds st as.length ls.length ds.length n count hub tip big 981668463 1048508891 0=some (.inl ()) from hb)
   simp only[g1,g2,grd_true,zb0,br_true,br_false,flowR,if_true]
  | some r=>
   rw[hc] at hb
   obtain⟨g1,g2,g3,_⟩:=y8p rfl (show z19 i wind speed pitch as ls ds st as.length ls.length ds.length n count hub tip big 981668463 1048508891 0=some (.inr (r.1,r.2,24,false)) from hb)
   simp only[g1,g2,g3,grd_true,zb0,br_false,flowR,if_true]
theorem yjf{as ls ds st:List Nat}{n:Nat}{count:Int}{hub tip:Nat}{i:Int}{wind speed pitch:Nat}{r:Nat×Nat}(h:flowO as ls ds st n count hub tip i wind speed pitch=some r):flw r.1:=yfa 24 _ _ r y2n y51 h
theorem y4q(x:Nat):z24 1 (pF [x] 0 (muN 1 1))=some (posB x):=by
 have h:z24 1 [x]=some (posB x):=by
  have:=zir (xs:=[x]) (by simp)
  simpa using this
 exact h
theorem zrw{as ls ds st:List Nat}{n:Nat}{count:Int}{hub tip:Nat}(i:Int)(wind speed pitch density:Nat)(z:st.length=n*3)(hl:ls.length<281474976710656)(hd:ds.length<281474976710656) :
  ∃ r,z21 as.length as ls.length ls ds.length ds n st count hub tip i wind speed pitch density=some r∧((mayB as ls ds st n count hub tip i wind speed pitch&&posB density)=false→r=(0,0,false)) ∧
   ((mayB as ls ds st n count hub tip i wind speed pitch&&posB density)=true→z2e as.length as ls.length ls ds.length ds n st count hub tip i wind speed pitch density=some r):=by
 have hst:pF st 0 (muN n 3)=st:=pF_all3 z
 obtain⟨p1,q1,u1⟩:=yg2 (yg3 (as:=as) (ls:=ls) (ds:=ds) (st:=st) (n:=n) (count:=count) (hub:=hub) (tip:=tip) i wind speed pitch z hl hd)
 obtain⟨p9,q9⟩:=zbp (y4q density)
 unfold z21 zag
 simp only[z45,zg6,zgk,zfz,z7l,z7p,pF_all,hst,p1,q1,u1,p9,q9,grd_true]
 cases h:mayB as ls ds st n count hub tip i wind speed pitch
 ·exact⟨_,rfl,fun _=>rfl,fun h=>by simp at h⟩
 ·obtain⟨hv,hi,hp,ha⟩:=ygt h
  have hn:=zip hv
  have hix:=zi2 hi (by omega)
  obtain⟨p2,q2,u2⟩:=yaj (yan z h)
  cases hc:flowO as ls ds st n count hub tip i wind speed pitch with
  | none=>
   rw[hc] at q2 u2
   have hF0:z2e as.length as ls.length ls ds.length ds n st count hub tip i wind speed pitch density=some (0,0,false):=by
    unfold z2e zb8
    simp only[z67,zf0,zf1,zf8,z8k,z8g,pF_all,hst,p2,q2,u2,grd_true,flowR]
    rfl
   simp only[flowR,grd_true,zb0,br_false,if_true]
   cases posB density
   ·exact⟨_,rfl,fun _=>rfl,fun h=>by simp at h⟩
   ·exact⟨_,rfl,fun h=>by simp at h,fun _=>hF0⟩
  | some r=>
   rw[hc] at q2 u2
   obtain⟨k,m,a,b,h1,h2,h3⟩:=yib z hv hi (ha _ (yjf hc))
   obtain⟨a1,a2,a3⟩:=zqm h1
   obtain⟨e1,e2,e3⟩:=zr9 h2
   obtain⟨b1,b2,b3,b4,b5⟩:=zzw h3
   cases hd:posB density
   ·simp only[flowR,grd_true,zb0,br_false,if_true]
    exact⟨_,rfl,fun _=>rfl,fun h=>by simp at h⟩
   ·have fin:∀ x y,zli x y=true∧zjz x y=zkp x y∧zk2 x y=zl0 x y∧zk6 x y=zkz x y∧zur x y=true:=by
     intro x y
     obtain⟨c1,c2,c3,c4⟩:=y87 (y7y x y)
     obtain⟨d1,d2,d3,d4⟩:=yf7 (yev x y)
     exact⟨c1,c2.trans d2.symm,c3.trans d3.symm,c4.trans d4.symm,d1⟩
    simp only[flowR] at q2 u2
    simp only[flowR,a1,a2,a3,e1,e2,e3,hix,(fin _ _).1,(fin _ _).2.1,(fin _ _).2.2.1,(fin _ _).2.2.2.1,grd_true,zb0,br_false,if_true]
    have hF:z2e as.length as ls.length ls ds.length ds n st count hub tip i wind speed pitch density=some (zkp (fop .mul .f32 (fop .mul .f32 (fop .mul .f32 (fop .mul .f32 1056964608 density) (fop .add .f32 (fop .mul .f32 (fop .quo .f32 wind (fop .add .f32 1065353216 k)) (fop .quo .f32 wind (fop .add .f32 1065353216 k))) (fop .mul .f32 (fop .quo .f32 (fop .mul .f32 speed (gF st (ixO 0 i 3))) (fop .sub .f32 1065353216 m)) (fop .quo .f32 (fop .mul .f32 speed (gF st (ixO 0 i 3))) (fop .sub .f32 1065353216 m))))) (gF st (Nat.succ (ixO 0 i 3)))) a) (fop .mul .f32 (fop .mul .f32 (fop .mul .f32 (fop .mul .f32 1056964608 density) (fop .add .f32 (fop .mul .f32 (fop .quo .f32 wind (fop .add .f32 1065353216 k)) (fop .quo .f32 wind (fop .add .f32 1065353216 k))) (fop .mul .f32 (fop .quo .f32 (fop .mul .f32 speed (gF st (ixO 0 i 3))) (fop .sub .f32 1065353216 m)) (fop .quo .f32 (fop .mul .f32 speed (gF st (ixO 0 i 3))) (fop .sub .f32 1065353216 m))))) (gF st (Nat.succ (ixO 0 i 3)))) b),
      zl0 (fop .mul .f32 (fop .mul .f32 (fop .mul .f32 (fop .mul .f32 1056964608 density) (fop .add .f32 (fop .mul .f32 (fop .quo .f32 wind (fop .add .f32 1065353216 k)) (fop .quo .f32 wind (fop .add .f32 1065353216 k))) (fop .mul .f32 (fop .quo .f32 (fop .mul .f32 speed (gF st (ixO 0 i 3))) (fop .sub .f32 1065353216 m)) (fop .quo .f32 (fop .mul .f32 speed (gF st (ixO 0 i 3))) (fop .sub .f32 1065353216 m))))) (gF st (Nat.succ (ixO 0 i 3)))) a) (fop .mul .f32 (fop .mul .f32 (fop .mul .f32 (fop .mul .f32 1056964608 density) (fop .add .f32 (fop .mul .f32 (fop .quo .f32 wind (fop .add .f32 1065353216 k)) (fop .quo .f32 wind (fop .add .f32 1065353216 k))) (fop .mul .f32 (fop .quo .f32 (fop .mul .f32 speed (gF st (ixO 0 i 3))) (fop .sub .f32 1065353216 m)) (fop .quo .f32 (fop .mul .f32 speed (gF st (ixO 0 i 3))) (fop .sub .f32 1065353216 m))))) (gF st (Nat.succ (ixO 0 i 3)))) b),
      zkz (fop .mul .f32 (fop .mul .f32 (fop .mul .f32 (fop .mul .f32 1056964608 density) (fop .add .f32 (fop .mul .f32 (fop .quo .f32 wind (fop .add .f32 1065353216 k)) (fop .quo .f32 wind (fop .add .f32 1065353216 k))) (fop .mul .f32 (fop .quo .f32 (fop .mul .f32 speed (gF st (ixO 0 i 3))) (fop .sub .f32 1065353216 m)) (fop .quo .f32 (fop .mul .f32 speed (gF st (ixO 0 i 3))) (fop .sub .f32 1065353216 m))))) (gF st (Nat.succ (ixO 0 i 3)))) a) (fop .mul .f32 (fop .mul .f32 (fop .mul .f32 (fop .mul .f32 1056964608 density) (fop .add .f32 (fop .mul .f32 (fop .quo .f32 wind (fop .add .f32 1065353216 k)) (fop .quo .f32 wind (fop .add .f32 1065353216 k))) (fop .mul .f32 (fop .quo .f32 (fop .mul .f32 speed (gF st (ixO 0 i 3))) (fop .sub .f32 1065353216 m)) (fop .quo .f32 (fop .mul .f32 speed (gF st (ixO 0 i 3))) (fop .sub .f32 1065353216 m))))) (gF st (Nat.succ (ixO 0 i 3)))) b)):=by
     unfold z2e zb8
     simp only[z67,zf0,zf1,zf8,z8k,z8g,pF_all,hst,p2,q2,u2,b1,b2,b3,b4,b5,hix,(fin _ _).2.2.2.2,grd_true,zb0,br_false]
    exact⟨_,rfl,fun h=>by simp at h,fun _=>hF⟩
noncomputable def sfR(as ls ds st:List Nat)(n:Nat)(count:Int)(hub tip wind speed pitch density i:Nat):Nat×Nat×Bool:=
 (z21 as.length as ls.length ls ds.length ds n st count hub tip (Int.ofNat i) wind speed pitch density).getD default
noncomputable def sf0(as ls ds st:List Nat)(n:Nat)(count:Int)(hub tip wind speed pitch density i:Nat):Nat:=(sfR as ls ds st n count hub tip wind speed pitch density i).1
noncomputable def sf1(as ls ds st:List Nat)(n:Nat)(count:Int)(hub tip wind speed pitch density i:Nat):Nat:=(sfR as ls ds st n count hub tip wind speed pitch density i).2.1
noncomputable def sf2(as ls ds st:List Nat)(n:Nat)(count:Int)(hub tip wind speed pitch density i:Nat):Bool:=(sfR as ls ds st n count hub tip wind speed pitch density i).2.2
theorem yk4{as ls ds st:List Nat}{n:Nat}{count:Int}{hub tip:Nat}(wind speed pitch density i:Nat)(z:st.length=n*3)(hl:ls.length<281474976710656)(hd:ds.length<281474976710656) :
  zak as.length as ls.length ls ds.length ds n st count hub tip (Int.ofNat i) wind speed pitch density=true∧za3 as.length as ls.length ls ds.length ds n st count hub tip (Int.ofNat i) wind speed pitch density=sf0 as ls ds st n count hub tip wind speed pitch density i∧z9s as.length as ls.length ls ds.length ds n st count hub tip (Int.ofNat i) wind speed pitch density=sf1 as ls ds st n count hub tip wind speed pitch density i ∧
   z9z as.length as ls.length ls ds.length ds n st count hub tip (Int.ofNat i) wind speed pitch density=sf2 as ls ds st n count hub tip wind speed pitch density i:=by
 obtain⟨r,h,_⟩:=zrw (as:=as) (ls:=ls) (ds:=ds) (st:=st) (n:=n) (count:=count) (hub:=hub) (tip:=tip) (Int.ofNat i) wind speed pitch density z hl hd
 obtain⟨p,q0,q1,q2⟩:=y2s h
 have e:sfR as ls ds st n count hub tip wind speed pitch density i=r:=by unfold sfR;rw[h];rfl
 exact⟨p,by rw[q0,← e];rfl,by rw[q1,← e];rfl,by rw[q2,← e];rfl⟩
theorem yia{as ls ds st:List Nat}{n:Nat}{count:Int}{hub tip:Nat}(wind speed pitch density i:Nat)(z:st.length=n*3)(hl:ls.length<281474976710656)(hd:ds.length<281474976710656) :
  ((mayB as ls ds st n count hub tip (Int.ofNat i) wind speed pitch&&posB density)=false∧sf2 as ls ds st n count hub tip wind speed pitch density i=false) ∨
  ((mayB as ls ds st n count hub tip (Int.ofNat i) wind speed pitch&&posB density)=true∧znw as.length as ls.length ls ds.length ds n st count hub tip (Int.ofNat i) wind speed pitch density=true∧zfl as.length as ls.length ls ds.length ds n st count hub tip (Int.ofNat i) wind speed pitch density=sf0 as ls ds st n count hub tip wind speed pitch density i ∧
   zfg as.length as ls.length ls ds.length ds n st count hub tip (Int.ofNat i) wind speed pitch density=sf1 as ls ds st n count hub tip wind speed pitch density i∧zmi as.length as ls.length ls ds.length ds n st count hub tip (Int.ofNat i) wind speed pitch density=sf2 as ls ds st n count hub tip wind speed pitch density i):=by
 obtain⟨r,h,h1,h2⟩:=zrw (as:=as) (ls:=ls) (ds:=ds) (st:=st) (n:=n) (count:=count) (hub:=hub) (tip:=tip) (Int.ofNat i) wind speed pitch density z hl hd
 have e:sfR as ls ds st n count hub tip wind speed pitch density i=r:=by unfold sfR;rw[h];rfl
 cases hm:(mayB as ls ds st n count hub tip (Int.ofNat i) wind speed pitch&&posB density)
 ·exact .inl ⟨rfl,by unfold sf2;rw[e,h1 hm]⟩
 ·obtain⟨p,q0,q1,q2⟩:=ybi (h2 hm)
  exact .inr ⟨rfl,p,by rw[q0,← e];rfl,by rw[q1,← e];rfl,by rw[q2,← e];rfl⟩
noncomputable def allR(as ls ds st:List Nat)(n:Nat)(count:Int)(hub tip wind speed pitch density:Nat):Nat×Nat×Bool×List Nat×List Nat:=
 if (validRotorB as ls ds st n count hub tip&&(List.range n).all (sf2 as ls ds st n count hub tip wind speed pitch density))=true then (n,n,true,listOf (sf0 as ls ds st n count hub tip wind speed pitch density) n,listOf (sf1 as ls ds st n count hub tip wind speed pitch density) n) else (0,0,false,[],[])
theorem y0o{n:Nat}{p:Nat→Bool}(h:∀ j,0≤j→j<n→p j=true):(List.range n).all p=true:=by
 rw[List.all_eq_true];intro x hx;exact h x (Nat.zero_le _) (List.mem_range.1 hx)
theorem zvy{n j:Nat}{p:Nat→Bool}(hj:j<n)(h:p j=false):(List.range n).all p=false:=by
 rw[List.all_eq_false];exact⟨j,List.mem_range.2 hj,by simp[h]⟩
theorem yh7{as ls ds st:List Nat}{n:Nat}{count:Int}{hub tip:Nat}(wind speed pitch density:Nat)(z:st.length=n*3)(hl:ls.length<281474976710656)(hd:ds.length<281474976710656)(hn:n≤12)(hp:posB density=true) :
  ((List.range n).all (sf2 as ls ds st n count hub tip wind speed pitch density)=true∧z0o wind speed pitch density as ls ds st as.length ls.length ds.length n count hub tip big 0 0 0 [] []=some (.inr (n,n,Int.ofNat n,false,listOf (sf0 as ls ds st n count hub tip wind speed pitch density) n,listOf (sf1 as ls ds st n count hub tip wind speed pitch density) n))) ∨
  ((List.range n).all (sf2 as ls ds st n count hub tip wind speed pitch density)=false∧z0o wind speed pitch density as ls ds st as.length ls.length ds.length n count hub tip big 0 0 0 [] []=some (.inl ())):=by
 have hst:pF st 0 (muN n 3)=st:=pF_all3 z
 rcases scan (L:=fun m i=>z0o wind speed pitch density as ls ds st as.length ls.length ds.length n count hub tip m i.toNat i.toNat i (listOf (sf0 as ls ds st n count hub tip wind speed pitch density) i.toNat) (listOf (sf1 as ls ds st n count hub tip wind speed pitch density) i.toNat)) (len:=n) (sf2 as ls ds st n count hub tip wind speed pitch density) (g:=fun _=>()) (e:=(n,n,Int.ofNat n,false,listOf (sf0 as ls ds st n count hub tip wind speed pitch density) n,listOf (sf1 as ls ds st n count hub tip wind speed pitch density) n))
  (fun m i hi=>by
   show z0o _ _ _ _ _ _ _ _ _ _ _ _ _ _ _ _ i i (Int.ofNat i) (listOf (sf0 as ls ds st n count hub tip wind speed pitch density) i) (listOf (sf1 as ls ds st n count hub tip wind speed pitch density) i)=if sf2 as ls ds st n count hub tip wind speed pitch density i=true then z0o _ _ _ _ _ _ _ _ _ _ _ _ _ _ _ _ (i+1) (i+1) (Int.ofNat (i+1)) (listOf (sf0 as ls ds st n count hub tip wind speed pitch density) (i+1)) (listOf (sf1 as ls ds st n count hub tip wind speed pitch density) (i+1)) else _
   obtain⟨r1,t1⟩:=yg1 (yey (as:=as) (ls:=ls) (ds:=ds) (st:=st) (n:=n) (count:=count) (hub:=hub) (tip:=tip) (Int.ofNat i) wind speed pitch z)
   rw[zpb];unfold z4s
   rw[ltN_t hi,addI1 (by omega),ztb,ztb]
   simp only[pF_all,hst,r1,t1,grd_true,br_of]
   rcases yia (as:=as) (ls:=ls) (ds:=ds) (st:=st) (n:=n) (count:=count) (hub:=hub) (tip:=tip) wind speed pitch density i z hl hd with⟨h1,h2⟩ | ⟨h1,h2,h3,h4,h5⟩
   ·rw[hp,Bool.and_true] at h1
    rw[h1,h2];rfl
   ·rw[hp,Bool.and_true] at h1
    simp only[h1,h2,h3,h4,h5,yeg _ (b:=listOf (sf0 as ls ds st n count hub tip wind speed pitch density) i) (zaa _ _) (by omega),yeg _ (b:=listOf (sf1 as ls ds st n count hub tip wind speed pitch density) i) (zaa _ _) (by omega),grd_true,zb0,br_false]
    cases sf2 as ls ds st n count hub tip wind speed pitch density i<;>rfl)
  (fun m=>by
   show z0o _ _ _ _ _ _ _ _ _ _ _ _ _ _ _ _ n n (Int.ofNat n) (listOf (sf0 as ls ds st n count hub tip wind speed pitch density) n) (listOf (sf1 as ls ds st n count hub tip wind speed pitch density) n)=_
   rw[zpb];unfold z4s;rw[ltN_f (Nat.le_refl _)];rfl) n 0 big (by omega) (uet (by omega)) with⟨h1,h2⟩ | ⟨j,h1,h2,h3,h4⟩
 ·exact .inl ⟨y0o h1,h2⟩
 ·exact .inr ⟨zvy h2 h3,h4⟩
theorem ydb{as ls ds st:List Nat}{n:Nat}{count:Int}{hub tip:Nat}(h:validRotorB as ls ds st n count hub tip=true):2≤n:=by
 unfold validRotorB at h
 simp only[Bool.and_eq_true,decide_eq_true_eq] at h
 omega
theorem yew{as ls ds st:List Nat}{n:Nat}{count:Int}{hub tip:Nat}(wind speed pitch density:Nat)(z:st.length=n*3)(hl:ls.length<281474976710656)(hd:ds.length<281474976710656) :
  z4v as.length as ls.length ls ds.length ds n st count hub tip wind speed pitch density=some (allR as ls ds st n count hub tip wind speed pitch density):=by
 have hst:pF st 0 (muN n 3)=st:=pF_all3 z
 obtain⟨p1,q1⟩:=zux (zui (as:=as) (ls:=ls) (ds:=ds) (st:=st) (n:=n) (count:=count) (hub:=hub) (tip:=tip))
 obtain⟨p2,q2⟩:=z9d (z93 density)
 unfold z4v zn6 allR
 simp only[pF_all,hst,p1,q1,p2,q2,grd_true]
 cases hv:validRotorB as ls ds st n count hub tip
 ·rfl
 ·have hn:=zip hv
  have hn2:=ydb hv
  cases hp:posB density
  ·have:(List.range n).all (sf2 as ls ds st n count hub tip wind speed pitch density)=false:=zvy (j:=0) (by omega) (by
    rcases yia (as:=as) (ls:=ls) (ds:=ds) (st:=st) (n:=n) (count:=count) (hub:=hub) (tip:=tip) wind speed pitch density 0 z hl hd with⟨_,h⟩ | ⟨h,_⟩
    ·exact h
    ·rw[hp,Bool.and_false] at h;cases h)
   rw[this];rfl
  ·rcases yh7 (as:=as) (ls:=ls) (ds:=ds) (st:=st) (n:=n) (count:=count) (hub:=hub) (tip:=tip) wind speed pitch density z hl hd hn hp with⟨c,l⟩ | ⟨c,l⟩
   ·obtain⟨g1,g2,g3,g4,g5,g6,g7,g8⟩:=y99 rfl l
    rw[g1,g2,g3,g4,g7,g8,c];rfl
   ·obtain⟨g1,g2⟩:=y8v rfl l
    rw[g1,g2,c];rfl
noncomputable def sharedR(as ls ds st:List Nat)(n:Nat)(count:Int)(hub tip wind speed pitch density:Nat)(w:Int):Nat×Nat×Bool×List Nat×List Nat:=
 if inB w 1 8=true then allR as ls ds st n count hub tip wind speed pitch density else (0,0,false,[],[])
theorem y6j{xs:List Bool}(hl:xs.length<281474976710656):z1u xs.length xs false=some (!xs.all id):=by
 have hp:∀ ys:List Bool,pB ys 0 (muN ys.length 1)=ys:=fun ys=>by simp[pB,muN]
 have key:∃ r:Int,z2o xs.length xs false=some r∧leI 0 r=!xs.all id:=by
  unfold z2o z80
  rcases scan (L:=fun m i=>z0a xs.length false (Int.ofNat xs.length) xs m i) (len:=xs.length) (fun i=>xs.getD i false) (g:=fun i=>Int.ofNat i) (e:=(Int.ofNat xs.length,false))
   (fun m i hi=>by
    show z0a _ _ _ _ _ _=_
    rw[zaz];unfold z1b
    rw[ltN_t hi,okIx_t hi,ix1,addI1 (by omega)]
    show br true (grd true (br (beqB false (xs.getD i false)) _ _)) _=_
    cases xs.getD i false<;>rfl)
   (fun m=>by
    show z0a _ _ _ _ _ _=_
    rw[zaz];unfold z1b;rw[ltN_f (Nat.le_refl _)];rfl) xs.length 0 big (by omega) (uet hl) with⟨h1,h2⟩ | ⟨j,h1,h2,h3,h4⟩
  ·obtain⟨g1,g2,_⟩:=zq9 rfl (show z0a xs.length false (Int.ofNat xs.length) xs big 0=_ from h2)
   refine⟨Int.negSucc 0,by rw[g1,g2];rfl,?_⟩
   have:xs.all id=true:=by
    rw[List.all_eq_true]
    intro x hx
    obtain⟨i,hi,rfl⟩:=List.getElem_of_mem hx
    have:=h1 i (Nat.zero_le _) hi
    simpa [List.getD_eq_getElem?_getD,hi] using this
   rw[this];rfl
  ·obtain⟨g1,g2,g3⟩:=zrg rfl (show z0a xs.length false (Int.ofNat xs.length) xs big 0=_ from h4)
   refine⟨Int.ofNat j,by rw[g1,g2,g3];rfl,?_⟩
   have:xs.all id=false:=by
    rw[List.all_eq_false]
    refine⟨xs[j],List.getElem_mem _,?_⟩
    simpa [List.getD_eq_getElem?_getD,h2] using h3
   rw[this];exact decide_eq_true (by simp)
 obtain⟨r,h1,h2⟩:=key
 obtain⟨g1,g2⟩:=zu7 h1
 unfold z1u z5y
 rw[hp,g1,g2,h2];rfl
theorem yfc{as ls ds st:List Nat}{n:Nat}{count:Int}{hub tip:Nat}(wind speed pitch density:Nat)(w:Int)(z:st.length=n*3)(hl:ls.length<281474976710656)(hd:ds.length<281474976710656) :
  z8z as.length as ls.length ls ds.length ds n st count hub tip wind speed pitch density w=true∧z5w as.length as ls.length ls ds.length ds n st count hub tip wind speed pitch density w=(sharedR as ls ds st n count hub tip wind speed pitch density w).1∧z5x as.length as ls.length ls ds.length ds n st count hub tip wind speed pitch density w=(sharedR as ls ds st n count hub tip wind speed pitch density w).2.1 ∧
   z1j as.length as ls.length ls ds.length ds n st count hub tip wind speed pitch density w=(sharedR as ls ds st n count hub tip wind speed pitch density w).2.2.1∧z5t as.length as ls.length ls ds.length ds n st count hub tip wind speed pitch density w=(sharedR as ls ds st n count hub tip wind speed pitch density w).2.2.2.1∧z60 as.length as ls.length ls ds.length ds n st count hub tip wind speed pitch density w=(sharedR as ls ds st n count hub tip wind speed pitch density w).2.2.2.2:=by
 have hst:pF st 0 (muN n 3)=st:=pF_all3 z
 have hsf:=fun i=>yk4 (as:=as) (ls:=ls) (ds:=ds) (st:=st) (n:=n) (count:=count) (hub:=hub) (tip:=tip) wind speed pitch density i z hl hd
 obtain⟨p1,q1⟩:=zkb (zkl (as:=as) (st:=st) (n:=n) (count:=count) (hub:=hub) (tip:=tip) hl hd)
 obtain⟨p2,q2⟩:=zs9 (zsw w 1 8)
 have e0:zaf as.length as ls.length ls ds.length ds n st count hub tip wind speed pitch density w=listOf (sf0 as ls ds st n count hub tip wind speed pitch density) n:=by
  unfold zaf listOf
  simp only[pF_all,hst,(hsf _).2.1]
 have e1:zat as.length as ls.length ls ds.length ds n st count hub tip wind speed pitch density w=listOf (sf1 as ls ds st n count hub tip wind speed pitch density) n:=by
  unfold zat listOf
  simp only[pF_all,hst,(hsf _).2.2.1]
 have e2:zau as.length as ls.length ls ds.length ds n st count hub tip wind speed pitch density w=(List.range n).map (sf2 as ls ds st n count hub tip wind speed pitch density):=by
  unfold zau
  simp only[pF_all,hst,(hsf _).2.2.2]
 have ei:zh3 as.length as ls.length ls ds.length ds n st count hub tip wind speed pitch density w=true:=by
  unfold zh3
  simp only[pF_all,hst,(hsf _).1,List.all_eq_true,implies_true]
 have hc:n≤12→z5v n (pB ((List.range n).map (sf2 as ls ds st n count hub tip wind speed pitch density)) 0 (muN n 1)) Bool.false=true∧z5e n (pB ((List.range n).map (sf2 as ls ds st n count hub tip wind speed pitch density)) 0 (muN n 1)) Bool.false=!(List.range n).all (sf2 as ls ds st n count hub tip wind speed pitch density):=by
  intro hn
  have hp:pB ((List.range n).map (sf2 as ls ds st n count hub tip wind speed pitch density)) 0 (muN n 1)=(List.range n).map (sf2 as ls ds st n count hub tip wind speed pitch density):=by
   simp only[pB,muN,List.drop_zero,Nat.mul_one]
   exact List.take_of_length_le (by simp)
  have:=zrk (y6j (xs:=(List.range n).map (sf2 as ls ds st n count hub tip wind speed pitch density)) (by simp;omega))
  rw[List.length_map,List.length_range] at this
  rw[hp]
  refine⟨this.1,?_⟩
  rw[this.2]
  simp[List.all_map]
 have ev:z1j as.length as ls.length ls ds.length ds n st count hub tip wind speed pitch density w=(sharedR as ls ds st n count hub tip wind speed pitch density w).2.2.1∧z8z as.length as ls.length ls ds.length ds n st count hub tip wind speed pitch density w=true:=by
  unfold z1j z8z sharedR allR
  rw[e2,ei]
  simp only[pF_all,hst,p1,q1,p2,q2]
  cases hv:validRotorB as ls ds st n count hub tip
  ·cases inB w 1 8<;>exact⟨rfl,rfl⟩
  ·have hn:=zip hv
   have hn2:=ydb hv
   cases hw:inB w 1 8
   ·exact⟨rfl,rfl⟩
   ·have hw2:=yjg hw
    obtain⟨c1,c2⟩:=hc hn
    have k1:okMk (Int.ofNat n) (Int.ofNat n) 4=true:=decide_eq_true (by simp;omega)
    have k2:okMk (Int.ofNat n) (Int.ofNat n) 1=true:=decide_eq_true (by simp;omega)
    rw[c1,c2,k1,k2,decide_eq_true (show 0<n∧n≤281474976710656 by omega),decide_eq_true (show 1≤w∧w≤8 from hw2)]
    cases (List.range n).all (sf2 as ls ds st n count hub tip wind speed pitch density)<;>exact⟨rfl,rfl⟩
 have hk:sharedR as ls ds st n count hub tip wind speed pitch density w=if (sharedR as ls ds st n count hub tip wind speed pitch density w).2.2.1=true then (n,n,true,listOf (sf0 as ls ds st n count hub tip wind speed pitch density) n,listOf (sf1 as ls ds st n count hub tip wind speed pitch density) n) else (0,0,false,[],[]):=by
  unfold sharedR allR
  cases inB w 1 8<;>cases (validRotorB as ls ds st n count hub tip&&(List.range n).all (sf2 as ls ds st n count hub tip wind speed pitch density))<;>rfl
 unfold z5w z5x z5t z60
 rw[ev.1,e0,e1]
 refine⟨ev.2,?_⟩
 rw[hk]
 cases (sharedR as ls ds st n count hub tip wind speed pitch density w).2.2.1<;>exact⟨rfl,rfl,rfl,rfl,rfl⟩
theorem y2p{as ls ds st:List Nat}{n:Nat}{count:Int}{hub tip:Nat}(wind speed pitch density:Nat)(z:st.length=n*3)(hl:ls.length<281474976710656)(hd:ds.length<281474976710656) :
  z1o as.length as ls.length ls ds.length ds n st count hub tip wind speed pitch density=some (allR as ls ds st n count hub tip wind speed pitch density):=by
 have hst:pF st 0 (muN n 3)=st:=pF_all3 z
 obtain⟨p,q0,q1,q2,q3,q4⟩:=yfc (as:=as) (ls:=ls) (ds:=ds) (st:=st) (n:=n) (count:=count) (hub:=hub) (tip:=tip) wind speed pitch density 1 z hl hd
 have e:sharedR as ls ds st n count hub tip wind speed pitch density 1=allR as ls ds st n count hub tip wind speed pitch density:=rfl
 rw[e] at q0 q1 q2 q3 q4
 unfold z1o zaw
 simp only[pF_all,hst,p,q0,q1,q2,q3,q4,grd_true]
def sumS(st l:List Nat):Nat→Nat
 | 0=>0
 | k+1=>fop .add .f32 (sumS st l k) (fop .mul .f32 (fop .sub .f32 (gF st (ixO 0 (Int.ofNat (k+1)) 3)) (gF st (ixO 0 (Int.ofNat k) 3))) (fop .mul .f32 1056964608 (fop .add .f32 (gF l k) (gF l (k+1)))))
theorem yhe{st l:List Nat}{n:Nat}(hn:n+1≤12):z1e (n+1) st (n+1) l big 0 0=some (sumS st l n,Int.ofNat n,false):=by
 have:=runs (L:=fun m i=>z1e (n+1) st (n+1) l m (sumS st l i.toNat) i) (len:=n) (e:=(sumS st l n,Int.ofNat n,false))
  (fun m i hi=>by
   show z1e _ _ _ _ _ (sumS st l i) _=z1e _ _ _ _ _ (sumS st l (i+1)) _
   rw[zp0];unfold z4q
   rw[addI1 (by omega),ltN_t (by omega),okIx_t (show i+1<n+1 by omega),okIx_t (show i<n+1 by omega),ix1,ix1]
   rfl)
  (fun m=>by
   show z1e _ _ _ _ _ (sumS st l n) _=_
   rw[zp0];unfold z4q;rw[addI1 (by omega),ltN_f (Nat.le_refl _)];rfl) (by omega)
 exact this
theorem yjs{i:Nat}(h:i<4611686018427387904):subI .i64 (Int.ofNat (i+1)) 1=Int.ofNat i:=by
 have:subI .i64 (Int.ofNat (i+1)) 1=((i+1:Nat):Int)-1:=uem (by simp<;>omega) (by simp<;>omega)
 rw[this];simp
theorem yhg{st l:List Nat}{n:Nat}(hn:n+1≤12):z0m (n+1) st l (n+1) big 0 1=some (sumS st l n,Int.ofNat (n+1),false):=by
 have:=runs (L:=fun m i=>z0m (n+1) st l (n+1) m (sumS st l i.toNat) (Int.ofNat (i.toNat+1))) (len:=n) (e:=(sumS st l n,Int.ofNat (n+1),false))
  (fun m i hi=>by
   show z0m _ _ _ _ _ (sumS st l i) (Int.ofNat (i+1))=z0m _ _ _ _ _ (sumS st l (i+1)) (Int.ofNat (i+1+1))
   rw[zfv];unfold z1r
   rw[addI1 (by omega),ltN_t (by omega),yjs (by omega),okIx_t (show i+1<n+1 by omega),okIx_t (show i<n+1 by omega),ix1,ix1,half_eq]
   rfl)
  (fun m=>by
   show z0m _ _ _ _ _ (sumS st l n) (Int.ofNat (n+1))=_
   rw[zfv];unfold z1r;rw[ltN_f (Nat.le_refl _)];rfl) (by omega)
 exact this
theorem yfl{as ls ds st:List Nat}{n:Nat}{count:Int}{hub tip:Nat}{l:List Nat}(h:1≤n∧n≤12):za9 as.length as ls.length ls ds.length ds n st count hub tip n l=some (sumS st l (n-1)):=by
 obtain⟨m,rfl⟩:∃ m,n=m+1:=⟨n-1,by omega⟩
 obtain⟨g1,g2,_⟩:=y7o rfl (yhe (st:=st) (l:=l) h.2)
 unfold za9 znb
 rw[g1,g2];rfl
theorem ye2{as ls ds st:List Nat}{n:Nat}{count:Int}{hub tip:Nat}{l:List Nat}(h:1≤n∧n≤12):z4r as.length as ls.length ls ds.length ds n st count hub tip n l=some (sumS st l (n-1)):=by
 obtain⟨m,rfl⟩:∃ m,n=m+1:=⟨n-1,by omega⟩
 obtain⟨g1,g2,_⟩:=zwb rfl (yhg (st:=st) (l:=l) h.2)
 unfold z4r zar
 rw[g1,g2];rfl
theorem yed(as ls ds st:List Nat)(n:Nat)(count:Int)(hub tip wind speed pitch density:Nat):allR as ls ds st n count hub tip wind speed pitch density=(0,0,false,[],[])∨((2≤n∧n≤12∧validRotorB as ls ds st n count hub tip=true)∧allR as ls ds st n count hub tip wind speed pitch density=(n,n,true,listOf (sf0 as ls ds st n count hub tip wind speed pitch density) n,listOf (sf1 as ls ds st n count hub tip wind speed pitch density) n)):=by
 unfold allR
 cases hv:validRotorB as ls ds st n count hub tip
 ·exact .inl rfl
 ·cases (List.range n).all (sf2 as ls ds st n count hub tip wind speed pitch density)
  ·exact .inl rfl
  ·exact .inr ⟨⟨ydb hv,zip hv,rfl⟩,rfl⟩
def torL(st l:List Nat)(n:Nat):List Nat:=(List.range' 0 n).foldl (fun s j=>sF s j (fop .mul .f32 (gF s j) (gF st (ixO 0 (Int.ofNat j) 3)))) l
theorem y60(g:List Nat→Nat→Nat):∀ (js l:List Nat),(js.foldl (fun s j=>sF s j (g s j)) l).length=l.length
 | [],l=>rfl
 | j::js,l=>by
  rw[List.foldl_cons,y60 g js]
  exact List.length_set
theorem yic{st l:List Nat}{n:Nat}(h:l.length=n):pF (torL st l n) 0 (muN n 1)=torL st l n:=by
 have:=pF_all (torL st l n)
 rw[show (torL st l n).length=n from (y60 _ _ _).trans h] at this
 exact this
theorem ycp{st l:List Nat}{n:Nat}(hn:n≤12):z1l n n (Int.ofNat n) st big 0 l=some (Int.ofNat n,false,torL st l n):=
 uev (L:=fun m i s=>z1l n n (Int.ofNat n) st m i s) (len:=n) (fun j s=>sF s j (fop .mul .f32 (gF s j) (gF st (ixO 0 (Int.ofNat j) 3)))) (e:=fun s=>(Int.ofNat n,false,s))
  (fun m i s hi=>by rw[zlc];unfold z3e;rw[ltN_t hi,okIx_t hi,ix1,addI1 (by omega)];rfl)
  (fun m s=>by rw[zlc];unfold z3e;rw[ltN_f (Nat.le_refl _)];rfl) n 0 big l (by omega) (uet (by omega))
theorem ycm{st l:List Nat}{n:Nat}(hn:n≤12):z1g n (Int.ofNat n) st n big 0 l=some (Int.ofNat n,false,torL st l n):=
 uev (L:=fun m i s=>z1g n (Int.ofNat n) st n m i s) (len:=n) (fun j s=>sF s j (fop .mul .f32 (gF s j) (gF st (ixO 0 (Int.ofNat j) 3)))) (e:=fun s=>(Int.ofNat n,false,s))
  (fun m i s hi=>by rw[zkj];unfold z30;rw[ltN_t hi,okIx_t hi,ix1,addI1 (by omega)];rfl)
  (fun m s=>by rw[zkj];unfold z30;rw[ltN_f (Nat.le_refl _)];rfl) n 0 big l (by omega) (uet (by omega))
noncomputable def torR(as ls ds st:List Nat)(n:Nat)(count:Int)(hub tip wind speed pitch density:Nat):Nat×Bool:=
 match (allR as ls ds st n count hub tip wind speed pitch density).2.2.1 with
 | true=>(checkV (fop .mul .f32 (fOI .f32 count) (sumS st (torL st (listOf (sf1 as ls ds st n count hub tip wind speed pitch density) n) n) (n-1))),finB (fop .mul .f32 (fOI .f32 count) (sumS st (torL st (listOf (sf1 as ls ds st n count hub tip wind speed pitch density) n) n) (n-1))))
 | false=>(0,false)
theorem ydf{as ls ds st:List Nat}{n:Nat}{count:Int}{hub tip:Nat}(wind speed pitch density:Nat)(z:st.length=n*3)(hl:ls.length<281474976710656)(hd:ds.length<281474976710656):z6j as.length as ls.length ls ds.length ds n st count hub tip wind speed pitch density=some (torR as ls ds st n count hub tip wind speed pitch density):=by
 have hst:pF st 0 (muN n 3)=st:=pF_all3 z
 obtain⟨p,q0,q1,q2,q3,q4⟩:=y2j (y2p (as:=as) (ls:=ls) (ds:=ds) (st:=st) (n:=n) (count:=count) (hub:=hub) (tip:=tip) wind speed pitch density z hl hd)
 unfold z6j zjt torR
 rcases yed as ls ds st n count hub tip wind speed pitch density with e | ⟨⟨h1,h2,_⟩,e⟩
 ·rw[e] at q1 q2 q4 ⊢
  simp only[pF_all,hst,p,q1,q2,q4,grd_true]
  rfl
 ·rw[e] at q1 q2 q4 ⊢
  obtain⟨g1,_,_,g2⟩:=y4i rfl (ycp (st:=st) (l:=listOf (sf1 as ls ds st n count hub tip wind speed pitch density) n) h2)
  obtain⟨p1,q5⟩:=y2b (ye2 (as:=as) (ls:=ls) (ds:=ds) (st:=st) (n:=n) (count:=count) (hub:=hub) (tip:=tip) (l:=torL st (listOf (sf1 as ls ds st n count hub tip wind speed pitch density) n) n) ⟨by omega,h2⟩)
  obtain⟨p2,q6,q7⟩:=zq1 (zqg (fop .mul .f32 (fOI .f32 count) (sumS st (torL st (listOf (sf1 as ls ds st n count hub tip wind speed pitch density) n) n) (n-1))))
  simp only[pF_all,hst,p,q1,q2,q4,g1,g2,yic (zaa _ _),p1,q5,p2,q6,q7,grd_true]
  rfl
theorem yad{as ls ds st:List Nat}{n:Nat}{count:Int}{hub tip:Nat}(wind speed pitch density:Nat)(z:st.length=n*3)(hl:ls.length<281474976710656)(hd:ds.length<281474976710656):z5i as.length as ls.length ls ds.length ds n st count hub tip wind speed pitch density=some (torR as ls ds st n count hub tip wind speed pitch density):=by
 have hst:pF st 0 (muN n 3)=st:=pF_all3 z
 obtain⟨p,q0,q1,q2,q3,q4⟩:=yf4 (yew (as:=as) (ls:=ls) (ds:=ds) (st:=st) (n:=n) (count:=count) (hub:=hub) (tip:=tip) wind speed pitch density z hl hd)
 unfold z5i zhv torR
 rcases yed as ls ds st n count hub tip wind speed pitch density with e | ⟨⟨h1,h2,_⟩,e⟩
 ·rw[e] at q1 q2 q4 ⊢
  simp only[pF_all,hst,p,q1,q2,q4,grd_true]
  rfl
 ·rw[e] at q1 q2 q4 ⊢
  obtain⟨g1,_,_,g2⟩:=y1l rfl (ycm (st:=st) (l:=listOf (sf1 as ls ds st n count hub tip wind speed pitch density) n) h2)
  obtain⟨p1,q5⟩:=yfw (yfl (as:=as) (ls:=ls) (ds:=ds) (st:=st) (n:=n) (count:=count) (hub:=hub) (tip:=tip) (l:=torL st (listOf (sf1 as ls ds st n count hub tip wind speed pitch density) n) n) ⟨by omega,h2⟩)
  obtain⟨p2,q6,q7⟩:=zvm (zvj (fop .mul .f32 (fOI .f32 count) (sumS st (torL st (listOf (sf1 as ls ds st n count hub tip wind speed pitch density) n) n) (n-1))))
  simp only[pF_all,hst,p,q1,q2,q4,g1,g2,yic (zaa _ _),p1,q5,p2,q6,q7,grd_true]
  rfl
noncomputable def powR(as ls ds st:List Nat)(n:Nat)(count:Int)(hub tip wind speed pitch density:Nat):Nat×Bool:=
 match (torR as ls ds st n count hub tip wind speed pitch density).2 with
 | true=>(checkV (fop .mul .f32 (torR as ls ds st n count hub tip wind speed pitch density).1 speed),finB (fop .mul .f32 (torR as ls ds st n count hub tip wind speed pitch density).1 speed))
 | false=>(0,false)
theorem y83{as ls ds st:List Nat}{n:Nat}{count:Int}{hub tip:Nat}(wind speed pitch density:Nat)(z:st.length=n*3)(hl:ls.length<281474976710656)(hd:ds.length<281474976710656):z53 as.length as ls.length ls ds.length ds n st count hub tip wind speed pitch density=some (powR as ls ds st n count hub tip wind speed pitch density):=by
 have hst:pF st 0 (muN n 3)=st:=pF_all3 z
 obtain⟨p,q0,q1⟩:=yd7 (ydf (as:=as) (ls:=ls) (ds:=ds) (st:=st) (n:=n) (count:=count) (hub:=hub) (tip:=tip) wind speed pitch density z hl hd)
 obtain⟨p2,q6,q7⟩:=zq1 (zqg (fop .mul .f32 (torR as ls ds st n count hub tip wind speed pitch density).1 speed))
 unfold z53 zfm powR
 simp only[pF_all,hst,p,q0,q1,p2,q6,q7,grd_true]
 cases (torR as ls ds st n count hub tip wind speed pitch density).2<;>rfl
theorem yd6{as ls ds st:List Nat}{n:Nat}{count:Int}{hub tip:Nat}(wind speed pitch density:Nat)(z:st.length=n*3)(hl:ls.length<281474976710656)(hd:ds.length<281474976710656):z6l as.length as ls.length ls ds.length ds n st count hub tip wind speed pitch density=some (powR as ls ds st n count hub tip wind speed pitch density):=by
 have hst:pF st 0 (muN n 3)=st:=pF_all3 z
 obtain⟨p,q0,q1⟩:=yas (yad (as:=as) (ls:=ls) (ds:=ds) (st:=st) (n:=n) (count:=count) (hub:=hub) (tip:=tip) wind speed pitch density z hl hd)
 obtain⟨p2,q6,q7⟩:=zvm (zvj (fop .mul .f32 (torR as ls ds st n count hub tip wind speed pitch density).1 speed))
 unfold z6l zjg powR
 simp only[pF_all,hst,p,q0,q1,p2,q6,q7,grd_true]
 cases (torR as ls ds st n count hub tip wind speed pitch density).2<;>rfl
noncomputable def curveR(as ls ds st:List Nat)(n:Nat)(count:Int)(hub tip:Nat)(ws:List Nat)(speed pitch density:Nat):Nat×Bool×List Nat:=
 if (validRotorB as ls ds st n count hub tip&&(decide (ws.length≤32)&&(posB speed&&(posB density&&(finB pitch&&(List.range ws.length).all fun i=>(powR as ls ds st n count hub tip (ws.getD i 0) speed pitch density).2)))))=true then
  (ws.length,true,listOf (fun i=>(powR as ls ds st n count hub tip (ws.getD i 0) speed pitch density).1) ws.length) else (0,false,[])
theorem yds{as ls ds st:List Nat}{n:Nat}{count:Int}{hub tip:Nat}{ws:List Nat}(speed pitch density:Nat)(z:st.length=n*3)(hl:ls.length<281474976710656)(hd:ds.length<281474976710656)(hw:ws.length≤32) :
  let f:=fun i=>(powR as ls ds st n count hub tip (ws.getD i 0) speed pitch density).1
  let p:=fun i=>(powR as ls ds st n count hub tip (ws.getD i 0) speed pitch density).2
  ((List.range ws.length).all p=true∧z0e speed pitch density ws.length (Int.ofNat ws.length) as ls ds st ws as.length ls.length ds.length n count hub tip big 0 0 []=some (.inr (ws.length,Int.ofNat ws.length,false,listOf f ws.length)))∨((List.range ws.length).all p=false∧z0e speed pitch density ws.length (Int.ofNat ws.length) as ls ds st ws as.length ls.length ds.length n count hub tip big 0 0 []=some (.inl ())):=by
 intro f p
 have hst:pF st 0 (muN n 3)=st:=pF_all3 z
 rcases scan (L:=fun m i=>z0e speed pitch density ws.length (Int.ofNat ws.length) as ls ds st ws as.length ls.length ds.length n count hub tip m i.toNat i (listOf f i.toNat)) (len:=ws.length) p (g:=fun _=>()) (e:=(ws.length,Int.ofNat ws.length,false,listOf f ws.length))
  (fun m i hi=>by
   show z0e _ _ _ _ _ _ _ _ _ _ _ _ _ _ _ _ _ _ i (Int.ofNat i) (listOf f i)=if p i=true then z0e _ _ _ _ _ _ _ _ _ _ _ _ _ _ _ _ _ _ (i+1) (Int.ofNat (i+1)) (listOf f (i+1)) else _
   obtain⟨r1,r2,r3⟩:=y9e (y83 (as:=as) (ls:=ls) (ds:=ds) (st:=st) (n:=n) (count:=count) (hub:=hub) (tip:=tip) (ws.getD i 0) speed pitch density z hl hd)
   rw[zgy];unfold z1z
   rw[ltN_t hi,okIx_t hi,ix1,addI1 (by omega),ztb]
   simp only[gF,pF_all,hst,r1,r2,r3,grd_true,yeg _ (b:=listOf f i) (zaa _ _) (by omega)]
   show br true (br (bnot (p i)) _ _) _=_
   cases p i<;>rfl)
  (fun m=>by
   show z0e _ _ _ _ _ _ _ _ _ _ _ _ _ _ _ _ _ _ ws.length (Int.ofNat ws.length) (listOf f ws.length)=_
   rw[zgy];unfold z1z;rw[ltN_f (Nat.le_refl _)];rfl) ws.length 0 big (by omega) (uet (by omega)) with⟨h1,h2⟩ | ⟨j,h1,h2,h3,h4⟩
 ·exact .inl ⟨y0o h1,h2⟩
 ·exact .inr ⟨zvy h2 h3,h4⟩
theorem yee{as ls ds st:List Nat}{n:Nat}{count:Int}{hub tip:Nat}{ws:List Nat}(speed pitch density:Nat)(z:st.length=n*3)(hl:ls.length<281474976710656)(hd:ds.length<281474976710656)(hw:ws.length≤32) :
  let f:=fun i=>(powR as ls ds st n count hub tip (ws.getD i 0) speed pitch density).1
  let p:=fun i=>(powR as ls ds st n count hub tip (ws.getD i 0) speed pitch density).2
  ((List.range ws.length).all p=true∧z0i ws.length speed pitch density (Int.ofNat ws.length) as ls ds st ws as.length ls.length ds.length n count hub tip big 0 0 []=some (.inr (ws.length,Int.ofNat ws.length,false,listOf f ws.length)))∨((List.range ws.length).all p=false∧z0i ws.length speed pitch density (Int.ofNat ws.length) as ls ds st ws as.length ls.length ds.length n count hub tip big 0 0 []=some (.inl ())):=by
 intro f p
 have hst:pF st 0 (muN n 3)=st:=pF_all3 z
 rcases scan (L:=fun m i=>z0i ws.length speed pitch density (Int.ofNat ws.length) as ls ds st ws as.length ls.length ds.length n count hub tip m i.toNat i (listOf f i.toNat)) (len:=ws.length) p (g:=fun _=>()) (e:=(ws.length,Int.ofNat ws.length,false,listOf f ws.length))
  (fun m i hi=>by
   show z0i _ _ _ _ _ _ _ _ _ _ _ _ _ _ _ _ _ _ i (Int.ofNat i) (listOf f i)=if p i=true then z0i _ _ _ _ _ _ _ _ _ _ _ _ _ _ _ _ _ _ (i+1) (Int.ofNat (i+1)) (listOf f (i+1)) else _
   obtain⟨r1,r2,r3⟩:=ybt (yd6 (as:=as) (ls:=ls) (ds:=ds) (st:=st) (n:=n) (count:=count) (hub:=hub) (tip:=tip) (ws.getD i 0) speed pitch density z hl hd)
   rw[zjf];unfold z2r
   rw[ltN_t hi,okIx_t hi,ix1,addI1 (by omega),ztb]
   simp only[gF,pF_all,hst,r1,r2,r3,grd_true,yeg _ (b:=listOf f i) (zaa _ _) (by omega)]
   show br true (br (bnot (p i)) _ _) _=_
   cases p i<;>rfl)
  (fun m=>by
   show z0i _ _ _ _ _ _ _ _ _ _ _ _ _ _ _ _ _ _ ws.length (Int.ofNat ws.length) (listOf f ws.length)=_
   rw[zjf];unfold z2r;rw[ltN_f (Nat.le_refl _)];rfl) ws.length 0 big (by omega) (uet (by omega)) with⟨h1,h2⟩ | ⟨j,h1,h2,h3,h4⟩
 ·exact .inl ⟨y0o h1,h2⟩
 ·exact .inr ⟨zvy h2 h3,h4⟩
theorem y8u{as ls ds st:List Nat}{n:Nat}{count:Int}{hub tip:Nat}{ws:List Nat}(speed pitch density:Nat)(z:st.length=n*3)(hl:ls.length<281474976710656)(hd:ds.length<281474976710656)(hw:ws.length<281474976710656):z3z as.length as ls.length ls ds.length ds n st count hub tip ws.length ws speed pitch density=some (curveR as ls ds st n count hub tip ws speed pitch density):=by
 have hst:pF st 0 (muN n 3)=st:=pF_all3 z
 obtain⟨p1,q1⟩:=zkb (zkl (as:=as) (st:=st) (n:=n) (count:=count) (hub:=hub) (tip:=tip) hl hd)
 obtain⟨p2,q2⟩:=zbp (zqo speed density)
 obtain⟨p3,q3⟩:=z3h (z3l pitch)
 unfold z3z zf7 curveR
 simp only[pF_all,hst,p1,q1,p2,q2,p3,q3,grd_true,show ltI 32 (Int.ofNat ws.length)=!decide (ws.length≤32) from gtN 32 _]
 cases validRotorB as ls ds st n count hub tip
 ·rfl
 ·by_cases h:ws.length≤32
  ·rw[decide_eq_true h]
   cases posB speed
   ·rfl
   ·cases posB density
    ·rfl
    ·cases finB pitch
     ·rfl
     ·rcases yds (as:=as) (ls:=ls) (ds:=ds) (st:=st) (n:=n) (count:=count) (hub:=hub) (tip:=tip) (ws:=ws) speed pitch density z hl hd h with⟨c,l⟩ | ⟨c,l⟩
      ·obtain⟨g1,g2,g3,_,_,g6⟩:=zxt rfl l
       rw[g1,g2,g3,g6,c];rfl
      ·obtain⟨g1,g2⟩:=zxd rfl l
       rw[g1,g2,c];rfl
  ·rw[decide_eq_false h];rfl
theorem y8w{as ls ds st:List Nat}{n:Nat}{count:Int}{hub tip:Nat}{ws:List Nat}(speed pitch density:Nat)(z:st.length=n*3)(hl:ls.length<281474976710656)(hd:ds.length<281474976710656)(hw:ws.length<281474976710656):z41 as.length as ls.length ls ds.length ds n st count hub tip ws.length ws speed pitch density=some (curveR as ls ds st n count hub tip ws speed pitch density):=by
 have hst:pF st 0 (muN n 3)=st:=pF_all3 z
 obtain⟨p1,q1⟩:=zux (zui (as:=as) (ls:=ls) (ds:=ds) (st:=st) (n:=n) (count:=count) (hub:=hub) (tip:=tip))
 obtain⟨p2,q2⟩:=z9d (z93 speed)
 obtain⟨p4,q4⟩:=z9d (z93 density)
 obtain⟨p3,q3⟩:=z1p (z1q pitch)
 unfold z41 zfk curveR
 simp only[pF_all,hst,p1,q1,p2,q2,p3,q3,p4,q4,grd_true,show ltI 32 (Int.ofNat ws.length)=!decide (ws.length≤32) from gtN 32 _]
 cases validRotorB as ls ds st n count hub tip
 ·rfl
 ·by_cases h:ws.length≤32
  ·rw[decide_eq_true h]
   cases posB speed
   ·rfl
   ·cases posB density
    ·cases finB pitch<;>rfl
    ·cases finB pitch
     ·rfl
     ·rcases yee (as:=as) (ls:=ls) (ds:=ds) (st:=st) (n:=n) (count:=count) (hub:=hub) (tip:=tip) (ws:=ws) speed pitch density z hl hd h with⟨c,l⟩ | ⟨c,l⟩
      ·obtain⟨g1,g2,g3,_,_,g6⟩:=y11 rfl l
       rw[g1,g2,g3,g6,c];rfl
      ·obtain⟨g1,g2⟩:=y07 rfl l
       rw[g1,g2,c];rfl
  ·rw[decide_eq_false h]
   cases posB speed<;>cases posB density<;>cases finB pitch<;>rfl
theorem yiv(as ls ds st:List Nat)(n:Nat)(count:Int)(hub tip:Nat)(ws:List Nat)(speed pitch density:Nat):(curveR as ls ds st n count hub tip ws speed pitch density).2.2.length=(curveR as ls ds st n count hub tip ws speed pitch density).1∧(curveR as ls ds st n count hub tip ws speed pitch density).1≤32:=by
 unfold curveR
 split
 ·rename_i h
  simp only[Bool.and_eq_true,decide_eq_true_eq] at h
  exact⟨zaa _ _,h.2.1⟩
 ·exact⟨rfl,Nat.zero_le 32⟩
theorem plain_FnExactPowerCurve{as ls ds st:List Nat}{n:Nat}{count:Int}{hub tip:Nat}{ws:List Nat}{speed pitch density:Nat}(ka:∀ x∈as,canW .f32 x)(ma:as.length≤maxLen)(kl:∀ x∈ls,canW .f32 x)(ml:ls.length≤maxLen)(kd:∀ x∈ds,canW .f32 x)(md:ds.length≤maxLen)
  (z:st.length=n*3) (ks:∀ x∈st,canW .f32 x) (mn:n≤maxLen) (kc:bdI .i64 count) (kh:canW .f32 hub) (kt:canW .f32 tip) (kws:∀ x∈ws,canW .f32 x) (mws:ws.length≤maxLen) (kv:canW .f32 speed) (kp:canW .f32 pitch) (kd2:canW .f32 density):z2w as.length as ls.length ls ds.length ds n st count hub tip ws.length ws speed pitch density=some true:=by
 have e9:ltI 1048576 (Int.ofNat ws.length)=decide (1048576<ws.length):=ltN 1048576 _
 obtain⟨r,p1,q1,_,h⟩:=yj1 (count:=count) (hub:=hub) (tip:=tip) ma ml md z mn (left:=1048576) (by decide) (by decide)
 have hst:pF st 0 (muN n 3)=st:=pF_all3 z
 unfold z2w z86
 simp only[laws_FnExactPowerCurve_c0,laws_FnExactPowerCurve_c1,laws_FnExactPowerCurve_c2,laws_FnExactPowerCurve_c3,laws_FnExactPowerCurve_c4,laws_FnExactPowerCurve_c5,laws_FnExactPowerCurve_c6,laws_FnExactPowerCurve_c7,laws_FnExactPowerCurve_c8,laws_FnExactPowerCurve_c9,laws_FnExactPowerCurve_c10,laws_FnExactPowerCurve_c11,laws_FnExactPowerCurve_c12,laws_FnExactPowerCurve_c13,laws_FnExactPowerCurve_c14,laws_FnExactPowerCurve_c15,laws_FnExactPowerCurve_c16,laws_FnExactPowerCurve_c17,laws_FnExactPowerCurve_c18,laws_FnExactPowerCurve_c19,laws_FnExactPowerCurve_c20,laws_FnExactPowerCurve_c21,laws_FnExactPowerCurve_c22,laws_FnExactPowerCurve_c23,laws_FnExactPowerCurve_c24,laws_FnExactPowerCurve_c25,laws_FnExactPowerCurve_c26,laws_FnExactPowerCurve_c27,laws_FnExactPowerCurve_c28,laws_FnExactPowerCurve_c29,laws_FnExactPowerCurve_c30,pF_all,hst,p1,q1,grd_true,e9]
 by_cases hw:1048576<ws.length
 ·rw[decide_eq_true hw];rfl
 rw[decide_eq_false hw]
 rcases h with h | ⟨e,l,t0,t1,t2,t3,t4,t5,t6,t7,t8,e0,e1⟩
 ·rw[ltI_t h];rfl
 ·skip
  obtain⟨u0,u1,u2⟩:=zcx (zdl (xs:=ws) (by omega))
  obtain⟨v0,v1⟩:=z9n (z8d (xs:=ws) (by omega))
  obtain⟨i0,i1,i2,i3⟩:=y91 (y8u (as:=as) (ls:=ls) (ds:=ds) (st:=st) (n:=n) (count:=count) (hub:=hub) (tip:=tip) (ws:=ws) speed pitch density z (by omega) (by omega) (by omega))
  obtain⟨s0,s1,s2,s3⟩:=y88 (y8w (as:=as) (ls:=ls) (ds:=ds) (st:=st) (n:=n) (count:=count) (hub:=hub) (tip:=tip) (ws:=ws) speed pitch density z (by omega) (by omega) (by omega))
  have hlen:=yiv as ls ds st n count hub tip ws speed pitch density
  generalize curveR as ls ds st n count hub tip ws speed pitch density=X at *
  obtain⟨m1,ok,us⟩:=X
  simp only at i1 i2 i3 s1 s2 s3 hlen
  obtain⟨rfl,l3⟩:=hlen
  obtain⟨p7,q7⟩:=z9n (z8d (xs:=us) (by omega))
  obtain⟨A1,A2,_⟩:=laws_FnExactPowerCurve__markFloat32S_l2_of0 rfl (zts (L:=z09 as.length) (k0:=1) (ys:=as) rfl (by omega) (by omega) (by omega) (fun n k i b=>by rw[zcl];rfl))
  obtain⟨B1,B2,_⟩:=laws_FnExactPowerCurve__markFloat32S_l2_2_of0 rfl (zts (L:=z06 ls.length) (k0:=1+(as.length:Int)) (ys:=ls) rfl (by omega) (by omega) (by omega) (fun n k i b=>by rw[zb5];rfl))
  obtain⟨C1,C2,_⟩:=laws_FnExactPowerCurve__markFloat32S_l2_3_of0 rfl (zts (L:=z04 ds.length) (k0:=1+(as.length:Int)+(ls.length:Int)) (ys:=ds) rfl (by omega) (by omega) (by omega) (fun n k i b=>by rw[zbk];rfl))
  obtain⟨D1,D2,_⟩:=laws_FnExactPowerCurve__markStationS_l2_of0 rfl (yip (L:=z08 n) (n:=n) (k0:=1+(as.length:Int)+(ls.length:Int)+(ds.length:Int)) (ys:=st) z (by omega) (by omega) (by omega) (fun m k i b h1 h2=>by rw[z61];unfold z0l;rw[h1,h2];rfl) (fun m k i b h=>by rw[z61];unfold z0l;rw[h];rfl))
  obtain⟨E1,E2,_⟩:=laws_FnExactPowerCurve__markFloat32S_l2_4_of0 rfl (zts (L:=z07 ws.length) (k0:=1+(as.length:Int)+(ls.length:Int)+(ds.length:Int)+(n:Int)*3) (ys:=ws) rfl (by omega) (by omega) (by omega) (fun n k i b=>by rw[zbj];rfl))
  obtain⟨G1,G2,_,_,G5⟩:=laws_FnExactPowerCurve__markFloat32S_l2_5_of0 rfl (zts (L:=z05 us.length) (k0:=1) (ys:=us) rfl (by omega) (by omega) (by omega) (fun n k i b=>by rw[zb9];rfl))
  obtain⟨I1,I2⟩:=y5j (y3x (k0:=1) (n:=us.length) (by omega) (by omega) (by omega))
  have z1:ltI (1+(as.length:Int)+(ls.length:Int)+(ds.length:Int)+(n:Int)*3+(ws.length:Int)) 0=false:=ltI_f (by omega)
  have z2:ltI (1+(us.length:Int)) 0=false:=ltI_f (by omega)
  simp only[laws_FnExactPowerCurve_c0,laws_FnExactPowerCurve_c1,laws_FnExactPowerCurve_c2,laws_FnExactPowerCurve_c3,laws_FnExactPowerCurve_c4,laws_FnExactPowerCurve_c5,laws_FnExactPowerCurve_c6,laws_FnExactPowerCurve_c7,laws_FnExactPowerCurve_c8,laws_FnExactPowerCurve_c9,laws_FnExactPowerCurve_c10,laws_FnExactPowerCurve_c11,laws_FnExactPowerCurve_c12,laws_FnExactPowerCurve_c13,laws_FnExactPowerCurve_c14,laws_FnExactPowerCurve_c15,laws_FnExactPowerCurve_c16,laws_FnExactPowerCurve_c17,laws_FnExactPowerCurve_c18,laws_FnExactPowerCurve_c19,laws_FnExactPowerCurve_c20,laws_FnExactPowerCurve_c21,laws_FnExactPowerCurve_c22,laws_FnExactPowerCurve_c23,laws_FnExactPowerCurve_c24,laws_FnExactPowerCurve_c25,laws_FnExactPowerCurve_c26,laws_FnExactPowerCurve_c27,laws_FnExactPowerCurve_c28,laws_FnExactPowerCurve_c29,laws_FnExactPowerCurve_c30,e,t0,t1,t2,t3,t4,t5,t6,t7,t8,e0,e1,pF_all,hst,u0,u1,u2,v0,v1,i0,i1,i2,i3,s0,s1,s2,s3,p7,q7,A1,A2,B1,B2,C1,C2,D1,D2,E1,E2,G1,G2,G5,I1,I2,yjl,yj5,z1,z2,grd_true,br_false,zb0,yj2,ycl]
end Go.Rf
