import Derived.Test.YtijjhfailnmeoaaGreatChecked
import Derived.Test.YtijjhfailnmeoaaGreatPowerCurveP
import Derived.KernelRfl
set_option linter.unusedVariables false
set_option linter.unusedSimpArgs false
set_option linter.unusedSectionVars false
namespace Go.Proofs.YtijjhfailnmeoaaGreat
open Go Go.Rf
noncomputable section
def mkI(f:Func)(nt:Nat) (live:List (Nat×List Nat)) (nl:List (Nat×(RowK×Nat))) (rn:List (RowK×Nat)):FnI:=⟨f.body.getD .skip,nt,f.results.toList,live,nl,rn,false⟩
theorem mkI_ok{P:Program}{k:Nat}{f:Func}{nt:Nat} {live:List (Nat×List Nat)} {nl:List (Nat×(RowK×Nat))} {rn:List (RowK×Nat)} (h:P.funcs[k]? = some f) (h1:(f.body.isSome&&(Nat.beq f.ntmps nt&&(!(f.name == "runtime.NumGoroutine")&&codeOk (f.body.getD .skip))))=true):FnOk P k (mkI f nt live nl rn):=by
 simp only[Bool.and_eq_true,Bool.not_eq_true'] at h1
 obtain⟨h1,h2,h3,h4⟩:=h1
 obtain⟨c,hc⟩:=Option.isSome_iff_exists.1 h1
 exact⟨⟨f,h,by rw[hc];show some c=some (f.body.getD .skip);rw[hc];rfl,Nat.eq_of_beq_eq_true h2,rfl,h3⟩,h4⟩
def tyTab:List (Nat×TI):=[
 (2,{ desc:=.int .i64,agg:=false,size:=1,bytes:=8,zero:=[.int .i64 0],row:=.il .i64,cts:=[2] }),
 (3,{ desc:=.int .i64,agg:=false,size:=1,bytes:=8,zero:=[.int .i64 0],row:=.il .i64,cts:=[3] }),
 (4,{ desc:=.bool,agg:=false,size:=1,bytes:=1,zero:=[.bool false],row:=.bl,cts:=[4] }),
 (24,{ desc:=.sl 28,agg:=false,size:=1,bytes:=24,zero:=[.nilsl],row:=.gen,cts:=[24] }),
 (26,{ desc:=.struct [(0,24),(1,24),(2,24)],agg:=true,size:=3,bytes:=72,zero:=[.nilsl,.nilsl,.nilsl],row:=.gen,cts:=[24,24,24] }),
 (27,{ desc:=.sl 39,agg:=false,size:=1,bytes:=24,zero:=[.nilsl],row:=.gen,cts:=[27] }),
 (28,{ desc:=.flt .f32,agg:=false,size:=1,bytes:=4,zero:=[.flt .f32 0],row:=.fl .f32,cts:=[28] }),
 (30,{ desc:=.struct [(0,26),(3,27),(4,2),(5,28),(6,28)],agg:=true,size:=7,bytes:=112,zero:=[.nilsl,.nilsl,.nilsl,.nilsl,.int .i64 0,.flt .f32 0,.flt .f32 0],row:=.gen,cts:=[24,24,24,27,2,28,28] }),
 (37,{ desc:=.flt .f64,agg:=false,size:=1,bytes:=8,zero:=[.flt .f64 0],row:=.fl .f64,cts:=[37] }),
 (39,{ desc:=.struct [(0,28),(1,28),(2,28)],agg:=true,size:=3,bytes:=12,zero:=[.flt .f32 0,.flt .f32 0,.flt .f32 0],row:=.fl .f32,cts:=[28,28,28] }),
 (50,{ desc:=.struct [(0,24),(1,24),(2,24)],agg:=true,size:=3,bytes:=72,zero:=[.nilsl,.nilsl,.nilsl],row:=.gen,cts:=[24,24,24] }),
 (51,{ desc:=.sl 138,agg:=false,size:=1,bytes:=24,zero:=[.nilsl],row:=.gen,cts:=[51] }),
 (53,{ desc:=.struct [(0,50),(3,51),(4,2),(5,28),(6,28)],agg:=true,size:=7,bytes:=112,zero:=[.nilsl,.nilsl,.nilsl,.nilsl,.int .i64 0,.flt .f32 0,.flt .f32 0],row:=.gen,cts:=[24,24,24,51,2,28,28] }),
 (70,{ desc:=.ptr 30,agg:=false,size:=1,bytes:=8,zero:=[.any],row:=.gen,cts:=[70] }),
 (73,{ desc:=.sl 4,agg:=false,size:=1,bytes:=24,zero:=[.nilsl],row:=.gen,cts:=[73] }),
 (75,{ desc:=.struct [],agg:=true,size:=0,bytes:=0,zero:=[],row:=.gen,cts:=[] }),
 (76,{ desc:=.struct [],agg:=true,size:=0,bytes:=0,zero:=[],row:=.gen,cts:=[] }),
 (77,{ desc:=.struct [],agg:=true,size:=0,bytes:=0,zero:=[],row:=.gen,cts:=[] }),
 (78,{ desc:=.int .u64,agg:=false,size:=1,bytes:=8,zero:=[.int .u64 0],row:=.il .u64,cts:=[78] }),
 (80,{ desc:=.struct [(0,76),(0,77),(0,78)],agg:=true,size:=1,bytes:=8,zero:=[.int .u64 0],row:=.il .u64,cts:=[78] }),
 (81,{ desc:=.int .u32,agg:=false,size:=1,bytes:=4,zero:=[.int .u32 0],row:=.il .u32,cts:=[81] }),
 (83,{ desc:=.struct [(0,75),(0,80),(1,81)],agg:=true,size:=2,bytes:=16,zero:=[.int .u64 0,.int .u32 0],row:=.gen,cts:=[78,81] }),
 (93,{ desc:=.other,agg:=false,size:=1,bytes:=8,zero:=[.any],row:=.gen,cts:=[93] }),
 (121,{ desc:=.int .u64,agg:=false,size:=1,bytes:=8,zero:=[.int .u64 0],row:=.il .u64,cts:=[121] }),
 (138,{ desc:=.struct [(0,28),(1,28),(2,28)],agg:=true,size:=3,bytes:=12,zero:=[.flt .f32 0,.flt .f32 0,.flt .f32 0],row:=.fl .f32,cts:=[28,28,28] }),
 (141,{ desc:=.ptr 26,agg:=false,size:=1,bytes:=8,zero:=[.any],row:=.gen,cts:=[141] })]
theorem tyTab_ok:chkTab Tryz.prog tyTab=true:=by kernel_rfl
def fi13:FnI:=mkI Tryz.f13 132 [(0,[1,2,3,4,5]),(1,[1,2,3,4,5,25]),(2,[10]),(3,[1,2,3,4,5,11]),(4,[1,2,3,4,5,11]),(5,[1,2,3,4,5,30]),(6,[10]),(7,[1,2,3,4,5,12,13]),(8,[1,2,3,4,5,12,13,14]),(9,[1,2,3,4,5,12,13,14,15]),(10,[1,2,3,4,5,12,13,14,15,16,17]),(11,[1,2,3,4,5,12,13,14,15,16,17,63]),(12,[10]),(13,[1,2,3,4,5,12,13,14,15,16,17,68]),(14,[10]),(15,[1,2,3,4,5,12,13,14,15,16,17,73]),(16,[10]),(17,[1,2,3,4,5,12,13,14,15,16,17,18]),(18,[1,2,3,4,5,12,13,15,16,17,18]),(19,[1,2,3,4,5,12,13,16,17,18]),(20,[1,2,3,4,5,12,13,16,92]),(21,[10]),(22,[1,2,3,4,5,12,13,16,19]),(23,[1,2,3,4,5,12,13,16,19]),(24,[1,2,3,4,5,12,13,16,19,20]),(25,[1,2,3,4,5,12,13,16,19,20]),(26,[1,2,3,4,5,12,13,16,19,20,100]),(27,[10]),(28,[1,2,3,4,5,12,13,16,19,103]),(29,[10]),(30,[12,13,16,19,21,22]),(31,[16,19,123]),(32,[10]),(33,[16,19,20]),(34,[19,20]),(35,[19,20,128]),(36,[10]),(37,[131]),(38,[10]),(39,[10])] [] []
def fi18:FnI:=mkI Tryz.f18 22 [(0,[1,2,3,4,5]),(1,[10,11,12])] [] [(.fl .f32,1),(.fl .f32,1),(.gen,1)]
def fi19:FnI:=mkI Tryz.f19 50 [(0,[6,7,8,9,10,11]),(1,[6,7,8,9,10,11,28]),(2,[12,13,14]),(3,[6,7,8,9,10,11,15]),(4,[6,7,8,9,10,11,15,16,17,18]),(5,[6,7,8,9,10,11,15,16,17,18,19]),(6,[6,7,8,9,10,11,15,16,17,18,19,38,39]),(7,[6,7,8,9,10,11,15,16,17,18,19,38,39,40]),(8,[6,7,8,9,10,11,15,16,17,18,19,20,38,39]),(9,[6,7,8,9,10,11,15,16,17,18,19,20,38,39]),(10,[6,7,8,9,10,11,15,16,17,18,19,38,39]),(11,[6,7,8,9,10,11,15,16,17,18,19,38,39]),(12,[16,17,18]),(13,[16,17,47]),(14,[12,13,14]),(15,[12,13,14])] [] [(.fl .f32,1),(.fl .f32,1),(.gen,1)]
def fi23:FnI:=mkI Tryz.f23 56 [(0,[1,2,3,4,5]),(1,[5,13,14]),(2,[5,13,28]),(3,[10,11]),(4,[5,13,30,31,32]),(5,[5,13,30,31,32,33]),(6,[5,13,15,16,30,31,32]),(7,[5,13,30,31,32]),(8,[5,13,30,31,32]),(9,[10,11])] [] []
def fi24:FnI:=mkI Tryz.f24 31 [(0,[1,2,3,4,5]),(1,[2,12,13]),(2,[2,12,24]),(3,[10,11]),(4,[10,11])] [] []
def fi27:FnI:=mkI Tryz.f27 61 [(0,[1,2,3,4,5]),(1,[1,2,3,4,5,36]),(2,[10,11]),(3,[1,2,3,4,5,12]),(4,[2,3,4,5,12,38,39,40]),(5,[2,3,4,5,12,38,39,40,41]),(6,[2,3,4,5,12,14,38,39,40]),(7,[2,3,4,5,12,15,16,38,39,40]),(8,[2,3,4,5,12,15,38,39,40,54]),(9,[10,11]),(10,[2,3,4,5,12,38,39,40]),(11,[2,3,4,5,12,38,39,40]),(12,[10,11])] [(5,(.fl .f32,1))] [(.fl .f32,1),(.gen,1)]
def fi32:FnI:=mkI Tryz.f32 18 [(0,[1,2]),(1,[1,2]),(2,[1,2,10]),(3,[4]),(4,[1]),(5,[1,16]),(6,[4]),(7,[4])] [] []
def fi34:FnI:=mkI Tryz.f34 22 [(0,[1,2]),(1,[1,2,3]),(2,[1,2,3]),(3,[1,2,3]),(4,[1,2,3]),(5,[1,2,3]),(6,[2,3]),(7,[2])] [] [(.fl .f32,1),(.fl .f32,1),(.fl .f32,1),(.fl .f32,3),(.gen,1),(.gen,1),(.gen,1)]
def fi35:FnI:=mkI Tryz.f35 37 [(0,[0,1]),(1,[0,1,12]),(2,[4]),(3,[0,1,26]),(4,[4]),(5,[4])] [] []
def fi36:FnI:=mkI Tryz.f36 38 [(0,[2,3]),(1,[2,3,10]),(2,[4]),(3,[2,3,16]),(4,[4]),(5,[2,3,21]),(6,[4]),(7,[2,3,29]),(8,[4]),(9,[37]),(10,[4]),(11,[4])] [] []
def fi37:FnI:=mkI Tryz.f37 29 [(0,[0,1]),(1,[0,1,10]),(2,[4]),(3,[0,1,5]),(4,[0,1,5,14]),(5,[0,1,5]),(6,[0,1,5,28]),(7,[4]),(8,[4])] [] []
def fi38:FnI:=mkI Tryz.f38 14 [(0,[1,2]),(1,[1,2]),(2,[1]),(3,[4])] [] []
def fi39:FnI:=mkI Tryz.f39 20 [(0,[0,1]),(1,[0,1,5]),(2,[0,1,5,9]),(3,[0,1,5]),(4,[0,1,5]),(5,[0,1,5]),(6,[4])] [] []
def fi40:FnI:=mkI Tryz.f40 22 [(0,[0,1]),(1,[0,1,5]),(2,[0,1,5,9]),(3,[0,1,5]),(4,[0,1,5,18]),(5,[4]),(6,[0,1,5]),(7,[4])] [] []
def fi45:FnI:=mkI Tryz.f45 22 [(0,[0]),(1,[0,3]),(2,[0,3,4]),(3,[0,3,4,11]),(4,[0,3,4]),(5,[0,3,4]),(6,[2])] [] [(.fl .f32,1)]
def fi47:FnI:=mkI Tryz.f47 63 [(0,[1,2,3,4,5]),(1,[1,2,3,4,5,37]),(2,[10,11]),(3,[1,2,3,4,5,12]),(4,[1,2,3,4,5,12,40,41]),(5,[1,2,3,4,5,12,40,41,42]),(6,[1,2,3,4,5,12,13,40,41]),(7,[1,2,3,4,5,12,14,15,40,41]),(8,[1,2,3,4,5,12,14,40,41,56]),(9,[10,11]),(10,[1,2,3,4,5,12,40,41]),(11,[1,2,3,4,5,12,40,41]),(12,[10,11])] [(5,(.fl .f32,1))] [(.fl .f32,1),(.gen,1)]
def fi50:FnI:=mkI Tryz.f50 68 [(0,[0,1,2,3,4]),(1,[0,1,2,3,4,26]),(2,[10,11,12]),(3,[0,1,2,3,4,13]),(4,[0,1,2,3,4,13,14]),(5,[0,1,2,3,4,13,14,15]),(6,[0,1,2,3,4,13,14,15,35]),(7,[0,1,2,3,4,13,14,15]),(8,[0,1,2,3,4,13,14,15,44]),(9,[10,11,12]),(10,[0,1,2,3,4,13,14,15,16,17,18]),(11,[0,1,2,3,4,13,14,15,16,17,57]),(12,[10,11,12]),(13,[0,1,2,3,4,13,14,15,17]),(14,[0,1,2,3,4,13,14,15]),(15,[10,11,12])] [(6,(.fl .f32,1))] [(.fl .f32,1),(.fl .f32,1),(.gen,1)]
def fi51:FnI:=mkI Tryz.f51 77 [(0,[1]),(1,[1,3]),(2,[1,39]),(3,[2]),(4,[1,4]),(5,[1,4,43,44,45]),(6,[1,4,43,44,45,46]),(7,[1,4,6,43,44,45]),(8,[1,6,43,44,45,73]),(9,[2]),(10,[1,4,43,44,45]),(11,[1,4,43,44,45]),(12,[2])] [] []
def fi52:FnI:=mkI Tryz.f52 15 [(0,[0,1,2]),(1,[6])] [] []
def fi56:FnI:=mkI Tryz.f56 99 [(0,[1,2,3,4,5,6]),(1,[1,2,3,4,5,6,15,16]),(2,[1,2,3,4,5,6,15,40]),(3,[12,13,14]),(4,[1,2,3,4,5,6,15,17,18]),(5,[1,2,3,5,6,17,18,19,20]),(6,[1,5,6,19,20,21,22]),(7,[19,20,23]),(8,[12,13,14])] [] []
def fi58:FnI:=mkI Tryz.f58 9 [(0,[0,1]),(1,[4])] [] []
def fi59:FnI:=mkI Tryz.f59 8 [(0,[0]),(1,[0,6]),(2,[2,3]),(3,[2,3])] [] []
def fi60:FnI:=mkI Tryz.f60 44 [(0,[1,2]),(1,[1,2,5]),(2,[1,2,5,6]),(3,[1,2,5,6,11]),(4,[1,2,5,6]),(5,[1,2,5,6,7]),(6,[1,2,5,6]),(7,[4])] [] []
def fi63:FnI:=mkI Tryz.f63 31 [(0,[0,1,2,3,4]),(1,[2,12,13]),(2,[2,12,24]),(3,[10,11]),(4,[10,11])] [] []
def fi64:FnI:=mkI Tryz.f64 6 [(0,[0]),(1,[2])] [] []
def fi65:FnI:=mkI Tryz.f65 7 [(0,[0]),(1,[2])] [] []
def fi68:FnI:=mkI Tryz.f68 15 [(0,[0,1,2]),(1,[6])] [] []
def fi70:FnI:=mkI Tryz.f70 24 [(0,[1,2]),(1,[1,2]),(2,[1,2,10]),(3,[4]),(4,[1,2]),(5,[1,2,16]),(6,[4]),(7,[1]),(8,[1,22]),(9,[4]),(10,[4])] [] []
def fi71:FnI:=mkI Tryz.f71 12 [(0,[0,1]),(1,[1]),(2,[1,10]),(3,[4]),(4,[4])] [] []
def fi72:FnI:=mkI Tryz.f72 8 [(0,[0]),(1,[0,6]),(2,[2,3]),(3,[2,3])] [] []
def fi73:FnI:=mkI Tryz.f73 49 [(0,[0,1]),(1,[0,1,5]),(2,[0,1,5,6]),(3,[0,1,5,6,12]),(4,[0,1,5,6]),(5,[0,1,5,6,7]),(6,[0,1,5,6]),(7,[4])] [] []
def fi74:FnI:=mkI Tryz.f74 17 [(0,[1,2]),(1,[1,2,3]),(2,[1,2,3]),(3,[1,2,3]),(4,[2,3]),(5,[2])] [] [(.fl .f32,1),(.fl .f32,1),(.fl .f32,1)]
def fi75:FnI:=mkI Tryz.f75 23 [(0,[0]),(1,[0,3]),(2,[0,3,4]),(3,[0,3,4,11]),(4,[0,3,4]),(5,[0,3,4]),(6,[2])] [] [(.fl .f32,3)]
def fi76:FnI:=mkI Tryz.f76 23 [(0,[2,3]),(1,[2,3,10]),(2,[4]),(3,[2,3,16]),(4,[4]),(5,[22]),(6,[4]),(7,[4])] [] []
def fi77:FnI:=mkI Tryz.f77 27 [(0,[0,1]),(1,[0,1,10]),(2,[4]),(3,[0,1,5]),(4,[0,1,5,14]),(5,[0,1,5]),(6,[0,1,5,26]),(7,[4]),(8,[4])] [] []
def fi78:FnI:=mkI Tryz.f78 18 [(0,[1,2]),(1,[1,2]),(2,[1,2]),(3,[1]),(4,[4])] [] []
def fi79:FnI:=mkI Tryz.f79 37 [(0,[0,1]),(1,[0,1,5]),(2,[0,1,5,9]),(3,[0,1,5]),(4,[0,1,5]),(5,[0,1,5]),(6,[0,1,5]),(7,[0,1,5]),(8,[0,1,5]),(9,[0,1,5]),(10,[4])] [] []
def fi80:FnI:=mkI Tryz.f80 62 [(0,[0,1,2,3,4]),(1,[0,13,14]),(2,[0,13,27]),(3,[10,11]),(4,[0,13,29,30]),(5,[0,13,29,30,31]),(6,[0,13,15,29,30]),(7,[0,13,29,30]),(8,[0,13,29,30]),(9,[10,11])] [] []
def fi82:FnI:=mkI Tryz.f82 98 [(0,[0]),(1,[0,3]),(2,[0,48]),(3,[2]),(4,[0,4]),(5,[0,4,57,58]),(6,[0,4,57,58,59]),(7,[0,4,5,57,58]),(8,[0,4,6,57,58]),(9,[0,6,57,58,94]),(10,[2]),(11,[0,4,57,58]),(12,[0,4,57,58]),(13,[2])] [] []
def fi83:FnI:=mkI Tryz.f83 9 [(0,[0]),(1,[2])] [] []
def fi84:FnI:=mkI Tryz.f84 7 [(0,[0]),(1,[2])] [] []
def fi87:FnI:=mkI Tryz.f87 32 [(0,[0,1,2,3,4]),(1,[10])] [] []
def fi88:FnI:=mkI Tryz.f88 87 [(0,[0,1,2,3,4,5]),(1,[0,1,2,3,4,5,15,16]),(2,[0,1,2,3,4,5,15,35]),(3,[12,13,14]),(4,[0,1,2,3,5,17,18,19,20]),(5,[2,3,5,17,18,19,20,21]),(6,[3,5,18,19,20,21,22]),(7,[5,19,20,21,22,23]),(8,[19,20,24]),(9,[12,13,14])] [] []
def fi89:FnI:=mkI Tryz.f89 67 [(0,[1]),(1,[1,3]),(2,[1,40]),(3,[2]),(4,[1,42,43,44]),(5,[1,42,43,44,45]),(6,[1,4,5,42,43,44]),(7,[1,42,43,44,65]),(8,[2]),(9,[1,42,43,44]),(10,[2])] [] []
def fi90:FnI:=mkI Tryz.f90 9 [(0,[0]),(1,[2])] [] []
def fi104:FnI:=mkI Tryz.f104 48 [(0,[1,2,3,4,5]),(1,[1,2,3,4,5,23]),(2,[10,11]),(3,[1,2,3,4,5,12,13]),(4,[1,2,3,4,5,12,13,24]),(5,[1,2,3,4,5,12,13,24,25]),(6,[1,2,3,4,5,12,13,14,24]),(7,[1,2,3,4,5,12,13,14,15,16,24]),(8,[1,2,3,4,5,12,13,14,15,24,41]),(9,[10,11]),(10,[1,2,3,4,5,12,13,14,24,43]),(11,[1,2,3,4,5,12,13,24]),(12,[1,2,3,4,5,12,13,24]),(13,[1,2,3,4,5,12,13,24]),(14,[10,11])] [] []
def fi105:FnI:=mkI Tryz.f105 53 [(0,[1,2,3,4]),(1,[1,2,4,10,11]),(2,[1,2,4,10,11,12,13,14]),(3,[10,11,12,13,14,15]),(4,[8,9])] [] []
def fi106:FnI:=mkI Tryz.f106 58 [(0,[1,2,3,4]),(1,[2,4,10]),(2,[2,11,12]),(3,[11,12,13,14]),(4,[8,9])] [] []
def fi107:FnI:=mkI Tryz.f107 14 [(0,[0,1]),(1,[0,1,11]),(2,[4,5,6]),(3,[4,5,6])] [] []
def fi113:FnI:=mkI Tryz.f113 19 [(0,[0,1]),(1,[0,1,7,8]),(2,[0,1,7,8,9]),(3,[0,1,5,7,8]),(4,[0,1,5,7,8,16]),(5,[4]),(6,[0,1,7,8]),(7,[4])] [] []
def fi114:FnI:=mkI Tryz.f114 9 [(0,[0,1]),(1,[4])] [] []
def fi115:FnI:=mkI Tryz.f115 10 [(0,[0]),(1,[2])] [] []
def fi117:FnI:=mkI Tryz.f117 12 [(0,[0,1]),(1,[1]),(2,[1,10]),(3,[4]),(4,[4])] [] []
def fi118:FnI:=mkI Tryz.f118 14 [(0,[1,2]),(1,[1,2,3]),(2,[1,2,3]),(3,[1,2,3]),(4,[2,3]),(5,[2])] [] []
def fi119:FnI:=mkI Tryz.f119 29 [(0,[2,3]),(1,[2,3,12]),(2,[4]),(3,[2,3,20]),(4,[4]),(5,[28]),(6,[4]),(7,[4])] [] []
def fi120:FnI:=mkI Tryz.f120 100 [(0,[0]),(1,[0,3]),(2,[0,3,33]),(3,[2]),(4,[0,3,4]),(5,[0,3,4,36]),(6,[0,3,4]),(7,[0,3,4,79]),(8,[2]),(9,[0,3,4,99]),(10,[2]),(11,[2])] [] []
def fi121:FnI:=mkI Tryz.f121 9 [(0,[0]),(1,[2])] [] []
def fi127:FnI:=mkI Tryz.f127 17 [(0,[0,1]),(1,[4])] [] []
def fi128:FnI:=mkI Tryz.f128 33 [(0,[0,1,2]),(1,[6])] [] []
def fi129:FnI:=mkI Tryz.f129 40 [(0,[0,1,2,3,4]),(1,[0,1,2,3,4,12]),(2,[0,1,2,3,4,12,13]),(3,[0,1,2,3,4,12,13,14]),(4,[0,1,2,3,4,12,13,14,18]),(5,[0,1,2,3,4,12,13,14]),(6,[0,1,2,3,4,12,13,14,15]),(7,[0,1,2,3,4,12,13,14,15,16]),(8,[0,1,2,3,4,12,13,14,15,16,34]),(9,[10,11]),(10,[0,1,2,3,4,12,13,14,15,36]),(11,[0,1,2,3,4,12,13,14]),(12,[0,1,2,3,4,12,13,14]),(13,[10,11])] [] []
def fi130:FnI:=mkI Tryz.f130 64 [(0,[0,1,2,3]),(1,[0,1,2,12,13]),(2,[0,1,2,12,13,14]),(3,[0,1,12,13,14,15]),(4,[0,1,12,13,14,15,16]),(5,[12,13,14,15,16,17]),(6,[12,13,14,15,16,17,18]),(7,[12,13,18,19]),(8,[8,9,10,11])] [] []
def fi131:FnI:=mkI Tryz.f131 17 [(0,[0,1]),(1,[0,1,14]),(2,[4,5,6]),(3,[4,5,6])] [] []
def fi132:FnI:=mkI Tryz.f132 6 [(0,[0]),(1,[2])] [] []
def fi133:FnI:=mkI Tryz.f133 6 [(0,[0]),(1,[2])] [] []
def fi134:FnI:=mkI Tryz.f134 15 [(0,[0,1,2]),(1,[6])] [] []
def fi139:FnI:=mkI Tryz.f139 40 [(0,[1,2,3,4,5]),(1,[10])] [] []
def fi140:FnI:=mkI Tryz.f140 36 [(0,[1,2,3,4,5,6]),(1,[1,2,3,4,5,6,25]),(2,[12,13]),(3,[12,13])] [] []
def fi141:FnI:=mkI Tryz.f141 17 [(0,[0]),(1,[0,3]),(2,[2]),(3,[0,9]),(4,[2]),(5,[2])] [] []
def fi142:FnI:=mkI Tryz.f142 23 [(0,[1,2]),(1,[4])] [] []
def fi143:FnI:=mkI Tryz.f143 32 [(0,[1,2,3]),(1,[2,3,7]),(2,[2,8]),(3,[6])] [] []
def fi144:FnI:=mkI Tryz.f144 42 [(0,[1,2,3]),(1,[1,7,8,9,10,11]),(2,[1,7,8,9,10,11,12]),(3,[1,7,8,9,10,11,12,24]),(4,[1,7,8,12]),(5,[6])] [] []
def fi146:FnI:=mkI Tryz.f146 19 [(0,[0,1]),(1,[0,1,7,8]),(2,[0,1,7,8,9]),(3,[0,1,5,7,8]),(4,[0,1,5,7,8,16]),(5,[4]),(6,[0,1,7,8]),(7,[4])] [] []
def fi148:FnI:=mkI Tryz.f148 7 [(0,[0]),(1,[2])] [] []
def fi149:FnI:=mkI Tryz.f149 58 [(0,[0,1,2,3,4,5]),(1,[0,1,2,3,4,13,14]),(2,[0,1,2,3,4,13,14,17]),(3,[0,1,3,4,13,14,17,18]),(4,[13,14,17,18,19]),(5,[12])] [] []
def fi150:FnI:=mkI Tryz.f150 56 [(0,[0,1,2,3]),(1,[0,2,10]),(2,[0,2,10,11]),(3,[2,11,12]),(4,[2,11,12,13]),(5,[11,12,13,14]),(6,[8,9])] [] []
def fi151:FnI:=mkI Tryz.f151 38 [(0,[0,1,2]),(1,[0,2,7]),(2,[2,8]),(3,[6])] [] []
def fi152:FnI:=mkI Tryz.f152 25 [(0,[0,1]),(1,[0,5]),(2,[4])] [] []
def fi153:FnI:=mkI Tryz.f153 6 [(0,[0]),(1,[2])] [] []
def fi154:FnI:=mkI Tryz.f154 6 [(0,[0]),(1,[2])] [] []
def fi155:FnI:=mkI Tryz.f155 11 [(0,[1,2]),(1,[4])] [] []
def fi156:FnI:=mkI Tryz.f156 5 [(0,[0]),(1,[2])] [] []
def fi157:FnI:=mkI Tryz.f157 52 [(0,[1,2,3,4,5,6]),(1,[1,2,3,4,6,13,14]),(2,[1,3,4,6,13,14,15,16]),(3,[13,14,15,16,17]),(4,[12])] [] []
def fi158:FnI:=mkI Tryz.f158 2 [(0,[]),(1,[0])] [] []
def fi159:FnI:=mkI Tryz.f159 6 [(0,[0]),(1,[2])] [] []
def fi160:FnI:=mkI Tryz.f160 47 [(0,[0]),(1,[3,4]),(2,[3,4,12]),(3,[3,4]),(4,[3,4,16]),(5,[3,4]),(6,[4,5]),(7,[4,5,6,7]),(8,[4,5,6,7,8]),(9,[4,5,6,7,8,25]),(10,[4,5,6,7,8]),(11,[4,5,6,7,8]),(12,[5,7,39]),(13,[2]),(14,[2])] [] []
def fi161:FnI:=mkI Tryz.f161 67 [(0,[1,2]),(1,[2,9,10]),(2,[2,9,10,11]),(3,[2,9,10,11,22]),(4,[4,5,6,7,8]),(5,[2,9,10,11,37]),(6,[4,5,6,7,8]),(7,[4,5,6,7,8])] [] []
def fi162:FnI:=mkI Tryz.f162 14 [(0,[0,1,2]),(1,[6])] [] []
def fi163:FnI:=mkI Tryz.f163 5 [(0,[0]),(1,[2])] [] []
def fi164:FnI:=mkI Tryz.f164 67 [(0,[0]),(1,[0,12]),(2,[2]),(3,[0,19]),(4,[2]),(5,[3]),(6,[3,26]),(7,[3]),(8,[3,4]),(9,[3,4,31]),(10,[3,4]),(11,[3,4,35]),(12,[3,4]),(13,[4,5]),(14,[4,5,6]),(15,[4,5,6,7]),(16,[4,5,6,7,8]),(17,[4,5,6,7,8,44]),(18,[4,5,6,7,8]),(19,[4,5,6,7,8]),(20,[5,7,59]),(21,[2]),(22,[2])] [] []
def fi165:FnI:=mkI Tryz.f165 12 [(0,[0,1]),(1,[4])] [] []
def fi166:FnI:=mkI Tryz.f166 12 [(0,[0,1]),(1,[4])] [] []
def fi168:FnI:=mkI Tryz.f168 7 [(0,[0]),(1,[2])] [] []
def fi169:FnI:=mkI Tryz.f169 17 [(0,[0]),(1,[0,3]),(2,[0,3,8]),(3,[0,3]),(4,[4]),(5,[4,13]),(6,[4]),(7,[2])] [] []
def fi170:FnI:=mkI Tryz.f170 16 [(0,[0]),(1,[3]),(2,[4]),(3,[4,14]),(4,[2]),(5,[2])] [] []
def fi171:FnI:=mkI Tryz.f171 7 [(0,[0,1]),(1,[3])] [] []
def fi172:FnI:=mkI Tryz.f172 35 [(0,[0,1,2]),(1,[1,7,8,9]),(2,[6])] [] []
def fi174:FnI:=mkI Tryz.f174 7 [(0,[0]),(1,[2]),(2,[2])] [] []
def fi175:FnI:=mkI Tryz.f175 7 [(0,[0]),(1,[2]),(2,[2])] [] []
def fi176:FnI:=mkI Tryz.f176 91 [(0,[0,1]),(1,[0,8]),(2,[0,8,9]),(3,[0,8,9,10]),(4,[0,8,9,10,36]),(5,[0,8,9,10]),(6,[0,8,9,10,11]),(7,[0,8,9,10,11,42]),(8,[0,8,10]),(9,[0,8,10,11]),(10,[0,8,10,11,47]),(11,[0,8,10,11]),(12,[0,8,10,11,12]),(13,[8,10,11,12,13]),(14,[8,10,11,12,13,68]),(15,[8,10,11,12,13]),(16,[8,10,11,12,13,72]),(17,[8,10,11,12,13]),(18,[8,10,11,12,14]),(19,[8,10,11,12,14,79]),(20,[4,5,6,7]),(21,[4,5,6,7])] [] []
def fi178:FnI:=mkI Tryz.f178 26 [(0,[0]),(1,[0,7]),(2,[2]),(3,[3]),(4,[3,4]),(5,[3,4,17]),(6,[3]),(7,[2])] [] []
def fi180:FnI:=mkI Tryz.f180 38 [(0,[0]),(1,[0,16]),(2,[2]),(3,[0,19]),(4,[3,4]),(5,[3,27]),(6,[3]),(7,[2]),(8,[5]),(9,[2])] [] []
def fi181:FnI:=mkI Tryz.f181 16 [(0,[0]),(1,[3]),(2,[4]),(3,[4,14]),(4,[2]),(5,[2])] [] []
def fi182:FnI:=mkI Tryz.f182 13 [(0,[0,1]),(1,[4])] [] []
def fi183:FnI:=mkI Tryz.f183 6 [(0,[0]),(1,[2])] [] []
def fi184:FnI:=mkI Tryz.f184 15 [(0,[0,1]),(1,[0,1,6]),(2,[0]),(3,[0,10]),(4,[0]),(5,[4])] [] []
def fi185:FnI:=mkI Tryz.f185 11 [(0,[0]),(1,[0,2]),(2,[2,3])] [] []
def fnTab:List (Nat×FnI):=[(13,fi13),(18,fi18),(19,fi19),(23,fi23),(24,fi24),(27,fi27),(32,fi32),(34,fi34),(35,fi35),(36,fi36),(37,fi37),(38,fi38),(39,fi39),(40,fi40),(45,fi45),(47,fi47),(50,fi50),(51,fi51),(52,fi52),(56,fi56),(58,fi58),(59,fi59),(60,fi60),(63,fi63),(64,fi64),(65,fi65),(68,fi68),(70,fi70),(71,fi71),(72,fi72),(73,fi73),(74,fi74),(75,fi75),(76,fi76),(77,fi77),(78,fi78),(79,fi79),(80,fi80),(82,fi82),(83,fi83),(84,fi84),(87,fi87),(88,fi88),(89,fi89),(90,fi90),(104,fi104),(105,fi105),(106,fi106),(107,fi107),(113,fi113),(114,fi114),(115,fi115),(117,fi117),(118,fi118),(119,fi119),(120,fi120),(121,fi121),(127,fi127),(128,fi128),(129,fi129),(130,fi130),(131,fi131),(132,fi132),(133,fi133),(134,fi134),(139,fi139),(140,fi140),(141,fi141),(142,fi142),(143,fi143),(144,fi144),(146,fi146),(148,fi148),(149,fi149),(150,fi150),(151,fi151),(152,fi152),(153,fi153),(154,fi154),(155,fi155),(156,fi156),(157,fi157),(158,fi158),(159,fi159),(160,fi160),(161,fi161),(162,fi162),(163,fi163),(164,fi164),(165,fi165),(166,fi166),(168,fi168),(169,fi169),(170,fi170),(171,fi171),(172,fi172),(174,fi174),(175,fi175),(176,fi176),(178,fi178),(180,fi180),(181,fi181),(182,fi182),(183,fi183),(184,fi184),(185,fi185)]
theorem fi13_ok:FnOk Tryz.prog 13 fi13:=mkI_ok Tryz.func13 (by kernel_rfl)
theorem fi18_ok:FnOk Tryz.prog 18 fi18:=mkI_ok Tryz.func18 (by kernel_rfl)
theorem fi19_ok:FnOk Tryz.prog 19 fi19:=mkI_ok Tryz.func19 (by kernel_rfl)
theorem fi23_ok:FnOk Tryz.prog 23 fi23:=mkI_ok Tryz.func23 (by kernel_rfl)
theorem fi24_ok:FnOk Tryz.prog 24 fi24:=mkI_ok Tryz.func24 (by kernel_rfl)
theorem fi27_ok:FnOk Tryz.prog 27 fi27:=mkI_ok Tryz.func27 (by kernel_rfl)
theorem fi32_ok:FnOk Tryz.prog 32 fi32:=mkI_ok Tryz.func32 (by kernel_rfl)
theorem fi34_ok:FnOk Tryz.prog 34 fi34:=mkI_ok Tryz.func34 (by kernel_rfl)
theorem fi35_ok:FnOk Tryz.prog 35 fi35:=mkI_ok Tryz.func35 (by kernel_rfl)
theorem fi36_ok:FnOk Tryz.prog 36 fi36:=mkI_ok Tryz.func36 (by kernel_rfl)
theorem fi37_ok:FnOk Tryz.prog 37 fi37:=mkI_ok Tryz.func37 (by kernel_rfl)
theorem fi38_ok:FnOk Tryz.prog 38 fi38:=mkI_ok Tryz.func38 (by kernel_rfl)
theorem fi39_ok:FnOk Tryz.prog 39 fi39:=mkI_ok Tryz.func39 (by kernel_rfl)
theorem fi40_ok:FnOk Tryz.prog 40 fi40:=mkI_ok Tryz.func40 (by kernel_rfl)
theorem fi45_ok:FnOk Tryz.prog 45 fi45:=mkI_ok Tryz.func45 (by kernel_rfl)
theorem fi47_ok:FnOk Tryz.prog 47 fi47:=mkI_ok Tryz.func47 (by kernel_rfl)
theorem fi50_ok:FnOk Tryz.prog 50 fi50:=mkI_ok Tryz.func50 (by kernel_rfl)
theorem fi51_ok:FnOk Tryz.prog 51 fi51:=mkI_ok Tryz.func51 (by kernel_rfl)
theorem fi52_ok:FnOk Tryz.prog 52 fi52:=mkI_ok Tryz.func52 (by kernel_rfl)
theorem fi56_ok:FnOk Tryz.prog 56 fi56:=mkI_ok Tryz.func56 (by kernel_rfl)
theorem fi58_ok:FnOk Tryz.prog 58 fi58:=mkI_ok Tryz.func58 (by kernel_rfl)
theorem fi59_ok:FnOk Tryz.prog 59 fi59:=mkI_ok Tryz.func59 (by kernel_rfl)
theorem fi60_ok:FnOk Tryz.prog 60 fi60:=mkI_ok Tryz.func60 (by kernel_rfl)
theorem fi63_ok:FnOk Tryz.prog 63 fi63:=mkI_ok Tryz.func63 (by kernel_rfl)
theorem fi64_ok:FnOk Tryz.prog 64 fi64:=mkI_ok Tryz.func64 (by kernel_rfl)
theorem fi65_ok:FnOk Tryz.prog 65 fi65:=mkI_ok Tryz.func65 (by kernel_rfl)
theorem fi68_ok:FnOk Tryz.prog 68 fi68:=mkI_ok Tryz.func68 (by kernel_rfl)
theorem fi70_ok:FnOk Tryz.prog 70 fi70:=mkI_ok Tryz.func70 (by kernel_rfl)
theorem fi71_ok:FnOk Tryz.prog 71 fi71:=mkI_ok Tryz.func71 (by kernel_rfl)
theorem fi72_ok:FnOk Tryz.prog 72 fi72:=mkI_ok Tryz.func72 (by kernel_rfl)
theorem fi73_ok:FnOk Tryz.prog 73 fi73:=mkI_ok Tryz.func73 (by kernel_rfl)
theorem fi74_ok:FnOk Tryz.prog 74 fi74:=mkI_ok Tryz.func74 (by kernel_rfl)
theorem fi75_ok:FnOk Tryz.prog 75 fi75:=mkI_ok Tryz.func75 (by kernel_rfl)
theorem fi76_ok:FnOk Tryz.prog 76 fi76:=mkI_ok Tryz.func76 (by kernel_rfl)
theorem fi77_ok:FnOk Tryz.prog 77 fi77:=mkI_ok Tryz.func77 (by kernel_rfl)
theorem fi78_ok:FnOk Tryz.prog 78 fi78:=mkI_ok Tryz.func78 (by kernel_rfl)
theorem fi79_ok:FnOk Tryz.prog 79 fi79:=mkI_ok Tryz.func79 (by kernel_rfl)
theorem fi80_ok:FnOk Tryz.prog 80 fi80:=mkI_ok Tryz.func80 (by kernel_rfl)
theorem fi82_ok:FnOk Tryz.prog 82 fi82:=mkI_ok Tryz.func82 (by kernel_rfl)
theorem fi83_ok:FnOk Tryz.prog 83 fi83:=mkI_ok Tryz.func83 (by kernel_rfl)
theorem fi84_ok:FnOk Tryz.prog 84 fi84:=mkI_ok Tryz.func84 (by kernel_rfl)
theorem fi87_ok:FnOk Tryz.prog 87 fi87:=mkI_ok Tryz.func87 (by kernel_rfl)
theorem fi88_ok:FnOk Tryz.prog 88 fi88:=mkI_ok Tryz.func88 (by kernel_rfl)
theorem fi89_ok:FnOk Tryz.prog 89 fi89:=mkI_ok Tryz.func89 (by kernel_rfl)
theorem fi90_ok:FnOk Tryz.prog 90 fi90:=mkI_ok Tryz.func90 (by kernel_rfl)
theorem fi104_ok:FnOk Tryz.prog 104 fi104:=mkI_ok Tryz.func104 (by kernel_rfl)
theorem fi105_ok:FnOk Tryz.prog 105 fi105:=mkI_ok Tryz.func105 (by kernel_rfl)
theorem fi106_ok:FnOk Tryz.prog 106 fi106:=mkI_ok Tryz.func106 (by kernel_rfl)
theorem fi107_ok:FnOk Tryz.prog 107 fi107:=mkI_ok Tryz.func107 (by kernel_rfl)
theorem fi113_ok:FnOk Tryz.prog 113 fi113:=mkI_ok Tryz.func113 (by kernel_rfl)
theorem fi114_ok:FnOk Tryz.prog 114 fi114:=mkI_ok Tryz.func114 (by kernel_rfl)
theorem fi115_ok:FnOk Tryz.prog 115 fi115:=mkI_ok Tryz.func115 (by kernel_rfl)
theorem fi117_ok:FnOk Tryz.prog 117 fi117:=mkI_ok Tryz.func117 (by kernel_rfl)
theorem fi118_ok:FnOk Tryz.prog 118 fi118:=mkI_ok Tryz.func118 (by kernel_rfl)
theorem fi119_ok:FnOk Tryz.prog 119 fi119:=mkI_ok Tryz.func119 (by kernel_rfl)
theorem fi120_ok:FnOk Tryz.prog 120 fi120:=mkI_ok Tryz.func120 (by kernel_rfl)
theorem fi121_ok:FnOk Tryz.prog 121 fi121:=mkI_ok Tryz.func121 (by kernel_rfl)
theorem fi127_ok:FnOk Tryz.prog 127 fi127:=mkI_ok Tryz.func127 (by kernel_rfl)
theorem fi128_ok:FnOk Tryz.prog 128 fi128:=mkI_ok Tryz.func128 (by kernel_rfl)
theorem fi129_ok:FnOk Tryz.prog 129 fi129:=mkI_ok Tryz.func129 (by kernel_rfl)
theorem fi130_ok:FnOk Tryz.prog 130 fi130:=mkI_ok Tryz.func130 (by kernel_rfl)
theorem fi131_ok:FnOk Tryz.prog 131 fi131:=mkI_ok Tryz.func131 (by kernel_rfl)
theorem fi132_ok:FnOk Tryz.prog 132 fi132:=mkI_ok Tryz.func132 (by kernel_rfl)
theorem fi133_ok:FnOk Tryz.prog 133 fi133:=mkI_ok Tryz.func133 (by kernel_rfl)
theorem fi134_ok:FnOk Tryz.prog 134 fi134:=mkI_ok Tryz.func134 (by kernel_rfl)
theorem fi139_ok:FnOk Tryz.prog 139 fi139:=mkI_ok Tryz.func139 (by kernel_rfl)
theorem fi140_ok:FnOk Tryz.prog 140 fi140:=mkI_ok Tryz.func140 (by kernel_rfl)
theorem fi141_ok:FnOk Tryz.prog 141 fi141:=mkI_ok Tryz.func141 (by kernel_rfl)
theorem fi142_ok:FnOk Tryz.prog 142 fi142:=mkI_ok Tryz.func142 (by kernel_rfl)
theorem fi143_ok:FnOk Tryz.prog 143 fi143:=mkI_ok Tryz.func143 (by kernel_rfl)
theorem fi144_ok:FnOk Tryz.prog 144 fi144:=mkI_ok Tryz.func144 (by kernel_rfl)
theorem fi146_ok:FnOk Tryz.prog 146 fi146:=mkI_ok Tryz.func146 (by kernel_rfl)
theorem fi148_ok:FnOk Tryz.prog 148 fi148:=mkI_ok Tryz.func148 (by kernel_rfl)
theorem fi149_ok:FnOk Tryz.prog 149 fi149:=mkI_ok Tryz.func149 (by kernel_rfl)
theorem fi150_ok:FnOk Tryz.prog 150 fi150:=mkI_ok Tryz.func150 (by kernel_rfl)
theorem fi151_ok:FnOk Tryz.prog 151 fi151:=mkI_ok Tryz.func151 (by kernel_rfl)
theorem fi152_ok:FnOk Tryz.prog 152 fi152:=mkI_ok Tryz.func152 (by kernel_rfl)
theorem fi153_ok:FnOk Tryz.prog 153 fi153:=mkI_ok Tryz.func153 (by kernel_rfl)
theorem fi154_ok:FnOk Tryz.prog 154 fi154:=mkI_ok Tryz.func154 (by kernel_rfl)
theorem fi155_ok:FnOk Tryz.prog 155 fi155:=mkI_ok Tryz.func155 (by kernel_rfl)
theorem fi156_ok:FnOk Tryz.prog 156 fi156:=mkI_ok Tryz.func156 (by kernel_rfl)
theorem fi157_ok:FnOk Tryz.prog 157 fi157:=mkI_ok Tryz.func157 (by kernel_rfl)
theorem fi158_ok:FnOk Tryz.prog 158 fi158:=mkI_ok Tryz.func158 (by kernel_rfl)
theorem fi159_ok:FnOk Tryz.prog 159 fi159:=mkI_ok Tryz.func159 (by kernel_rfl)
theorem fi160_ok:FnOk Tryz.prog 160 fi160:=mkI_ok Tryz.func160 (by kernel_rfl)
theorem fi161_ok:FnOk Tryz.prog 161 fi161:=mkI_ok Tryz.func161 (by kernel_rfl)
theorem fi162_ok:FnOk Tryz.prog 162 fi162:=mkI_ok Tryz.func162 (by kernel_rfl)
theorem fi163_ok:FnOk Tryz.prog 163 fi163:=mkI_ok Tryz.func163 (by kernel_rfl)
theorem fi164_ok:FnOk Tryz.prog 164 fi164:=mkI_ok Tryz.func164 (by kernel_rfl)
theorem fi165_ok:FnOk Tryz.prog 165 fi165:=mkI_ok Tryz.func165 (by kernel_rfl)
theorem fi166_ok:FnOk Tryz.prog 166 fi166:=mkI_ok Tryz.func166 (by kernel_rfl)
theorem fi168_ok:FnOk Tryz.prog 168 fi168:=mkI_ok Tryz.func168 (by kernel_rfl)
theorem fi169_ok:FnOk Tryz.prog 169 fi169:=mkI_ok Tryz.func169 (by kernel_rfl)
theorem fi170_ok:FnOk Tryz.prog 170 fi170:=mkI_ok Tryz.func170 (by kernel_rfl)
theorem fi171_ok:FnOk Tryz.prog 171 fi171:=mkI_ok Tryz.func171 (by kernel_rfl)
theorem fi172_ok:FnOk Tryz.prog 172 fi172:=mkI_ok Tryz.func172 (by kernel_rfl)
theorem fi174_ok:FnOk Tryz.prog 174 fi174:=mkI_ok Tryz.func174 (by kernel_rfl)
theorem fi175_ok:FnOk Tryz.prog 175 fi175:=mkI_ok Tryz.func175 (by kernel_rfl)
theorem fi176_ok:FnOk Tryz.prog 176 fi176:=mkI_ok Tryz.func176 (by kernel_rfl)
theorem fi178_ok:FnOk Tryz.prog 178 fi178:=mkI_ok Tryz.func178 (by kernel_rfl)
theorem fi180_ok:FnOk Tryz.prog 180 fi180:=mkI_ok Tryz.func180 (by kernel_rfl)
theorem fi181_ok:FnOk Tryz.prog 181 fi181:=mkI_ok Tryz.func181 (by kernel_rfl)
theorem fi182_ok:FnOk Tryz.prog 182 fi182:=mkI_ok Tryz.func182 (by kernel_rfl)
theorem fi183_ok:FnOk Tryz.prog 183 fi183:=mkI_ok Tryz.func183 (by kernel_rfl)
theorem fi184_ok:FnOk Tryz.prog 184 fi184:=mkI_ok Tryz.func184 (by kernel_rfl)
theorem fi185_ok:FnOk Tryz.prog 185 fi185:=mkI_ok Tryz.func185 (by kernel_rfl)
theorem fnTab_ok:FnL Tryz.prog fnTab:=FnL.cons fi13_ok (FnL.cons fi18_ok (FnL.cons fi19_ok (FnL.cons fi23_ok (FnL.cons fi24_ok (FnL.cons fi27_ok (FnL.cons fi32_ok (FnL.cons fi34_ok (FnL.cons fi35_ok (FnL.cons fi36_ok (FnL.cons fi37_ok (FnL.cons fi38_ok (FnL.cons fi39_ok (FnL.cons fi40_ok (FnL.cons fi45_ok (FnL.cons fi47_ok (FnL.cons fi50_ok (FnL.cons fi51_ok (FnL.cons fi52_ok (FnL.cons fi56_ok (FnL.cons fi58_ok (FnL.cons fi59_ok (FnL.cons fi60_ok (FnL.cons fi63_ok (FnL.cons fi64_ok (FnL.cons fi65_ok (FnL.cons fi68_ok (FnL.cons fi70_ok (FnL.cons fi71_ok (FnL.cons fi72_ok (FnL.cons fi73_ok (FnL.cons fi74_ok (FnL.cons fi75_ok (FnL.cons fi76_ok (FnL.cons fi77_ok (FnL.cons fi78_ok (FnL.cons fi79_ok (FnL.cons fi80_ok (FnL.cons fi82_ok (FnL.cons fi83_ok (FnL.cons fi84_ok (FnL.cons fi87_ok (FnL.cons fi88_ok (FnL.cons fi89_ok (FnL.cons fi90_ok (FnL.cons fi104_ok (FnL.cons fi105_ok (FnL.cons fi106_ok (FnL.cons fi107_ok (FnL.cons fi113_ok (FnL.cons fi114_ok (FnL.cons fi115_ok (FnL.cons fi117_ok (FnL.cons fi118_ok (FnL.cons fi119_ok (FnL.cons fi120_ok (FnL.cons fi121_ok (FnL.cons fi127_ok (FnL.cons fi128_ok (FnL.cons fi129_ok (FnL.cons fi130_ok (FnL.cons fi131_ok (FnL.cons fi132_ok (FnL.cons fi133_ok (FnL.cons fi134_ok (FnL.cons fi139_ok (FnL.cons fi140_ok (FnL.cons fi141_ok (FnL.cons fi142_ok (FnL.cons fi143_ok (FnL.cons fi144_ok (FnL.cons fi146_ok (FnL.cons fi148_ok (FnL.cons fi149_ok (FnL.cons fi150_ok (FnL.cons fi151_ok (FnL.cons fi152_ok (FnL.cons fi153_ok (FnL.cons fi154_ok (FnL.cons fi155_ok (FnL.cons fi156_ok (FnL.cons fi157_ok (FnL.cons fi158_ok (FnL.cons fi159_ok (FnL.cons fi160_ok (FnL.cons fi161_ok (FnL.cons fi162_ok (FnL.cons fi163_ok (FnL.cons fi164_ok (FnL.cons fi165_ok (FnL.cons fi166_ok (FnL.cons fi168_ok (FnL.cons fi169_ok (FnL.cons fi170_ok (FnL.cons fi171_ok (FnL.cons fi172_ok (FnL.cons fi174_ok (FnL.cons fi175_ok (FnL.cons fi176_ok (FnL.cons fi178_ok (FnL.cons fi180_ok (FnL.cons fi181_ok (FnL.cons fi182_ok (FnL.cons fi183_ok (FnL.cons fi184_ok (FnL.cons fi185_ok (FnL.nil))))))))))))))))))))))))))))))))))))))))))))))))))))))))))))))))))))))))))))))))))))))))))))))))))))))))))
theorem mixed:Tryz.prog.follows .mixedOrders=true:=by kernel_rfl
end
end Go.Proofs.YtijjhfailnmeoaaGreat
