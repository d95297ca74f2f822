import Derived.Test.YtijjhfailnmeoaaGreatChecked
import Derived.Test.YtijjhfailnmeoaaGreatForcesSharedOfAllP
import Derived.KernelRfl
set_option linter.unusedVariables false
set_option linter.unusedSimpArgs false
set_option linter.unusedSectionVars false
namespace Go.Proofs.YtijjhfailnmeoaaGreat
open Go Go.Rf
noncomputable section
def tyTab:List (Nat×TI):=[
 (2,{ desc:=.int .i64,agg:=false,size:=1,bytes:=8,zero:=[.int .i64 0],row:=.il .i64,cts:=[2] }),
 (3,{ desc:=.int .i64,agg:=false,size:=1,bytes:=8,zero:=[.int .i64 0],row:=.il .i64,cts:=[3] }),
 (4,{ desc:=.bool,agg:=false,size:=1,bytes:=1,zero:=[.bool false],row:=.bl,cts:=[4] }),
 (24,{ desc:=.sl 28,agg:=false,size:=1,bytes:=24,zero:=[.nilsl],row:=.gen,cts:=[24] }),
 (26,{ desc:=.struct [(0,24),(1,24),(2,24)],agg:=true,size:=3,bytes:=72,zero:=[.nilsl,.nilsl,.nilsl],row:=.gen,cts:=[24,24,24] }),
 (27,{ desc:=.sl 39,agg:=false,size:=1,bytes:=24,zero:=[.nilsl],row:=.gen,cts:=[27] }),
 (28,{ desc:=.flt .f32,agg:=false,size:=1,bytes:=4,zero:=[.flt .f32 0],row:=.fl .f32,cts:=[28] }),
 (30,{ desc:=.struct [(0,26),(3,27),(4,2),(5,28),(6,28)],agg:=true,size:=7,bytes:=112,zero:=[.nilsl,.nilsl,.nilsl,.nilsl,.int .i64 0,.flt .f32 0,.flt .f32 0],row:=.gen,cts:=[24,24,24,27,2,28,28] }),
 (37,{ desc:=.flt .f64,agg:=false,size:=1,bytes:=8,zero:=[.flt .f64 0],row:=.fl .f64,cts:=[37] }),
 (39,{ desc:=.struct [(0,28),(1,28),(2,28)],agg:=true,size:=3,bytes:=12,zero:=[.flt .f32 0,.flt .f32 0,.flt .f32 0],row:=.fl .f32,cts:=[28,28,28] }),
 (70,{ desc:=.ptr 30,agg:=false,size:=1,bytes:=8,zero:=[.any],row:=.gen,cts:=[70] }),
 (73,{ desc:=.sl 4,agg:=false,size:=1,bytes:=24,zero:=[.nilsl],row:=.gen,cts:=[73] }),
 (75,{ desc:=.struct [],agg:=true,size:=0,bytes:=0,zero:=[],row:=.gen,cts:=[] }),
 (76,{ desc:=.struct [],agg:=true,size:=0,bytes:=0,zero:=[],row:=.gen,cts:=[] }),
 (77,{ desc:=.struct [],agg:=true,size:=0,bytes:=0,zero:=[],row:=.gen,cts:=[] }),
 (78,{ desc:=.int .u64,agg:=false,size:=1,bytes:=8,zero:=[.int .u64 0],row:=.il .u64,cts:=[78] }),
 (80,{ desc:=.struct [(0,76),(0,77),(0,78)],agg:=true,size:=1,bytes:=8,zero:=[.int .u64 0],row:=.il .u64,cts:=[78] }),
 (81,{ desc:=.int .u32,agg:=false,size:=1,bytes:=4,zero:=[.int .u32 0],row:=.il .u32,cts:=[81] }),
 (83,{ desc:=.struct [(0,75),(0,80),(1,81)],agg:=true,size:=2,bytes:=16,zero:=[.int .u64 0,.int .u32 0],row:=.gen,cts:=[78,81] }),
 (93,{ desc:=.other,agg:=false,size:=1,bytes:=8,zero:=[.any],row:=.gen,cts:=[93] }),
 (121,{ desc:=.int .u64,agg:=false,size:=1,bytes:=8,zero:=[.int .u64 0],row:=.il .u64,cts:=[121] }),
 (141,{ desc:=.ptr 26,agg:=false,size:=1,bytes:=8,zero:=[.any],row:=.gen,cts:=[141] })]
theorem tyTab_ok:chkTab Tryz.prog tyTab=true:=by kernel_rfl
def fi4:FnI:={ code:=(Tryz.f4.body.getD .skip),nt:=105,res:=[.tmp 14],live:=[(0,[1,2,3,4,5,6,7]),(1,[1,2,3,4,5,6,7,15,16,17]),(2,[1,2,3,4,5,6,7,15,16,17,18,19,20]),(3,[5,6,15,16,17,18,19,20,21,22,23]),(4,[5,6,15,16,17,18,19,20,73]),(5,[14]),(6,[15,16,17,18,19,20,87]),(7,[14]),(8,[14])],nl:=[],rn:=[] }
def fi19:FnI:={ code:=(Tryz.f19.body.getD .skip),nt:=50,res:=[.tmp 12,.tmp 13,.tmp 14],live:=[(0,[6,7,8,9,10,11]),(1,[6,7,8,9,10,11,28]),(2,[12,13,14]),(3,[6,7,8,9,10,11,15]),(4,[6,7,8,9,10,11,15,16,17,18]),(5,[6,7,8,9,10,11,15,16,17,18,19]),(6,[6,7,8,9,10,11,15,16,17,18,19,38,39]),(7,[6,7,8,9,10,11,15,16,17,18,19,38,39,40]),(8,[6,7,8,9,10,11,15,16,17,18,19,20,38,39]),(9,[6,7,8,9,10,11,15,16,17,18,19,20,38,39]),(10,[6,7,8,9,10,11,15,16,17,18,19,38,39]),(11,[6,7,8,9,10,11,15,16,17,18,19,38,39]),(12,[16,17,18]),(13,[16,17,47]),(14,[12,13,14]),(15,[12,13,14])],nl:=[],rn:=[(.fl .f32,1),(.fl .f32,1),(.gen,1)] }
def fi30:FnI:={ code:=(Tryz.f30.body.getD .skip),nt:=26,res:=[.tmp 12,.tmp 13,.tmp 14],live:=[(0,[1,2,3,4,5,6]),(1,[1,2,3,4,6,17]),(2,[12,13,14]),(3,[12,13,14])],nl:=[],rn:=[(.fl .f32,1),(.fl .f32,1),(.gen,1)] }
def fi31:FnI:={ code:=(Tryz.f31.body.getD .skip),nt:=27,res:=[.tmp 4],live:=[(0,[0,1]),(1,[0,1,10]),(2,[4]),(3,[0,1,5]),(4,[0,1,5,14]),(5,[0,1,5]),(6,[0,1,5,26]),(7,[4]),(8,[4])],nl:=[],rn:=[] }
def fi50:FnI:={ code:=(Tryz.f50.body.getD .skip),nt:=68,res:=[.tmp 10,.tmp 11,.tmp 12],live:=[(0,[0,1,2,3,4]),(1,[0,1,2,3,4,26]),(2,[10,11,12]),(3,[0,1,2,3,4,13]),(4,[0,1,2,3,4,13,14]),(5,[0,1,2,3,4,13,14,15]),(6,[0,1,2,3,4,13,14,15,35]),(7,[0,1,2,3,4,13,14,15]),(8,[0,1,2,3,4,13,14,15,44]),(9,[10,11,12]),(10,[0,1,2,3,4,13,14,15,16,17,18]),(11,[0,1,2,3,4,13,14,15,16,17,57]),(12,[10,11,12]),(13,[0,1,2,3,4,13,14,15,17]),(14,[0,1,2,3,4,13,14,15]),(15,[10,11,12])],nl:=[(6,(.fl .f32,1))],rn:=[(.fl .f32,1),(.fl .f32,1),(.gen,1)] }
def fi51:FnI:={ code:=(Tryz.f51.body.getD .skip),nt:=77,res:=[.tmp 2],live:=[(0,[1]),(1,[1,3]),(2,[1,39]),(3,[2]),(4,[1,4]),(5,[1,4,43,44,45]),(6,[1,4,43,44,45,46]),(7,[1,4,6,43,44,45]),(8,[1,6,43,44,45,73]),(9,[2]),(10,[1,4,43,44,45]),(11,[1,4,43,44,45]),(12,[2])],nl:=[],rn:=[] }
def fi52:FnI:={ code:=(Tryz.f52.body.getD .skip),nt:=15,res:=[.tmp 6],live:=[(0,[0,1,2]),(1,[6])],nl:=[],rn:=[] }
def fi56:FnI:={ code:=(Tryz.f56.body.getD .skip),nt:=99,res:=[.tmp 12,.tmp 13,.tmp 14],live:=[(0,[1,2,3,4,5,6]),(1,[1,2,3,4,5,6,15,16]),(2,[1,2,3,4,5,6,15,40]),(3,[12,13,14]),(4,[1,2,3,4,5,6,15,17,18]),(5,[1,2,3,5,6,17,18,19,20]),(6,[1,5,6,19,20,21,22]),(7,[19,20,23]),(8,[12,13,14])],nl:=[],rn:=[] }
def fi58:FnI:={ code:=(Tryz.f58.body.getD .skip),nt:=9,res:=[.tmp 4],live:=[(0,[0,1]),(1,[4])],nl:=[],rn:=[] }
def fi59:FnI:={ code:=(Tryz.f59.body.getD .skip),nt:=8,res:=[.tmp 2,.tmp 3],live:=[(0,[0]),(1,[0,6]),(2,[2,3]),(3,[2,3])],nl:=[],rn:=[] }
def fi64:FnI:={ code:=(Tryz.f64.body.getD .skip),nt:=6,res:=[.tmp 2],live:=[(0,[0]),(1,[2])],nl:=[],rn:=[] }
def fi65:FnI:={ code:=(Tryz.f65.body.getD .skip),nt:=7,res:=[.tmp 2],live:=[(0,[0]),(1,[2])],nl:=[],rn:=[] }
def fi68:FnI:={ code:=(Tryz.f68.body.getD .skip),nt:=15,res:=[.tmp 6],live:=[(0,[0,1,2]),(1,[6])],nl:=[],rn:=[] }
def fi69:FnI:={ code:=(Tryz.f69.body.getD .skip),nt:=29,res:=[.tmp 4],live:=[(0,[0,1]),(1,[4])],nl:=[],rn:=[] }
def fi82:FnI:={ code:=(Tryz.f82.body.getD .skip),nt:=98,res:=[.tmp 2],live:=[(0,[0]),(1,[0,3]),(2,[0,48]),(3,[2]),(4,[0,4]),(5,[0,4,57,58]),(6,[0,4,57,58,59]),(7,[0,4,5,57,58]),(8,[0,4,6,57,58]),(9,[0,6,57,58,94]),(10,[2]),(11,[0,4,57,58]),(12,[0,4,57,58]),(13,[2])],nl:=[],rn:=[] }
def fi83:FnI:={ code:=(Tryz.f83.body.getD .skip),nt:=9,res:=[.tmp 2],live:=[(0,[0]),(1,[2])],nl:=[],rn:=[] }
def fi84:FnI:={ code:=(Tryz.f84.body.getD .skip),nt:=7,res:=[.tmp 2],live:=[(0,[0]),(1,[2])],nl:=[],rn:=[] }
def fi87:FnI:={ code:=(Tryz.f87.body.getD .skip),nt:=32,res:=[.tmp 10],live:=[(0,[0,1,2,3,4]),(1,[10])],nl:=[],rn:=[] }
def fi88:FnI:={ code:=(Tryz.f88.body.getD .skip),nt:=87,res:=[.tmp 12,.tmp 13,.tmp 14],live:=[(0,[0,1,2,3,4,5]),(1,[0,1,2,3,4,5,15,16]),(2,[0,1,2,3,4,5,15,35]),(3,[12,13,14]),(4,[0,1,2,3,5,17,18,19,20]),(5,[2,3,5,17,18,19,20,21]),(6,[3,5,18,19,20,21,22]),(7,[5,19,20,21,22,23]),(8,[19,20,24]),(9,[12,13,14])],nl:=[],rn:=[] }
def fi89:FnI:={ code:=(Tryz.f89.body.getD .skip),nt:=67,res:=[.tmp 2],live:=[(0,[1]),(1,[1,3]),(2,[1,40]),(3,[2]),(4,[1,42,43,44]),(5,[1,42,43,44,45]),(6,[1,4,5,42,43,44]),(7,[1,42,43,44,65]),(8,[2]),(9,[1,42,43,44]),(10,[2])],nl:=[],rn:=[] }
def fi90:FnI:={ code:=(Tryz.f90.body.getD .skip),nt:=9,res:=[.tmp 2],live:=[(0,[0]),(1,[2])],nl:=[],rn:=[] }
def fi104:FnI:={ code:=(Tryz.f104.body.getD .skip),nt:=48,res:=[.tmp 10,.tmp 11],live:=[(0,[1,2,3,4,5]),(1,[1,2,3,4,5,23]),(2,[10,11]),(3,[1,2,3,4,5,12,13]),(4,[1,2,3,4,5,12,13,24]),(5,[1,2,3,4,5,12,13,24,25]),(6,[1,2,3,4,5,12,13,14,24]),(7,[1,2,3,4,5,12,13,14,15,16,24]),(8,[1,2,3,4,5,12,13,14,15,24,41]),(9,[10,11]),(10,[1,2,3,4,5,12,13,14,24,43]),(11,[1,2,3,4,5,12,13,24]),(12,[1,2,3,4,5,12,13,24]),(13,[1,2,3,4,5,12,13,24]),(14,[10,11])],nl:=[],rn:=[] }
def fi105:FnI:={ code:=(Tryz.f105.body.getD .skip),nt:=53,res:=[.tmp 8,.tmp 9],live:=[(0,[1,2,3,4]),(1,[1,2,4,10,11]),(2,[1,2,4,10,11,12,13,14]),(3,[10,11,12,13,14,15]),(4,[8,9])],nl:=[],rn:=[] }
def fi106:FnI:={ code:=(Tryz.f106.body.getD .skip),nt:=58,res:=[.tmp 8,.tmp 9],live:=[(0,[1,2,3,4]),(1,[2,4,10]),(2,[2,11,12]),(3,[11,12,13,14]),(4,[8,9])],nl:=[],rn:=[] }
def fi107:FnI:={ code:=(Tryz.f107.body.getD .skip),nt:=14,res:=[.tmp 4,.tmp 5,.tmp 6],live:=[(0,[0,1]),(1,[0,1,11]),(2,[4,5,6]),(3,[4,5,6])],nl:=[],rn:=[] }
def fi113:FnI:={ code:=(Tryz.f113.body.getD .skip),nt:=19,res:=[.tmp 4],live:=[(0,[0,1]),(1,[0,1,7,8]),(2,[0,1,7,8,9]),(3,[0,1,5,7,8]),(4,[0,1,5,7,8,16]),(5,[4]),(6,[0,1,7,8]),(7,[4])],nl:=[],rn:=[] }
def fi114:FnI:={ code:=(Tryz.f114.body.getD .skip),nt:=9,res:=[.tmp 4],live:=[(0,[0,1]),(1,[4])],nl:=[],rn:=[] }
def fi115:FnI:={ code:=(Tryz.f115.body.getD .skip),nt:=10,res:=[.tmp 2],live:=[(0,[0]),(1,[2])],nl:=[],rn:=[] }
def fi120:FnI:={ code:=(Tryz.f120.body.getD .skip),nt:=100,res:=[.tmp 2],live:=[(0,[0]),(1,[0,3]),(2,[0,3,33]),(3,[2]),(4,[0,3,4]),(5,[0,3,4,36]),(6,[0,3,4]),(7,[0,3,4,79]),(8,[2]),(9,[0,3,4,99]),(10,[2]),(11,[2])],nl:=[],rn:=[] }
def fi121:FnI:={ code:=(Tryz.f121.body.getD .skip),nt:=9,res:=[.tmp 2],live:=[(0,[0]),(1,[2])],nl:=[],rn:=[] }
def fi127:FnI:={ code:=(Tryz.f127.body.getD .skip),nt:=17,res:=[.tmp 4],live:=[(0,[0,1]),(1,[4])],nl:=[],rn:=[] }
def fi128:FnI:={ code:=(Tryz.f128.body.getD .skip),nt:=33,res:=[.tmp 6],live:=[(0,[0,1,2]),(1,[6])],nl:=[],rn:=[] }
def fi129:FnI:={ code:=(Tryz.f129.body.getD .skip),nt:=40,res:=[.tmp 10,.tmp 11],live:=[(0,[0,1,2,3,4]),(1,[0,1,2,3,4,12]),(2,[0,1,2,3,4,12,13]),(3,[0,1,2,3,4,12,13,14]),(4,[0,1,2,3,4,12,13,14,18]),(5,[0,1,2,3,4,12,13,14]),(6,[0,1,2,3,4,12,13,14,15]),(7,[0,1,2,3,4,12,13,14,15,16]),(8,[0,1,2,3,4,12,13,14,15,16,34]),(9,[10,11]),(10,[0,1,2,3,4,12,13,14,15,36]),(11,[0,1,2,3,4,12,13,14]),(12,[0,1,2,3,4,12,13,14]),(13,[10,11])],nl:=[],rn:=[] }
def fi130:FnI:={ code:=(Tryz.f130.body.getD .skip),nt:=64,res:=[.tmp 8,.tmp 9,.tmp 10,.tmp 11],live:=[(0,[0,1,2,3]),(1,[0,1,2,12,13]),(2,[0,1,2,12,13,14]),(3,[0,1,12,13,14,15]),(4,[0,1,12,13,14,15,16]),(5,[12,13,14,15,16,17]),(6,[12,13,14,15,16,17,18]),(7,[12,13,18,19]),(8,[8,9,10,11])],nl:=[],rn:=[] }
def fi131:FnI:={ code:=(Tryz.f131.body.getD .skip),nt:=17,res:=[.tmp 4,.tmp 5,.tmp 6],live:=[(0,[0,1]),(1,[0,1,14]),(2,[4,5,6]),(3,[4,5,6])],nl:=[],rn:=[] }
def fi132:FnI:={ code:=(Tryz.f132.body.getD .skip),nt:=6,res:=[.tmp 2],live:=[(0,[0]),(1,[2])],nl:=[],rn:=[] }
def fi133:FnI:={ code:=(Tryz.f133.body.getD .skip),nt:=6,res:=[.tmp 2],live:=[(0,[0]),(1,[2])],nl:=[],rn:=[] }
def fi134:FnI:={ code:=(Tryz.f134.body.getD .skip),nt:=15,res:=[.tmp 6],live:=[(0,[0,1,2]),(1,[6])],nl:=[],rn:=[] }
def fi139:FnI:={ code:=(Tryz.f139.body.getD .skip),nt:=40,res:=[.tmp 10],live:=[(0,[1,2,3,4,5]),(1,[10])],nl:=[],rn:=[] }
def fi140:FnI:={ code:=(Tryz.f140.body.getD .skip),nt:=36,res:=[.tmp 12,.tmp 13],live:=[(0,[1,2,3,4,5,6]),(1,[1,2,3,4,5,6,25]),(2,[12,13]),(3,[12,13])],nl:=[],rn:=[] }
def fi141:FnI:={ code:=(Tryz.f141.body.getD .skip),nt:=17,res:=[.tmp 2],live:=[(0,[0]),(1,[0,3]),(2,[2]),(3,[0,9]),(4,[2]),(5,[2])],nl:=[],rn:=[] }
def fi142:FnI:={ code:=(Tryz.f142.body.getD .skip),nt:=23,res:=[.tmp 4],live:=[(0,[1,2]),(1,[4])],nl:=[],rn:=[] }
def fi143:FnI:={ code:=(Tryz.f143.body.getD .skip),nt:=32,res:=[.tmp 6],live:=[(0,[1,2,3]),(1,[2,3,7]),(2,[2,8]),(3,[6])],nl:=[],rn:=[] }
def fi144:FnI:={ code:=(Tryz.f144.body.getD .skip),nt:=42,res:=[.tmp 6],live:=[(0,[1,2,3]),(1,[1,7,8,9,10,11]),(2,[1,7,8,9,10,11,12]),(3,[1,7,8,9,10,11,12,24]),(4,[1,7,8,12]),(5,[6])],nl:=[],rn:=[] }
def fi146:FnI:={ code:=(Tryz.f146.body.getD .skip),nt:=19,res:=[.tmp 4],live:=[(0,[0,1]),(1,[0,1,7,8]),(2,[0,1,7,8,9]),(3,[0,1,5,7,8]),(4,[0,1,5,7,8,16]),(5,[4]),(6,[0,1,7,8]),(7,[4])],nl:=[],rn:=[] }
def fi148:FnI:={ code:=(Tryz.f148.body.getD .skip),nt:=7,res:=[.tmp 2],live:=[(0,[0]),(1,[2])],nl:=[],rn:=[] }
def fi149:FnI:={ code:=(Tryz.f149.body.getD .skip),nt:=58,res:=[.tmp 12],live:=[(0,[0,1,2,3,4,5]),(1,[0,1,2,3,4,13,14]),(2,[0,1,2,3,4,13,14,17]),(3,[0,1,3,4,13,14,17,18]),(4,[13,14,17,18,19]),(5,[12])],nl:=[],rn:=[] }
def fi150:FnI:={ code:=(Tryz.f150.body.getD .skip),nt:=56,res:=[.tmp 8,.tmp 9],live:=[(0,[0,1,2,3]),(1,[0,2,10]),(2,[0,2,10,11]),(3,[2,11,12]),(4,[2,11,12,13]),(5,[11,12,13,14]),(6,[8,9])],nl:=[],rn:=[] }
def fi151:FnI:={ code:=(Tryz.f151.body.getD .skip),nt:=38,res:=[.tmp 6],live:=[(0,[0,1,2]),(1,[0,2,7]),(2,[2,8]),(3,[6])],nl:=[],rn:=[] }
def fi152:FnI:={ code:=(Tryz.f152.body.getD .skip),nt:=25,res:=[.tmp 4],live:=[(0,[0,1]),(1,[0,5]),(2,[4])],nl:=[],rn:=[] }
def fi153:FnI:={ code:=(Tryz.f153.body.getD .skip),nt:=6,res:=[.tmp 2],live:=[(0,[0]),(1,[2])],nl:=[],rn:=[] }
def fi154:FnI:={ code:=(Tryz.f154.body.getD .skip),nt:=6,res:=[.tmp 2],live:=[(0,[0]),(1,[2])],nl:=[],rn:=[] }
def fi155:FnI:={ code:=(Tryz.f155.body.getD .skip),nt:=11,res:=[.tmp 4],live:=[(0,[1,2]),(1,[4])],nl:=[],rn:=[] }
def fi156:FnI:={ code:=(Tryz.f156.body.getD .skip),nt:=5,res:=[.tmp 2],live:=[(0,[0]),(1,[2])],nl:=[],rn:=[] }
def fi157:FnI:={ code:=(Tryz.f157.body.getD .skip),nt:=52,res:=[.tmp 12],live:=[(0,[1,2,3,4,5,6]),(1,[1,2,3,4,6,13,14]),(2,[1,3,4,6,13,14,15,16]),(3,[13,14,15,16,17]),(4,[12])],nl:=[],rn:=[] }
def fi158:FnI:={ code:=(Tryz.f158.body.getD .skip),nt:=2,res:=[.tmp 0],live:=[(0,[]),(1,[0])],nl:=[],rn:=[] }
def fi159:FnI:={ code:=(Tryz.f159.body.getD .skip),nt:=6,res:=[.tmp 2],live:=[(0,[0]),(1,[2])],nl:=[],rn:=[] }
def fi160:FnI:={ code:=(Tryz.f160.body.getD .skip),nt:=47,res:=[.tmp 2],live:=[(0,[0]),(1,[3,4]),(2,[3,4,12]),(3,[3,4]),(4,[3,4,16]),(5,[3,4]),(6,[4,5]),(7,[4,5,6,7]),(8,[4,5,6,7,8]),(9,[4,5,6,7,8,25]),(10,[4,5,6,7,8]),(11,[4,5,6,7,8]),(12,[5,7,39]),(13,[2]),(14,[2])],nl:=[],rn:=[] }
def fi161:FnI:={ code:=(Tryz.f161.body.getD .skip),nt:=67,res:=[.tmp 4,.tmp 5,.tmp 6,.tmp 7,.tmp 8],live:=[(0,[1,2]),(1,[2,9,10]),(2,[2,9,10,11]),(3,[2,9,10,11,22]),(4,[4,5,6,7,8]),(5,[2,9,10,11,37]),(6,[4,5,6,7,8]),(7,[4,5,6,7,8])],nl:=[],rn:=[] }
def fi162:FnI:={ code:=(Tryz.f162.body.getD .skip),nt:=14,res:=[.tmp 6],live:=[(0,[0,1,2]),(1,[6])],nl:=[],rn:=[] }
def fi163:FnI:={ code:=(Tryz.f163.body.getD .skip),nt:=5,res:=[.tmp 2],live:=[(0,[0]),(1,[2])],nl:=[],rn:=[] }
def fi164:FnI:={ code:=(Tryz.f164.body.getD .skip),nt:=67,res:=[.tmp 2],live:=[(0,[0]),(1,[0,12]),(2,[2]),(3,[0,19]),(4,[2]),(5,[3]),(6,[3,26]),(7,[3]),(8,[3,4]),(9,[3,4,31]),(10,[3,4]),(11,[3,4,35]),(12,[3,4]),(13,[4,5]),(14,[4,5,6]),(15,[4,5,6,7]),(16,[4,5,6,7,8]),(17,[4,5,6,7,8,44]),(18,[4,5,6,7,8]),(19,[4,5,6,7,8]),(20,[5,7,59]),(21,[2]),(22,[2])],nl:=[],rn:=[] }
def fi165:FnI:={ code:=(Tryz.f165.body.getD .skip),nt:=12,res:=[.tmp 4],live:=[(0,[0,1]),(1,[4])],nl:=[],rn:=[] }
def fi166:FnI:={ code:=(Tryz.f166.body.getD .skip),nt:=12,res:=[.tmp 4],live:=[(0,[0,1]),(1,[4])],nl:=[],rn:=[] }
def fi168:FnI:={ code:=(Tryz.f168.body.getD .skip),nt:=7,res:=[.tmp 2],live:=[(0,[0]),(1,[2])],nl:=[],rn:=[] }
def fi169:FnI:={ code:=(Tryz.f169.body.getD .skip),nt:=17,res:=[.tmp 2],live:=[(0,[0]),(1,[0,3]),(2,[0,3,8]),(3,[0,3]),(4,[4]),(5,[4,13]),(6,[4]),(7,[2])],nl:=[],rn:=[] }
def fi170:FnI:={ code:=(Tryz.f170.body.getD .skip),nt:=16,res:=[.tmp 2],live:=[(0,[0]),(1,[3]),(2,[4]),(3,[4,14]),(4,[2]),(5,[2])],nl:=[],rn:=[] }
def fi171:FnI:={ code:=(Tryz.f171.body.getD .skip),nt:=7,res:=[.tmp 3],live:=[(0,[0,1]),(1,[3])],nl:=[],rn:=[] }
def fi172:FnI:={ code:=(Tryz.f172.body.getD .skip),nt:=35,res:=[.tmp 6],live:=[(0,[0,1,2]),(1,[1,7,8,9]),(2,[6])],nl:=[],rn:=[] }
def fi174:FnI:={ code:=(Tryz.f174.body.getD .skip),nt:=7,res:=[.tmp 2],live:=[(0,[0]),(1,[2]),(2,[2])],nl:=[],rn:=[] }
def fi175:FnI:={ code:=(Tryz.f175.body.getD .skip),nt:=7,res:=[.tmp 2],live:=[(0,[0]),(1,[2]),(2,[2])],nl:=[],rn:=[] }
def fi176:FnI:={ code:=(Tryz.f176.body.getD .skip),nt:=91,res:=[.tmp 4,.tmp 5,.tmp 6,.tmp 7],live:=[(0,[0,1]),(1,[0,8]),(2,[0,8,9]),(3,[0,8,9,10]),(4,[0,8,9,10,36]),(5,[0,8,9,10]),(6,[0,8,9,10,11]),(7,[0,8,9,10,11,42]),(8,[0,8,10]),(9,[0,8,10,11]),(10,[0,8,10,11,47]),(11,[0,8,10,11]),(12,[0,8,10,11,12]),(13,[8,10,11,12,13]),(14,[8,10,11,12,13,68]),(15,[8,10,11,12,13]),(16,[8,10,11,12,13,72]),(17,[8,10,11,12,13]),(18,[8,10,11,12,14]),(19,[8,10,11,12,14,79]),(20,[4,5,6,7]),(21,[4,5,6,7])],nl:=[],rn:=[] }
def fi178:FnI:={ code:=(Tryz.f178.body.getD .skip),nt:=26,res:=[.tmp 2],live:=[(0,[0]),(1,[0,7]),(2,[2]),(3,[3]),(4,[3,4]),(5,[3,4,17]),(6,[3]),(7,[2])],nl:=[],rn:=[] }
def fi180:FnI:={ code:=(Tryz.f180.body.getD .skip),nt:=38,res:=[.tmp 2],live:=[(0,[0]),(1,[0,16]),(2,[2]),(3,[0,19]),(4,[3,4]),(5,[3,27]),(6,[3]),(7,[2]),(8,[5]),(9,[2])],nl:=[],rn:=[] }
def fi181:FnI:={ code:=(Tryz.f181.body.getD .skip),nt:=16,res:=[.tmp 2],live:=[(0,[0]),(1,[3]),(2,[4]),(3,[4,14]),(4,[2]),(5,[2])],nl:=[],rn:=[] }
def fi182:FnI:={ code:=(Tryz.f182.body.getD .skip),nt:=13,res:=[.tmp 4],live:=[(0,[0,1]),(1,[4])],nl:=[],rn:=[] }
def fi183:FnI:={ code:=(Tryz.f183.body.getD .skip),nt:=6,res:=[.tmp 2],live:=[(0,[0]),(1,[2])],nl:=[],rn:=[] }
def fi184:FnI:={ code:=(Tryz.f184.body.getD .skip),nt:=15,res:=[.tmp 4],live:=[(0,[0,1]),(1,[0,1,6]),(2,[0]),(3,[0,10]),(4,[0]),(5,[4])],nl:=[],rn:=[] }
def fi185:FnI:={ code:=(Tryz.f185.body.getD .skip),nt:=11,res:=[.tmp 2,.tmp 3],live:=[(0,[0]),(1,[0,2]),(2,[2,3])],nl:=[],rn:=[] }
def fnTab:List (Nat×FnI):=[(4,fi4),(19,fi19),(30,fi30),(31,fi31),(50,fi50),(51,fi51),(52,fi52),(56,fi56),(58,fi58),(59,fi59),(64,fi64),(65,fi65),(68,fi68),(69,fi69),(82,fi82),(83,fi83),(84,fi84),(87,fi87),(88,fi88),(89,fi89),(90,fi90),(104,fi104),(105,fi105),(106,fi106),(107,fi107),(113,fi113),(114,fi114),(115,fi115),(120,fi120),(121,fi121),(127,fi127),(128,fi128),(129,fi129),(130,fi130),(131,fi131),(132,fi132),(133,fi133),(134,fi134),(139,fi139),(140,fi140),(141,fi141),(142,fi142),(143,fi143),(144,fi144),(146,fi146),(148,fi148),(149,fi149),(150,fi150),(151,fi151),(152,fi152),(153,fi153),(154,fi154),(155,fi155),(156,fi156),(157,fi157),(158,fi158),(159,fi159),(160,fi160),(161,fi161),(162,fi162),(163,fi163),(164,fi164),(165,fi165),(166,fi166),(168,fi168),(169,fi169),(170,fi170),(171,fi171),(172,fi172),(174,fi174),(175,fi175),(176,fi176),(178,fi178),(180,fi180),(181,fi181),(182,fi182),(183,fi183),(184,fi184),(185,fi185)]
theorem fi4_ok:FnOk Tryz.prog 4 fi4:=⟨⟨Tryz.f4,Tryz.func4,by kernel_rfl,by kernel_rfl,by kernel_rfl,by kernel_rfl⟩,by kernel_rfl⟩
theorem fi19_ok:FnOk Tryz.prog 19 fi19:=⟨⟨Tryz.f19,Tryz.func19,by kernel_rfl,by kernel_rfl,by kernel_rfl,by kernel_rfl⟩,by kernel_rfl⟩
theorem fi30_ok:FnOk Tryz.prog 30 fi30:=⟨⟨Tryz.f30,Tryz.func30,by kernel_rfl,by kernel_rfl,by kernel_rfl,by kernel_rfl⟩,by kernel_rfl⟩
theorem fi31_ok:FnOk Tryz.prog 31 fi31:=⟨⟨Tryz.f31,Tryz.func31,by kernel_rfl,by kernel_rfl,by kernel_rfl,by kernel_rfl⟩,by kernel_rfl⟩
theorem fi50_ok:FnOk Tryz.prog 50 fi50:=⟨⟨Tryz.f50,Tryz.func50,by kernel_rfl,by kernel_rfl,by kernel_rfl,by kernel_rfl⟩,by kernel_rfl⟩
theorem fi51_ok:FnOk Tryz.prog 51 fi51:=⟨⟨Tryz.f51,Tryz.func51,by kernel_rfl,by kernel_rfl,by kernel_rfl,by kernel_rfl⟩,by kernel_rfl⟩
theorem fi52_ok:FnOk Tryz.prog 52 fi52:=⟨⟨Tryz.f52,Tryz.func52,by kernel_rfl,by kernel_rfl,by kernel_rfl,by kernel_rfl⟩,by kernel_rfl⟩
theorem fi56_ok:FnOk Tryz.prog 56 fi56:=⟨⟨Tryz.f56,Tryz.func56,by kernel_rfl,by kernel_rfl,by kernel_rfl,by kernel_rfl⟩,by kernel_rfl⟩
theorem fi58_ok:FnOk Tryz.prog 58 fi58:=⟨⟨Tryz.f58,Tryz.func58,by kernel_rfl,by kernel_rfl,by kernel_rfl,by kernel_rfl⟩,by kernel_rfl⟩
theorem fi59_ok:FnOk Tryz.prog 59 fi59:=⟨⟨Tryz.f59,Tryz.func59,by kernel_rfl,by kernel_rfl,by kernel_rfl,by kernel_rfl⟩,by kernel_rfl⟩
theorem fi64_ok:FnOk Tryz.prog 64 fi64:=⟨⟨Tryz.f64,Tryz.func64,by kernel_rfl,by kernel_rfl,by kernel_rfl,by kernel_rfl⟩,by kernel_rfl⟩
theorem fi65_ok:FnOk Tryz.prog 65 fi65:=⟨⟨Tryz.f65,Tryz.func65,by kernel_rfl,by kernel_rfl,by kernel_rfl,by kernel_rfl⟩,by kernel_rfl⟩
theorem fi68_ok:FnOk Tryz.prog 68 fi68:=⟨⟨Tryz.f68,Tryz.func68,by kernel_rfl,by kernel_rfl,by kernel_rfl,by kernel_rfl⟩,by kernel_rfl⟩
theorem fi69_ok:FnOk Tryz.prog 69 fi69:=⟨⟨Tryz.f69,Tryz.func69,by kernel_rfl,by kernel_rfl,by kernel_rfl,by kernel_rfl⟩,by kernel_rfl⟩
theorem fi82_ok:FnOk Tryz.prog 82 fi82:=⟨⟨Tryz.f82,Tryz.func82,by kernel_rfl,by kernel_rfl,by kernel_rfl,by kernel_rfl⟩,by kernel_rfl⟩
theorem fi83_ok:FnOk Tryz.prog 83 fi83:=⟨⟨Tryz.f83,Tryz.func83,by kernel_rfl,by kernel_rfl,by kernel_rfl,by kernel_rfl⟩,by kernel_rfl⟩
theorem fi84_ok:FnOk Tryz.prog 84 fi84:=⟨⟨Tryz.f84,Tryz.func84,by kernel_rfl,by kernel_rfl,by kernel_rfl,by kernel_rfl⟩,by kernel_rfl⟩
theorem fi87_ok:FnOk Tryz.prog 87 fi87:=⟨⟨Tryz.f87,Tryz.func87,by kernel_rfl,by kernel_rfl,by kernel_rfl,by kernel_rfl⟩,by kernel_rfl⟩
theorem fi88_ok:FnOk Tryz.prog 88 fi88:=⟨⟨Tryz.f88,Tryz.func88,by kernel_rfl,by kernel_rfl,by kernel_rfl,by kernel_rfl⟩,by kernel_rfl⟩
theorem fi89_ok:FnOk Tryz.prog 89 fi89:=⟨⟨Tryz.f89,Tryz.func89,by kernel_rfl,by kernel_rfl,by kernel_rfl,by kernel_rfl⟩,by kernel_rfl⟩
theorem fi90_ok:FnOk Tryz.prog 90 fi90:=⟨⟨Tryz.f90,Tryz.func90,by kernel_rfl,by kernel_rfl,by kernel_rfl,by kernel_rfl⟩,by kernel_rfl⟩
theorem fi104_ok:FnOk Tryz.prog 104 fi104:=⟨⟨Tryz.f104,Tryz.func104,by kernel_rfl,by kernel_rfl,by kernel_rfl,by kernel_rfl⟩,by kernel_rfl⟩
theorem fi105_ok:FnOk Tryz.prog 105 fi105:=⟨⟨Tryz.f105,Tryz.func105,by kernel_rfl,by kernel_rfl,by kernel_rfl,by kernel_rfl⟩,by kernel_rfl⟩
theorem fi106_ok:FnOk Tryz.prog 106 fi106:=⟨⟨Tryz.f106,Tryz.func106,by kernel_rfl,by kernel_rfl,by kernel_rfl,by kernel_rfl⟩,by kernel_rfl⟩
theorem fi107_ok:FnOk Tryz.prog 107 fi107:=⟨⟨Tryz.f107,Tryz.func107,by kernel_rfl,by kernel_rfl,by kernel_rfl,by kernel_rfl⟩,by kernel_rfl⟩
theorem fi113_ok:FnOk Tryz.prog 113 fi113:=⟨⟨Tryz.f113,Tryz.func113,by kernel_rfl,by kernel_rfl,by kernel_rfl,by kernel_rfl⟩,by kernel_rfl⟩
theorem fi114_ok:FnOk Tryz.prog 114 fi114:=⟨⟨Tryz.f114,Tryz.func114,by kernel_rfl,by kernel_rfl,by kernel_rfl,by kernel_rfl⟩,by kernel_rfl⟩
theorem fi115_ok:FnOk Tryz.prog 115 fi115:=⟨⟨Tryz.f115,Tryz.func115,by kernel_rfl,by kernel_rfl,by kernel_rfl,by kernel_rfl⟩,by kernel_rfl⟩
theorem fi120_ok:FnOk Tryz.prog 120 fi120:=⟨⟨Tryz.f120,Tryz.func120,by kernel_rfl,by kernel_rfl,by kernel_rfl,by kernel_rfl⟩,by kernel_rfl⟩
theorem fi121_ok:FnOk Tryz.prog 121 fi121:=⟨⟨Tryz.f121,Tryz.func121,by kernel_rfl,by kernel_rfl,by kernel_rfl,by kernel_rfl⟩,by kernel_rfl⟩
theorem fi127_ok:FnOk Tryz.prog 127 fi127:=⟨⟨Tryz.f127,Tryz.func127,by kernel_rfl,by kernel_rfl,by kernel_rfl,by kernel_rfl⟩,by kernel_rfl⟩
theorem fi128_ok:FnOk Tryz.prog 128 fi128:=⟨⟨Tryz.f128,Tryz.func128,by kernel_rfl,by kernel_rfl,by kernel_rfl,by kernel_rfl⟩,by kernel_rfl⟩
theorem fi129_ok:FnOk Tryz.prog 129 fi129:=⟨⟨Tryz.f129,Tryz.func129,by kernel_rfl,by kernel_rfl,by kernel_rfl,by kernel_rfl⟩,by kernel_rfl⟩
theorem fi130_ok:FnOk Tryz.prog 130 fi130:=⟨⟨Tryz.f130,Tryz.func130,by kernel_rfl,by kernel_rfl,by kernel_rfl,by kernel_rfl⟩,by kernel_rfl⟩
theorem fi131_ok:FnOk Tryz.prog 131 fi131:=⟨⟨Tryz.f131,Tryz.func131,by kernel_rfl,by kernel_rfl,by kernel_rfl,by kernel_rfl⟩,by kernel_rfl⟩
theorem fi132_ok:FnOk Tryz.prog 132 fi132:=⟨⟨Tryz.f132,Tryz.func132,by kernel_rfl,by kernel_rfl,by kernel_rfl,by kernel_rfl⟩,by kernel_rfl⟩
theorem fi133_ok:FnOk Tryz.prog 133 fi133:=⟨⟨Tryz.f133,Tryz.func133,by kernel_rfl,by kernel_rfl,by kernel_rfl,by kernel_rfl⟩,by kernel_rfl⟩
theorem fi134_ok:FnOk Tryz.prog 134 fi134:=⟨⟨Tryz.f134,Tryz.func134,by kernel_rfl,by kernel_rfl,by kernel_rfl,by kernel_rfl⟩,by kernel_rfl⟩
theorem fi139_ok:FnOk Tryz.prog 139 fi139:=⟨⟨Tryz.f139,Tryz.func139,by kernel_rfl,by kernel_rfl,by kernel_rfl,by kernel_rfl⟩,by kernel_rfl⟩
theorem fi140_ok:FnOk Tryz.prog 140 fi140:=⟨⟨Tryz.f140,Tryz.func140,by kernel_rfl,by kernel_rfl,by kernel_rfl,by kernel_rfl⟩,by kernel_rfl⟩
theorem fi141_ok:FnOk Tryz.prog 141 fi141:=⟨⟨Tryz.f141,Tryz.func141,by kernel_rfl,by kernel_rfl,by kernel_rfl,by kernel_rfl⟩,by kernel_rfl⟩
theorem fi142_ok:FnOk Tryz.prog 142 fi142:=⟨⟨Tryz.f142,Tryz.func142,by kernel_rfl,by kernel_rfl,by kernel_rfl,by kernel_rfl⟩,by kernel_rfl⟩
theorem fi143_ok:FnOk Tryz.prog 143 fi143:=⟨⟨Tryz.f143,Tryz.func143,by kernel_rfl,by kernel_rfl,by kernel_rfl,by kernel_rfl⟩,by kernel_rfl⟩
theorem fi144_ok:FnOk Tryz.prog 144 fi144:=⟨⟨Tryz.f144,Tryz.func144,by kernel_rfl,by kernel_rfl,by kernel_rfl,by kernel_rfl⟩,by kernel_rfl⟩
theorem fi146_ok:FnOk Tryz.prog 146 fi146:=⟨⟨Tryz.f146,Tryz.func146,by kernel_rfl,by kernel_rfl,by kernel_rfl,by kernel_rfl⟩,by kernel_rfl⟩
theorem fi148_ok:FnOk Tryz.prog 148 fi148:=⟨⟨Tryz.f148,Tryz.func148,by kernel_rfl,by kernel_rfl,by kernel_rfl,by kernel_rfl⟩,by kernel_rfl⟩
theorem fi149_ok:FnOk Tryz.prog 149 fi149:=⟨⟨Tryz.f149,Tryz.func149,by kernel_rfl,by kernel_rfl,by kernel_rfl,by kernel_rfl⟩,by kernel_rfl⟩
theorem fi150_ok:FnOk Tryz.prog 150 fi150:=⟨⟨Tryz.f150,Tryz.func150,by kernel_rfl,by kernel_rfl,by kernel_rfl,by kernel_rfl⟩,by kernel_rfl⟩
theorem fi151_ok:FnOk Tryz.prog 151 fi151:=⟨⟨Tryz.f151,Tryz.func151,by kernel_rfl,by kernel_rfl,by kernel_rfl,by kernel_rfl⟩,by kernel_rfl⟩
theorem fi152_ok:FnOk Tryz.prog 152 fi152:=⟨⟨Tryz.f152,Tryz.func152,by kernel_rfl,by kernel_rfl,by kernel_rfl,by kernel_rfl⟩,by kernel_rfl⟩
theorem fi153_ok:FnOk Tryz.prog 153 fi153:=⟨⟨Tryz.f153,Tryz.func153,by kernel_rfl,by kernel_rfl,by kernel_rfl,by kernel_rfl⟩,by kernel_rfl⟩
theorem fi154_ok:FnOk Tryz.prog 154 fi154:=⟨⟨Tryz.f154,Tryz.func154,by kernel_rfl,by kernel_rfl,by kernel_rfl,by kernel_rfl⟩,by kernel_rfl⟩
theorem fi155_ok:FnOk Tryz.prog 155 fi155:=⟨⟨Tryz.f155,Tryz.func155,by kernel_rfl,by kernel_rfl,by kernel_rfl,by kernel_rfl⟩,by kernel_rfl⟩
theorem fi156_ok:FnOk Tryz.prog 156 fi156:=⟨⟨Tryz.f156,Tryz.func156,by kernel_rfl,by kernel_rfl,by kernel_rfl,by kernel_rfl⟩,by kernel_rfl⟩
theorem fi157_ok:FnOk Tryz.prog 157 fi157:=⟨⟨Tryz.f157,Tryz.func157,by kernel_rfl,by kernel_rfl,by kernel_rfl,by kernel_rfl⟩,by kernel_rfl⟩
theorem fi158_ok:FnOk Tryz.prog 158 fi158:=⟨⟨Tryz.f158,Tryz.func158,by kernel_rfl,by kernel_rfl,by kernel_rfl,by kernel_rfl⟩,by kernel_rfl⟩
theorem fi159_ok:FnOk Tryz.prog 159 fi159:=⟨⟨Tryz.f159,Tryz.func159,by kernel_rfl,by kernel_rfl,by kernel_rfl,by kernel_rfl⟩,by kernel_rfl⟩
theorem fi160_ok:FnOk Tryz.prog 160 fi160:=⟨⟨Tryz.f160,Tryz.func160,by kernel_rfl,by kernel_rfl,by kernel_rfl,by kernel_rfl⟩,by kernel_rfl⟩
theorem fi161_ok:FnOk Tryz.prog 161 fi161:=⟨⟨Tryz.f161,Tryz.func161,by kernel_rfl,by kernel_rfl,by kernel_rfl,by kernel_rfl⟩,by kernel_rfl⟩
theorem fi162_ok:FnOk Tryz.prog 162 fi162:=⟨⟨Tryz.f162,Tryz.func162,by kernel_rfl,by kernel_rfl,by kernel_rfl,by kernel_rfl⟩,by kernel_rfl⟩
theorem fi163_ok:FnOk Tryz.prog 163 fi163:=⟨⟨Tryz.f163,Tryz.func163,by kernel_rfl,by kernel_rfl,by kernel_rfl,by kernel_rfl⟩,by kernel_rfl⟩
theorem fi164_ok:FnOk Tryz.prog 164 fi164:=⟨⟨Tryz.f164,Tryz.func164,by kernel_rfl,by kernel_rfl,by kernel_rfl,by kernel_rfl⟩,by kernel_rfl⟩
theorem fi165_ok:FnOk Tryz.prog 165 fi165:=⟨⟨Tryz.f165,Tryz.func165,by kernel_rfl,by kernel_rfl,by kernel_rfl,by kernel_rfl⟩,by kernel_rfl⟩
theorem fi166_ok:FnOk Tryz.prog 166 fi166:=⟨⟨Tryz.f166,Tryz.func166,by kernel_rfl,by kernel_rfl,by kernel_rfl,by kernel_rfl⟩,by kernel_rfl⟩
theorem fi168_ok:FnOk Tryz.prog 168 fi168:=⟨⟨Tryz.f168,Tryz.func168,by kernel_rfl,by kernel_rfl,by kernel_rfl,by kernel_rfl⟩,by kernel_rfl⟩
theorem fi169_ok:FnOk Tryz.prog 169 fi169:=⟨⟨Tryz.f169,Tryz.func169,by kernel_rfl,by kernel_rfl,by kernel_rfl,by kernel_rfl⟩,by kernel_rfl⟩
theorem fi170_ok:FnOk Tryz.prog 170 fi170:=⟨⟨Tryz.f170,Tryz.func170,by kernel_rfl,by kernel_rfl,by kernel_rfl,by kernel_rfl⟩,by kernel_rfl⟩
theorem fi171_ok:FnOk Tryz.prog 171 fi171:=⟨⟨Tryz.f171,Tryz.func171,by kernel_rfl,by kernel_rfl,by kernel_rfl,by kernel_rfl⟩,by kernel_rfl⟩
theorem fi172_ok:FnOk Tryz.prog 172 fi172:=⟨⟨Tryz.f172,Tryz.func172,by kernel_rfl,by kernel_rfl,by kernel_rfl,by kernel_rfl⟩,by kernel_rfl⟩
theorem fi174_ok:FnOk Tryz.prog 174 fi174:=⟨⟨Tryz.f174,Tryz.func174,by kernel_rfl,by kernel_rfl,by kernel_rfl,by kernel_rfl⟩,by kernel_rfl⟩
theorem fi175_ok:FnOk Tryz.prog 175 fi175:=⟨⟨Tryz.f175,Tryz.func175,by kernel_rfl,by kernel_rfl,by kernel_rfl,by kernel_rfl⟩,by kernel_rfl⟩
theorem fi176_ok:FnOk Tryz.prog 176 fi176:=⟨⟨Tryz.f176,Tryz.func176,by kernel_rfl,by kernel_rfl,by kernel_rfl,by kernel_rfl⟩,by kernel_rfl⟩
theorem fi178_ok:FnOk Tryz.prog 178 fi178:=⟨⟨Tryz.f178,Tryz.func178,by kernel_rfl,by kernel_rfl,by kernel_rfl,by kernel_rfl⟩,by kernel_rfl⟩
theorem fi180_ok:FnOk Tryz.prog 180 fi180:=⟨⟨Tryz.f180,Tryz.func180,by kernel_rfl,by kernel_rfl,by kernel_rfl,by kernel_rfl⟩,by kernel_rfl⟩
theorem fi181_ok:FnOk Tryz.prog 181 fi181:=⟨⟨Tryz.f181,Tryz.func181,by kernel_rfl,by kernel_rfl,by kernel_rfl,by kernel_rfl⟩,by kernel_rfl⟩
theorem fi182_ok:FnOk Tryz.prog 182 fi182:=⟨⟨Tryz.f182,Tryz.func182,by kernel_rfl,by kernel_rfl,by kernel_rfl,by kernel_rfl⟩,by kernel_rfl⟩
theorem fi183_ok:FnOk Tryz.prog 183 fi183:=⟨⟨Tryz.f183,Tryz.func183,by kernel_rfl,by kernel_rfl,by kernel_rfl,by kernel_rfl⟩,by kernel_rfl⟩
theorem fi184_ok:FnOk Tryz.prog 184 fi184:=⟨⟨Tryz.f184,Tryz.func184,by kernel_rfl,by kernel_rfl,by kernel_rfl,by kernel_rfl⟩,by kernel_rfl⟩
theorem fi185_ok:FnOk Tryz.prog 185 fi185:=⟨⟨Tryz.f185,Tryz.func185,by kernel_rfl,by kernel_rfl,by kernel_rfl,by kernel_rfl⟩,by kernel_rfl⟩
theorem fnTab_ok:FnL Tryz.prog fnTab:=FnL.cons fi4_ok (FnL.cons fi19_ok (FnL.cons fi30_ok (FnL.cons fi31_ok (FnL.cons fi50_ok (FnL.cons fi51_ok (FnL.cons fi52_ok (FnL.cons fi56_ok (FnL.cons fi58_ok (FnL.cons fi59_ok (FnL.cons fi64_ok (FnL.cons fi65_ok (FnL.cons fi68_ok (FnL.cons fi69_ok (FnL.cons fi82_ok (FnL.cons fi83_ok (FnL.cons fi84_ok (FnL.cons fi87_ok (FnL.cons fi88_ok (FnL.cons fi89_ok (FnL.cons fi90_ok (FnL.cons fi104_ok (FnL.cons fi105_ok (FnL.cons fi106_ok (FnL.cons fi107_ok (FnL.cons fi113_ok (FnL.cons fi114_ok (FnL.cons fi115_ok (FnL.cons fi120_ok (FnL.cons fi121_ok (FnL.cons fi127_ok (FnL.cons fi128_ok (FnL.cons fi129_ok (FnL.cons fi130_ok (FnL.cons fi131_ok (FnL.cons fi132_ok (FnL.cons fi133_ok (FnL.cons fi134_ok (FnL.cons fi139_ok (FnL.cons fi140_ok (FnL.cons fi141_ok (FnL.cons fi142_ok (FnL.cons fi143_ok (FnL.cons fi144_ok (FnL.cons fi146_ok (FnL.cons fi148_ok (FnL.cons fi149_ok (FnL.cons fi150_ok (FnL.cons fi151_ok (FnL.cons fi152_ok (FnL.cons fi153_ok (FnL.cons fi154_ok (FnL.cons fi155_ok (FnL.cons fi156_ok (FnL.cons fi157_ok (FnL.cons fi158_ok (FnL.cons fi159_ok (FnL.cons fi160_ok (FnL.cons fi161_ok (FnL.cons fi162_ok (FnL.cons fi163_ok (FnL.cons fi164_ok (FnL.cons fi165_ok (FnL.cons fi166_ok (FnL.cons fi168_ok (FnL.cons fi169_ok (FnL.cons fi170_ok (FnL.cons fi171_ok (FnL.cons fi172_ok (FnL.cons fi174_ok (FnL.cons fi175_ok (FnL.cons fi176_ok (FnL.cons fi178_ok (FnL.cons fi180_ok (FnL.cons fi181_ok (FnL.cons fi182_ok (FnL.cons fi183_ok (FnL.cons fi184_ok (FnL.cons fi185_ok (FnL.nil)))))))))))))))))))))))))))))))))))))))))))))))))))))))))))))))))))))))))))))))
theorem mixed:Tryz.prog.follows .mixedOrders=true:=by kernel_rfl
end
end Go.Proofs.YtijjhfailnmeoaaGreat
