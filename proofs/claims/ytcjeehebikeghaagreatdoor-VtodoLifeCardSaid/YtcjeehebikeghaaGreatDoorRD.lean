/- The known globals with civil's own table; contracts that do not know it hold with it too. No conditions. -/
import Derived.Test.YtcjeehebikeghaaGreatDoorRA
set_option linter.unusedVariables false
set_option linter.unusedSimpArgs false
set_option maxRecDepth 100000
set_option maxHeartbeats 8000000
namespace Go.Vs.YtcjeehebikeghaaGreatDoor
open Go.Proofs
def PL:List Int:=[0,31,59,90,120,151,181,212,243,273,304,334,365]
def G2:List (Nat×List IV):=(1,PL.map (.int .i64 ·))::G
theorem upR{k:Nat}{args:List IV}{r:Res}(h:BD G Tryz.prog k args r):BD G2 Tryz.prog k args r:=
 ⟨h.1,fun w S vs hS hr hg=>h.2 w S vs hS hr (fun p hp=>hg p (List.mem_cons_of_mem _ hp))⟩
theorem up{k:Nat}{args:List IV}{v:IV}(h:Fn G Tryz.prog k args v):Fn G2 Tryz.prog k args v:=upR h
theorem upM{k:Nat}{c:MC}(h:oe G Tryz.prog k c):oe G2 Tryz.prog k c:=
 ⟨h.1,fun w S μ β vs hS hg hr h1 h2 h3=>h.2 w S μ β vs hS (fun p hp=>hg p (List.mem_cons_of_mem _ hp)) hr h1 h2 h3⟩
theorem Vu{m:Nat}(h1:1≤m)(h2:m≤13):∃r,(PL.map (IV.int .i64 ·)).drop (m-1)=.int .i64 (PL.getD (m-1) 0)::r:=by
 have:m=1∨m=2∨m=3∨m=4∨m=5∨m=6∨m=7∨m=8∨m=9∨m=10∨m=11∨m=12∨m=13:=by omega
 rcases this with rfl|rfl|rfl|rfl|rfl|rfl|rfl|rfl|rfl|rfl|rfl|rfl|rfl<;>exact⟨_,rfl⟩
def i8:Nat:=62
def vH:Nat:=85
def fw:Nat:=120
def pO:Nat:=121
def tz:Nat:=122
def eY:Nat:=123
def pP:Nat:=132
def rr:Nat:=178
def rx:Nat:=179
def gJ:Nat:=180
def jv:Nat:=211
def tA:Nat:=241
def vI:Nat:=259
def vJ:Nat:=260
def ry:Nat:=275
def kM:Nat:=276
def m6:Nat:=299
def vK:VCode:=
 r_ [o1 1 (.box (tm 0)),o1 2 (.move (cs [])),j_ 3 0] [] (.seq (r_ [s_ 12 2 1,o1 13 (.call fw [tm 12]),m_ 4 13] [12,13] (r_ [m_ 14 4,i_ 15 .neq 14 0] [14,14] (c_ 15 (r_ [m_ 16 4,o1 2 (.move (cs [])),m_ 3 16] [16,16] (.ret)) (.skip)))) (r_ [s_ 18 2 1,o1 19 (.call pO [tm 18]),m_ 17 19,e_ 20 17 0,e_ 21 17 1,m_ 5 20,m_ 6 21] [17,21] (r_ [m_ 23 5,o1 24 (.call tz [tm 23]),m_ 22 24,e_ 25 22 0,e_ 26 22 1,e_ 27 22 2,e_ 28 22 3,m_ 7 25,m_ 8 26,m_ 9 27,m_ 10 28] [22,28] (.seq (r_ [m_ 29 10,i_ 30 .neq 29 0] [29,29] (c_ 30 (r_ [m_ 31 10,o1 2 (.move (cs [])),m_ 3 31] [31,31] (.ret)) (.skip))) (r_ [m_ 32 7,o1 33 (.callM eY [.const (.nils),tm 32,ci 4]),m_ 34 8,o1 35 (.callM eY [tm 33,tm 34,ci 2]),m_ 36 9,o1 37 (.callM eY [tm 35,tm 36,ci 2]),m_ 11 37] [32,37] (.seq (r_ [f_ 38 0 1,l_ 39 38,o1 40 (.bin (.neq) (tm 39) (cu 1))] [38,39] (c_ 40 (r_ [m_ 41 11,o1 42 (.buildSlice 1 1 [.val (.int (.u8) 0)] [(0,1,cu 84)]),o1 43 (.append 5 1 1 (tm 41) (tm 42)),m_ 11 43] [41,43] (rt [m_ 44 11,m_ 45 6,i_ 46 .quo 45 3600,o1 47 (.callM eY [tm 44,tm 46,ci 2]),m_ 48 6,i_ 49 .quo 48 60,i_ 50 .rem 49 60,o1 51 (.callM eY [tm 47,tm 50,ci 2]),m_ 52 6,i_ 53 .rem 52 60,o1 54 (.callM eY [tm 51,tm 53,ci 2]),m_ 11 54] [44,54])) (.skip))) (.seq (r_ [f_ 55 0 1,l_ 56 55,o1 57 (.bin (.eql) (tm 56) (cu 3))] [55,56] (c_ 57 (rt [m_ 58 11,o1 59 (.buildSlice 1 1 [.val (.int (.u8) 0)] [(0,1,cu 90)]),o1 60 (.append 5 1 1 (tm 58) (tm 59)),m_ 11 60] [58,60]) (.skip))) (r_ [m_ 61 11,o1 62 (.convB (tm 61)),m_ 2 62,j_ 3 0] [61,62] (.ret)))))))))
def vL:List VRes:=[.tmp 2,.tmp 3]
theorem Dz:FnOk Tryz.prog i8 vK vL 63:=
 ⟨⟨Tryz.f62,_,Tryz.func62,by decide,rfl,by kernel_rfl,by kernel_rfl,by kernel_rfl,rfl⟩⟩

def D9:VCode:=
 r_ [o1 4 (.alloc [.val (.int (.u8) 0),.val (.int (.i64) 0)]),j_ 5 0] [] (.seq (r_ [m_ 7 0,m_ 8 1,o1 9 (.call pP [tm 7,tm 8]),m_ 6 9] [7,9] (r_ [m_ 10 6,i_ 11 .neq 10 0] [10,10] (c_ 11 (r_ [o1 12 (.build [.val (.int (.u8) 0),.val (.int (.i64) 0)] []),m_ 13 6,o3 (.store 2 (tm 4) (tm 12)),m_ 5 13] [12,13] (.ret)) (.skip)))) (.seq (r_ [m_ 14 0,o1 15 (.bin (.eql) (tm 14) (cu 1))] [14,14] (c_ 15 (rt [m_ 16 1,m_ 17 1,i_ 18 .rem 17 86400,b_ 19 .sub 16 18,m_ 1 19] [16,19]) (.skip))) (r_ [m_ 20 0,m_ 21 1,o1 22 (.build [.val (.int (.u8) 0),.val (.int (.i64) 0)] [(0,1,tm 20),(1,1,tm 21)]),o3 (.store 2 (tm 4) (tm 22)),j_ 5 0] [20,22] (.ret))))
def Da:List VRes:=[.cell 4 (some 2),.tmp 5]
theorem Lq:FnOk Tryz.prog vH D9 Da 23:=
 ⟨⟨Tryz.f85,_,Tryz.func85,by decide,rfl,by kernel_rfl,by kernel_rfl,by kernel_rfl,rfl⟩⟩

def vM:VCode:=
 r_ [o1 1 (.box (tm 0)),j_ 2 0] [] (r_ [f_ 6 0 1,l_ 7 6,f_ 8 1 1,l_ 9 8,o1 10 (.call vH [tm 7,tm 9]),m_ 5 10,e_ 11 5 0,e_ 12 5 1,o1 3 (.alloc [.val (.int (.u8) 0),.val (.int (.i64) 0)]),o3 (.store 2 (tm 3) (tm 11)),m_ 4 12] [5,12] (.seq (r_ [m_ 13 4,i_ 14 .neq 13 0] [13,13] (c_ 14 (r_ [m_ 15 4,m_ 2 15] [15,15] (.ret)) (.skip))) (.seq (r_ [s_ 16 2 3,s_ 17 2 1,o1 18 (.eqA true [.i,.i] (tm 16) (tm 17))] [16,17] (c_ 18 (r_ [j_ 2 2] [] (.ret)) (.skip))) (r_ [j_ 2 0] [] (.ret)))))
def vN:List VRes:=[.tmp 2]
theorem DA:FnOk Tryz.prog fw vM vN 19:=
 ⟨⟨Tryz.f120,_,Tryz.func120,by decide,rfl,by kernel_rfl,by kernel_rfl,by kernel_rfl,rfl⟩⟩

def vO:VCode:=
 r_ [o1 1 (.box (tm 0)),j_ 2 0,j_ 3 0] [] (.seq (r_ [s_ 4 2 1,o1 5 (.call fw [tm 4]),i_ 6 .neq 5 0] [4,5] (c_ 6 (r_ [j_ 2 0,j_ 3 0] [] (.ret)) (.skip))) (.seq (.region [f_ 7 1 1,l_ 8 7,i_ 9 .quo 8 86400,f_ 10 1 1,l_ 11 10,i_ 12 .rem 11 86400,m_ 2 9,m_ 3 12] (.calm) [7,12]) (.ret)))
def vP:List VRes:=[.tmp 2,.tmp 3]
theorem DB:FnOk Tryz.prog pO vO vP 13:=
 ⟨⟨Tryz.f121,_,Tryz.func121,by decide,rfl,by kernel_rfl,by kernel_rfl,by kernel_rfl,rfl⟩⟩

def Ax:VCode:=
 r_ [j_ 2 0,j_ 3 0,j_ 4 0,j_ 5 0] [] (.seq (r_ [m_ 9 0,o1 10 (.call rr [tm 9]),u_ 11 10] [9,10] (c_ 11 (r_ [j_ 2 0,j_ 3 0,j_ 4 0,j_ 5 8] [] (.ret)) (.skip))) (r_ [m_ 13 0,o1 14 (.call rx [tm 13]),m_ 12 14,e_ 15 12 0,e_ 16 12 1,m_ 6 15,m_ 7 16] [12,16] (r_ [m_ 17 7,i_ 18 .quo 17 32,i_ 19 .add 18 1,m_ 8 19] [17,19] (.seq (r_ [m_ 20 7,m_ 21 6,m_ 22 8,i_ 23 .add 22 1,o1 24 (.call gJ [tm 21,tm 23]),b_ 25 .geq 20 24] [20,24] (c_ 25 (rt [m_ 26 8,i_ 27 .add 26 1,m_ 8 27] [26,27]) (.skip))) (r_ [m_ 28 6,m_ 29 8,m_ 30 7,m_ 31 6,m_ 32 8,o1 33 (.call gJ [tm 31,tm 32]),b_ 34 .sub 30 33,i_ 35 .add 34 1,m_ 2 28,m_ 3 29,m_ 4 35,j_ 5 0] [28,35] (.ret))))))
def Ay:List VRes:=[.tmp 2,.tmp 3,.tmp 4,.tmp 5]
theorem HP:FnOk Tryz.prog tz Ax Ay 36:=
 ⟨⟨Tryz.f122,_,Tryz.func122,by decide,rfl,by kernel_rfl,by kernel_rfl,by kernel_rfl,rfl⟩⟩

def tB:VCode:=
 .cut (r_ [o1 6 (.move (.const (.nils)))] [] (r_ [m_ 9 0,v_ 10 9,m_ 7 10] [9,10] (r_ [m_ 11 0,m_ 12 2,o1 13 (.subS (cs [48,48,48,48]) none (some (tm 12))),o1 14 (.appendS 5 1 (tm 11) (tm 13)),m_ 0 14] [11,14] (.seq (r_ [m_ 15 7,m_ 16 2,b_ 17 .add 15 16,i_ 18 .sub 17 1,m_ 8 18] [15,18] (.block 0 (.loop (.seq (r_ [m_ 19 8,m_ 20 7,b_ 21 .geq 19 20] [19,20] (c_ 21 (.skip) (.exit 0))) (.seq (.block 1 (r_ [m_ 24 0,m_ 25 8,m_ 26 1,i_ 27 .rem 26 10,o1 28 (.convI (.u8) (tm 27)),o1 29 (.bin (.add) (cu 48) (tm 28)),o1 30 (.indexAddr 1 (tm 24) (tm 25)),o3 (.store 1 (tm 30) (tm 29))] [24,30] (rt [m_ 31 1,i_ 32 .quo 31 10,m_ 1 32] [31,32]))) (rt [m_ 22 8,i_ 23 .sub 22 1,m_ 8 23] [22,23])))))) (r_ [m_ 33 0,m_ 6 33] [33,33] (.ret))))))
def tC:List VRes:=[.tmp 6]
theorem xN:FnOk Tryz.prog eY tB tC 34:=
 ⟨⟨Tryz.f123,_,Tryz.func123,by decide,rfl,by kernel_rfl,by kernel_rfl,by kernel_rfl,rfl⟩⟩

def vQ:VCode:=
 r_ [j_ 4 0] [] (.seq (r_ [m_ 5 0,o1 6 (.bin (.eql) (tm 5) (cu 0)),m_ 7 6,M_ 8 0 7 false,o2 9 (.bin (.gtr) (tm 8) (cu 3)) 7 false,q_ 10 7 9] [5,9] (c_ 10 (r_ [j_ 4 11] [] (.ret)) (.skip))) (.seq (r_ [m_ 11 1,i_ 12 .lss 11 0,m_ 13 12,M_ 14 1 13 false,I_ 15 .gtr 14 315537897599 13 false,q_ 16 13 15] [11,15] (c_ 16 (r_ [j_ 4 8] [] (.ret)) (.skip))) (r_ [j_ 4 0] [] (.ret))))
def vR:List VRes:=[.tmp 4]
theorem DC:FnOk Tryz.prog pP vQ vR 17:=
 ⟨⟨Tryz.f132,_,Tryz.func132,by decide,rfl,by kernel_rfl,by kernel_rfl,by kernel_rfl,rfl⟩⟩

def xO:VCode:=
 r_ [k_ 2 false] [] (r_ [m_ 3 0,i_ 4 .geq 3 0,m_ 5 4,M_ 6 0 5 true,I_ 7 .leq 6 3652058 5 true,p_ 8 5 7,m_ 2 8] [3,8] (.ret))
def xP:List VRes:=[.tmp 2]
theorem G0:FnOk Tryz.prog rr xO xP 9:=
 ⟨⟨Tryz.f178,_,Tryz.func178,by decide,rfl,by kernel_rfl,by kernel_rfl,by kernel_rfl,rfl⟩⟩

def xQ:VCode:=
 r_ [j_ 2 0,j_ 3 0] [] (r_ [m_ 8 0,i_ 9 .quo 8 146097,i_ 10 .mul 9 400,o1 11 (.bin (.add) (ci 1) (tm 10)),m_ 4 11] [8,11] (r_ [m_ 12 0,i_ 13 .rem 12 146097,m_ 0 13] [12,13] (r_ [m_ 14 0,i_ 15 .quo 14 36524,o1 16 (.minI (tm 15) (ci 3)),m_ 5 16] [14,16] (r_ [m_ 17 0,m_ 18 5,i_ 19 .mul 18 36524,b_ 20 .sub 17 19,m_ 0 20] [17,20] (r_ [m_ 21 0,i_ 22 .quo 21 1461,m_ 6 22] [21,22] (r_ [m_ 23 0,i_ 24 .rem 23 1461,m_ 0 24] [23,24] (r_ [m_ 25 0,i_ 26 .quo 25 365,o1 27 (.minI (tm 26) (ci 3)),m_ 7 27] [25,27] (r_ [m_ 28 4,m_ 29 5,o1 30 (.bin (.mul) (ci 100) (tm 29)),b_ 31 .add 28 30,m_ 32 6,o1 33 (.bin (.mul) (ci 4) (tm 32)),b_ 34 .add 31 33,m_ 35 7,b_ 36 .add 34 35,m_ 37 0,m_ 38 7,i_ 39 .mul 38 365,b_ 40 .sub 37 39,m_ 2 36,m_ 3 40] [28,40] (.ret)))))))))
def xS:List VRes:=[.tmp 2,.tmp 3]
theorem G1:FnOk Tryz.prog rx xQ xS 41:=
 ⟨⟨Tryz.f179,_,Tryz.func179,by decide,rfl,by kernel_rfl,by kernel_rfl,by kernel_rfl,rfl⟩⟩

def xU:VCode:=
 r_ [j_ 4 0] [] (r_ [m_ 6 1,i_ 7 .sub 6 1,o1 8 (.indexArr 13 1 (.glob 1) (tm 7)),l_ 9 8,m_ 5 9] [6,9] (.seq (r_ [m_ 10 1,i_ 11 .gtr 10 2,m_ 12 11,M_ 13 0 12 true,o2 14 (.call tA [tm 13]) 12 true,p_ 15 12 14] [10,14] (c_ 15 (rt [m_ 16 5,i_ 17 .add 16 1,m_ 5 17] [16,17]) (.skip))) (r_ [m_ 18 5,m_ 4 18] [18,18] (.ret))))
def xV:List VRes:=[.tmp 4]
theorem G3:FnOk Tryz.prog gJ xU xV 19:=
 ⟨⟨Tryz.f180,_,Tryz.func180,by decide,rfl,by kernel_rfl,by kernel_rfl,by kernel_rfl,rfl⟩⟩

def vS:VCode:=
 r_ [o1 2 (.alloc [.val (.int (.u8) 0),.val (.int (.i64) 0)]),j_ 3 0] [] (r_ [m_ 13 0,o1 14 (.call ry [tm 13]),m_ 12 14,e_ 15 12 0,e_ 16 12 1,e_ 17 12 2,e_ 18 12 3,m_ 4 15,m_ 5 16,m_ 6 17,m_ 7 18] [12,18] (.seq (r_ [m_ 19 7,u_ 20 19] [19,19] (c_ 20 (r_ [o1 21 (.build [.val (.int (.u8) 0),.val (.int (.i64) 0)] []),o3 (.store 2 (tm 2) (tm 21)),j_ 3 4] [21,21] (.ret)) (.skip))) (r_ [m_ 23 5,o1 24 (.buildSlice 1 3 [.val (.int (.i64) 0)] [(0,1,ci 4),(1,1,ci 2),(2,1,ci 2)]),o1 25 (.call kM [tm 23,tm 24]),m_ 22 25,e_ 26 22 0,e_ 27 22 1,m_ 8 26,m_ 7 27] [22,27] (.seq (r_ [m_ 28 7,u_ 29 28] [28,28] (c_ 29 (r_ [o1 30 (.build [.val (.int (.u8) 0),.val (.int (.i64) 0)] []),o3 (.store 2 (tm 2) (tm 30)),j_ 3 4] [30,30] (.ret)) (.skip))) (r_ [m_ 32 6,o1 33 (.buildSlice 1 3 [.val (.int (.i64) 0)] [(0,1,ci 2),(1,1,ci 2),(2,1,ci 2)]),o1 34 (.call kM [tm 32,tm 33]),m_ 31 34,e_ 35 31 0,e_ 36 31 1,m_ 9 35,m_ 7 36] [31,36] (.seq (r_ [m_ 37 7,u_ 38 37] [37,37] (c_ 38 (r_ [o1 39 (.build [.val (.int (.u8) 0),.val (.int (.i64) 0)] []),o3 (.store 2 (tm 2) (tm 39)),j_ 3 4] [39,39] (.ret)) (.skip))) (.seq (.region [m_ 41 8,o1 42 (.indexAddr 1 (tm 41) (ci 0)),l_ 43 42,m_ 44 8,o1 45 (.indexAddr 1 (tm 44) (ci 1)),l_ 46 45,m_ 47 8,o1 48 (.indexAddr 1 (tm 47) (ci 2)),l_ 49 48,o1 50 (.call vJ [tm 43,tm 46,tm 49]),m_ 40 50,e_ 51 40 0,e_ 52 40 1,m_ 10 51,m_ 11 52] (.drawn [] (zL [(9,[(0,8)])])) [40,52]) (.seq (r_ [m_ 53 11,i_ 54 .neq 53 0,m_ 55 54,M_ 56 9 55 false,o2 57 (.indexAddr 1 (tm 56) (ci 0)) 55 false,L_ 58 57 55 false,I_ 59 .gtr 58 23 55 false,q_ 60 55 59,m_ 61 60,M_ 62 9 61 false,o2 63 (.indexAddr 1 (tm 62) (ci 1)) 61 false,L_ 64 63 61 false,I_ 65 .gtr 64 59 61 false,q_ 66 61 65,m_ 67 66,M_ 68 9 67 false,o2 69 (.indexAddr 1 (tm 68) (ci 2)) 67 false,L_ 70 69 67 false,I_ 71 .gtr 70 59 67 false,q_ 72 67 71] [53,71] (c_ 72 (r_ [o1 73 (.build [.val (.int (.u8) 0),.val (.int (.i64) 0)] []),o3 (.store 2 (tm 2) (tm 73)),j_ 3 8] [73,73] (.ret)) (.skip))) (.seq (.region [m_ 74 4,m_ 75 10,i_ 76 .mul 75 86400,m_ 77 9,o1 78 (.indexAddr 1 (tm 77) (ci 0)),l_ 79 78,i_ 80 .mul 79 60,m_ 81 9,o1 82 (.indexAddr 1 (tm 81) (ci 1)),l_ 83 82,b_ 84 .add 80 83,i_ 85 .mul 84 60,b_ 86 .add 76 85,m_ 87 9,o1 88 (.indexAddr 1 (tm 87) (ci 2)),l_ 89 88,b_ 90 .add 86 89,o1 91 (.build [.val (.int (.u8) 0),.val (.int (.i64) 0)] [(0,1,tm 74),(1,1,tm 90)]),o3 (.store 2 (tm 2) (tm 91)),j_ 3 0] (.calm) [74,91]) (.ret))))))))))
def vT:List VRes:=[.cell 2 (some 2),.tmp 3]
theorem DD:FnOk Tryz.prog jv vS vT 92:=
 ⟨⟨Tryz.f211,_,Tryz.func211,by decide,rfl,by kernel_rfl,by kernel_rfl,by kernel_rfl,rfl⟩⟩

def Az:VCode:=
 r_ [k_ 2 false] [] (r_ [m_ 3 0,o1 4 (.call m6 [tm 3]),m_ 5 4,M_ 6 0 5 true,I_ 7 .rem 6 4 5 true,I_ 8 .eql 7 0 5 true,p_ 9 5 8,m_ 10 9,M_ 11 0 10 true,I_ 12 .rem 11 100 10 true,I_ 13 .neq 12 0 10 true,M_ 14 13 10 true,M_ 15 0 14 false,I_ 16 .rem 15 400 14 false,I_ 17 .eql 16 0 14 false,o2 18 (.pick (tm 14) (cb true) (tm 17)) 10 true,p_ 19 10 18,m_ 2 19] [3,19] (.ret))
def AA:List VRes:=[.tmp 2]
theorem HQ:FnOk Tryz.prog tA Az AA 20:=
 ⟨⟨Tryz.f241,_,Tryz.func241,by decide,rfl,by kernel_rfl,by kernel_rfl,by kernel_rfl,rfl⟩⟩

def Db:VCode:=
 r_ [j_ 4 0] [] (.seq (r_ [m_ 5 0,o1 6 (.call m6 [tm 5]),u_ 7 6,m_ 8 7,M_ 9 1 8 false,I_ 10 .lss 9 1 8 false,q_ 11 8 10,m_ 12 11,M_ 13 1 12 false,I_ 14 .gtr 13 12 12 false,q_ 15 12 14] [5,14] (c_ 15 (r_ [j_ 4 0] [] (.ret)) (.skip))) (r_ [m_ 16 0,m_ 17 1,i_ 18 .add 17 1,o1 19 (.call gJ [tm 16,tm 18]),m_ 20 0,m_ 21 1,o1 22 (.call gJ [tm 20,tm 21]),b_ 23 .sub 19 22,m_ 4 23] [16,23] (.ret)))
def Dc:List VRes:=[.tmp 4]
theorem Lr:FnOk Tryz.prog vI Db Dc 24:=
 ⟨⟨Tryz.f259,_,Tryz.func259,by decide,rfl,by kernel_rfl,by kernel_rfl,by kernel_rfl,rfl⟩⟩

def Dd:VCode:=
 r_ [j_ 6 0,j_ 7 0] [] (.seq (r_ [m_ 9 2,i_ 10 .lss 9 1,m_ 11 10,M_ 12 2 11 false,M_ 13 0 11 false,M_ 14 1 11 false,o2 15 (.call vI [tm 13,tm 14]) 11 false,B_ 16 .gtr 12 15 11 false,q_ 17 11 16] [9,16] (c_ 17 (r_ [j_ 6 0,j_ 7 8] [] (.ret)) (.skip))) (r_ [m_ 18 0,i_ 19 .sub 18 1,m_ 8 19] [18,19] (r_ [m_ 20 8,i_ 21 .mul 20 365,m_ 22 8,i_ 23 .quo 22 4,b_ 24 .add 21 23,m_ 25 8,i_ 26 .quo 25 100,b_ 27 .sub 24 26,m_ 28 8,i_ 29 .quo 28 400,b_ 30 .add 27 29,m_ 31 0,m_ 32 1,o1 33 (.call gJ [tm 31,tm 32]),b_ 34 .add 30 33,m_ 35 2,b_ 36 .add 34 35,i_ 37 .sub 36 1,m_ 6 37,j_ 7 0] [20,37] (.ret))))
def De:List VRes:=[.tmp 6,.tmp 7]
theorem Ls:FnOk Tryz.prog vJ Dd De 38:=
 ⟨⟨Tryz.f260,_,Tryz.func260,by decide,rfl,by kernel_rfl,by kernel_rfl,by kernel_rfl,rfl⟩⟩

def xW:VCode:=
 r_ [o1 2 (.move (cu 0)),o1 3 (.move (cs [])),o1 4 (.move (cs [])),k_ 5 false] [] (.seq (.block 0 (r_ [m_ 7 0,o1 8 (.lenS (tm 7)),i_ 9 .eql 8 8,m_ 6 9] [7,9] (c_ 6 (r_ [m_ 10 0,o1 2 (.move (cu 1)),m_ 3 10,o1 4 (.move (cs [48,48,48,48,48,48])),k_ 5 true] [10,10] (.ret)) (r_ [m_ 12 0,o1 13 (.lenS (tm 12)),i_ 14 .eql 13 15,m_ 15 14,M_ 16 0 15 true,o2 17 (.indexS (tm 16) (ci 8)) 15 true,o2 18 (.bin (.eql) (tm 17) (cu 84)) 15 true,p_ 19 15 18,m_ 11 19] [12,19] (c_ 11 (.seq (.region [m_ 20 0,o1 21 (.subS (tm 20) none (some (ci 8))),m_ 22 0,o1 23 (.subS (tm 22) (some (ci 9)) none),o1 2 (.move (cu 2)),m_ 3 21,m_ 4 23,k_ 5 true] (.calm) [20,23]) (.ret)) (r_ [m_ 25 0,o1 26 (.lenS (tm 25)),i_ 27 .eql 26 16,m_ 28 27,M_ 29 0 28 true,o2 30 (.indexS (tm 29) (ci 8)) 28 true,o2 31 (.bin (.eql) (tm 30) (cu 84)) 28 true,p_ 32 28 31,m_ 33 32,M_ 34 0 33 true,o2 35 (.indexS (tm 34) (ci 15)) 33 true,o2 36 (.bin (.eql) (tm 35) (cu 90)) 33 true,p_ 37 33 36,m_ 24 37] [25,37] (c_ 24 (.seq (.region [m_ 38 0,o1 39 (.subS (tm 38) none (some (ci 8))),m_ 40 0,o1 41 (.subS (tm 40) (some (ci 9)) (some (ci 15))),o1 2 (.move (cu 3)),m_ 3 39,m_ 4 41,k_ 5 true] (.calm) [38,41]) (.ret)) (.skip)))))))) (r_ [o1 2 (.move (cu 0)),o1 3 (.move (cs [])),o1 4 (.move (cs [])),k_ 5 false] [] (.ret)))
def xX:List VRes:=[.tmp 2,.tmp 3,.tmp 4,.tmp 5]
theorem G4:FnOk Tryz.prog ry xW xX 42:=
 ⟨⟨Tryz.f275,_,Tryz.func275,by decide,rfl,by kernel_rfl,by kernel_rfl,by kernel_rfl,rfl⟩⟩

def uc:VCode:=
 r_ [o1 4 (.move (.const (.nils))),k_ 5 false] [] (r_ [o1 6 (.move (.const (.nils)))] [] (.seq (r_ [m_ 10 1,v_ 11 10,j_ 12 0] [] (.block 0 (.loop (r_ [b_ 13 .lss 12 11] [] (.seq (c_ 13 (.skip) (.exit 0)) (.seq (.block 1 (r_ [o1 14 (.indexAddr 1 (tm 10) (tm 12)),l_ 15 14,m_ 8 15] [14,15] (r_ [j_ 9 0] [] (.seq (.block 2 (.loop (.seq (r_ [m_ 16 8,i_ 17 .gtr 16 0] [16,16] (c_ 17 (.skip) (.exit 2))) (.seq (.block 3 (.seq (r_ [m_ 20 0,t_ 21 20 [],m_ 22 21,M_ 23 0 22 false,o2 24 (.indexS (tm 23) (ci 0)) 22 false,o2 25 (.bin (.lss) (tm 24) (cu 48)) 22 false,q_ 26 22 25,m_ 27 26,M_ 28 0 27 false,o2 29 (.indexS (tm 28) (ci 0)) 27 false,o2 30 (.bin (.gtr) (tm 29) (cu 57)) 27 false,q_ 31 27 30] [20,30] (c_ 31 (r_ [o1 4 (.move (.const (.nils))),k_ 5 false] [] (.ret)) (.skip))) (.region [m_ 32 9,i_ 33 .mul 32 10,m_ 34 0,o1 35 (.indexS (tm 34) (ci 0)),o1 36 (.bin (.sub) (tm 35) (cu 48)),o1 37 (.convI (.i64) (tm 36)),b_ 38 .add 33 37,m_ 39 0,o1 40 (.subS (tm 39) (some (ci 1)) none),m_ 9 38,m_ 0 40] (.calm) [32,40]))) (rt [m_ 18 8,i_ 19 .sub 18 1,m_ 8 19] [18,19]))))) (rt [m_ 41 6,m_ 42 9,o1 43 (.buildSlice 1 1 [.val (.int (.i64) 0)] [(0,1,tm 42)]),o1 44 (.append 3 1 8 (tm 41) (tm 43)),m_ 6 44] [41,44]))))) (rt [i_ 45 .add 12 1,m_ 12 45] [45,45]))))))) (r_ [m_ 46 6,m_ 47 0,t_ 48 47 [],m_ 4 46,m_ 5 48] [46,48] (.ret))))
def ud:List VRes:=[.tmp 4,.tmp 5]
theorem C7:FnOk Tryz.prog kM uc ud 49:=
 ⟨⟨Tryz.f276,_,Tryz.func276,by decide,rfl,by kernel_rfl,by kernel_rfl,by kernel_rfl,rfl⟩⟩

def vU:VCode:=
 r_ [k_ 2 false] [] (r_ [m_ 3 0,i_ 4 .geq 3 1,m_ 5 4,M_ 6 0 5 true,I_ 7 .leq 6 9999 5 true,p_ 8 5 7,m_ 2 8] [3,8] (.ret))
def vV:List VRes:=[.tmp 2]
theorem DE:FnOk Tryz.prog m6 vU vV 9:=
 ⟨⟨Tryz.f299,_,Tryz.func299,by decide,rfl,by kernel_rfl,by kernel_rfl,by kernel_rfl,rfl⟩⟩
end Go.Vs.YtcjeehebikeghaaGreatDoor
namespace Go.Vs.YtcjeehebikeghaaGreatDoor.Rc
open Go.Proofs Go.Vs.Cv
def yr(y:Nat):Bool:=decide (1≤y∧y≤9999)
theorem PM{y:Nat}(h:1≤y∧y≤9999):yr y=true:=by simp[yr];omega
theorem Vv{y:Nat}(h:¬(1≤y∧y≤9999)):yr y=false:=by simp[yr];omega
theorem JV(y:Nat)(h:y<1000000):Fn G2 Tryz.prog m6 [.int .i64 y] (.bool (yr y)):=by
 refine ag hm DE (by simp) ?_;simp[vU,vV];by_cases h1:1≤y
 ·by_cases h2:y≤9999
  ·rw[PM ⟨h1,h2⟩];simp(disch:=omega)[wl];omega
  ·rw[Vv (by omega)];simp(disch:=omega)[wl];omega
 ·rw[Vv (by omega)];simp(disch:=omega)[wl]
theorem tm4(y k:Nat)(hk:0<k):(y:Int).tmod (k:Int)=((y%k:Nat):Int):=by
 rw[Int.tmod_eq_emod_of_nonneg (by omega)];exact(Int.natCast_emod y k).symm
theorem YW(y k:Nat)(hk:0<k):(y:Int).tdiv (k:Int)=((y/k:Nat):Int):=by
 rw[Int.tdiv_eq_ediv_of_nonneg (by omega)];exact(Int.natCast_ediv y k).symm
theorem XR(y:Nat)(h:y<1000000):Fn G2 Tryz.prog tA [.int .i64 y] (.bool (yr y&&vB y)):=by
 refine ag hm HQ (by simp) ?_;have hY:=JV y h;have e1:(y:Int).tmod 4=((y%4:Nat):Int):=tm4 y 4 (by omega);have e2:(y:Int).tmod 100=((y%100:Nat):Int):=tm4 y 100 (by omega);have e3:(y:Int).tmod 400=((y%400:Nat):Int):=tm4 y 400 (by omega);obtain⟨a,ha⟩:∃a,y%4=a:=⟨_,rfl⟩;obtain⟨b,hb⟩:∃b,y%100=b:=⟨_,rfl⟩;obtain⟨c,hc⟩:∃c,y%400=c:=⟨_,rfl⟩;have hac:c=0→a=0:=by omega
 have hl:vB y=((decide (a=0)&&decide (b≠0))||decide (c=0)):=by unfold vB;rw[ha,hb,hc]
 rw[ha]at e1;rw[hb]at e2;rw[hc]at e3;rw[hl];simp[Az,AA];refine aa hY ?_;cases hy:yr y with
 |false=>simp(disch:=omega)[wl]
 |true=>
  by_cases q1:a=0
  ·by_cases q2:b=0
   ·by_cases q3:c=0
    ·simp(disch:=omega)[wl,e1,e2,e3,q1,q2,q3]
    ·simp(disch:=omega)[wl,e1,e2,e3,q1,q2,q3]
   ·simp(disch:=omega)[wl,e1,e2,e3,q1,q2]
  ·have q3:¬c=0:=fun e=>q1 (hac e)
   simp(disch:=omega)[wl,e1,e2,e3,q1,q3]
theorem vW(y m:Nat)(hy:1≤y∧y≤9999)(h1:1≤m)(h2:m≤13):Fn G2 Tryz.prog gJ [.int .i64 y,.int .i64 m] (.int .i64 (fR y m:Nat)):=by
 refine ag hm G3 (by simp) ?_;have hL:=XR y (by omega);rw[PM hy,Bool.true_and]at hL;obtain⟨r,hr⟩:=Vu h1 h2
 have hb:PL.getD (m-1) 0=((before m:Nat):Int):=by
  have:m=1∨m=2∨m=3∨m=4∨m=5∨m=6∨m=7∨m=8∨m=9∨m=10∨m=11∨m=12∨m=13:=by omega
  rcases this with rfl|rfl|rfl|rfl|rfl|rfl|rfl|rfl|rfl|rfl|rfl|rfl|rfl<;>rfl
 have hbl:before m≤365:=by
  unfold before;split<;>omega
 rw[hb]at hr;have e0:((m:Int)-1).toNat=m-1:=by omega
 have e1:(0:Int)≤(m:Int)-1:=by omega
 obtain⟨B,hB⟩:∃B,before m=B:=⟨_,rfl⟩;rw[hB]at hr hbl;simp[xU,xV,G2];by_cases q1:2<m
 ·cases q2:vB y with
  |true=>
   have hU:fR y m=B+1:=by unfold fR;rw[hB,if_pos ⟨q1,q2⟩]
   rw[q2]at hL;rw[hU];simp(disch:=omega)[wl,e0,e1,hr];refine⟨by omega,?_⟩;refine aa hL ?_;simp(disch:=omega)[wl]
  |false=>
   have hU:fR y m=B:=by unfold fR;rw[hB,if_neg (by simp[q2])];rfl
   rw[q2]at hL;rw[hU];simp(disch:=omega)[wl,e0,e1,hr];refine⟨by omega,?_⟩;refine aa hL ?_;simp(disch:=omega)[wl]
 ·have hU:fR y m=B:=by unfold fR;rw[hB,if_neg (fun h=>q1 h.1)];rfl
  rw[hU];simp(disch:=omega)[wl,e0,e1,hr];omega
def su(y m:Nat):Nat:=if 1≤y∧y≤9999∧1≤m∧m≤12 then sq y m else 0
theorem AB(y m:Nat):fR y m≤366:=by
 have:before m≤365:=by unfold before;split<;>omega
 unfold fR;split<;>omega
theorem QK(y m:Nat):sq y m≤31:=by
 unfold sq sn
 repeat' split
 all_goals omega
theorem XS(y m:Nat):su y m≤31:=by
 unfold su;split
 ·exact QK y m
 ·omega
theorem aak(y m:Nat)(hy:y<1000000)(hm':m<1000000):Fn G2 Tryz.prog vI [.int .i64 y,.int .i64 m] (.int .i64 (su y m:Nat)):=by
 refine ag hm Lr (by simp) ?_;have hY:=JV y hy;simp[Db,Dc];refine aa hY ?_;by_cases q0:1≤y∧y≤9999
 ·rw[PM q0];by_cases q1:1≤m
  ·by_cases q2:m≤12
   ·have hL:su y m=sq y m:=by unfold su;rw[if_pos ⟨q0.1,q0.2,q1,q2⟩]
    have hu:=sr y q1 q2;have b1:=AB y m;have b2:=AB y (m+1);have h1:=vW y (m+1) q0 (by omega) (by omega);have h2:=vW y m q0 q1 (by omega);rw[show((m+1:Nat):Int)=(m:Int)+1 by omega]at h1;obtain⟨a,ha⟩:∃a,fR y (m+1)=a:=⟨_,rfl⟩;obtain⟨b,hb⟩:∃b,fR y m=b:=⟨_,rfl⟩;rw[ha]at h1 hu b2;rw[hb]at h2 hu b1;have e:((a:Int)-(b:Int))=((sq y m:Nat):Int):=by omega
    rw[hL];simp(disch:=omega)[wl];refine aa h1 ?_;simp(disch:=omega)[wl];refine aa h2 ?_;simp(disch:=omega)[wl,e]
   ·have hL:su y m=0:=by unfold su;rw[if_neg (by omega)]
    rw[hL];simp(disch:=omega)[wl]
  ·have hL:su y m=0:=by unfold su;rw[if_neg (by omega)]
   rw[hL];simp(disch:=omega)[wl]
 ·have hL:su y m=0:=by unfold su;rw[if_neg (by omega)]
  rw[Vv q0,hL];simp(disch:=omega)[wl]
def Vw(y m d:Nat):Nat×Int:=if d<1∨su y m<d then (0,8)else (tw y m d,0)
def JW(p:Nat×Int):IV:=.tuple [.int .i64 (p.1:Nat),.int .i64 p.2]
theorem aal(y m d:Nat)(hy:y<1000000)(hm':m<1000000)(hd:d<1000000):Fn G2 Tryz.prog vJ [.int .i64 y,.int .i64 m,.int .i64 d] (JW (Vw y m d)):=by
 refine ag hm Ls (by simp) ?_;have hL:=aak y m hy hm';obtain⟨R,hR⟩:∃R,Vw y m d=R:=⟨_,rfl⟩;rw[hR];unfold Vw at hR;simp[Dd,De];by_cases q1:d<1
 ·rw[if_pos (.inl q1)]at hR;subst hR;simp(disch:=omega)[wl,JW]
 ·by_cases q2:su y m<d
  ·rw[if_pos (.inr q2)]at hR;subst hR;simp(disch:=omega)[wl];refine aa hL ?_;simp(disch:=omega)[wl,JW]
  ·rw[if_neg (fun h=>h.elim q1 q2)]at hR;subst hR
   have q3:1≤y∧y≤9999∧1≤m∧m≤12:=by
    by_cases h:1≤y∧y≤9999∧1≤m∧m≤12
    ·exact h
    ·unfold su at q2;rw[if_neg h]at q2;omega
   have hU:=vW y m ⟨q3.1,q3.2.1⟩ q3.2.2.1 (by omega);have bU:=AB y m;have bL:=XS y m;obtain⟨p,hp⟩:∃p,y=p+1:=⟨y-1,by omega⟩;have e0:(y:Int)-1=(p:Int):=by omega
   have t1:(p:Int).tdiv 4=((p/4:Nat):Int):=YW p 4 (by omega);have t2:(p:Int).tdiv 100=((p/100:Nat):Int):=YW p 100 (by omega);have t3:(p:Int).tdiv 400=((p/400:Nat):Int):=YW p 400 (by omega);obtain⟨U,hUv⟩:∃U,fR y m=U:=⟨_,rfl⟩
   have hv:tw y m d=p*365+p/4-p/100+p/400+U+d-1:=by
    unfold tw Cv.ahead;rw[hUv,show y-1=p by omega]
   rw[hUv]at hU bU;obtain⟨a,ha⟩:∃a,p/4=a:=⟨_,rfl⟩;obtain⟨b,hb⟩:∃b,p/100=b:=⟨_,rfl⟩;obtain⟨c,hc⟩:∃c,p/400=c:=⟨_,rfl⟩;rw[ha]at t1;rw[hb]at t2;rw[hc]at t3;rw[ha,hb,hc]at hv;have hab:b≤a∧a≤p∧c≤p:=by omega
   rw[hv];simp(disch:=omega)[wl];refine aa hL ?_;simp(disch:=omega)[wl,e0,t1,t2,t3];refine aa hU ?_;simp(disch:=omega)[wl,JW];omega
theorem Vx(n:Nat)(h:n≤3652058):Fn G2 Tryz.prog rr [.int .i64 n] (.bool true):=by
 refine ag hm G0 (by simp) ?_;simp[xO,xP];omega
theorem Vy(n:Nat)(h:n≤3652058):Fn G2 Tryz.prog rx [.int .i64 n] (.tuple [.int .i64 ((kS n).1:Nat),.int .i64 ((kS n).2:Nat)]):=by
 refine ag hm G1 (by simp) ?_;obtain⟨a,ha⟩:∃a,n/146097=a:=⟨_,rfl⟩;obtain⟨n1,h1⟩:∃n1,n%146097=n1:=⟨_,rfl⟩;obtain⟨c0,hc0⟩:∃c0,n1/36524=c0:=⟨_,rfl⟩;obtain⟨c,hc⟩:∃c,min c0 3=c:=⟨_,rfl⟩;obtain⟨n2,h2⟩:∃n2,n1-c*36524=n2:=⟨_,rfl⟩;obtain⟨q,hq⟩:∃q,n2/1461=q:=⟨_,rfl⟩;obtain⟨n3,h3⟩:∃n3,n2%1461=n3:=⟨_,rfl⟩;obtain⟨k0,hk0⟩:∃k0,n3/365=k0:=⟨_,rfl⟩;obtain⟨k,hk⟩:∃k,min k0 3=k:=⟨_,rfl⟩
 have hs:kS n=(1+a*400+100*c+4*q+k,n3-k*365):=by
  unfold kS;simp only[ha,h1,hc0,hc,h2,hq,h3,hk0,hk]
 have t1:(n:Int).tdiv 146097=(a:Int):=by rw[←ha];exact YW n 146097 (by omega)
 have t2:(n:Int).tmod 146097=(n1:Int):=by rw[←h1];exact tm4 n 146097 (by omega)
 have t3:(n1:Int).tdiv 36524=(c0:Int):=by rw[←hc0];exact YW n1 36524 (by omega)
 have t4:min (c0:Int) 3=(c:Int):=by omega
 have t5:(n1:Int)-(c:Int)*36524=(n2:Int):=by omega
 have t6:(n2:Int).tdiv 1461=(q:Int):=by rw[←hq];exact YW n2 1461 (by omega)
 have t7:(n2:Int).tmod 1461=(n3:Int):=by rw[←h3];exact tm4 n2 1461 (by omega)
 have t8:(n3:Int).tdiv 365=(k0:Int):=by rw[←hk0];exact YW n3 365 (by omega)
 have t9:min (k0:Int) 3=(k:Int):=by omega
 have t10:(n3:Int)-(k:Int)*365=((n3-k*365:Nat):Int):=by omega
 have b1:a≤25∧c≤3∧q≤100∧k≤3:=by omega
 rw[hs];simp only;simp[xQ,xS];simp(disch:=omega)[wl,t1,t2,t3,t4,t5,t6,t7,t8,t9,t10];omega
theorem XT(n:Nat)(h:n≤3652058):Fn G2 Tryz.prog tz [.int .i64 n] (.tuple [.int .i64 ((u9 n).1:Nat),.int .i64 ((u9 n).2.1:Nat),.int .i64 ((u9 n).2.2:Nat),.int .i64 0]):=by
 refine ag hm HP (by simp) ?_;have hD:=Vx n h;have hS:=Vy n h;obtain⟨y,m,d,g1,g2,g3,g4,g5,g6,g7,g8⟩:=FT h;obtain⟨⟨Y,t⟩,hs⟩:∃p,kS n=p:=⟨_,rfl⟩
 have hY:Y=y:=by
  have:=congrArg Prod.fst g8;unfold u9 at this;rw[hs]at this;exact this
 have hm2:C4 Y t=m:=by
  have:=congrArg (fun p=>p.2.1) g8;unfold u9 at this;rw[hs]at this;exact this
 have hd2:t-fR Y m+1=d:=by
  have:=congrArg (fun p=>p.2.2) g8;unfold u9 at this;rw[hs]at this;simp only[hm2]at this;exact this
 subst hY;rw[hs]at hS;simp only at hS;have bu:=AB Y m;have bm:=QK Y m;have hul:=Lo Y g3 g4;have hus:=sr Y g3 g4;have hyl:sn Y≤366:=by unfold sn;split<;>omega
 have htl:fR Y m≤t∧t<366:=by
  have hsa:kS n=(Y,fR Y m+d-1):=by
   have e:n=Cv.ahead Y+(fR Y m+d-1):=by rw[←g7];unfold tw;omega
   rw[e];exact D6 g1 (by omega)
  rw[hs]at hsa;have:=congrArg Prod.snd hsa;simp only at this;omega
 have t32:(t:Int).tdiv 32=((t/32:Nat):Int):=YW t 32 (by omega);have h1:=vW Y (t/32+2) ⟨g1,g2⟩ (by omega) (by omega);rw[show((t/32+2:Nat):Int)=((t/32:Nat):Int)+1+1 by omega]at h1;have h2:=vW Y m ⟨g1,g2⟩ g3 (by omega);rw[g8];simp only;unfold C4 at hm2;obtain⟨k,hk⟩:∃k,t/32=k:=⟨_,rfl⟩;rw[hk]at t32 h1 hm2;obtain⟨u,hu⟩:∃u,fR Y (k+2)=u:=⟨_,rfl⟩;obtain⟨v,hv⟩:∃v,fR Y m=v:=⟨_,rfl⟩;rw[hu]at h1 hm2;rw[hv]at h2 htl hd2;have hub:u≤366:=by rw[←hu];exact AB _ _
 simp[Ax,Ay];refine aa hD ?_;simp(disch:=omega)[wl];refine aa hS ?_;simp(disch:=omega)[wl,t32];refine aa h1 ?_;by_cases q:u≤t
 ·rw[if_pos q]at hm2;have e:(k:Int)+1+1=(m:Int):=by omega
  simp(disch:=omega)[wl,e];refine aa h2 ?_;simp(disch:=omega)[wl];omega
 ·rw[if_neg q]at hm2;have e:(k:Int)+1=(m:Int):=by omega
  simp(disch:=omega)[wl,e];refine aa h2 ?_;simp(disch:=omega)[wl];omega
end Go.Vs.YtcjeehebikeghaaGreatDoor.Rc
