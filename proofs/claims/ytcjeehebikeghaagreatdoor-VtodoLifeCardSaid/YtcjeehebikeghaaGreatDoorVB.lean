/- The code of the seat's functions in the small typed code; printed by a program of the prover's. -/
import Derived.Test.YtcjeehebikeghaaGreatDoorRI
set_option linter.unusedVariables false
set_option linter.unusedSimpArgs false
set_option maxRecDepth 100000
set_option maxHeartbeats 4000000
namespace Go.Vs.YtcjeehebikeghaaGreatDoor
open Go.Proofs
def cz:Nat:=10
def oT:Nat:=13
def jP:Nat:=14
def jz:Nat:=17
def rD:Nat:=19
def jQ:Nat:=21
def jR:Nat:=23
def rE:Nat:=24
def rF:Nat:=30
def jA:Nat:=31
def tL:Nat:=39
def pX:Nat:=41
def fC:Nat:=42
def eZ:Nat:=43
def ji:Nat:=53
def mb:Nat:=55
def cJ:Nat:=58
def eI:Nat:=59
def gM:Nat:=61
def me:Nat:=63
def nw:Nat:=64
def rG:Nat:=66
def nO:Nat:=68
def lv:Nat:=79
def rH:Nat:=80
def wg:Nat:=86
def aH:Nat:=94
def aI:Nat:=95
def fD:Nat:=96
def eJ:Nat:=97
def tM:Nat:=133
def oU:Nat:=145
def iJ:Nat:=146
def kB:Nat:=147
def tN:Nat:=148
def mg:Nat:=149
def pY:Nat:=150
def zb:Nat:=154
def oV:Nat:=190
def eQ:Nat:=212
def jB:Nat:=213
def rI:Nat:=214
def rJ:Nat:=215
def dG:Nat:=277
def dA:Nat:=278
def cc:Nat:=279
def dP:Nat:=280
def pZ:Nat:=281
def cO:Nat:=322
def qa:Nat:=323
def AW:VCode:=
 r_ [o1 2 (.alloc z_),o1 3 (.move (.const (.val (.nili))))] [] (.seq (r_ [m_ 9 0,v_ 10 9,i_ 11 .gtr 10 24] [9,10] (c_ 11 (r_ [o1 12 (.build z_ []),o1 13 (.call bH [ci 20,ci 24]),o3 (.store 34 (tm 2) (tm 12)),m_ 3 13] [12,13] (.ret)) (.skip))) (r_ [o1 14 (.call tL []),o1 15 (.build z_ [(9,3,tm 14)]),o1 4 (.alloc z_),o3 (.store 34 (tm 4) (tm 15))] [14,15] (.cut (.seq (r_ [m_ 16 0,v_ 17 16,j_ 18 0] [] (.block 0 (.loop (r_ [b_ 19 .lss 18 17] [] (.seq (c_ 19 (.skip) (.exit 0)) (.seq (.block 1 (r_ [m_ 20 18,o1 21 (.indexAddr 3 (tm 16) (tm 18)),s_ 22 3 21,o1 6 (.alloc [.val (.str []),.nils,.val (.str [])]),m_ 5 20,o3 (.store 3 (tm 6) (tm 22))] [20,22] (r_ [s_ 23 3 6,o1 24 (.call oO [tm 23]),m_ 7 24] [23,24] (.seq (.block 2 (r_ [m_ 28 7,i_ 29 .neq 28 0,m_ 27 29] [28,29] (c_ 27 (.skip) (r_ [f_ 31 0 6,l_ 32 31,t_ 33 32 [66,69,71,73,78],m_ 34 33,F_ 35 0 6 34 false,L_ 36 35 34 false,o2 37 (.bin (.eql) (tm 36) (cs [69,78,68])) 34 false,q_ 38 34 37,m_ 30 38] [31,38] (c_ 30 (rt [j_ 7 11] []) (.seq (.region [f_ 40 0 6,l_ 41 40,o1 42 (.call pX [tm 41]),m_ 43 42,M_ 44 0 43 true,M_ 45 5 43 true,o2 46 (.subV 3 (tm 44) none (some (tm 45)) none) 43 true,F_ 47 0 6 43 true,L_ 48 47 43 true,o2 49 (.call eX [tm 46,tm 48]) 43 true,I_ 50 .gtr 49 0 43 true,p_ 51 43 50,m_ 39 51] (.drawn [] (zL [(2,[(0,1)]),(9,[(0,8)])])) [40,51]) (c_ 39 (rt [j_ 7 19] []) (rt [s_ 25 3 6,o1 26 (.callM fC [tm 4,tm 25]),m_ 7 26] [25,26])))))))) (r_ [m_ 52 7,i_ 53 .neq 52 0] [52,52] (c_ 53 (r_ [o1 54 (.build z_ []),m_ 55 7,m_ 56 5,o1 57 (.call bH [tm 55,tm 56]),o3 (.store 34 (tm 2) (tm 54)),m_ 3 57] [54,57] (.ret)) (.skip))))))) (rt [i_ 58 .add 18 1,m_ 18 58] [58,58]))))))) (.seq (r_ [m_ 59 0,o1 60 (.call eZ [tm 4,tm 59]),m_ 8 60] [59,60] (r_ [m_ 61 8,i_ 62 .neq 61 0] [61,61] (c_ 62 (r_ [o1 63 (.build z_ []),m_ 64 8,m_ 65 0,v_ 66 65,o1 67 (.call bH [tm 64,tm 66]),o3 (.store 34 (tm 2) (tm 63)),m_ 3 67] [63,67] (.ret)) (.skip)))) (r_ [s_ 68 34 4,o3 (.store 34 (tm 2) (tm 68)),o1 3 (.move (.const (.val (.nili))))] [68,68] (.ret)))))))
def AX:List VRes:=[.cell 2 (some 34),.tmp 3]
theorem HY:FnOk Tryz.prog cz AW AX 69:=
 ⟨⟨Tryz.f10,_,Tryz.func10,by decide,rfl,by kernel_rfl,by kernel_rfl,by kernel_rfl,rfl⟩⟩

def AY:VCode:=
 r_ [o1 2 (.box (tm 0)),o1 3 (.box (tm 1)),k_ 4 false] [] (r_ [f_ 5 0 2,l_ 6 5,f_ 7 0 3,l_ 8 7,b_ 9 .eql 6 8,m_ 10 9,F_ 11 1 2 10 true,L_ 12 11 10 true,F_ 13 1 3 10 true,L_ 14 13 10 true,B_ 15 .eql 12 14 10 true,p_ 16 10 15,m_ 17 16,F_ 18 2 2 17 true,o2 19 (.load (some 2) (tm 18)) 17 true,F_ 20 2 3 17 true,o2 21 (.load (some 2) (tm 20)) 17 true,o2 22 (.eqA false [.i,.i] (tm 19) (tm 21)) 17 true,p_ 23 17 22,m_ 24 23,F_ 25 4 2 24 true,o2 26 (.load (some 2) (tm 25)) 24 true,F_ 27 4 3 24 true,o2 28 (.load (some 2) (tm 27)) 24 true,o2 29 (.eqA false [.i,.i] (tm 26) (tm 28)) 24 true,p_ 30 24 29,m_ 31 30,F_ 32 6 2 31 true,o2 33 (.load (some 2) (tm 32)) 31 true,F_ 34 6 3 31 true,o2 35 (.load (some 2) (tm 34)) 31 true,o2 36 (.eqA false [.i,.i] (tm 33) (tm 35)) 31 true,p_ 37 31 36,m_ 38 37,F_ 39 8 2 38 true,L_ 40 39 38 true,F_ 41 8 3 38 true,L_ 42 41 38 true,B_ 43 .eql 40 42 38 true,p_ 44 38 43,m_ 45 44,F_ 46 9 2 45 true,o2 47 (.load (some 3) (tm 46)) 45 true,F_ 48 9 3 45 true,o2 49 (.load (some 3) (tm 48)) 45 true,o2 50 (.eqA false [.i,.i,.i] (tm 47) (tm 49)) 45 true,p_ 51 45 50,m_ 52 51,F_ 53 12 2 52 true,L_ 54 53 52 true,F_ 55 12 3 52 true,L_ 56 55 52 true,B_ 57 .eql 54 56 52 true,p_ 58 52 57,m_ 59 58,F_ 60 13 2 59 true,L_ 61 60 59 true,F_ 62 13 3 59 true,L_ 63 62 59 true,o2 64 (.eqB false (tm 61) (tm 63)) 59 true,p_ 65 59 64,m_ 66 65,F_ 67 14 2 66 true,o2 68 (.load (some 15) (tm 67)) 66 true,F_ 69 14 3 66 true,o2 70 (.load (some 15) (tm 69)) 66 true,o2 71 (.call tE [tm 68,tm 70]) 66 true,p_ 72 66 71,m_ 73 72,F_ 74 29 2 73 true,L_ 75 74 73 true,F_ 76 29 3 73 true,L_ 77 76 73 true,o2 78 (.call ji [tm 75,tm 77]) 73 true,p_ 79 73 78,m_ 80 79,F_ 81 30 2 80 true,L_ 82 81 80 true,F_ 83 30 3 80 true,L_ 84 83 80 true,o2 85 (.call ji [tm 82,tm 84]) 80 true,p_ 86 80 85,m_ 87 86,F_ 88 31 2 87 true,o2 89 (.load (some 2) (tm 88)) 87 true,F_ 90 31 3 87 true,o2 91 (.load (some 2) (tm 90)) 87 true,o2 92 (.eqA false [.i,.i] (tm 89) (tm 91)) 87 true,p_ 93 87 92,m_ 94 93,F_ 95 33 2 94 true,L_ 96 95 94 true,F_ 97 33 3 94 true,L_ 98 97 94 true,o2 99 (.eqB false (tm 96) (tm 98)) 94 true,p_ 100 94 99,m_ 4 100] [5,100] (.ret))
def AZ:List VRes:=[.tmp 4]
theorem HZ:FnOk Tryz.prog oT AY AZ 101:=
 ⟨⟨Tryz.f13,_,Tryz.func13,by decide,rfl,by kernel_rfl,by kernel_rfl,by kernel_rfl,rfl⟩⟩

def B0:VCode:=
 r_ [o1 1 (.box (tm 0)),o1 2 (.alloc z_)] [] (.seq (.region [f_ 3 0 1,l_ 4 3,f_ 5 1 1,l_ 6 5,f_ 7 2 1,s_ 8 2 7,f_ 9 4 1,s_ 10 2 9,f_ 11 6 1,s_ 12 2 11,f_ 13 8 1,l_ 14 13,f_ 15 9 1,s_ 16 3 15,f_ 17 12 1,l_ 18 17,f_ 19 13 1,l_ 20 19,f_ 21 14 1,s_ 22 15 21,o1 23 (.call tF [tm 22]),f_ 24 29 1,l_ 25 24,o1 26 (.call mb [tm 25]),f_ 27 30 1,l_ 28 27,o1 29 (.call mb [tm 28]),f_ 30 31 1,s_ 31 2 30,f_ 32 33 1,l_ 33 32,o1 34 (.build z_ [(0,1,tm 4),(1,1,tm 6),(2,2,tm 8),(4,2,tm 10),(6,2,tm 12),(8,1,tm 14),(9,3,tm 16),(12,1,tm 18),(13,1,tm 20),(14,15,tm 23),(29,1,tm 26),(30,1,tm 29),(31,2,tm 31),(33,1,tm 33)]),o3 (.store 34 (tm 2) (tm 34))] (.drawn [(0,20),(1,20),(2,20),(3,20),(4,20),(5,20),(6,20),(7,20),(8,20),(9,20),(10,20),(11,20),(12,20),(13,20),(14,20),(15,20),(16,20),(17,20),(20,21),(20,22),(0,23),(1,23),(2,23),(3,23),(4,23),(5,23),(6,23),(7,23),(8,23),(9,23),(10,23),(11,23),(12,23),(13,23),(14,23),(15,23),(16,23),(17,23),(20,24),(23,24),(20,25),(23,25),(0,26),(1,26),(2,26),(3,26),(4,26),(5,26),(6,26),(7,26),(8,26),(9,26),(10,26),(11,26),(12,26),(13,26),(14,26),(15,26),(16,26),(17,26),(20,27),(23,27),(26,27),(20,28),(23,28),(26,28),(20,29),(23,29),(26,29),(20,30),(23,30),(26,30)] (zL [(20,[(0,19),(21,22),(24,25),(27,30)]),(23,[(0,22),(24,25),(27,30)]),(26,[(0,25),(27,30)])])) [3,34]) (.ret))
def B1:List VRes:=[.cell 2 (some 34)]
theorem I0:FnOk Tryz.prog jP B0 B1 35:=
 ⟨⟨Tryz.f14,_,Tryz.func14,by decide,rfl,by kernel_rfl,by kernel_rfl,by kernel_rfl,rfl⟩⟩

def Di:VCode:=
 r_ [o1 1 (.box (tm 0)),j_ 2 0,k_ 3 false] [] (.seq (r_ [f_ 4 6 1,s_ 5 2 4,o1 6 (.call cJ [tm 5]),m_ 7 6,F_ 8 13 1 7 true,L_ 9 8 7 true,o2 10 (.un (.not) (tm 9)) 7 true,p_ 11 7 10] [4,10] (c_ 11 (r_ [f_ 12 6 1,f_ 13 1 12,l_ 14 13,m_ 2 14,k_ 3 true] [12,14] (.ret)) (.skip))) (.seq (.region [s_ 15 34 1,s_ 16 34 1,o1 17 (.call jQ [tm 16]),o1 18 (.call rD [tm 15,tm 17]),e_ 19 18 0,e_ 20 18 1,m_ 2 19,m_ 3 20] (.drawn [(0,2)] (zL [(2,[(0,1)]),(3,[(0,2)])])) [15,20]) (.ret)))
def Dj:List VRes:=[.tmp 2,.tmp 3]
theorem LC:FnOk Tryz.prog jz Di Dj 21:=
 ⟨⟨Tryz.f17,_,Tryz.func17,by decide,rfl,by kernel_rfl,by kernel_rfl,by kernel_rfl,rfl⟩⟩

def y8:VCode:=
 r_ [o1 2 (.box (tm 0)),j_ 4 0,k_ 5 false] [] (.seq (r_ [m_ 7 1,i_ 8 .lss 7 0,m_ 9 8,M_ 10 1 9 false,I_ 11 .gtr 10 315537897599 9 false,q_ 12 9 11,m_ 13 12,F_ 14 4 2 13 false,o2 15 (.load (some 2) (tm 14)) 13 false,o2 16 (.call cJ [tm 15]) 13 false,o2 17 (.un (.not) (tm 16)) 13 false,q_ 18 13 17] [7,17] (c_ 18 (r_ [j_ 4 0,k_ 5 false] [] (.ret)) (.skip))) (r_ [m_ 19 1,o1 20 (.call eI [tm 2]),b_ 21 .add 19 20,m_ 6 21] [19,21] (.seq (r_ [m_ 22 6,i_ 23 .gtr 22 315537897599] [22,22] (c_ 23 (r_ [j_ 4 0,k_ 5 false] [] (.ret)) (.skip))) (r_ [m_ 24 6,m_ 4 24,k_ 5 true] [24,24] (.ret)))))
def y9:List VRes:=[.tmp 4,.tmp 5]
theorem Gl:FnOk Tryz.prog rD y8 y9 25:=
 ⟨⟨Tryz.f19,_,Tryz.func19,by decide,rfl,by kernel_rfl,by kernel_rfl,by kernel_rfl,rfl⟩⟩

def B2:VCode:=
 r_ [o1 1 (.box (tm 0)),j_ 2 0] [] (.seq (r_ [f_ 3 31 1,s_ 4 2 3,o1 5 (.call cJ [tm 4]),m_ 6 5,F_ 7 13 1 6 true,L_ 8 7 6 true,p_ 9 6 8] [3,8] (c_ 9 (r_ [f_ 10 31 1,f_ 11 1 10,l_ 12 11,m_ 2 12] [10,12] (.ret)) (.skip))) (r_ [f_ 13 4 1,f_ 14 1 13,l_ 15 14,m_ 2 15] [13,15] (.ret)))
def B3:List VRes:=[.tmp 2]
theorem I1:FnOk Tryz.prog jQ B2 B3 16:=
 ⟨⟨Tryz.f21,_,Tryz.func21,by decide,rfl,by kernel_rfl,by kernel_rfl,by kernel_rfl,rfl⟩⟩

def nd:VCode:=
 r_ [o1 3 (.box (tm 1)),o1 4 (.move (.const (.nils)))] [] (.seq (r_ [s_ 6 3 3,o1 7 (.call jA [tm 6]),i_ 8 .neq 7 0] [6,7] (c_ 8 (r_ [m_ 9 0,o1 10 (.call gM [tm 9]),m_ 4 10] [9,10] (.ret)) (.skip))) (r_ [o1 5 (.move (cs []))] [] (.seq (r_ [f_ 11 2 3,l_ 12 11,i_ 13 .geq 12 0] [11,12] (c_ 13 (rt [f_ 15 2 3,l_ 16 15,o1 17 (.build [.val (.int (.u8) 0),.val (.int (.i64) 0)] [(0,1,cu 3),(1,1,tm 16)]),o1 18 (.call i8 [tm 17]),m_ 14 18,e_ 19 14 0,e_ 20 14 1,m_ 5 19] [14,20]) (.skip))) (.seq (.region [m_ 21 0,f_ 22 0 3,l_ 23 22,o1 24 (.call nw [tm 23]),f_ 25 0 3,l_ 26 25,o1 27 (.bin (.neq) (tm 26) (cu 0)),o1 28 (.call me [tm 21,cs [83,84,65,84,85,83],tm 24,tm 27]),m_ 0 28] (.drawn [(0,3),(3,4),(3,5),(3,6)] (zL [(3,[(0,2),(4,6)]),(7,[(0,6)])])) [21,28]) (.seq (.region [m_ 29 0,f_ 30 1 3,l_ 31 30,o1 32 (.call vg [tm 31]),f_ 33 1 3,l_ 34 33,i_ 35 .geq 34 0,o1 36 (.call me [tm 29,cs [80,69,82,67,69,78,84,45,67,79,77,80,76,69,84,69],tm 32,tm 35]),m_ 0 36] (.drawn [(0,3),(3,4),(3,5),(3,6)] (zL [(3,[(0,2),(4,6)]),(7,[(0,6)])])) [29,36]) (r_ [m_ 37 0,m_ 38 5,m_ 39 5,o1 40 (.bin (.neq) (tm 39) (cs [])),o1 41 (.call me [tm 37,cs [67,79,77,80,76,69,84,69,68],tm 38,tm 40]),m_ 4 41] [37,41] (.ret)))))))
def nf:List VRes:=[.tmp 4]
theorem B4:FnOk Tryz.prog jR nd nf 42:=
 ⟨⟨Tryz.f23,_,Tryz.func23,by decide,rfl,by kernel_rfl,by kernel_rfl,by kernel_rfl,rfl⟩⟩

def ya:VCode:=
 r_ [o1 4 (.move (.const (.nils))),o1 5 (.move (.const (.val (.nili))))] [] (.seq (r_ [m_ 11 1,v_ 12 11,j_ 13 0] [] (.block 0 (.loop (r_ [b_ 14 .lss 13 12] [] (.seq (c_ 14 (.skip) (.exit 0)) (.seq (.block 1 (r_ [m_ 15 13,o1 16 (.indexAddr 3 (tm 11) (tm 13)),s_ 17 3 16,o1 7 (.alloc [.val (.str []),.nils,.val (.str [])]),m_ 6 15,o3 (.store 3 (tm 7) (tm 17))] [15,17] (.seq (r_ [s_ 18 3 7,o1 19 (.call oO [tm 18]),m_ 8 19] [18,19] (r_ [m_ 20 8,i_ 21 .neq 20 0] [20,20] (c_ 21 (r_ [m_ 22 8,m_ 23 6,o1 24 (.call bH [tm 22,tm 23]),o1 4 (.move (.const (.nils))),m_ 5 24] [22,24] (.ret)) (.skip)))) (.seq (r_ [f_ 25 0 7,l_ 26 25,o1 27 (.call rG [tm 26])] [25,26] (c_ 27 (r_ [m_ 28 6,o1 29 (.call bH [ci 11,tm 28]),o1 4 (.move (.const (.nils))),m_ 5 29] [28,29] (.ret)) (.skip))) (r_ [f_ 30 2 7,l_ 31 30,t_ 32 31 [],m_ 33 32,F_ 34 1 7 33 true,L_ 35 34 33 true,o2 36 (.lenV (tm 35)) 33 true,I_ 37 .eql 36 0 33 true,p_ 38 33 37] [30,37] (c_ 38 (rt [m_ 39 0,f_ 40 0 7,l_ 41 40,o1 42 (.call iy [tm 39,tm 41]),m_ 0 42] [39,42]) (rt [m_ 43 0,s_ 44 3 7,o1 45 (.call pJ [tm 43,tm 44]),m_ 0 45] [43,45]))))))) (rt [i_ 46 .add 13 1,m_ 13 46] [46,46]))))))) (.seq (r_ [m_ 48 0,o1 49 (.call cz [tm 48]),m_ 47 49,e_ 50 47 0,e_ 51 47 1,o1 9 (.alloc z_),o3 (.store 34 (tm 9) (tm 50)),m_ 10 51] [9,9,47,51] (r_ [m_ 52 10,o1 53 (.eqN true (tm 52))] [52,52] (c_ 53 (r_ [m_ 54 10,o1 55 (.call nO [tm 54]),m_ 56 1,v_ 57 56,o1 58 (.call bH [tm 55,tm 57]),o1 4 (.move (.const (.nils))),m_ 5 58] [54,58] (.ret)) (.skip)))) (r_ [m_ 59 0,o1 60 (.call gM [tm 59]),m_ 4 60,o1 5 (.move (.const (.val (.nili))))] [59,60] (.ret))))
def yb:List VRes:=[.tmp 4,.tmp 5]
theorem Gm:FnOk Tryz.prog rE ya yb 61:=
 ⟨⟨Tryz.f24,_,Tryz.func24,by decide,rfl,by kernel_rfl,by kernel_rfl,by kernel_rfl,rfl⟩⟩

def yc:VCode:=
 r_ [o1 2 (.move (.const (.nils))),j_ 3 0] [] (r_ [m_ 15 0,o1 16 (.call cz [tm 15]),m_ 14 16,e_ 17 14 0,e_ 18 14 1,o1 4 (.alloc z_),o3 (.store 34 (tm 4) (tm 17)),m_ 5 18] [14,18] (.seq (r_ [m_ 19 5,o1 20 (.eqN true (tm 19))] [19,19] (c_ 20 (r_ [m_ 21 5,o1 22 (.call nO [tm 21]),o1 2 (.move (.const (.nils))),m_ 3 22] [21,22] (.ret)) (.skip))) (.seq (r_ [f_ 23 13 4,l_ 24 23,u_ 25 24] [23,24] (c_ 25 (r_ [o1 2 (.move (.const (.nils))),j_ 3 9] [] (.ret)) (.skip))) (.seq (.region [f_ 27 4 4,f_ 28 0 27,l_ 29 28,s_ 30 34 4,o1 31 (.call jQ [tm 30]),o1 32 (.build [.val (.int (.u8) 0),.val (.int (.i64) 0)] [(0,1,tm 29),(1,1,tm 31)]),o1 33 (.call i8 [tm 32]),m_ 26 33,e_ 34 26 0,e_ 35 26 1,m_ 6 34,m_ 7 35] (.drawn [(0,4),(1,4),(2,4)] (zL [(4,[(0,3)]),(6,[(0,5)])])) [7,7,26,35]) (.seq (r_ [s_ 37 34 4,o1 38 (.call jz [tm 37]),m_ 36 38,e_ 39 36 0,e_ 40 36 1,m_ 8 39,m_ 9 40] [36,40] (r_ [m_ 41 9,m_ 42 41,F_ 43 6 4 42 true,o2 44 (.load (some 2) (tm 43)) 42 true,o2 45 (.call cJ [tm 44]) 42 true,p_ 46 42 45] [41,45] (c_ 46 (r_ [f_ 48 6 4,f_ 49 0 48,l_ 50 49,m_ 51 8,o1 52 (.build [.val (.int (.u8) 0),.val (.int (.i64) 0)] [(0,1,tm 50),(1,1,tm 51)]),o1 53 (.call i8 [tm 52]),m_ 47 53,e_ 54 47 0,e_ 55 47 1,m_ 10 54,m_ 11 55] [11,11,47,55] (rt [m_ 56 0,m_ 57 10,o1 58 (.call lv [tm 56,cs [68,85,69],tm 57]),m_ 0 58] [56,58])) (.skip)))) (r_ [m_ 59 0,m_ 60 6,o1 61 (.call lv [tm 59,cs [68,84,83,84,65,82,84],tm 60]),m_ 0 61] [59,61] (.seq (r_ [o1 62 (.build [.val (.str []),.val (.str []),.val (.str []),.val (.str []),.val (.str [])] [(0,1,cs [82,82,85,76,69]),(1,1,cs [82,68,65,84,69]),(2,1,cs [69,88,68,65,84,69]),(3,1,cs [82,69,67,85,82,82,69,78,67,69,45,73,68]),(4,1,cs [88,45,82,69,80,69,65,84])]),j_ 63 0] [] (.block 0 (.loop (r_ [i_ 64 .lss 63 5] [] (.seq (c_ 64 (.skip) (.exit 0)) (.seq (.block 1 (r_ [o1 65 (.indexA 5 1 none (tm 62) (tm 63)),m_ 13 65] [65,65] (rt [m_ 66 0,m_ 67 13,o1 68 (.call iy [tm 66,tm 67]),m_ 0 68] [66,68]))) (rt [i_ 69 .add 63 1,m_ 63 69] [69,69]))))))) (r_ [m_ 70 0,m_ 2 70,j_ 3 0] [70,70] (.ret)))))))))
def yd:List VRes:=[.tmp 2,.tmp 3]
theorem Gn:FnOk Tryz.prog rF yc yd 71:=
 ⟨⟨Tryz.f30,_,Tryz.func30,by decide,rfl,by kernel_rfl,by kernel_rfl,by kernel_rfl,rfl⟩⟩

def wh:VCode:=
 r_ [o1 1 (.box (tm 0)),j_ 2 0] [] (.seq (r_ [f_ 6 0 1,l_ 7 6,o1 8 (.bin (.gtr) (tm 7) (cu 4))] [6,7] (c_ 8 (r_ [j_ 2 11] [] (.ret)) (.skip))) (.seq (r_ [f_ 9 1 1,l_ 10 9,i_ 11 .lss 10 (-1),m_ 12 11,F_ 13 1 1 12 false,L_ 14 13 12 false,I_ 15 .gtr 14 100 12 false,q_ 16 12 15,m_ 17 16,F_ 18 2 1 17 false,L_ 19 18 17 false,I_ 20 .lss 19 (-1) 17 false,q_ 21 17 20,m_ 22 21,F_ 23 2 1 22 false,L_ 24 23 22 false,I_ 25 .gtr 24 315537897599 22 false,q_ 26 22 25] [9,25] (c_ 26 (r_ [j_ 2 8] [] (.ret)) (.skip))) (r_ [f_ 28 0 1,l_ 29 28,o1 30 (.call rH [tm 29]),m_ 27 30,e_ 31 27 0,e_ 32 27 1,m_ 3 31,m_ 4 32] [27,32] (r_ [f_ 33 2 1,l_ 34 33,i_ 35 .neq 34 (-1),m_ 5 35] [33,35] (.seq (r_ [m_ 36 5,f_ 37 0 1,l_ 38 37,o1 39 (.bin (.eql) (tm 38) (cu 3)),o1 40 (.eqB true (tm 36) (tm 39)),m_ 41 40,F_ 42 1 1 41 false,L_ 43 42 41 false,I_ 44 .neq 43 (-1) 41 false,M_ 45 44 41 false,F_ 46 1 1 45 true,L_ 47 46 45 true,M_ 48 3 45 true,B_ 49 .lss 47 48 45 true,M_ 50 49 45 true,F_ 51 1 1 50 false,L_ 52 51 50 false,M_ 53 4 50 false,B_ 54 .gtr 52 53 50 false,o2 55 (.pick (tm 50) (cb true) (tm 54)) 45 true,o2 56 (.pick (tm 45) (tm 55) (cb false)) 41 false,q_ 57 41 56] [36,56] (c_ 57 (r_ [j_ 2 9] [] (.ret)) (.skip))) (r_ [j_ 2 0] [] (.ret)))))))
def wi:List VRes:=[.tmp 2]
theorem DJ:FnOk Tryz.prog jA wh wi 58:=
 ⟨⟨Tryz.f31,_,Tryz.func31,by decide,rfl,by kernel_rfl,by kernel_rfl,by kernel_rfl,rfl⟩⟩

def B5:VCode:=
 r_ [o1 0 (.alloc [.val (.int (.u8) 0),.val (.int (.i64) 0),.val (.int (.i64) 0)])] [] (r_ [o1 1 (.build [.val (.int (.u8) 0),.val (.int (.i64) 0),.val (.int (.i64) 0)] [(0,1,cu 0),(1,1,ci (-1)),(2,1,ci (-1))]),o3 (.store 3 (tm 0) (tm 1))] [1,1] (.ret))
def B6:List VRes:=[.cell 0 (some 3)]
theorem I2:FnOk Tryz.prog tL B5 B6 2:=
 ⟨⟨Tryz.f39,_,Tryz.func39,by decide,rfl,by kernel_rfl,by kernel_rfl,by kernel_rfl,rfl⟩⟩

def qb:VCode:=
 r_ [k_ 2 false] [] (.seq (r_ [m_ 3 0] [] (.block 0 (.seq (r_ [t_ 5 3 [85,73,68],m_ 4 5] [5,5] (c_ 4 (.skip) (r_ [t_ 6 3 [68,84,83,84,65,77,80],m_ 4 6] [6,6] (c_ 4 (.skip) (r_ [t_ 7 3 [83,85,77,77,65,82,89],m_ 4 7] [7,7] (c_ 4 (.skip) (r_ [t_ 8 3 [68,84,83,84,65,82,84],m_ 4 8] [8,8] (c_ 4 (.skip) (r_ [t_ 9 3 [68,85,69],m_ 4 9] [9,9] (c_ 4 (.skip) (r_ [t_ 10 3 [68,85,82,65,84,73,79,78],m_ 4 10] [10,10] (c_ 4 (.skip) (r_ [t_ 11 3 [67,79,77,80,76,69,84,69,68],m_ 4 11] [11,11] (c_ 4 (.skip) (r_ [t_ 12 3 [83,84,65,84,85,83],m_ 4 12] [12,12] (c_ 4 (.skip) (r_ [t_ 13 3 [80,69,82,67,69,78,84,45,67,79,77,80,76,69,84,69],m_ 4 13] [13,13] (c_ 4 (.skip) (r_ [t_ 14 3 [80,82,73,79,82,73,84,89],m_ 4 14] [14,14] (c_ 4 (.skip) (r_ [t_ 15 3 [82,82,85,76,69],m_ 4 15] [15,15] (c_ 4 (.skip) (r_ [t_ 16 3 [82,69,67,85,82,82,69,78,67,69,45,73,68],m_ 4 16] [16,16] (c_ 4 (.skip) (rt [t_ 17 3 [88,45,82,69,80,69,65,84],m_ 4 17] [17,17]))))))))))))))))))))))))) (c_ 4 (r_ [k_ 2 true] [] (.ret)) (.skip))))) (r_ [k_ 2 false] [] (.ret)))
def qc:List VRes:=[.tmp 2]
theorem DK:FnOk Tryz.prog pX qb qc 18:=
 ⟨⟨Tryz.f41,_,Tryz.func41,by decide,rfl,by kernel_rfl,by kernel_rfl,by kernel_rfl,rfl⟩⟩

def fE:VCode:=
 r_ [o1 3 (.box (tm 1)),j_ 4 0] [] (.seq (r_ [m_ 8 0,s_ 9 3 3,o1 10 (.callM aH [tm 8,tm 9]),m_ 7 10,e_ 11 7 0,e_ 12 7 1,m_ 5 11,m_ 6 12] [7,12] (r_ [m_ 13 6] [] (c_ 13 (r_ [m_ 14 5,m_ 4 14] [14,14] (.ret)) (.skip)))) (r_ [m_ 15 0,s_ 16 3 3,o1 17 (.callM aI [tm 15,tm 16]),m_ 4 17] [15,17] (.ret)))
def fF:List VRes:=[.tmp 4]
theorem oW:FnOk Tryz.prog fC fE fF 18:=
 ⟨⟨Tryz.f42,_,Tryz.func42,by decide,rfl,by kernel_rfl,by kernel_rfl,by kernel_rfl,rfl⟩⟩

def jj:VCode:=
 r_ [j_ 4 0] [] (.seq (r_ [m_ 9 1,o1 10 (.call eX [tm 9,cs [85,73,68]]),i_ 11 .eql 10 0,m_ 12 11,M_ 13 1 12 false,o2 14 (.call eX [tm 13,cs [68,84,83,84,65,77,80]]) 12 false,I_ 15 .eql 14 0 12 false,q_ 16 12 15] [9,15] (c_ 16 (r_ [j_ 4 6] [] (.ret)) (.skip))) (.seq (r_ [m_ 17 0,n_ 18 17,f_ 19 9 18,s_ 20 3 19,o1 21 (.call jA [tm 20]),m_ 5 21] [17,21] (r_ [m_ 22 5,i_ 23 .neq 22 0] [22,22] (c_ 23 (r_ [m_ 24 5,m_ 4 24] [24,24] (.ret)) (.skip)))) (.seq (r_ [m_ 25 0,o1 26 (.call fD [tm 25]),m_ 6 26] [25,26] (r_ [m_ 27 6,i_ 28 .neq 27 0] [27,27] (c_ 28 (r_ [m_ 29 6,m_ 4 29] [29,29] (.ret)) (.skip)))) (.seq (r_ [m_ 30 0,n_ 31 30,f_ 32 13 31,l_ 33 32] [30,32] (c_ 33 (r_ [m_ 34 0,m_ 35 1,o1 36 (.call eJ [tm 34,tm 35]),m_ 4 36] [34,36] (.ret)) (.skip))) (.seq (r_ [o1 37 (.build [.val (.str []),.val (.str []),.val (.str []),.val (.str [])] [(0,1,cs [82,68,65,84,69]),(1,1,cs [69,88,68,65,84,69]),(2,1,cs [82,69,67,85,82,82,69,78,67,69,45,73,68]),(3,1,cs [88,45,82,69,80,69,65,84])]),j_ 38 0] [] (.block 0 (.loop (r_ [i_ 39 .lss 38 4] [] (.seq (c_ 39 (.skip) (.exit 0)) (.seq (.block 1 (r_ [o1 40 (.indexA 4 1 none (tm 37) (tm 38)),m_ 8 40] [40,40] (r_ [m_ 41 1,m_ 42 8,o1 43 (.call eX [tm 41,tm 42]),i_ 44 .gtr 43 0] [41,43] (c_ 44 (r_ [j_ 4 9] [] (.ret)) (.skip))))) (rt [i_ 45 .add 38 1,m_ 38 45] [45,45]))))))) (r_ [j_ 4 0] [] (.ret)))))))
def jk:List VRes:=[.tmp 4]
theorem o8:FnOk Tryz.prog eZ jj jk 46:=
 ⟨⟨Tryz.f43,_,Tryz.func43,by decide,rfl,by kernel_rfl,by kernel_rfl,by kernel_rfl,rfl⟩⟩

def qM:VCode:=
 r_ [k_ 4 false] [] (.seq (r_ [m_ 6 0,v_ 7 6,m_ 8 1,v_ 9 8,b_ 10 .neq 7 9] [6,9] (c_ 10 (r_ [k_ 4 false] [] (.ret)) (.skip))) (.seq (r_ [j_ 5 0] [] (.block 0 (.loop (.seq (r_ [m_ 11 5,m_ 12 0,v_ 13 12,b_ 14 .lss 11 13] [11,13] (c_ 14 (.skip) (.exit 0))) (.seq (.block 1 (.seq (.region [m_ 17 0,m_ 18 5,o1 19 (.indexAddr 2 (tm 17) (tm 18)),s_ 20 2 19,m_ 21 1,m_ 22 5,o1 23 (.indexAddr 2 (tm 21) (tm 22)),s_ 24 2 23,o1 25 (.eqA true [.i,.i] (tm 20) (tm 24))] (.calm) [17,24]) (c_ 25 (r_ [k_ 4 false] [] (.ret)) (.skip)))) (rt [m_ 15 5,i_ 16 .add 15 1,m_ 5 16] [15,16])))))) (r_ [k_ 4 true] [] (.ret))))
def qN:List VRes:=[.tmp 4]
theorem zc:FnOk Tryz.prog ji qM qN 26:=
 ⟨⟨Tryz.f53,_,Tryz.func53,by decide,rfl,by kernel_rfl,by kernel_rfl,by kernel_rfl,rfl⟩⟩

def wj:VCode:=
 r_ [o1 2 (.move (.const (.nils)))] [] (r_ [o1 3 (.move (.const (.nils)))] [] (.seq (r_ [j_ 4 0] [] (.block 0 (.loop (.seq (r_ [m_ 5 4,m_ 6 0,v_ 7 6,b_ 8 .lss 5 7] [5,7] (c_ 8 (.skip) (.exit 0))) (.seq (.block 1 (rt [m_ 11 3,m_ 12 0,m_ 13 4,o1 14 (.indexAddr 2 (tm 12) (tm 13)),s_ 15 2 14,o1 16 (.buildSlice 2 1 [.val (.int (.u8) 0),.val (.int (.i64) 0)] [(0,2,tm 15)]),o1 17 (.append 42 2 16 (tm 11) (tm 16)),m_ 3 17] [11,17])) (rt [m_ 9 4,i_ 10 .add 9 1,m_ 4 10] [9,10])))))) (r_ [m_ 18 3,m_ 2 18] [18,18] (.ret))))
def wk:List VRes:=[.tmp 2]
theorem DL:FnOk Tryz.prog mb wj wk 19:=
 ⟨⟨Tryz.f55,_,Tryz.func55,by decide,rfl,by kernel_rfl,by kernel_rfl,by kernel_rfl,rfl⟩⟩

def ye:VCode:=
 r_ [o1 1 (.box (tm 0)),k_ 2 false] [] (r_ [f_ 3 0 1,l_ 4 3,o1 5 (.bin (.neq) (tm 4) (cu 0)),m_ 2 5] [3,5] (.ret))
def yf:List VRes:=[.tmp 2]
theorem Gp:FnOk Tryz.prog cJ ye yf 6:=
 ⟨⟨Tryz.f58,_,Tryz.func58,by decide,rfl,by kernel_rfl,by kernel_rfl,by kernel_rfl,rfl⟩⟩

def iX:VCode:=
 r_ [j_ 2 0] [] (.seq (r_ [m_ 3 0,n_ 4 3,f_ 5 4 4,s_ 6 2 5,o1 7 (.call cJ [tm 6]),m_ 8 7,M_ 9 0 8 true,N_ 10 9 8 true,F_ 11 6 10 8 true,o2 12 (.load (some 2) (tm 11)) 8 true,o2 13 (.call cJ [tm 12]) 8 true,p_ 14 8 13] [3,13] (c_ 14 (.seq (.region [m_ 15 0,n_ 16 15,f_ 17 6 16,f_ 18 1 17,l_ 19 18,m_ 20 0,n_ 21 20,f_ 22 4 21,f_ 23 1 22,l_ 24 23,b_ 25 .sub 19 24,m_ 2 25] (.calm) [15,25]) (.ret)) (.skip))) (r_ [m_ 26 0,n_ 27 26,f_ 28 8 27,l_ 29 28,m_ 2 29] [26,29] (.ret)))
def iY:List VRes:=[.tmp 2]
theorem nP:FnOk Tryz.prog eI iX iY 30:=
 ⟨⟨Tryz.f59,_,Tryz.func59,by decide,rfl,by kernel_rfl,by kernel_rfl,by kernel_rfl,rfl⟩⟩

def oy:VCode:=
 r_ [o1 2 (.move (.const (.nils)))] [] (.seq (r_ [m_ 3 0,o1 4 (.eqS false (tm 3))] [3,3] (c_ 4 (r_ [o1 2 (.move (.const (.nils)))] [] (.ret)) (.skip))) (r_ [o1 5 (.buildSlice 3 0 [.val (.str []),.nils,.val (.str [])] []),m_ 6 0,o1 7 (.append 77 3 56 (tm 5) (tm 6)),m_ 2 7] [5,7] (.ret)))
def oz:List VRes:=[.tmp 2]
theorem wm:FnOk Tryz.prog gM oy oz 8:=
 ⟨⟨Tryz.f61,_,Tryz.func61,by decide,rfl,by kernel_rfl,by kernel_rfl,by kernel_rfl,rfl⟩⟩

def B7:VCode:=
 r_ [o1 8 (.move (.const (.nils)))] [] (.seq (r_ [m_ 9 3] [] (c_ 9 (r_ [m_ 10 0,m_ 11 1,m_ 12 2,o1 13 (.call lv [tm 10,tm 11,tm 12]),m_ 8 13] [10,13] (.ret)) (.skip))) (r_ [m_ 14 0,m_ 15 1,o1 16 (.call iy [tm 14,tm 15]),m_ 8 16] [14,16] (.ret)))
def B8:List VRes:=[.tmp 8]
theorem I3:FnOk Tryz.prog me B7 B8 17:=
 ⟨⟨Tryz.f63,_,Tryz.func63,by decide,rfl,by kernel_rfl,by kernel_rfl,by kernel_rfl,rfl⟩⟩

def yg:VCode:=
 r_ [o1 2 (.move (cs []))] [] (.seq (r_ [m_ 3 0] [] (.block 0 (r_ [o1 5 (.bin (.eql) (tm 3) (cu 1)),m_ 4 5] [5,5] (c_ 4 (r_ [o1 2 (.move (cs [78,69,69,68,83,45,65,67,84,73,79,78]))] [] (.ret)) (r_ [o1 7 (.bin (.eql) (tm 3) (cu 2)),m_ 6 7] [7,7] (c_ 6 (r_ [o1 2 (.move (cs [73,78,45,80,82,79,67,69,83,83]))] [] (.ret)) (r_ [o1 9 (.bin (.eql) (tm 3) (cu 3)),m_ 8 9] [9,9] (c_ 8 (r_ [o1 2 (.move (cs [67,79,77,80,76,69,84,69,68]))] [] (.ret)) (r_ [o1 11 (.bin (.eql) (tm 3) (cu 4)),m_ 10 11] [11,11] (c_ 10 (r_ [o1 2 (.move (cs [67,65,78,67,69,76,76,69,68]))] [] (.ret)) (.skip))))))))))) (r_ [o1 2 (.move (cs []))] [] (.ret)))
def yh:List VRes:=[.tmp 2]
theorem Gq:FnOk Tryz.prog nw yg yh 12:=
 ⟨⟨Tryz.f64,_,Tryz.func64,by decide,rfl,by kernel_rfl,by kernel_rfl,by kernel_rfl,rfl⟩⟩

def rK:VCode:=
 r_ [k_ 2 false] [] (.seq (r_ [m_ 3 0] [] (.block 0 (.seq (r_ [t_ 5 3 [85,73,68],m_ 4 5] [5,5] (c_ 4 (.skip) (r_ [t_ 6 3 [68,84,83,84,65,77,80],m_ 4 6] [6,6] (c_ 4 (.skip) (r_ [t_ 7 3 [83,84,65,84,85,83],m_ 4 7] [7,7] (c_ 4 (.skip) (r_ [t_ 8 3 [80,69,82,67,69,78,84,45,67,79,77,80,76,69,84,69],m_ 4 8] [8,8] (c_ 4 (.skip) (r_ [t_ 9 3 [67,79,77,80,76,69,84,69,68],m_ 4 9] [9,9] (c_ 4 (.skip) (r_ [t_ 10 3 [82,69,76,65,84,69,68,45,84,79],m_ 4 10] [10,10] (c_ 4 (.skip) (r_ [t_ 11 3 [82,82,85,76,69],m_ 4 11] [11,11] (c_ 4 (.skip) (r_ [t_ 12 3 [82,68,65,84,69],m_ 4 12] [12,12] (c_ 4 (.skip) (r_ [t_ 13 3 [69,88,68,65,84,69],m_ 4 13] [13,13] (c_ 4 (.skip) (r_ [t_ 14 3 [82,69,67,85,82,82,69,78,67,69,45,73,68],m_ 4 14] [14,14] (c_ 4 (.skip) (r_ [t_ 15 3 [88,45,82,69,80,69,65,84],m_ 4 15] [15,15] (c_ 4 (.skip) (r_ [t_ 16 3 [66,69,71,73,78],m_ 4 16] [16,16] (c_ 4 (.skip) (rt [t_ 17 3 [69,78,68],m_ 4 17] [17,17]))))))))))))))))))))))))) (c_ 4 (r_ [k_ 2 true] [] (.ret)) (.skip))))) (r_ [k_ 2 false] [] (.ret)))
def rL:List VRes:=[.tmp 2]
theorem Gr:FnOk Tryz.prog rG rK rL 18:=
 ⟨⟨Tryz.f66,_,Tryz.func66,by decide,rfl,by kernel_rfl,by kernel_rfl,by kernel_rfl,rfl⟩⟩

def Dk:VCode:=
 r_ [j_ 2 0] [] (r_ [o1 3 (.alloc [.val (.int (.i64) 0)])] [] (.seq (r_ [m_ 4 0,o1 5 (.eqN false (tm 4)),m_ 6 5,M_ 7 0 6 false,o2 8 (.mkIface 112 (tm 3)) 6 false,o2 9 (.callM lg [tm 7,tm 8]) 6 false,o2 10 (.un (.not) (tm 9)) 6 false,q_ 11 6 10] [4,10] (c_ 11 (r_ [j_ 2 0] [] (.ret)) (.skip))) (r_ [l_ 12 3,m_ 2 12] [12,12] (.ret))))
def Dl:List VRes:=[.tmp 2]
theorem LD:FnOk Tryz.prog nO Dk Dl 13:=
 ⟨⟨Tryz.f68,_,Tryz.func68,by decide,rfl,by kernel_rfl,by kernel_rfl,by kernel_rfl,rfl⟩⟩

def Dm:VCode:=
 r_ [o1 6 (.move (.const (.nils)))] [] (r_ [m_ 10 0,m_ 11 1,o1 12 (.call tv [tm 10,tm 11]),m_ 9 12,e_ 13 9 0,e_ 14 9 1,o1 7 (.alloc [.val (.str []),.nils,.val (.str [])]),o3 (.store 3 (tm 7) (tm 13)),m_ 8 14] [8,14] (r_ [m_ 15 1,m_ 16 2,f_ 17 0 7,o3 (.store 1 (tm 17) (tm 15)),f_ 18 2 7,o3 (.store 1 (tm 18) (tm 16))] [15,18] (r_ [m_ 19 0,s_ 20 3 7,o1 21 (.call pJ [tm 19,tm 20]),m_ 6 21] [19,21] (.ret))))
def Do:List VRes:=[.tmp 6]
theorem LE:FnOk Tryz.prog lv Dm Do 22:=
 ⟨⟨Tryz.f79,_,Tryz.func79,by decide,rfl,by kernel_rfl,by kernel_rfl,by kernel_rfl,rfl⟩⟩

def yi:VCode:=
 r_ [j_ 2 0,j_ 3 0] [] (.seq (r_ [m_ 4 0] [] (.block 0 (r_ [o1 6 (.bin (.eql) (tm 4) (cu 2)),m_ 5 6] [6,6] (c_ 5 (r_ [j_ 2 1,j_ 3 99] [] (.ret)) (r_ [o1 8 (.bin (.eql) (tm 4) (cu 3)),m_ 7 8] [8,8] (c_ 7 (r_ [j_ 2 100,j_ 3 100] [] (.ret)) (r_ [o1 10 (.bin (.eql) (tm 4) (cu 4)),m_ 9 10] [10,10] (c_ 9 (r_ [j_ 2 0,j_ 3 99] [] (.ret)) (.skip))))))))) (r_ [j_ 2 0,j_ 3 0] [] (.ret)))
def yj:List VRes:=[.tmp 2,.tmp 3]
theorem Gs:FnOk Tryz.prog rH yi yj 11:=
 ⟨⟨Tryz.f80,_,Tryz.func80,by decide,rfl,by kernel_rfl,by kernel_rfl,by kernel_rfl,rfl⟩⟩

def Dp:VCode:=
 r_ [o1 1 (.box (tm 0)),o1 2 (.alloc [.val (.int (.u8) 0),.val (.int (.i64) 0),.val (.int (.u8) 0),.val (.int (.i64) 0),.val (.int (.i64) 0),.val (.int (.u8) 0),.val (.int (.i64) 0),.nils,.nils,.nils,.nils,.nils,.nils,.nils,.nils,.nils,.val (.int (.i64) 0),.nils,.nils])] [] (r_ [f_ 3 4 1,s_ 4 2 3,f_ 5 14 1,s_ 6 15 5,f_ 7 29 1,l_ 8 7,f_ 9 30 1,l_ 10 9,o1 11 (.build [.val (.int (.u8) 0),.val (.int (.i64) 0),.val (.int (.u8) 0),.val (.int (.i64) 0),.val (.int (.i64) 0),.val (.int (.u8) 0),.val (.int (.i64) 0),.nils,.nils,.nils,.nils,.nils,.nils,.nils,.nils,.nils,.val (.int (.i64) 0),.nils,.nils] [(0,2,tm 4),(2,15,tm 6),(17,1,tm 8),(18,1,tm 10)]),o3 (.store 19 (tm 2) (tm 11))] [3,11] (.ret))
def Dq:List VRes:=[.cell 2 (some 19)]
theorem LF:FnOk Tryz.prog wg Dp Dq 12:=
 ⟨⟨Tryz.f86,_,Tryz.func86,by decide,rfl,by kernel_rfl,by kernel_rfl,by kernel_rfl,rfl⟩⟩

def aw:VCode:=
 r_ [o1 3 (.box (tm 1)),j_ 4 0,k_ 5 false] [] (r_ [j_ 6 0] [] (r_ [o1 7 (.move (.const (.nils)))] [] (.seq (r_ [f_ 9 0 3,l_ 10 9] [9,9] (.block 0 (r_ [t_ 12 10 [68,84,83,84,65,77,80],m_ 11 12] [12,12] (c_ 11 (rt [m_ 14 0,s_ 15 3 3,o1 16 (.call oU [tm 15]),m_ 13 16,e_ 17 13 0,e_ 18 13 1,n_ 19 14,f_ 20 2 19,o3 (.store 2 (tm 20) (tm 17)),m_ 6 18] [13,20]) (r_ [t_ 22 10 [67,79,77,80,76,69,84,69,68],m_ 21 22] [22,22] (c_ 21 (r_ [o1 8 (.alloc [.val (.int (.u8) 0),.val (.int (.i64) 0)])] [] (r_ [s_ 24 3 3,o1 25 (.call oU [tm 24]),m_ 23 25,e_ 26 23 0,e_ 27 23 1,o3 (.store 2 (tm 8) (tm 26)),m_ 6 27] [23,27] (rt [m_ 28 0,f_ 29 1 8,l_ 30 29,n_ 31 28,f_ 32 9 31,f_ 33 2 32,o3 (.store 1 (tm 33) (tm 30))] [28,33]))) (r_ [t_ 35 10 [68,84,83,84,65,82,84],m_ 34 35] [35,35] (c_ 34 (.cut (.region [s_ 36 3 3,m_ 37 0,n_ 38 37,f_ 39 4 38,o1 40 (.callM iJ [tm 36,tm 39]),m_ 6 40] (.drawn [] (zL [(4,[(0,3)])])) [36,40])) (r_ [t_ 42 10 [68,85,69],m_ 41 42] [42,42] (c_ 41 (.cut (.region [s_ 43 3 3,m_ 44 0,n_ 45 44,f_ 46 6 45,o1 47 (.callM iJ [tm 43,tm 46]),m_ 6 47] (.drawn [] (zL [(4,[(0,3)])])) [43,47])) (r_ [t_ 49 10 [82,69,67,85,82,82,69,78,67,69,45,73,68],m_ 48 49] [49,49] (c_ 48 (.cut (.region [s_ 50 3 3,m_ 51 0,n_ 52 51,f_ 53 31 52,o1 54 (.callM iJ [tm 50,tm 53]),m_ 6 54] (.drawn [] (zL [(4,[(0,3)])])) [50,54])) (r_ [t_ 56 10 [82,68,65,84,69],m_ 55 56] [56,56] (c_ 55 (r_ [s_ 58 3 3,o1 59 (.call kB [tm 58]),m_ 57 59,e_ 60 57 0,e_ 61 57 1,m_ 7 60,m_ 6 61] [57,61] (rt [m_ 62 0,m_ 63 0,n_ 64 63,f_ 65 29 64,l_ 66 65,m_ 67 7,o1 68 (.append 26 2 16 (tm 66) (tm 67)),n_ 69 62,f_ 70 29 69,o3 (.store 1 (tm 70) (tm 68))] [62,70])) (r_ [t_ 72 10 [69,88,68,65,84,69],m_ 71 72] [72,72] (c_ 71 (r_ [s_ 74 3 3,o1 75 (.call kB [tm 74]),m_ 73 75,e_ 76 73 0,e_ 77 73 1,m_ 7 76,m_ 6 77] [73,77] (rt [m_ 78 0,m_ 79 0,n_ 80 79,f_ 81 30 80,l_ 82 81,m_ 83 7,o1 84 (.append 26 2 16 (tm 82) (tm 83)),n_ 85 78,f_ 86 30 85,o3 (.store 1 (tm 86) (tm 84))] [78,86])) (r_ [t_ 88 10 [68,85,82,65,84,73,79,78],m_ 87 88] [88,88] (c_ 87 (r_ [m_ 90 0,f_ 91 2 3,l_ 92 91,o1 93 (.call tN [tm 92]),m_ 89 93,e_ 94 89 0,e_ 95 89 1,n_ 96 90,f_ 97 8 96,o3 (.store 1 (tm 97) (tm 94)),m_ 6 95] [89,97] (r_ [m_ 98 6,i_ 99 .eql 98 0,m_ 100 99,M_ 101 0 100 true,N_ 102 101 100 true,F_ 103 8 102 100 true,L_ 104 103 100 true,I_ 105 .leq 104 0 100 true,p_ 106 100 105] [98,105] (c_ 106 (rt [j_ 6 8] []) (.skip)))) (r_ [j_ 4 0,k_ 5 false] [] (.ret)))))))))))))))))))) (r_ [m_ 107 6,m_ 4 107,k_ 5 true] [107,107] (.ret)))))
def ax:List VRes:=[.tmp 4,.tmp 5]
theorem bb:FnOk Tryz.prog aH aw ax 108:=
 ⟨⟨Tryz.f94,_,Tryz.func94,by decide,rfl,by kernel_rfl,by kernel_rfl,by kernel_rfl,rfl⟩⟩

def au:VCode:=
 r_ [o1 3 (.box (tm 1)),j_ 4 0] [] (r_ [o1 5 (.move (.const (.val (.nili))))] [] (r_ [j_ 6 0] [] (.seq (r_ [f_ 7 0 3,l_ 8 7] [7,7] (.block 0 (r_ [t_ 10 8 [85,73,68],m_ 9 10] [10,10] (c_ 9 (r_ [m_ 11 0,f_ 12 2 3,l_ 13 12,n_ 14 11,f_ 15 0 14,o3 (.store 1 (tm 15) (tm 13))] [11,15] (r_ [f_ 16 2 3,l_ 17 16,o1 18 (.call jN [tm 17]),u_ 19 18] [16,18] (c_ 19 (rt [j_ 6 4] []) (.skip)))) (r_ [t_ 21 8 [83,85,77,77,65,82,89],m_ 20 21] [21,21] (c_ 20 (rt [m_ 23 0,f_ 24 2 3,l_ 25 24,o1 26 (.call mg [tm 25]),m_ 22 26,e_ 27 22 0,e_ 28 22 1,n_ 29 23,f_ 30 1 29,o3 (.store 1 (tm 30) (tm 27)),m_ 5 28] [22,30]) (r_ [t_ 32 8 [83,84,65,84,85,83],m_ 31 32] [32,32] (c_ 31 (rt [m_ 34 0,f_ 35 2 3,l_ 36 35,o1 37 (.call pY [tm 36]),m_ 33 37,e_ 38 33 0,e_ 39 33 1,n_ 40 34,f_ 41 9 40,f_ 42 0 41,o3 (.store 1 (tm 42) (tm 38)),m_ 6 39] [33,42]) (r_ [t_ 44 8 [80,69,82,67,69,78,84,45,67,79,77,80,76,69,84,69],m_ 43 44] [44,44] (c_ 43 (rt [m_ 46 0,f_ 47 2 3,l_ 48 47,o1 49 (.call n6 [tm 48,ci 0,ci 100,cb false]),m_ 45 49,e_ 50 45 0,e_ 51 45 1,n_ 52 46,f_ 53 9 52,f_ 54 1 53,o3 (.store 1 (tm 54) (tm 50)),m_ 5 51] [45,54]) (r_ [t_ 56 8 [80,82,73,79,82,73,84,89],m_ 55 56] [56,56] (c_ 55 (rt [m_ 58 0,f_ 59 2 3,l_ 60 59,o1 61 (.call n6 [tm 60,ci 0,ci 9,cb false]),m_ 57 61,e_ 62 57 0,e_ 63 57 1,n_ 64 58,f_ 65 12 64,o3 (.store 1 (tm 65) (tm 62)),m_ 5 63] [57,65]) (r_ [t_ 67 8 [82,82,85,76,69],m_ 66 67] [67,67] (c_ 66 (r_ [m_ 68 0,n_ 69 68,f_ 70 13 69,o3 (.store 1 (tm 70) (cb true))] [68,70] (rt [m_ 72 0,f_ 73 2 3,l_ 74 73,o1 75 (.call rz [tm 74]),m_ 71 75,e_ 76 71 0,e_ 77 71 1,n_ 78 72,f_ 79 14 78,o3 (.store 15 (tm 79) (tm 76)),m_ 5 77] [71,79])) (r_ [t_ 81 8 [88,45,82,69,80,69,65,84],m_ 80 81] [81,81] (c_ 80 (r_ [m_ 82 0,f_ 83 2 3,l_ 84 83,t_ 85 84 [65,70,84,69,82],n_ 86 82,f_ 87 33 86,o3 (.store 1 (tm 87) (tm 85))] [82,87] (r_ [m_ 88 0,n_ 89 88,f_ 90 33 89,l_ 91 90,u_ 92 91,m_ 93 92,F_ 94 2 3 93 true,L_ 95 94 93 true,o2 96 (.bin (.neq) (tm 95) (cs [83,67,72,69,68,85,76,69])) 93 true,p_ 97 93 96] [88,96] (c_ 97 (rt [j_ 6 4] []) (.skip)))) (r_ [t_ 99 8 [82,69,76,65,84,69,68,45,84,79],m_ 98 99] [99,99] (c_ 98 (rt [s_ 101 3 3,o1 102 (.call rp [tm 101]),m_ 100 102,e_ 103 100 0,e_ 104 100 1,m_ 6 104] [100,104]) (.skip))))))))))))))))))) (.seq (r_ [m_ 105 5,o1 106 (.eqN true (tm 105))] [105,105] (c_ 106 (r_ [m_ 107 5,o1 108 (.call nO [tm 107]),m_ 4 108] [107,108] (.ret)) (.skip))) (r_ [m_ 109 6,m_ 4 109] [109,109] (.ret))))))
def av:List VRes:=[.tmp 4]
theorem bc:FnOk Tryz.prog aI au av 110:=
 ⟨⟨Tryz.f95,_,Tryz.func95,by decide,rfl,by kernel_rfl,by kernel_rfl,by kernel_rfl,rfl⟩⟩

def jC:VCode:=
 r_ [j_ 2 0] [] (.seq (.region [m_ 7 0,n_ 8 7,f_ 9 4 8,s_ 10 2 9,o1 11 (.call cJ [tm 10]),m_ 12 0,n_ 13 12,f_ 14 6 13,s_ 15 2 14,o1 16 (.call cJ [tm 15]),m_ 3 11,m_ 4 16] (.drawn [(4,5),(4,6),(4,7),(4,8)] (zL [(4,[(0,3),(5,8)]),(9,[(0,8)])])) [7,16]) (.seq (.block 0 (r_ [m_ 18 0,n_ 19 18,f_ 20 8 19,l_ 21 20,i_ 22 .gtr 21 0,m_ 23 22,M_ 24 4 23 true,M_ 25 24 23 true,M_ 26 3 25 false,o2 27 (.un (.not) (tm 26)) 25 false,o2 28 (.pick (tm 25) (cb true) (tm 27)) 23 true,p_ 29 23 28,m_ 17 29] [18,29] (c_ 17 (r_ [j_ 2 9] [] (.ret)) (.seq (.region [m_ 31 3,m_ 32 31,M_ 33 4 32 true,p_ 34 32 33,m_ 35 34,M_ 36 0 35 true,N_ 37 36 35 true,F_ 38 4 37 35 true,F_ 39 0 38 35 true,L_ 40 39 35 true,M_ 41 0 35 true,N_ 42 41 35 true,F_ 43 6 42 35 true,F_ 44 0 43 35 true,L_ 45 44 35 true,B_ 46 .neq 40 45 35 true,p_ 47 35 46,m_ 30 47] (.calm) [31,47]) (c_ 30 (r_ [j_ 2 11] [] (.ret)) (.seq (.region [m_ 49 3,m_ 50 49,M_ 51 4 50 true,p_ 52 50 51,m_ 53 52,M_ 54 0 53 true,N_ 55 54 53 true,F_ 56 6 55 53 true,F_ 57 1 56 53 true,L_ 58 57 53 true,M_ 59 0 53 true,N_ 60 59 53 true,F_ 61 4 60 53 true,F_ 62 1 61 53 true,L_ 63 62 53 true,B_ 64 .lss 58 63 53 true,p_ 65 53 64,m_ 48 65] (.calm) [49,65]) (c_ 48 (r_ [j_ 2 8] [] (.ret)) (r_ [m_ 67 0,n_ 68 67,f_ 69 4 68,f_ 70 0 69,l_ 71 70,o1 72 (.bin (.eql) (tm 71) (cu 1)),m_ 73 72,M_ 74 0 73 true,N_ 75 74 73 true,F_ 76 8 75 73 true,L_ 77 76 73 true,I_ 78 .rem 77 86400 73 true,I_ 79 .neq 78 0 73 true,p_ 80 73 79,m_ 66 80] [67,80] (c_ 66 (r_ [j_ 2 9] [] (.ret)) (.skip)))))))))) (.seq (r_ [m_ 81 3] [] (c_ 81 (.seq (.region [m_ 83 0,n_ 84 83,f_ 85 4 84,f_ 86 1 85,l_ 87 86,m_ 88 0,n_ 89 88,f_ 90 8 89,l_ 91 90,o1 92 (.call zb [tm 87,tm 91]),m_ 82 92,e_ 93 82 0,e_ 94 82 1,m_ 5 93,m_ 6 94] (.drawn [] (zL [(9,[(0,8)])])) [5,5,82,94]) (r_ [m_ 95 6,m_ 2 95] [95,95] (.ret))) (.skip))) (r_ [j_ 2 0] [] (.ret)))))
def jD:List VRes:=[.tmp 2]
theorem oX:FnOk Tryz.prog fD jC jD 96:=
 ⟨⟨Tryz.f96,_,Tryz.func96,by decide,rfl,by kernel_rfl,by kernel_rfl,by kernel_rfl,rfl⟩⟩

def iZ:VCode:=
 r_ [j_ 4 0] [] (.seq (r_ [m_ 8 0,n_ 9 8,f_ 10 4 9,s_ 11 2 10,o1 12 (.call cJ [tm 11]),u_ 13 12] [8,12] (c_ 13 (r_ [j_ 4 9] [] (.ret)) (.skip))) (.seq (r_ [m_ 14 0,n_ 15 14,s_ 16 34 15,o1 17 (.call wg [tm 16]),o1 18 (.call tM [tm 17]),m_ 5 18] [14,18] (r_ [m_ 19 5,i_ 20 .neq 19 0] [19,19] (c_ 20 (r_ [m_ 21 5,m_ 4 21] [21,21] (.ret)) (.skip)))) (.seq (r_ [m_ 22 0,n_ 23 22,f_ 24 33 23,l_ 25 24,m_ 26 25,M_ 27 1 26 true,o2 28 (.call eX [tm 27,cs [82,68,65,84,69]]) 26 true,I_ 29 .gtr 28 0 26 true,p_ 30 26 29] [22,29] (c_ 30 (r_ [j_ 4 9] [] (.ret)) (.skip))) (.seq (.seq (.region [m_ 31 0,n_ 32 31,f_ 33 31 32,s_ 34 2 33,o1 35 (.call cJ [tm 34]),m_ 36 35,M_ 37 0 36 true,N_ 38 37 36 true,F_ 39 31 38 36 true,F_ 40 0 39 36 true,L_ 41 40 36 true,M_ 42 0 36 true,N_ 43 42 36 true,F_ 44 4 43 36 true,F_ 45 0 44 36 true,L_ 46 45 36 true,B_ 47 .neq 41 46 36 true,p_ 48 36 47] (.drawn [] (zL [(4,[(0,3)])])) [31,47]) (c_ 48 (r_ [j_ 4 11] [] (.ret)) (.skip))) (.seq (.seq (.region [m_ 49 0,n_ 50 49,f_ 51 31 50,s_ 52 2 51,o1 53 (.call cJ [tm 52]),m_ 54 53,M_ 55 0 54 true,N_ 56 55 54 true,F_ 57 31 56 54 true,F_ 58 1 57 54 true,L_ 59 58 54 true,M_ 60 0 54 true,N_ 61 60 54 true,F_ 62 4 61 54 true,F_ 63 1 62 54 true,L_ 64 63 54 true,B_ 65 .lss 59 64 54 true,p_ 66 54 65] (.drawn [] (zL [(4,[(0,3)])])) [49,65]) (c_ 66 (r_ [j_ 4 8] [] (.ret)) (.skip))) (.seq (r_ [m_ 67 0,n_ 68 67,f_ 69 0 68,l_ 70 69,o1 71 (.call rq [tm 70]),o1 72 (.lenS (tm 71)),i_ 73 .gtr 72 20] [67,72] (c_ 73 (r_ [j_ 4 5] [] (.ret)) (.skip))) (.seq (r_ [m_ 75 0,n_ 76 75,s_ 77 34 76,o1 78 (.call jz [tm 77]),m_ 74 78,e_ 79 74 0,e_ 80 74 1,m_ 6 79,m_ 7 80] [6,6,74,80] (r_ [m_ 81 7,u_ 82 81] [81,81] (c_ 82 (r_ [j_ 4 8] [] (.ret)) (.skip)))) (r_ [j_ 4 0] [] (.ret)))))))))
def j0:List VRes:=[.tmp 4]
theorem nQ:FnOk Tryz.prog eJ iZ j0 83:=
 ⟨⟨Tryz.f97,_,Tryz.func97,by decide,rfl,by kernel_rfl,by kernel_rfl,by kernel_rfl,rfl⟩⟩

def B9:VCode:=
 r_ [o1 1 (.box (tm 0)),j_ 2 0] [] (.seq (r_ [f_ 8 0 1,s_ 9 2 8,o1 10 (.call fw [tm 9]),m_ 3 10] [8,10] (r_ [m_ 11 3,i_ 12 .neq 11 0] [11,11] (c_ 12 (r_ [m_ 13 3,m_ 2 13] [13,13] (.ret)) (.skip)))) (.seq (r_ [f_ 14 2 1,s_ 15 15 14,o1 16 (.call j9 [tm 15]),m_ 4 16] [14,16] (r_ [m_ 17 4,i_ 18 .neq 17 0] [17,17] (c_ 18 (r_ [m_ 19 4,m_ 2 19] [19,19] (.ret)) (.skip)))) (.cut (.seq (r_ [f_ 20 2 1,f_ 21 3 20,f_ 22 0 21,l_ 23 22,m_ 5 23] [20,23] (r_ [m_ 24 5,o1 25 (.bin (.neq) (tm 24) (cu 0)),m_ 26 25,M_ 27 5 26 true,F_ 28 0 1 26 true,F_ 29 0 28 26 true,L_ 30 29 26 true,B_ 31 .neq 27 30 26 true,p_ 32 26 31] [24,31] (c_ 32 (r_ [j_ 2 9] [] (.ret)) (.skip)))) (.cut (r_ [f_ 33 2 1,f_ 34 0 33,l_ 35 34,o1 36 (.bin (.lss) (tm 35) (cu 3)),m_ 37 36,F_ 38 2 1 37 false,F_ 39 7 38 37 false,L_ 40 39 37 false,o2 41 (.lenV (tm 40)) 37 false,I_ 42 .gtr 41 0 37 false,q_ 43 37 42,m_ 44 43,F_ 45 2 1 44 false,F_ 46 6 45 44 false,L_ 47 46 44 false,o2 48 (.lenV (tm 47)) 44 false,I_ 49 .gtr 48 0 44 false,q_ 50 44 49,m_ 51 50,F_ 52 2 1 51 false,F_ 53 5 52 51 false,L_ 54 53 51 false,o2 55 (.lenV (tm 54)) 51 false,I_ 56 .gtr 55 0 51 false,q_ 57 51 56,m_ 6 57] [33,57] (.seq (r_ [m_ 58 6,m_ 59 58,F_ 60 0 1 59 true,F_ 61 0 60 59 true,L_ 62 61 59 true,o2 63 (.bin (.eql) (tm 62) (cu 1)) 59 true,p_ 64 59 63] [58,63] (c_ 64 (r_ [j_ 2 9] [] (.ret)) (.skip))) (.seq (r_ [f_ 65 17 1,l_ 66 65,v_ 67 66,f_ 68 18 1,l_ 69 68,v_ 70 69,o1 71 (.maxI (tm 67) (tm 70)),i_ 72 .gtr 71 12] [65,71] (c_ 72 (r_ [j_ 2 20] [] (.ret)) (.skip))) (.seq (r_ [f_ 73 17 1,l_ 74 73,f_ 75 0 1,f_ 76 0 75,l_ 77 76,o1 78 (.call oV [tm 74,tm 77]),m_ 7 78] [73,78] (r_ [m_ 79 7,i_ 80 .neq 79 0] [79,79] (c_ 80 (r_ [m_ 81 7,m_ 2 81] [81,81] (.ret)) (.skip)))) (r_ [f_ 82 18 1,l_ 83 82,f_ 84 0 1,f_ 85 0 84,l_ 86 85,o1 87 (.call oV [tm 83,tm 86]),m_ 2 87] [82,87] (.ret)))))))))))
def Ba:List VRes:=[.tmp 2]
theorem I4:FnOk Tryz.prog tM B9 Ba 88:=
 ⟨⟨Tryz.f133,_,Tryz.func133,by decide,rfl,by kernel_rfl,by kernel_rfl,by kernel_rfl,rfl⟩⟩

def Bb:VCode:=
 r_ [o1 1 (.box (tm 0)),o1 2 (.alloc [.val (.int (.u8) 0),.val (.int (.i64) 0)]),j_ 3 0] [] (r_ [f_ 7 2 1,l_ 8 7,o1 9 (.call jv [tm 8]),m_ 6 9,e_ 10 6 0,e_ 11 6 1,o1 4 (.alloc [.val (.int (.u8) 0),.val (.int (.i64) 0)]),o3 (.store 2 (tm 4) (tm 10)),m_ 5 11] [6,11] (.seq (r_ [m_ 12 5,i_ 13 .eql 12 0,m_ 14 13,F_ 15 0 4 14 true,L_ 16 15 14 true,o2 17 (.bin (.neq) (tm 16) (cu 3)) 14 true,p_ 18 14 17] [12,17] (c_ 18 (rt [j_ 5 11] []) (.skip))) (r_ [s_ 19 2 4,m_ 20 5,o3 (.store 2 (tm 2) (tm 19)),m_ 3 20] [19,20] (.ret))))
def Bc:List VRes:=[.cell 2 (some 2),.tmp 3]
theorem I5:FnOk Tryz.prog oU Bb Bc 21:=
 ⟨⟨Tryz.f145,_,Tryz.func145,by decide,rfl,by kernel_rfl,by kernel_rfl,by kernel_rfl,rfl⟩⟩

def oY:VCode:=
 r_ [o1 2 (.box (tm 0)),j_ 4 0] [] (r_ [s_ 8 3 2,o1 9 (.call kB [tm 8]),m_ 7 9,e_ 10 7 0,e_ 11 7 1,m_ 5 10,m_ 6 11] [7,11] (.seq (r_ [m_ 12 6,i_ 13 .neq 12 0] [12,12] (c_ 13 (r_ [m_ 14 6,m_ 4 14] [14,14] (.ret)) (.skip))) (.seq (r_ [m_ 15 5,v_ 16 15,i_ 17 .neq 16 1] [15,16] (c_ 17 (r_ [j_ 4 4] [] (.ret)) (.skip))) (r_ [m_ 18 1,m_ 19 5,o1 20 (.indexAddr 2 (tm 19) (ci 0)),s_ 21 2 20,n_ 22 18,o3 (.store 2 (tm 22) (tm 21))] [18,22] (r_ [j_ 4 0] [] (.ret))))))
def oZ:List VRes:=[.tmp 4]
theorem rM:FnOk Tryz.prog iJ oY oZ 23:=
 ⟨⟨Tryz.f146,_,Tryz.func146,by decide,rfl,by kernel_rfl,by kernel_rfl,by kernel_rfl,rfl⟩⟩

def yk:VCode:=
 r_ [o1 1 (.box (tm 0)),o1 2 (.move (.const (.nils))),j_ 3 0] [] (.seq (r_ [f_ 15 1 1,l_ 16 15,o1 17 (.call jM [tm 16,cs [84,90,73,68]]),m_ 14 17,e_ 18 14 0,e_ 19 14 1,o1 4 (.alloc [.val (.str []),.nils]),o3 (.store 2 (tm 4) (tm 18)),m_ 5 19] [4,4,14,19] (r_ [m_ 20 5] [] (c_ 20 (r_ [o1 2 (.move (.const (.nils))),j_ 3 11] [] (.ret)) (.skip)))) (r_ [f_ 22 1 1,l_ 23 22,o1 24 (.call jM [tm 23,cs [86,65,76,85,69]]),m_ 21 24,e_ 25 21 0,e_ 26 21 1,o1 6 (.alloc [.val (.str []),.nils]),o3 (.store 2 (tm 6) (tm 25)),m_ 7 26] [21,26] (r_ [o1 8 (.move (.const (.nils)))] [] (.seq (r_ [f_ 27 2 1,l_ 28 27,o1 29 (.call eE [tm 28,cs [44]]),v_ 30 29,j_ 31 0] [27,28] (.block 0 (.loop (r_ [b_ 32 .lss 31 30] [] (.seq (c_ 32 (.skip) (.exit 0)) (.seq (.block 1 (r_ [o1 33 (.indexAddr 1 (tm 29) (tm 31)),l_ 34 33,m_ 10 34] [33,34] (r_ [m_ 36 10,o1 37 (.call jv [tm 36]),m_ 35 37,e_ 38 35 0,e_ 39 35 1,o1 11 (.alloc [.val (.int (.u8) 0),.val (.int (.i64) 0)]),o3 (.store 2 (tm 11) (tm 38)),m_ 12 39] [35,39] (.seq (r_ [m_ 40 12,i_ 41 .neq 40 0] [40,40] (c_ 41 (r_ [m_ 42 12,o1 2 (.move (.const (.nils))),m_ 3 42] [42,42] (.ret)) (.skip))) (r_ [o1 13 (.move (cs [68,65,84,69]))] [] (.seq (r_ [f_ 43 0 11,l_ 44 43,o1 45 (.bin (.neq) (tm 44) (cu 1))] [43,44] (c_ 45 (rt [o1 13 (.move (cs [68,65,84,69,45,84,73,77,69]))] []) (.skip))) (.seq (.block 2 (r_ [m_ 47 7,m_ 48 47,F_ 49 1 6 48 true,L_ 50 49 48 true,o2 51 (.lenV (tm 50)) 48 true,I_ 52 .neq 51 1 48 true,M_ 53 52 48 true,F_ 54 1 6 53 false,L_ 55 54 53 false,o2 56 (.indexAddr 1 (tm 55) (ci 0)) 53 false,L_ 57 56 53 false,o2 58 (.call nI [tm 57]) 53 false,M_ 59 13 53 false,B_ 60 .neq 58 59 53 false,o2 61 (.pick (tm 53) (cb true) (tm 60)) 48 true,p_ 62 48 61,m_ 46 62] [47,62] (c_ 46 (r_ [o1 2 (.move (.const (.nils))),j_ 3 4] [] (.ret)) (r_ [m_ 64 7,u_ 65 64,m_ 66 65,F_ 67 0 11 66 true,L_ 68 67 66 true,o2 69 (.bin (.eql) (tm 68) (cu 1)) 66 true,p_ 70 66 69,m_ 63 70] [64,70] (c_ 63 (r_ [o1 2 (.move (.const (.nils))),j_ 3 4] [] (.ret)) (.skip)))))) (rt [m_ 71 8,s_ 72 2 11,o1 73 (.buildSlice 2 1 [.val (.int (.u8) 0),.val (.int (.i64) 0)] [(0,2,tm 72)]),o1 74 (.append 26 2 16 (tm 71) (tm 73)),m_ 8 74] [71,74])))))))) (rt [i_ 75 .add 31 1,m_ 31 75] [75,75]))))))) (r_ [m_ 76 8,m_ 2 76,j_ 3 0] [76,76] (.ret))))))
def yl:List VRes:=[.tmp 2,.tmp 3]
theorem Gt:FnOk Tryz.prog kB yk yl 77:=
 ⟨⟨Tryz.f147,_,Tryz.func147,by decide,rfl,by kernel_rfl,by kernel_rfl,by kernel_rfl,rfl⟩⟩

def Bd:VCode:=
 r_ [j_ 2 0,j_ 3 0] [] (r_ [m_ 11 0,o1 12 (.call eQ [tm 11,cs [45]]),m_ 10 12,e_ 13 10 0,e_ 14 10 1,m_ 4 13,m_ 5 14] [10,14] (.seq (r_ [m_ 15 5,u_ 16 15] [15,15] (c_ 16 (rt [m_ 17 0,o1 18 (.call jB [tm 17,cs [43]]),m_ 4 18] [17,18]) (.skip))) (r_ [m_ 20 4,o1 21 (.call eQ [tm 20,cs [80]]),m_ 19 21,e_ 22 19 0,e_ 23 19 1,m_ 6 22,m_ 7 23] [19,23] (.seq (r_ [m_ 24 7,u_ 25 24] [24,24] (c_ 25 (r_ [j_ 2 0,j_ 3 4] [] (.ret)) (.skip))) (r_ [m_ 27 6,o1 28 (.call rI [tm 27]),m_ 26 28,e_ 29 26 0,e_ 30 26 1,m_ 8 29,m_ 9 30] [26,30] (.seq (.block 0 (r_ [m_ 32 9,u_ 33 32,m_ 31 33] [32,33] (c_ 31 (r_ [j_ 2 0,j_ 3 4] [] (.ret)) (r_ [m_ 35 8,i_ 36 .gtr 35 86399913600,m_ 34 36] [35,36] (c_ 34 (r_ [j_ 2 0,j_ 3 8] [] (.ret)) (r_ [m_ 38 5,m_ 37 38] [38,38] (c_ 37 (r_ [m_ 39 8,o1 40 (.un (.neg) (tm 39)),m_ 2 40,j_ 3 0] [39,40] (.ret)) (.skip)))))))) (r_ [m_ 41 8,m_ 2 41,j_ 3 0] [41,41] (.ret))))))))
def Be:List VRes:=[.tmp 2,.tmp 3]
theorem I6:FnOk Tryz.prog tN Bd Be 42:=
 ⟨⟨Tryz.f148,_,Tryz.func148,by decide,rfl,by kernel_rfl,by kernel_rfl,by kernel_rfl,rfl⟩⟩

def qO:VCode:=
 r_ [o1 2 (.move (cs [])),o1 3 (.move (.const (.val (.nili))))] [] (r_ [m_ 8 0,o1 9 (.call rJ [tm 8]),m_ 7 9,e_ 10 7 0,e_ 11 7 1,e_ 12 7 2,m_ 4 10,m_ 5 11,m_ 6 12] [7,12] (.seq (r_ [m_ 13 6,i_ 14 .lss 13 0,m_ 15 14,M_ 16 5 15 true,M_ 17 0 15 true,o2 18 (.lenS (tm 17)) 15 true,B_ 19 .lss 16 18 15 true,p_ 20 15 19] [13,19] (c_ 20 (rt [m_ 21 5,m_ 6 21] [21,21]) (.skip))) (.seq (r_ [m_ 22 6,i_ 23 .geq 22 0] [22,22] (c_ 23 (r_ [m_ 24 6,o1 25 (.call bH [ci 4,tm 24]),o1 2 (.move (cs [])),m_ 3 25] [24,25] (.ret)) (.skip))) (r_ [m_ 26 4,m_ 2 26,o1 3 (.move (.const (.val (.nili))))] [26,26] (.ret)))))
def qP:List VRes:=[.tmp 2,.tmp 3]
theorem zd:FnOk Tryz.prog mg qO qP 27:=
 ⟨⟨Tryz.f149,_,Tryz.func149,by decide,rfl,by kernel_rfl,by kernel_rfl,by kernel_rfl,rfl⟩⟩

def qd:VCode:=
 r_ [o1 2 (.move (cu 0)),j_ 3 0] [] (.seq (r_ [m_ 5 0,o1 6 (.bin (.neq) (tm 5) (cs []))] [5,5] (c_ 6 (r_ [o1 4 (.move (cu 1))] [] (.block 0 (.loop (.seq (r_ [m_ 7 4,o1 8 (.bin (.leq) (tm 7) (cu 4))] [7,7] (c_ 8 (.skip) (.exit 0))) (.seq (.block 1 (r_ [m_ 11 4,o1 12 (.call nw [tm 11]),m_ 13 0,b_ 14 .eql 12 13] [11,13] (c_ 14 (r_ [m_ 15 4,m_ 2 15,j_ 3 0] [15,15] (.ret)) (.skip)))) (rt [m_ 9 4,o1 10 (.bin (.add) (tm 9) (cu 1)),m_ 4 10] [9,10])))))) (.skip))) (r_ [o1 2 (.move (cu 0)),j_ 3 11] [] (.ret)))
def qe:List VRes:=[.tmp 2,.tmp 3]
theorem DM:FnOk Tryz.prog pY qd qe 16:=
 ⟨⟨Tryz.f150,_,Tryz.func150,by decide,rfl,by kernel_rfl,by kernel_rfl,by kernel_rfl,rfl⟩⟩

def Gu:VCode:=
 r_ [j_ 4 0,j_ 5 0] [] (.seq (r_ [m_ 6 0,i_ 7 .lss 6 0,m_ 8 7,M_ 9 0 8 false,I_ 10 .gtr 9 315537897599 8 false,q_ 11 8 10,m_ 12 11,M_ 13 1 12 false,I_ 14 .lss 13 (-86399913600) 12 false,q_ 15 12 14,m_ 16 15,M_ 17 1 16 false,I_ 18 .gtr 17 86399913600 16 false,q_ 19 16 18] [6,18] (c_ 19 (r_ [j_ 4 0,j_ 5 8] [] (.ret)) (.skip))) (r_ [m_ 20 0,m_ 21 1,b_ 22 .add 20 21,m_ 0 22] [20,22] (.seq (r_ [m_ 23 0,i_ 24 .lss 23 0,m_ 25 24,M_ 26 0 25 false,I_ 27 .gtr 26 315537897599 25 false,q_ 28 25 27] [23,27] (c_ 28 (r_ [j_ 4 0,j_ 5 8] [] (.ret)) (.skip))) (r_ [m_ 29 0,m_ 4 29,j_ 5 0] [29,29] (.ret)))))
def Gv:List VRes:=[.tmp 4,.tmp 5]
theorem Oe:FnOk Tryz.prog zb Gu Gv 30:=
 ⟨⟨Tryz.f154,_,Tryz.func154,by decide,rfl,by kernel_rfl,by kernel_rfl,by kernel_rfl,rfl⟩⟩

def Bf:VCode:=
 r_ [j_ 4 0] [] (.seq (r_ [m_ 8 0,v_ 9 8,j_ 10 0] [] (.block 0 (.loop (r_ [b_ 11 .lss 10 9] [] (.seq (c_ 11 (.skip) (.exit 0)) (.seq (.block 1 (r_ [o1 12 (.indexAddr 2 (tm 8) (tm 10)),s_ 13 2 12,o1 6 (.alloc [.val (.int (.u8) 0),.val (.int (.i64) 0)]),o3 (.store 2 (tm 6) (tm 13))] [12,13] (.seq (r_ [s_ 14 2 6,o1 15 (.call fw [tm 14]),m_ 7 15] [14,15] (r_ [m_ 16 7,i_ 17 .neq 16 0] [16,16] (c_ 17 (r_ [m_ 18 7,m_ 4 18] [18,18] (.ret)) (.skip)))) (r_ [f_ 19 0 6,l_ 20 19,m_ 21 1,b_ 22 .neq 20 21] [19,21] (c_ 22 (r_ [j_ 4 11] [] (.ret)) (.skip)))))) (rt [i_ 23 .add 10 1,m_ 10 23] [23,23]))))))) (r_ [j_ 4 0] [] (.ret)))
def Bg:List VRes:=[.tmp 4]
theorem I7:FnOk Tryz.prog oV Bf Bg 24:=
 ⟨⟨Tryz.f190,_,Tryz.func190,by decide,rfl,by kernel_rfl,by kernel_rfl,by kernel_rfl,rfl⟩⟩

def oB:VCode:=
 r_ [o1 4 (.move (cs [])),k_ 5 false] [] (r_ [m_ 6 0,m_ 7 1,o1 8 (.call dG [tm 6,tm 7]),e_ 9 8 0,e_ 10 8 1,m_ 4 9,m_ 5 10] [6,10] (.ret))
def oC:List VRes:=[.tmp 4,.tmp 5]
theorem wn:FnOk Tryz.prog eQ oB oC 11:=
 ⟨⟨Tryz.f212,_,Tryz.func212,by decide,rfl,by kernel_rfl,by kernel_rfl,by kernel_rfl,rfl⟩⟩

def nR:VCode:=
 r_ [o1 4 (.move (cs []))] [] (r_ [m_ 5 0,m_ 6 1,o1 7 (.call dA [tm 5,tm 6]),m_ 4 7] [5,7] (.ret))
def nS:List VRes:=[.tmp 4]
theorem uj:FnOk Tryz.prog jB nR nS 8:=
 ⟨⟨Tryz.f213,_,Tryz.func213,by decide,rfl,by kernel_rfl,by kernel_rfl,by kernel_rfl,rfl⟩⟩

def ym:VCode:=
 r_ [j_ 2 0,k_ 3 false] [] (r_ [m_ 5 0,o1 6 (.build [.val (.str []),.val (.int (.i64) 0),.val (.int (.i64) 0)] [(0,1,tm 5)]),o1 4 (.alloc [.val (.str []),.val (.int (.i64) 0),.val (.int (.i64) 0)]),o3 (.store 3 (tm 4) (tm 6))] [5,6] (.seq (.block 0 (r_ [o1 10 (.callM cc [tm 4,cu 87,ci 604800]),m_ 9 10] [10,10] (c_ 9 (.skip) (r_ [o1 12 (.callM cc [tm 4,cu 68,ci 86400]),m_ 11 12] [12,12] (c_ 11 (r_ [f_ 13 0 4,l_ 14 13,o1 15 (.bin (.neq) (tm 14) (cs [])),m_ 16 15,o2 17 (.callM dP [tm 4]) 16 true,o2 18 (.un (.not) (tm 17)) 16 true,p_ 19 16 18] [13,18] (c_ 19 (r_ [j_ 2 0,k_ 3 false] [] (.ret)) (.skip))) (r_ [o1 7 (.callM dP [tm 4]),u_ 8 7] [7,7] (c_ 8 (r_ [j_ 2 0,k_ 3 false] [] (.ret)) (.skip)))))))) (.seq (.region [f_ 20 1 4,l_ 21 20,f_ 22 0 4,l_ 23 22,t_ 24 23 [],m_ 2 21,m_ 3 24] (.calm) [20,24]) (.ret))))
def yn:List VRes:=[.tmp 2,.tmp 3]
theorem Gw:FnOk Tryz.prog rI ym yn 25:=
 ⟨⟨Tryz.f214,_,Tryz.func214,by decide,rfl,by kernel_rfl,by kernel_rfl,by kernel_rfl,rfl⟩⟩

def yo:VCode:=
 r_ [o1 2 (.move (cs [])),j_ 3 0,j_ 4 0] [] (r_ [o1 5 (.allocB 309)] [] (.seq (r_ [j_ 6 0] [] (.block 0 (.loop (.seq (r_ [m_ 9 6,m_ 10 0,o1 11 (.lenS (tm 10)),b_ 12 .lss 9 11] [9,11] (c_ 12 (.skip) (.exit 0))) (.seq (.block 1 (r_ [m_ 15 0,m_ 16 6,o1 17 (.indexS (tm 15) (tm 16))] [15,16] (.block 2 (r_ [o1 23 (.bin (.eql) (tm 17) (cu 44)),m_ 22 23] [23,23] (c_ 22 (r_ [o1 24 (.callM dO [tm 5]),m_ 25 6,m_ 2 24,m_ 3 25,j_ 4 (-1)] [24,25] (.ret)) (r_ [o1 27 (.bin (.eql) (tm 17) (cu 59)),m_ 26 27] [27,27] (c_ 26 (r_ [m_ 28 6,o1 2 (.move (cs [])),j_ 3 0,m_ 4 28] [28,28] (.ret)) (r_ [o1 30 (.bin (.eql) (tm 17) (cu 92)),m_ 29 30] [30,30] (c_ 29 (.seq (r_ [m_ 31 6,i_ 32 .add 31 1,m_ 33 0,o1 34 (.lenS (tm 33)),b_ 35 .eql 32 34] [31,34] (c_ 35 (r_ [m_ 36 6,o1 2 (.move (cs [])),j_ 3 0,m_ 4 36] [36,36] (.ret)) (.skip))) (r_ [m_ 38 0,m_ 39 6,i_ 40 .add 39 1,o1 41 (.indexS (tm 38) (tm 40)),o1 42 (.call pZ [tm 41]),m_ 37 42,e_ 43 37 0,e_ 44 37 1,m_ 7 43,m_ 8 44] [37,44] (.seq (r_ [m_ 45 8,u_ 46 45] [45,45] (c_ 46 (r_ [m_ 47 6,o1 2 (.move (cs [])),j_ 3 0,m_ 4 47] [47,47] (.ret)) (.skip))) (r_ [m_ 48 7,o1 49 (.callM cD [tm 5,tm 48])] [48,49] (rt [m_ 50 6,i_ 51 .add 50 1,m_ 6 51] [50,51]))))) (rt [m_ 18 0,m_ 19 6,o1 20 (.indexS (tm 18) (tm 19)),o1 21 (.callM cD [tm 5,tm 20])] [18,21])))))))))) (rt [m_ 13 6,i_ 14 .add 13 1,m_ 6 14] [13,14])))))) (r_ [o1 52 (.callM dO [tm 5]),m_ 53 0,o1 54 (.lenS (tm 53)),m_ 2 52,m_ 3 54,j_ 4 (-1)] [52,54] (.ret))))
def yp:List VRes:=[.tmp 2,.tmp 3,.tmp 4]
theorem Gx:FnOk Tryz.prog rJ yo yp 55:=
 ⟨⟨Tryz.f215,_,Tryz.func215,by decide,rfl,by kernel_rfl,by kernel_rfl,by kernel_rfl,rfl⟩⟩

def gv:VCode:=
 r_ [o1 4 (.move (cs [])),k_ 5 false] [] (.seq (r_ [m_ 6 0,m_ 7 1,o1 8 (.call cO [tm 6,tm 7]),u_ 9 8] [6,8] (c_ 9 (r_ [m_ 10 0,m_ 4 10,k_ 5 false] [10,10] (.ret)) (.skip))) (r_ [m_ 11 0,m_ 12 1,o1 13 (.lenS (tm 12)),o1 14 (.subS (tm 11) (some (tm 13)) none),m_ 4 14,k_ 5 true] [11,14] (.ret)))
def gx:List VRes:=[.tmp 4,.tmp 5]
theorem lB:FnOk Tryz.prog dG gv gx 15:=
 ⟨⟨Tryz.f277,_,Tryz.func277,by decide,rfl,by kernel_rfl,by kernel_rfl,by kernel_rfl,rfl⟩⟩

def fO:VCode:=
 r_ [o1 4 (.move (cs []))] [] (.seq (r_ [m_ 5 0,m_ 6 1,o1 7 (.call cO [tm 5,tm 6])] [5,6] (c_ 7 (r_ [m_ 8 0,m_ 9 1,o1 10 (.lenS (tm 9)),o1 11 (.subS (tm 8) (some (tm 10)) none),m_ 4 11] [8,11] (.ret)) (.skip))) (r_ [m_ 12 0,m_ 4 12] [12,12] (.ret)))
def fP:List VRes:=[.tmp 4]
theorem kU:FnOk Tryz.prog dA fO fP 13:=
 ⟨⟨Tryz.f278,_,Tryz.func278,by decide,rfl,by kernel_rfl,by kernel_rfl,by kernel_rfl,rfl⟩⟩

def kC:VCode:=
 r_ [k_ 6 false] [] (r_ [j_ 7 0,j_ 8 0] [] (.seq (.block 0 (.loop (.seq (r_ [m_ 9 8,m_ 10 0,n_ 11 10,f_ 12 0 11,l_ 13 12,o1 14 (.lenS (tm 13)),b_ 15 .lss 9 14,m_ 16 15,M_ 17 8 16 true,I_ 18 .lss 17 6 16 true,p_ 19 16 18,m_ 20 19,M_ 21 0 20 true,N_ 22 21 20 true,F_ 23 0 22 20 true,L_ 24 23 20 true,M_ 25 8 20 true,o2 26 (.indexS (tm 24) (tm 25)) 20 true,o2 27 (.call qa [tm 26]) 20 true,p_ 28 20 27] [9,27] (c_ 28 (.skip) (.exit 0))) (.block 1 (r_ [m_ 29 7,o1 30 (.bin (.mul) (ci 10) (tm 29)),m_ 31 0,n_ 32 31,f_ 33 0 32,l_ 34 33,m_ 35 8,o1 36 (.indexS (tm 34) (tm 35)),o1 37 (.bin (.sub) (tm 36) (cu 48)),o1 38 (.convI (.i64) (tm 37)),b_ 39 .add 30 38,m_ 7 39] [29,39] (rt [m_ 40 8,i_ 41 .add 40 1,m_ 8 41] [40,41])))))) (.seq (r_ [m_ 42 8,i_ 43 .eql 42 0,m_ 44 43,M_ 45 8 44 false,M_ 46 0 44 false,N_ 47 46 44 false,F_ 48 0 47 44 false,L_ 49 48 44 false,o2 50 (.lenS (tm 49)) 44 false,B_ 51 .eql 45 50 44 false,q_ 52 44 51,m_ 53 52,M_ 54 0 53 false,N_ 55 54 53 false,F_ 56 0 55 53 false,L_ 57 56 53 false,M_ 58 8 53 false,o2 59 (.indexS (tm 57) (tm 58)) 53 false,M_ 60 1 53 false,B_ 61 .neq 59 60 53 false,q_ 62 53 61] [42,61] (c_ 62 (r_ [k_ 6 false] [] (.ret)) (.skip))) (r_ [m_ 63 0,m_ 64 0,n_ 65 64,f_ 66 0 65,l_ 67 66,m_ 68 8,i_ 69 .add 68 1,o1 70 (.subS (tm 67) (some (tm 69)) none),n_ 71 63,f_ 72 0 71,o3 (.store 1 (tm 72) (tm 70))] [63,72] (r_ [m_ 73 0,n_ 74 73,f_ 75 1 74,l_ 76 75,m_ 77 7,m_ 78 2,b_ 79 .mul 77 78,b_ 80 .add 76 79,n_ 81 73,f_ 82 1 81,o3 (.store 1 (tm 82) (tm 80))] [73,82] (r_ [m_ 83 0,n_ 84 83,f_ 85 2 84,l_ 86 85,i_ 87 .add 86 1,n_ 88 83,f_ 89 2 88,o3 (.store 1 (tm 89) (tm 87))] [83,89] (r_ [k_ 6 true] [] (.ret))))))))
def kD:List VRes:=[.tmp 6]
theorem qq:FnOk Tryz.prog cc kC kD 90:=
 ⟨⟨Tryz.f279,_,Tryz.func279,by decide,rfl,by kernel_rfl,by kernel_rfl,by kernel_rfl,rfl⟩⟩

def ka:VCode:=
 r_ [k_ 2 false] [] (r_ [m_ 6 0,n_ 7 6,f_ 8 0 7,l_ 9 8,o1 10 (.call eQ [tm 9,cs [84]]),m_ 5 10,e_ 11 5 0,e_ 12 5 1,m_ 3 11,m_ 4 12] [5,12] (.seq (r_ [m_ 13 4,u_ 14 13] [13,13] (c_ 14 (r_ [k_ 2 false] [] (.ret)) (.skip))) (r_ [m_ 15 0,m_ 16 0,m_ 17 3,n_ 18 15,f_ 19 0 18,o3 (.store 1 (tm 19) (tm 17)),n_ 20 16,f_ 21 2 20,o3 (.store 1 (tm 21) (ci 0))] [15,21] (.seq (r_ [m_ 22 3,o1 23 (.call lW [tm 22,cs [48,49,50,51,52,53,54,55,56,57]])] [22,22] (.block 0 (.seq (.block 3 (.seq (.block 2 (.seq (.block 1 (.seq (.seq (.seq (r_ [t_ 25 23 [77],m_ 24 25] [25,25] (c_ 24 (.skip) (r_ [t_ 26 23 [77,83],m_ 24 26] [26,26] (c_ 24 (.skip) (rt [t_ 27 23 [77,48,83],m_ 24 27] [27,27]))))) (c_ 24 (.exit 2) (.skip))) (r_ [t_ 29 23 [83],m_ 28 29] [29,29] (c_ 28 (.exit 3) (.skip)))) (.exit 1))) (rt [m_ 30 0,o1 31 (.callM cc [tm 30,cu 72,ci 3600])] [30,31]))) (rt [m_ 32 0,o1 33 (.callM cc [tm 32,cu 77,ci 60])] [32,33]))) (r_ [m_ 34 0,o1 35 (.callM cc [tm 34,cu 83,ci 1])] [34,35] (.exit 0))))) (r_ [m_ 36 0,n_ 37 36,f_ 38 2 37,l_ 39 38,i_ 40 .gtr 39 0,m_ 2 40] [36,40] (.ret))))))
def kb:List VRes:=[.tmp 2]
theorem qf:FnOk Tryz.prog dP ka kb 41:=
 ⟨⟨Tryz.f280,_,Tryz.func280,by decide,rfl,by kernel_rfl,by kernel_rfl,by kernel_rfl,rfl⟩⟩

def wo:VCode:=
 r_ [o1 2 (.move (cu 0)),k_ 3 false] [] (.seq (r_ [m_ 4 0] [] (.block 0 (.seq (.block 3 (.seq (.block 2 (.seq (.block 1 (.seq (.seq (r_ [o1 6 (.bin (.eql) (tm 4) (cu 78)),m_ 5 6] [6,6] (c_ 5 (.exit 1) (.skip))) (.seq (r_ [o1 8 (.bin (.eql) (tm 4) (cu 110)),m_ 7 8] [8,8] (c_ 7 (.exit 2) (.skip))) (.seq (r_ [o1 10 (.bin (.eql) (tm 4) (cu 92)),m_ 9 10] [10,10] (c_ 9 (.skip) (r_ [o1 11 (.bin (.eql) (tm 4) (cu 59)),m_ 9 11] [11,11] (c_ 9 (.skip) (rt [o1 12 (.bin (.eql) (tm 4) (cu 44)),m_ 9 12] [12,12]))))) (c_ 9 (.exit 3) (.skip))))) (.exit 0))) (rt [o1 0 (.move (cu 110))] []))) (.seq (r_ [o1 2 (.move (cu 10)),k_ 3 true] [] (.ret)) (.exit 0)))) (.seq (r_ [m_ 13 0,m_ 2 13,k_ 3 true] [13,13] (.ret)) (.exit 0))))) (r_ [o1 2 (.move (cu 0)),k_ 3 false] [] (.ret)))
def wq:List VRes:=[.tmp 2,.tmp 3]
theorem DN:FnOk Tryz.prog pZ wo wq 14:=
 ⟨⟨Tryz.f281,_,Tryz.func281,by decide,rfl,by kernel_rfl,by kernel_rfl,by kernel_rfl,rfl⟩⟩

def gy:VCode:=
 r_ [k_ 4 false] [] (r_ [m_ 5 0,o1 6 (.lenS (tm 5)),m_ 7 1,o1 8 (.lenS (tm 7)),b_ 9 .geq 6 8,m_ 10 9,M_ 11 0 10 true,M_ 12 1 10 true,o2 13 (.lenS (tm 12)) 10 true,o2 14 (.subS (tm 11) none (some (tm 13))) 10 true,M_ 15 1 10 true,B_ 16 .eql 14 15 10 true,p_ 17 10 16,m_ 4 17] [5,17] (.ret))
def gA:List VRes:=[.tmp 4]
theorem lC:FnOk Tryz.prog cO gy gA 18:=
 ⟨⟨Tryz.f322,_,Tryz.func322,by decide,rfl,by kernel_rfl,by kernel_rfl,by kernel_rfl,rfl⟩⟩

def wt:VCode:=
 r_ [k_ 2 false] [] (r_ [m_ 3 0,o1 4 (.bin (.geq) (tm 3) (cu 48)),m_ 5 4,M_ 6 0 5 true,o2 7 (.bin (.leq) (tm 6) (cu 57)) 5 true,p_ 8 5 7,m_ 2 8] [3,8] (.ret))
def wu:List VRes:=[.tmp 2]
theorem DO:FnOk Tryz.prog qa wt wu 9:=
 ⟨⟨Tryz.f323,_,Tryz.func323,by decide,rfl,by kernel_rfl,by kernel_rfl,by kernel_rfl,rfl⟩⟩
end Go.Vs.YtcjeehebikeghaaGreatDoor
