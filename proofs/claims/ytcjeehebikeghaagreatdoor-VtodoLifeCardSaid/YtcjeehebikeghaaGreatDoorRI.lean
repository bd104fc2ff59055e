/- The code of the seat's functions in the small typed code; printed by a program of the prover's. -/
import Derived.Test.YtcjeehebikeghaaGreatDoorRD
import Derived.Test.YtcjeehebikeghaaGreatDoorEA
set_option linter.unusedVariables false
set_option linter.unusedSimpArgs false
set_option maxRecDepth 100000
set_option maxHeartbeats 4000000
namespace Go.Vs.YtcjeehebikeghaaGreatDoor
open Go.Proofs
def XW:List SV:=List.replicate 14 (.val (.bool false))

def tE:Nat:=52
def tF:Nat:=54
def rz:Nat:=152
def j9:Nat:=189
def oQ:Nat:=201
def cp:Nat:=204
def rA:Nat:=217
def pQ:Nat:=218
def dj:Nat:=219
def fS:Nat:=221
def fT:Nat:=247
def m7:Nat:=248
def rB:Nat:=249
def m8:Nat:=250
def fU:Nat:=251
def fA:Nat:=283
def jc:Nat:=284
def oR:Nat:=307
def eF:Nat:=308
def ce:Nat:=309
def fV:Nat:=339
def AG:VCode:=
 r_ [o1 2 (.box (tm 0)),o1 3 (.box (tm 1)),k_ 4 false] [] (r_ [f_ 5 0 2,l_ 6 5,f_ 7 0 3,l_ 8 7,b_ 9 .eql 6 8,m_ 10 9,F_ 11 1 2 10 true,L_ 12 11 10 true,F_ 13 1 3 10 true,L_ 14 13 10 true,B_ 15 .eql 12 14 10 true,p_ 16 10 15,m_ 17 16,F_ 18 2 2 17 true,L_ 19 18 17 true,F_ 20 2 3 17 true,L_ 21 20 17 true,B_ 22 .eql 19 21 17 true,p_ 23 17 22,m_ 24 23,F_ 25 3 2 24 true,o2 26 (.load (some 2) (tm 25)) 24 true,F_ 27 3 3 24 true,o2 28 (.load (some 2) (tm 27)) 24 true,o2 29 (.eqA false [.i,.i] (tm 26) (tm 28)) 24 true,p_ 30 24 29,m_ 31 30,F_ 32 14 2 31 true,L_ 33 32 31 true,F_ 34 14 3 31 true,L_ 35 34 31 true,B_ 36 .eql 33 35 31 true,p_ 37 31 36,m_ 38 37,F_ 39 5 2 38 true,L_ 40 39 38 true,F_ 41 5 3 38 true,L_ 42 41 38 true,o2 43 (.call cI [tm 40,tm 42]) 38 true,p_ 44 38 43,m_ 45 44,F_ 46 6 2 45 true,L_ 47 46 45 true,F_ 48 6 3 45 true,L_ 49 48 45 true,o2 50 (.call cI [tm 47,tm 49]) 45 true,p_ 51 45 50,m_ 52 51,F_ 53 7 2 52 true,L_ 54 53 52 true,F_ 55 7 3 52 true,L_ 56 55 52 true,o2 57 (.call cI [tm 54,tm 56]) 52 true,p_ 58 52 57,m_ 59 58,F_ 60 8 2 59 true,L_ 61 60 59 true,F_ 62 8 3 59 true,L_ 63 62 59 true,o2 64 (.call n5 [tm 61,tm 63]) 59 true,p_ 65 59 64,m_ 66 65,F_ 67 9 2 66 true,L_ 68 67 66 true,F_ 69 9 3 66 true,L_ 70 69 66 true,o2 71 (.call cI [tm 68,tm 70]) 66 true,p_ 72 66 71,m_ 73 72,F_ 74 10 2 73 true,L_ 75 74 73 true,F_ 76 10 3 73 true,L_ 77 76 73 true,o2 78 (.call cI [tm 75,tm 77]) 73 true,p_ 79 73 78,m_ 80 79,F_ 81 11 2 80 true,L_ 82 81 80 true,F_ 83 11 3 80 true,L_ 84 83 80 true,o2 85 (.call cI [tm 82,tm 84]) 80 true,p_ 86 80 85,m_ 87 86,F_ 88 12 2 87 true,L_ 89 88 87 true,F_ 90 12 3 87 true,L_ 91 90 87 true,o2 92 (.call cI [tm 89,tm 91]) 87 true,p_ 93 87 92,m_ 94 93,F_ 95 13 2 94 true,L_ 96 95 94 true,F_ 97 13 3 94 true,L_ 98 97 94 true,o2 99 (.call cI [tm 96,tm 98]) 94 true,p_ 100 94 99,m_ 4 100] [5,100] (.ret))
def AH:List VRes:=[.tmp 4]
theorem HS:FnOk Tryz.prog tE AG AH 101:=
 ⟨⟨Tryz.f52,_,Tryz.func52,by decide,rfl,by kernel_rfl,by kernel_rfl,by kernel_rfl,rfl⟩⟩

def AI:VCode:=
 r_ [o1 1 (.box (tm 0)),o1 2 (.alloc Z_)] [] (.seq (.region [f_ 3 0 1,l_ 4 3,f_ 5 1 1,l_ 6 5,f_ 7 2 1,l_ 8 7,f_ 9 3 1,s_ 10 2 9,f_ 11 5 1,l_ 12 11,f_ 13 6 1,l_ 14 13,f_ 15 7 1,l_ 16 15,f_ 17 8 1,l_ 18 17,o1 19 (.call ti [tm 18]),f_ 20 9 1,l_ 21 20,f_ 22 10 1,l_ 23 22,f_ 24 11 1,l_ 25 24,f_ 26 12 1,l_ 27 26,f_ 28 13 1,l_ 29 28,f_ 30 14 1,l_ 31 30,o1 32 (.build Z_ [(0,1,tm 4),(1,1,tm 6),(2,1,tm 8),(3,2,tm 10),(5,1,tm 12),(6,1,tm 14),(7,1,tm 16),(8,1,tm 19),(9,1,tm 21),(10,1,tm 23),(11,1,tm 25),(12,1,tm 27),(13,1,tm 29),(14,1,tm 31)]),o3 (.store 15 (tm 2) (tm 32))] (.drawn [(0,16),(1,16),(2,16),(3,16),(4,16),(5,16),(6,16),(7,16),(8,16),(9,16),(10,16),(11,16),(12,16),(13,16),(16,17),(16,18),(16,19),(16,20),(16,21),(16,22),(16,23),(16,24),(16,25),(16,26),(16,27),(16,28)] (zL [(16,[(0,15),(17,28)])])) [3,32]) (.ret))
def AJ:List VRes:=[.cell 2 (some 15)]
theorem HT:FnOk Tryz.prog tF AI AJ 33:=
 ⟨⟨Tryz.f54,_,Tryz.func54,by decide,rfl,by kernel_rfl,by kernel_rfl,by kernel_rfl,rfl⟩⟩

def xY:VCode:=
 r_ [o1 2 (.alloc Z_),o1 3 (.move (.const (.val (.nili))))] [] (r_ [o1 17 (.build Z_ [(1,1,ci 1)]),o1 4 (.alloc Z_),o3 (.store 15 (tm 4) (tm 17))] [17,17] (r_ [o1 5 (.alloc XW)] [] (r_ [j_ 6 0] [] (.seq (r_ [m_ 18 0,o1 19 (.call eE [tm 18,cs [59]]),v_ 20 19,j_ 21 0] [18,18] (.block 0 (.loop (r_ [b_ 22 .lss 21 20] [] (.seq (c_ 22 (.skip) (.exit 0)) (.seq (.block 1 (r_ [o1 23 (.indexAddr 1 (tm 19) (tm 21)),l_ 24 23,m_ 8 24] [23,24] (r_ [m_ 26 8,o1 27 (.call rA [tm 26,cs [61]]),m_ 25 27,e_ 28 25 0,e_ 29 25 1,e_ 30 25 2,m_ 9 28,m_ 10 29,m_ 11 30] [25,30] (r_ [m_ 31 9,o1 32 (.call pQ [tm 31]),m_ 12 32] [31,32] (.seq (.block 2 (r_ [m_ 34 11,u_ 35 34,m_ 33 35] [34,35] (c_ 33 (r_ [o1 36 (.build Z_ []),m_ 37 6,o1 38 (.call bH [ci 4,tm 37]),o3 (.store 15 (tm 2) (tm 36)),m_ 3 38] [36,38] (.ret)) (r_ [m_ 40 12,i_ 41 .lss 40 0,m_ 39 41] [40,41] (c_ 39 (r_ [o1 42 (.build Z_ []),m_ 43 6,o1 44 (.call bH [ci 11,tm 43]),o3 (.store 15 (tm 2) (tm 42)),m_ 3 44] [42,44] (.ret)) (r_ [m_ 46 12,o1 47 (.indexArr 14 1 (tm 5) (tm 46)),l_ 48 47,m_ 45 48] [46,48] (c_ 45 (r_ [o1 49 (.build Z_ []),m_ 50 6,o1 51 (.call bH [ci 19,tm 50]),o3 (.store 15 (tm 2) (tm 49)),m_ 3 51] [49,51] (.ret)) (.skip)))))))) (r_ [m_ 52 12,o1 53 (.indexArr 14 1 (tm 5) (tm 52)),o3 (.store 1 (tm 53) (cb true))] [52,53] (r_ [m_ 54 6,m_ 55 9,o1 56 (.lenS (tm 55)),b_ 57 .add 54 56,i_ 58 .add 57 1,m_ 13 58] [54,58] (.seq (r_ [m_ 59 12,i_ 60 .geq 59 4,m_ 61 60,M_ 62 12 61 true,I_ 63 .leq 62 12 61 true,p_ 64 61 63] [59,63] (c_ 64 (r_ [m_ 65 12,m_ 66 10,o1 67 (.callM dj [tm 4,tm 65,tm 66]),m_ 14 67] [65,67] (r_ [m_ 68 14,o1 69 (.eqN true (tm 68))] [68,68] (c_ 69 (r_ [o1 70 (.build Z_ []),m_ 71 14,m_ 72 13,o1 73 (.call yO [tm 71,tm 72]),o3 (.store 15 (tm 2) (tm 70)),m_ 3 73] [70,73] (.ret)) (.skip)))) (r_ [m_ 74 12,m_ 75 10,o1 76 (.callM fS [tm 4,tm 74,tm 75]),m_ 15 76] [74,76] (r_ [m_ 77 15,o1 78 (.eqN true (tm 77))] [77,77] (c_ 78 (r_ [o1 79 (.build Z_ []),m_ 80 15,o1 81 (.call iG [tm 80]),m_ 82 13,o1 83 (.call bH [tm 81,tm 82]),o3 (.store 15 (tm 2) (tm 79)),m_ 3 83] [79,83] (.ret)) (.skip)))))) (rt [m_ 84 6,m_ 85 8,o1 86 (.lenS (tm 85)),i_ 87 .add 86 1,b_ 88 .add 84 87,m_ 6 88] [84,88]))))))))) (rt [i_ 89 .add 21 1,m_ 21 89] [89,89]))))))) (.seq (r_ [o1 90 (.indexArr 14 1 (tm 5) (ci 0)),l_ 91 90,u_ 92 91] [90,91] (c_ 92 (r_ [o1 93 (.build Z_ []),m_ 94 0,o1 95 (.lenS (tm 94)),o1 96 (.call bH [ci 6,tm 95]),o3 (.store 15 (tm 2) (tm 93)),m_ 3 96] [93,96] (.ret)) (.skip))) (.seq (r_ [s_ 97 15 4,o1 98 (.call j9 [tm 97]),m_ 16 98] [97,98] (r_ [m_ 99 16,i_ 100 .neq 99 0] [99,99] (c_ 100 (r_ [o1 101 (.build Z_ []),m_ 102 16,m_ 103 0,o1 104 (.lenS (tm 103)),o1 105 (.call bH [tm 102,tm 104]),o3 (.store 15 (tm 2) (tm 101)),m_ 3 105] [101,105] (.ret)) (.skip)))) (r_ [s_ 106 15 4,o3 (.store 15 (tm 2) (tm 106)),o1 3 (.move (.const (.val (.nili))))] [106,106] (.ret))))))))
def xZ:List VRes:=[.cell 2 (some 15),.tmp 3]
theorem G5:FnOk Tryz.prog rz xY xZ 107:=
 ⟨⟨Tryz.f152,_,Tryz.func152,by decide,rfl,by kernel_rfl,by kernel_rfl,by kernel_rfl,rfl⟩⟩

def y0:VCode:=
 r_ [o1 1 (.box (tm 0)),j_ 2 0] [] (.seq (r_ [o1 6 (.call fT [tm 1]),m_ 3 6] [6,6] (r_ [m_ 7 3,i_ 8 .neq 7 0] [7,7] (c_ 8 (r_ [m_ 9 3,m_ 2 9] [9,9] (.ret)) (.skip)))) (.seq (r_ [j_ 4 4] [] (.block 0 (.loop (.seq (r_ [m_ 10 4,i_ 11 .leq 10 12] [10,10] (c_ 11 (.skip) (.exit 0))) (.seq (.block 1 (r_ [j_ 5 0] [] (.seq (r_ [m_ 14 4,i_ 15 .eql 14 7] [14,14] (c_ 15 (rt [f_ 16 8 1,l_ 17 16,o1 18 (.call m7 [tm 17]),m_ 5 18] [16,18]) (.region [m_ 19 4,o1 20 (.call cp [tm 1,tm 19]),n_ 21 20,l_ 22 21,m_ 23 4,o1 24 (.call m8 [tm 23]),o1 25 (.call rB [tm 22,tm 24]),m_ 5 25] (.drawn [(1,4),(2,5),(3,5)] (zL [(1,[(0,0),(4,4)]),(5,[(0,4)]),(6,[(0,5)])])) [19,25]))) (r_ [m_ 26 5,i_ 27 .neq 26 0] [26,26] (c_ 27 (r_ [m_ 28 5,m_ 2 28] [28,28] (.ret)) (.skip)))))) (rt [m_ 12 4,i_ 13 .add 12 1,m_ 4 13] [12,13])))))) (.seq (r_ [o1 29 (.call fU [tm 1]),u_ 30 29] [29,29] (c_ 30 (r_ [j_ 2 9] [] (.ret)) (.skip))) (r_ [j_ 2 0] [] (.ret)))))
def y3:List VRes:=[.tmp 2]
theorem G6:FnOk Tryz.prog j9 y0 y3 31:=
 ⟨⟨Tryz.f189,_,Tryz.func189,by decide,rfl,by kernel_rfl,by kernel_rfl,by kernel_rfl,rfl⟩⟩

def AK:VCode:=
 r_ [o1 2 (.move (cs []))] [] (.seq (r_ [m_ 3 0] [] (.block 0 (r_ [o1 5 (.bin (.eql) (tm 3) (cu 0)),m_ 4 5] [5,5] (c_ 4 (r_ [o1 2 (.move (cs [83,69,67,79,78,68,76,89]))] [] (.ret)) (r_ [o1 7 (.bin (.eql) (tm 3) (cu 1)),m_ 6 7] [7,7] (c_ 6 (r_ [o1 2 (.move (cs [77,73,78,85,84,69,76,89]))] [] (.ret)) (r_ [o1 9 (.bin (.eql) (tm 3) (cu 2)),m_ 8 9] [9,9] (c_ 8 (r_ [o1 2 (.move (cs [72,79,85,82,76,89]))] [] (.ret)) (r_ [o1 11 (.bin (.eql) (tm 3) (cu 3)),m_ 10 11] [11,11] (c_ 10 (r_ [o1 2 (.move (cs [68,65,73,76,89]))] [] (.ret)) (r_ [o1 13 (.bin (.eql) (tm 3) (cu 4)),m_ 12 13] [13,13] (c_ 12 (r_ [o1 2 (.move (cs [87,69,69,75,76,89]))] [] (.ret)) (r_ [o1 15 (.bin (.eql) (tm 3) (cu 5)),m_ 14 15] [15,15] (c_ 14 (r_ [o1 2 (.move (cs [77,79,78,84,72,76,89]))] [] (.ret)) (.skip))))))))))))))) (r_ [o1 2 (.move (cs [89,69,65,82,76,89]))] [] (.ret)))
def AL:List VRes:=[.tmp 2]
theorem HU:FnOk Tryz.prog oQ AK AL 16:=
 ⟨⟨Tryz.f201,_,Tryz.func201,by decide,rfl,by kernel_rfl,by kernel_rfl,by kernel_rfl,rfl⟩⟩

def fW:VCode:=
 r_ [o1 4 (.move (.const (.val (.nilp))))] [] (.seq (r_ [m_ 5 1] [] (.block 0 (r_ [i_ 7 .eql 5 4,m_ 6 7] [7,7] (c_ 6 (r_ [m_ 8 0,n_ 9 8,f_ 10 5 9,m_ 4 10] [8,10] (.ret)) (r_ [i_ 12 .eql 5 5,m_ 11 12] [12,12] (c_ 11 (r_ [m_ 13 0,n_ 14 13,f_ 15 6 14,m_ 4 15] [13,15] (.ret)) (r_ [i_ 17 .eql 5 6,m_ 16 17] [17,17] (c_ 16 (r_ [m_ 18 0,n_ 19 18,f_ 20 7 19,m_ 4 20] [18,20] (.ret)) (r_ [i_ 22 .eql 5 8,m_ 21 22] [22,22] (c_ 21 (r_ [m_ 23 0,n_ 24 23,f_ 25 9 24,m_ 4 25] [23,25] (.ret)) (r_ [i_ 27 .eql 5 9,m_ 26 27] [27,27] (c_ 26 (r_ [m_ 28 0,n_ 29 28,f_ 30 10 29,m_ 4 30] [28,30] (.ret)) (r_ [i_ 32 .eql 5 10,m_ 31 32] [32,32] (c_ 31 (r_ [m_ 33 0,n_ 34 33,f_ 35 11 34,m_ 4 35] [33,35] (.ret)) (r_ [i_ 37 .eql 5 11,m_ 36 37] [37,37] (c_ 36 (r_ [m_ 38 0,n_ 39 38,f_ 40 12 39,m_ 4 40] [38,40] (.ret)) (.skip))))))))))))))))) (r_ [m_ 41 0,n_ 42 41,f_ 43 13 42,m_ 4 43] [41,43] (.ret)))
def fX:List VRes:=[.tmp 4]
theorem jw:FnOk Tryz.prog cp fW fX 44:=
 ⟨⟨Tryz.f204,_,Tryz.func204,by decide,rfl,by kernel_rfl,by kernel_rfl,by kernel_rfl,rfl⟩⟩

def y4:VCode:=
 r_ [o1 4 (.move (cs [])),o1 5 (.move (cs [])),k_ 6 false] [] (r_ [m_ 7 0,m_ 8 1,o1 9 (.call fA [tm 7,tm 8]),e_ 10 9 0,e_ 11 9 1,e_ 12 9 2,m_ 4 10,m_ 5 11,m_ 6 12] [7,12] (.ret))
def y5:List VRes:=[.tmp 4,.tmp 5,.tmp 6]
theorem G7:FnOk Tryz.prog rA y4 y5 13:=
 ⟨⟨Tryz.f217,_,Tryz.func217,by decide,rfl,by kernel_rfl,by kernel_rfl,by kernel_rfl,rfl⟩⟩

def vX:VCode:=
 r_ [j_ 2 0] [] (r_ [o1 3 (.buildSlice 1 14 [.val (.str [])] [(0,1,cs [70,82,69,81]),(1,1,cs [85,78,84,73,76]),(2,1,cs [67,79,85,78,84]),(3,1,cs [73,78,84,69,82,86,65,76]),(4,1,cs [66,89,83,69,67,79,78,68]),(5,1,cs [66,89,77,73,78,85,84,69]),(6,1,cs [66,89,72,79,85,82]),(7,1,cs [66,89,68,65,89]),(8,1,cs [66,89,77,79,78,84,72,68,65,89]),(9,1,cs [66,89,89,69,65,82,68,65,89]),(10,1,cs [66,89,87,69,69,75,78,79]),(11,1,cs [66,89,77,79,78,84,72]),(12,1,cs [66,89,83,69,84,80,79,83]),(13,1,cs [87,75,83,84])]),m_ 4 0,o1 5 (.call jc [tm 3,tm 4]),m_ 2 5] [3,5] (.ret))
def vY:List VRes:=[.tmp 2]
theorem DG:FnOk Tryz.prog pQ vX vY 6:=
 ⟨⟨Tryz.f218,_,Tryz.func218,by decide,rfl,by kernel_rfl,by kernel_rfl,by kernel_rfl,rfl⟩⟩

def ek:VCode:=
 r_ [o1 6 (.move (.const (.val (.nili))))] [] (.seq (r_ [m_ 12 1,i_ 13 .eql 12 7] [12,12] (c_ 13 (r_ [m_ 15 2,o1 16 (.call vh [tm 15]),m_ 14 16,e_ 17 14 0,e_ 18 14 1,m_ 7 17,m_ 8 18] [14,18] (r_ [m_ 19 0,m_ 20 7,n_ 21 19,f_ 22 8 21,o3 (.store 1 (tm 22) (tm 20))] [19,22] (r_ [m_ 23 8,m_ 6 23] [23,23] (.ret)))) (.skip))) (r_ [m_ 24 1,o1 25 (.call m8 [tm 24]),o1 9 (.alloc [.val (.int (.i64) 0),.val (.int (.i64) 0),.val (.bool false)]),o3 (.store 3 (tm 9) (tm 25))] [24,25] (r_ [m_ 27 2,f_ 28 0 9,l_ 29 28,f_ 30 1 9,l_ 31 30,f_ 32 2 9,l_ 33 32,o1 34 (.call vl [tm 27,tm 29,tm 31,tm 33]),m_ 26 34,e_ 35 26 0,e_ 36 26 1,m_ 10 35,m_ 11 36] [26,36] (r_ [m_ 37 0,m_ 38 1,o1 39 (.callM cp [tm 37,tm 38]),m_ 40 10,n_ 41 39,o3 (.store 1 (tm 41) (tm 40))] [37,41] (r_ [m_ 42 11,m_ 6 42] [42,42] (.ret))))))
def eo:List VRes:=[.tmp 6]
theorem ic:FnOk Tryz.prog dj ek eo 43:=
 ⟨⟨Tryz.f219,_,Tryz.func219,by decide,rfl,by kernel_rfl,by kernel_rfl,by kernel_rfl,rfl⟩⟩

def jS:VCode:=
 r_ [o1 6 (.move (.const (.val (.nili))))] [] (r_ [o1 7 (.move (.const (.val (.nili))))] [] (r_ [j_ 8 0] [] (.seq (r_ [m_ 9 1] [] (.block 0 (r_ [i_ 11 .eql 9 0,m_ 10 11] [11,11] (c_ 10 (r_ [m_ 12 0,n_ 13 12,f_ 14 0 13,o3 (.store 1 (tm 14) (cu 0))] [12,14] (.seq (.block 1 (.loop (.seq (r_ [m_ 15 0,n_ 16 15,f_ 17 0 16,l_ 18 17,o1 19 (.bin (.lss) (tm 18) (cu 6)),m_ 20 19,M_ 21 0 20 true,N_ 22 21 20 true,F_ 23 0 22 20 true,L_ 24 23 20 true,o2 25 (.call oQ [tm 24]) 20 true,M_ 26 2 20 true,B_ 27 .neq 25 26 20 true,p_ 28 20 27] [15,27] (c_ 28 (.skip) (.exit 1))) (.block 2 (rt [m_ 29 0,n_ 30 29,f_ 31 0 30,l_ 32 31,o1 33 (.bin (.add) (tm 32) (cu 1)),n_ 34 29,f_ 35 0 34,o3 (.store 1 (tm 35) (tm 33))] [29,35]))))) (r_ [m_ 36 0,n_ 37 36,f_ 38 0 37,l_ 39 38,o1 40 (.call oQ [tm 39]),m_ 41 2,b_ 42 .neq 40 41] [36,41] (c_ 42 (rt [j_ 8 11] []) (.skip))))) (r_ [i_ 44 .eql 9 1,m_ 43 44] [44,44] (c_ 43 (rt [m_ 46 0,m_ 47 2,o1 48 (.call jv [tm 47]),m_ 45 48,e_ 49 45 0,e_ 50 45 1,n_ 51 46,f_ 52 3 51,o3 (.store 2 (tm 52) (tm 49)),m_ 8 50] [45,52]) (r_ [i_ 54 .eql 9 2,m_ 53 54] [54,54] (c_ 53 (r_ [m_ 56 0,m_ 57 2,o1 58 (.call n6 [tm 57,ci 1,ci 1000,cb false]),m_ 55 58,e_ 59 55 0,e_ 60 55 1,n_ 61 56,f_ 62 2 61,o3 (.store 1 (tm 62) (tm 59)),m_ 7 60] [55,62] (rt [m_ 63 7,o1 64 (.call iG [tm 63]),m_ 8 64] [63,64])) (r_ [i_ 66 .eql 9 3,m_ 65 66] [66,66] (c_ 65 (r_ [m_ 68 0,m_ 69 2,o1 70 (.call n6 [tm 69,ci 1,ci 1000,cb false]),m_ 67 70,e_ 71 67 0,e_ 72 67 1,n_ 73 68,f_ 74 1 73,o3 (.store 1 (tm 74) (tm 71)),m_ 7 72] [67,74] (rt [m_ 75 7,o1 76 (.call iG [tm 75]),m_ 8 76] [75,76])) (r_ [i_ 78 .eql 9 13,m_ 77 78] [78,78] (c_ 77 (r_ [m_ 79 0,m_ 80 2,o1 81 (.call lX [tm 80]),n_ 82 79,f_ 83 14 82,o3 (.store 1 (tm 83) (tm 81))] [79,83] (r_ [m_ 84 0,n_ 85 84,f_ 86 14 85,l_ 87 86,i_ 88 .lss 87 0] [84,87] (c_ 88 (rt [j_ 8 4] []) (.skip)))) (.skip))))))))))))) (r_ [m_ 89 8,o1 90 (.call bH [tm 89,ci 0]),m_ 6 90] [89,90] (.ret)))))
def jT:List VRes:=[.tmp 6]
theorem pR:FnOk Tryz.prog fS jS jT 91:=
 ⟨⟨Tryz.f221,_,Tryz.func221,by decide,rfl,by kernel_rfl,by kernel_rfl,by kernel_rfl,rfl⟩⟩

def jU:VCode:=
 r_ [j_ 2 0] [] (.seq (.block 0 (r_ [m_ 5 0,n_ 6 5,f_ 7 0 6,l_ 8 7,o1 9 (.bin (.gtr) (tm 8) (cu 6)),m_ 4 9] [5,9] (c_ 4 (r_ [j_ 2 11] [] (.ret)) (r_ [m_ 11 0,n_ 12 11,f_ 13 1 12,l_ 14 13,i_ 15 .lss 14 1,m_ 16 15,M_ 17 0 16 false,N_ 18 17 16 false,F_ 19 1 18 16 false,L_ 20 19 16 false,I_ 21 .gtr 20 1000 16 false,q_ 22 16 21,m_ 23 22,M_ 24 0 23 false,N_ 25 24 23 false,F_ 26 2 25 23 false,L_ 27 26 23 false,I_ 28 .lss 27 0 23 false,q_ 29 23 28,m_ 30 29,M_ 31 0 30 false,N_ 32 31 30 false,F_ 33 2 32 30 false,L_ 34 33 30 false,I_ 35 .gtr 34 1000 30 false,q_ 36 30 35,m_ 37 36,M_ 38 0 37 false,N_ 39 38 37 false,F_ 40 14 39 37 false,L_ 41 40 37 false,o2 42 (.call iH [tm 41]) 37 false,o2 43 (.bin (.eql) (tm 42) (cs [])) 37 false,q_ 44 37 43,m_ 10 44] [11,44] (c_ 10 (r_ [j_ 2 8] [] (.ret)) (r_ [m_ 46 0,n_ 47 46,f_ 48 3 47,s_ 49 2 48,o1 50 (.build [.val (.int (.u8) 0),.val (.int (.i64) 0)] []),o1 51 (.eqA false [.i,.i] (tm 49) (tm 50)),m_ 45 51] [46,51] (c_ 45 (r_ [j_ 2 0] [] (.ret)) (r_ [m_ 53 0,n_ 54 53,f_ 55 3 54,f_ 56 0 55,l_ 57 56,o1 58 (.bin (.eql) (tm 57) (cu 0)),m_ 52 58] [53,58] (c_ 52 (r_ [j_ 2 2] [] (.ret)) (.skip)))))))))) (.seq (r_ [m_ 59 0,n_ 60 59,f_ 61 3 60,s_ 62 2 61,o1 63 (.call fw [tm 62]),m_ 3 63] [59,63] (r_ [m_ 64 3,i_ 65 .neq 64 0] [64,64] (c_ 65 (r_ [m_ 66 3,m_ 2 66] [66,66] (.ret)) (.skip)))) (.seq (r_ [m_ 67 0,n_ 68 67,f_ 69 2 68,l_ 70 69,i_ 71 .gtr 70 0] [67,70] (c_ 71 (r_ [j_ 2 9] [] (.ret)) (.skip))) (r_ [j_ 2 0] [] (.ret)))))
def jV:List VRes:=[.tmp 2]
theorem pS:FnOk Tryz.prog fT jU jV 72:=
 ⟨⟨Tryz.f247,_,Tryz.func247,by decide,rfl,by kernel_rfl,by kernel_rfl,by kernel_rfl,rfl⟩⟩

def qK:VCode:=
 r_ [j_ 2 0] [] (.seq (r_ [m_ 7 0,v_ 8 7,i_ 9 .gtr 8 12] [7,8] (c_ 9 (r_ [j_ 2 20] [] (.ret)) (.skip))) (.seq (r_ [m_ 10 0,v_ 11 10,j_ 12 0] [] (.block 0 (.loop (r_ [b_ 13 .lss 12 11] [] (.seq (c_ 13 (.skip) (.exit 0)) (.seq (.block 1 (r_ [o1 14 (.indexAddr 2 (tm 10) (tm 12)),s_ 15 2 14,o1 4 (.alloc [.val (.int (.i64) 0),.val (.int (.i64) 0)]),o3 (.store 2 (tm 4) (tm 15))] [14,15] (r_ [f_ 16 1 4,l_ 17 16,o1 18 (.call iH [tm 17]),t_ 19 18 [],m_ 20 19,F_ 21 0 4 20 false,L_ 22 21 20 false,I_ 23 .lss 22 (-53) 20 false,q_ 24 20 23,m_ 25 24,F_ 26 0 4 25 false,L_ 27 26 25 false,I_ 28 .gtr 27 53 25 false,q_ 29 25 28] [16,28] (c_ 29 (r_ [j_ 2 8] [] (.ret)) (.skip))))) (rt [i_ 30 .add 12 1,m_ 12 30] [30,30]))))))) (.seq (r_ [m_ 31 0,v_ 32 31,j_ 33 0] [] (.block 2 (.loop (r_ [b_ 34 .lss 33 32] [] (.seq (c_ 34 (.skip) (.exit 2)) (.seq (.block 3 (r_ [m_ 35 33,o1 36 (.indexAddr 2 (tm 31) (tm 33)),s_ 37 2 36,o1 6 (.alloc [.val (.int (.i64) 0),.val (.int (.i64) 0)]),m_ 5 35,o3 (.store 2 (tm 6) (tm 37))] [35,37] (.seq (.region [m_ 38 0,m_ 39 5,o1 40 (.subV 2 (tm 38) none (some (tm 39)) none),s_ 41 2 6,o1 42 (.call ed [tm 40,tm 41])] (.drawn [] (zL [(4,[(0,3)])])) [38,41]) (c_ 42 (r_ [j_ 2 19] [] (.ret)) (.skip))))) (rt [i_ 43 .add 33 1,m_ 33 43] [43,43]))))))) (r_ [j_ 2 0] [] (.ret)))))
def qL:List VRes:=[.tmp 2]
theorem yX:FnOk Tryz.prog m7 qK qL 44:=
 ⟨⟨Tryz.f248,_,Tryz.func248,by decide,rfl,by kernel_rfl,by kernel_rfl,by kernel_rfl,rfl⟩⟩

def y6:VCode:=
 r_ [o1 3 (.box (tm 1)),j_ 4 0] [] (.seq (r_ [m_ 9 0,v_ 10 9,i_ 11 .gtr 10 12] [9,10] (c_ 11 (r_ [j_ 4 20] [] (.ret)) (.skip))) (.seq (r_ [m_ 12 0,v_ 13 12,j_ 14 0] [] (.block 0 (.loop (r_ [b_ 15 .lss 14 13] [] (.seq (c_ 15 (.skip) (.exit 0)) (.seq (.block 1 (r_ [o1 16 (.indexAddr 1 (tm 12) (tm 14)),l_ 17 16,m_ 6 17] [16,17] (.seq (.region [m_ 18 6,f_ 19 1 3,l_ 20 19,o1 21 (.un (.neg) (tm 20)),b_ 22 .lss 18 21,m_ 23 22,M_ 24 6 23 false,o2 25 (.call oR [tm 24]) 23 false,F_ 26 0 3 23 false,L_ 27 26 23 false,B_ 28 .lss 25 27 23 false,q_ 29 23 28,m_ 30 29,M_ 31 6 30 false,o2 32 (.call oR [tm 31]) 30 false,F_ 33 1 3 30 false,L_ 34 33 30 false,B_ 35 .gtr 32 34 30 false,q_ 36 30 35,m_ 37 36,M_ 38 6 37 false,I_ 39 .lss 38 0 37 false,M_ 40 39 37 false,F_ 41 2 3 40 true,L_ 42 41 40 true,o2 43 (.un (.not) (tm 42)) 40 true,o2 44 (.pick (tm 40) (tm 43) (cb false)) 37 false,q_ 45 37 44] (.drawn [(7,8),(7,9),(14,15),(14,16)] (zL [(7,[(0,6),(8,9)]),(14,[(0,13),(15,16)])])) [18,44]) (c_ 45 (r_ [j_ 4 8] [] (.ret)) (.skip))))) (rt [i_ 46 .add 14 1,m_ 14 46] [46,46]))))))) (.seq (r_ [m_ 47 0,v_ 48 47,j_ 49 0] [] (.block 2 (.loop (r_ [b_ 50 .lss 49 48] [] (.seq (c_ 50 (.skip) (.exit 2)) (.seq (.block 3 (r_ [m_ 51 49,o1 52 (.indexAddr 1 (tm 47) (tm 49)),l_ 53 52,m_ 7 51,m_ 8 53] [51,53] (r_ [m_ 54 0,m_ 55 7,o1 56 (.subV 1 (tm 54) none (some (tm 55)) none),m_ 57 8,o1 58 (.call fK [tm 56,tm 57])] [54,57] (c_ 58 (r_ [j_ 4 19] [] (.ret)) (.skip))))) (rt [i_ 59 .add 49 1,m_ 49 59] [59,59]))))))) (r_ [j_ 4 0] [] (.ret)))))
def y7:List VRes:=[.tmp 4]
theorem G8:FnOk Tryz.prog rB y6 y7 60:=
 ⟨⟨Tryz.f249,_,Tryz.func249,by decide,rfl,by kernel_rfl,by kernel_rfl,by kernel_rfl,rfl⟩⟩

def vZ:VCode:=
 r_ [o1 2 (.alloc [.val (.int (.i64) 0),.val (.int (.i64) 0),.val (.bool false)])] [] (.seq (r_ [m_ 3 0] [] (.block 0 (.seq (r_ [i_ 5 .eql 3 4,m_ 4 5] [5,5] (c_ 4 (.skip) (rt [i_ 6 .eql 3 5,m_ 4 6] [6,6]))) (c_ 4 (r_ [o1 7 (.build [.val (.int (.i64) 0),.val (.int (.i64) 0),.val (.bool false)] [(0,1,ci 0),(1,1,ci 59),(2,1,cb false)]),o3 (.store 3 (tm 2) (tm 7))] [7,7] (.ret)) (r_ [i_ 9 .eql 3 6,m_ 8 9] [9,9] (c_ 8 (r_ [o1 10 (.build [.val (.int (.i64) 0),.val (.int (.i64) 0),.val (.bool false)] [(0,1,ci 0),(1,1,ci 23),(2,1,cb false)]),o3 (.store 3 (tm 2) (tm 10))] [10,10] (.ret)) (r_ [i_ 12 .eql 3 8,m_ 11 12] [12,12] (c_ 11 (r_ [o1 13 (.build [.val (.int (.i64) 0),.val (.int (.i64) 0),.val (.bool false)] [(0,1,ci 1),(1,1,ci 31),(2,1,cb true)]),o3 (.store 3 (tm 2) (tm 13))] [13,13] (.ret)) (.seq (r_ [i_ 15 .eql 3 9,m_ 14 15] [15,15] (c_ 14 (.skip) (rt [i_ 16 .eql 3 12,m_ 14 16] [16,16]))) (c_ 14 (r_ [o1 17 (.build [.val (.int (.i64) 0),.val (.int (.i64) 0),.val (.bool false)] [(0,1,ci 1),(1,1,ci 366),(2,1,cb true)]),o3 (.store 3 (tm 2) (tm 17))] [17,17] (.ret)) (r_ [i_ 19 .eql 3 10,m_ 18 19] [19,19] (c_ 18 (r_ [o1 20 (.build [.val (.int (.i64) 0),.val (.int (.i64) 0),.val (.bool false)] [(0,1,ci 1),(1,1,ci 53),(2,1,cb true)]),o3 (.store 3 (tm 2) (tm 20))] [20,20] (.ret)) (r_ [i_ 22 .eql 3 11,m_ 21 22] [22,22] (c_ 21 (r_ [o1 23 (.build [.val (.int (.i64) 0),.val (.int (.i64) 0),.val (.bool false)] [(0,1,ci 1),(1,1,ci 12),(2,1,cb false)]),o3 (.store 3 (tm 2) (tm 23))] [23,23] (.ret)) (.skip))))))))))))))) (r_ [o1 24 (.build [.val (.int (.i64) 0),.val (.int (.i64) 0),.val (.bool false)] [(0,1,ci 1),(1,1,ci 1000),(2,1,cb false)]),o3 (.store 3 (tm 2) (tm 24))] [24,24] (.ret)))
def w7:List VRes:=[.cell 2 (some 3)]
theorem DH:FnOk Tryz.prog m8 vZ w7 25:=
 ⟨⟨Tryz.f250,_,Tryz.func250,by decide,rfl,by kernel_rfl,by kernel_rfl,by kernel_rfl,rfl⟩⟩

def jW:VCode:=
 r_ [k_ 2 false] [] (r_ [m_ 6 0,n_ 7 6,f_ 8 8 7,l_ 9 8,o1 10 (.call eF [tm 9,.func ce]),m_ 3 10] [6,10] (.cut (.seq (r_ [m_ 11 3,m_ 12 11,M_ 13 0 12 true,N_ 14 13 12 true,F_ 15 0 14 12 true,L_ 16 15 12 true,o2 17 (.bin (.lss) (tm 16) (cu 5)) 12 true,M_ 18 17 12 true,M_ 19 0 18 false,N_ 20 19 18 false,F_ 21 11 20 18 false,L_ 22 21 18 false,o2 23 (.lenV (tm 22)) 18 false,I_ 24 .gtr 23 0 18 false,o2 25 (.pick (tm 18) (cb true) (tm 24)) 12 true,p_ 26 12 25] [11,25] (c_ 26 (r_ [k_ 2 false] [] (.ret)) (.skip))) (.cut (.seq (r_ [m_ 27 0,n_ 28 27,f_ 29 9 28,l_ 30 29,v_ 31 30,i_ 32 .gtr 31 0,m_ 33 32,M_ 34 0 33 true,N_ 35 34 33 true,F_ 36 0 35 33 true,L_ 37 36 33 true,o2 38 (.bin (.eql) (tm 37) (cu 4)) 33 true,p_ 39 33 38,m_ 40 39,M_ 41 0 40 false,N_ 42 41 40 false,F_ 43 11 42 40 false,L_ 44 43 40 false,o2 45 (.lenV (tm 44)) 40 false,I_ 46 .gtr 45 0 40 false,M_ 47 46 40 false,M_ 48 0 47 true,N_ 49 48 47 true,F_ 50 0 49 47 true,L_ 51 50 47 true,o2 52 (.bin (.neq) (tm 51) (cu 6)) 47 true,o2 53 (.pick (tm 47) (tm 52) (cb false)) 40 false,q_ 54 40 53] [27,53] (c_ 54 (r_ [k_ 2 false] [] (.ret)) (.skip))) (.cut (.seq (r_ [m_ 55 0,n_ 56 55,f_ 57 10 56,l_ 58 57,v_ 59 58,i_ 60 .gtr 59 0,m_ 61 60,M_ 62 0 61 true,N_ 63 62 61 true,F_ 64 0 63 61 true,L_ 65 64 61 true,o2 66 (.bin (.eql) (tm 65) (cu 3)) 61 true,M_ 67 66 61 true,M_ 68 0 67 false,N_ 69 68 67 false,F_ 70 0 69 67 false,L_ 71 70 67 false,o2 72 (.bin (.eql) (tm 71) (cu 4)) 67 false,o2 73 (.pick (tm 67) (cb true) (tm 72)) 61 true,M_ 74 73 61 true,M_ 75 0 74 false,N_ 76 75 74 false,F_ 77 0 76 74 false,L_ 78 77 74 false,o2 79 (.bin (.eql) (tm 78) (cu 5)) 74 false,o2 80 (.pick (tm 74) (cb true) (tm 79)) 61 true,p_ 81 61 80] [55,80] (c_ 81 (r_ [k_ 2 false] [] (.ret)) (.skip))) (.seq (r_ [m_ 82 0,n_ 83 82,f_ 84 13 83,l_ 85 84,v_ 86 85,i_ 87 .eql 86 0] [82,86] (c_ 87 (r_ [k_ 2 true] [] (.ret)) (.skip))) (r_ [m_ 88 0,n_ 89 88,f_ 90 8 89,l_ 91 90,v_ 92 91,m_ 4 92] [88,92] (.seq (r_ [j_ 5 4] [] (.block 0 (.loop (.seq (r_ [m_ 93 5,i_ 94 .lss 93 12] [93,93] (c_ 94 (.skip) (.exit 0))) (.seq (.block 1 (r_ [m_ 97 5,i_ 98 .neq 97 7] [97,97] (c_ 98 (rt [m_ 99 4,m_ 100 0,m_ 101 5,o1 102 (.call cp [tm 100,tm 101]),n_ 103 102,l_ 104 103,v_ 105 104,b_ 106 .add 99 105,m_ 4 106] [99,106]) (.skip)))) (rt [m_ 95 5,i_ 96 .add 95 1,m_ 5 96] [95,96])))))) (r_ [m_ 107 4,i_ 108 .gtr 107 0,m_ 2 108] [107,108] (.ret))))))))))))
def jX:List VRes:=[.tmp 2]
theorem pT:FnOk Tryz.prog fU jW jX 109:=
 ⟨⟨Tryz.f251,_,Tryz.func251,by decide,rfl,by kernel_rfl,by kernel_rfl,by kernel_rfl,rfl⟩⟩

def jx:VCode:=
 r_ [o1 4 (.move (cs [])),o1 5 (.move (cs [])),k_ 6 false] [] (.seq (r_ [m_ 8 0,m_ 9 1,o1 10 (.call dr [tm 8,tm 9]),m_ 7 10] [8,10] (r_ [m_ 11 7,i_ 12 .geq 11 0] [11,11] (c_ 12 (.seq (.region [m_ 13 0,m_ 14 7,o1 15 (.subS (tm 13) none (some (tm 14))),m_ 16 0,m_ 17 7,m_ 18 1,o1 19 (.lenS (tm 18)),b_ 20 .add 17 19,o1 21 (.subS (tm 16) (some (tm 20)) none),m_ 4 15,m_ 5 21,k_ 6 true] (.calm) [13,21]) (.ret)) (.skip)))) (r_ [m_ 22 0,m_ 4 22,o1 5 (.move (cs [])),k_ 6 false] [22,22] (.ret)))
def jy:List VRes:=[.tmp 4,.tmp 5,.tmp 6]
theorem oS:FnOk Tryz.prog fA jx jy 23:=
 ⟨⟨Tryz.f283,_,Tryz.func283,by decide,rfl,by kernel_rfl,by kernel_rfl,by kernel_rfl,rfl⟩⟩

def mD:VCode:=
 r_ [j_ 4 0] [] (.seq (r_ [m_ 6 0,v_ 7 6,j_ 8 0] [6,6] (.block 0 (.loop (r_ [b_ 9 .lss 8 7] [] (.seq (c_ 9 (.skip) (.exit 0)) (.seq (.block 1 (r_ [m_ 10 8,m_ 5 10] [10,10] (r_ [m_ 11 1,m_ 12 0,m_ 13 5,o1 14 (.indexAddr 1 (tm 12) (tm 13)),l_ 15 14,b_ 16 .eql 11 15] [11,15] (c_ 16 (r_ [m_ 17 5,m_ 4 17] [17,17] (.ret)) (.skip))))) (rt [i_ 18 .add 8 1,m_ 8 18] [18,18]))))))) (r_ [j_ 4 (-1)] [] (.ret)))
def mG:List VRes:=[.tmp 4]
theorem tG:FnOk Tryz.prog jc mD mG 19:=
 ⟨⟨Tryz.f284,_,Tryz.func284,by decide,rfl,by kernel_rfl,by kernel_rfl,by kernel_rfl,rfl⟩⟩

def AM:VCode:=
 r_ [j_ 2 0] [] (.seq (r_ [m_ 3 0,i_ 4 .lss 3 0] [3,3] (c_ 4 (r_ [m_ 5 0,o1 6 (.un (.neg) (tm 5)),m_ 2 6] [5,6] (.ret)) (.skip))) (r_ [m_ 7 0,m_ 2 7] [7,7] (.ret)))
def AN:List VRes:=[.tmp 2]
theorem HV:FnOk Tryz.prog oR AM AN 8:=
 ⟨⟨Tryz.f307,_,Tryz.func307,by decide,rfl,by kernel_rfl,by kernel_rfl,by kernel_rfl,rfl⟩⟩

def iV:VCode:=
 r_ [k_ 4 false] [] (r_ [m_ 5 0,m_ 6 1,o1 7 (.call fV [tm 5,tm 6]),i_ 8 .geq 7 0,m_ 4 8] [5,8] (.ret))
def iW:List VRes:=[.tmp 4]
theorem nM:FnOk Tryz.prog eF iV iW 9:=
 ⟨⟨Tryz.f308,_,Tryz.func308,by decide,rfl,by kernel_rfl,by kernel_rfl,by kernel_rfl,rfl⟩⟩

def jg:VCode:=
 r_ [o1 1 (.box (tm 0)),k_ 2 false] [] (r_ [f_ 3 0 1,l_ 4 3,i_ 5 .neq 4 0,m_ 2 5] [3,5] (.ret))
def jh:List VRes:=[.tmp 2]
theorem o6:FnOk Tryz.prog ce jg jh 6:=
 ⟨⟨Tryz.f309,_,Tryz.func309,by decide,rfl,by kernel_rfl,by kernel_rfl,by kernel_rfl,rfl⟩⟩

def jY:VCode:=
 r_ [j_ 4 0] [] (.seq (r_ [m_ 6 0,v_ 7 6,j_ 8 0] [6,6] (.block 0 (.loop (r_ [b_ 9 .lss 8 7] [] (.seq (c_ 9 (.skip) (.exit 0)) (.seq (.block 1 (r_ [m_ 10 8,m_ 5 10] [10,10] (r_ [m_ 11 1,m_ 12 0,m_ 13 5,o1 14 (.indexAddr 2 (tm 12) (tm 13)),s_ 15 2 14,o1 16 (.callV (tm 11) [tm 15])] [11,15] (c_ 16 (r_ [m_ 17 5,m_ 4 17] [17,17] (.ret)) (.skip))))) (rt [i_ 18 .add 8 1,m_ 8 18] [18,18]))))))) (r_ [j_ 4 (-1)] [] (.ret)))
def jZ:List VRes:=[.tmp 4]
theorem pU:FnOk Tryz.prog fV jY jZ 19:=
 ⟨⟨Tryz.f339,_,Tryz.func339,by decide,rfl,by kernel_rfl,by kernel_rfl,by kernel_rfl,rfl⟩⟩
end Go.Vs.YtcjeehebikeghaaGreatDoor
