/- The code of the seat's functions in the small typed code; printed by a program of the prover's. -/
import Derived.Test.YtcjeehebikeghaaGreatDoorBX
set_option linter.unusedVariables false
set_option linter.unusedSimpArgs false
set_option maxRecDepth 100000
set_option maxHeartbeats 4000000
namespace Go.Vs.YtcjeehebikeghaaGreatDoor
open Go.Proofs
def kw:Nat:=8
def nL:Nat:=11
def eX:Nat:=29
def iy:Nat:=32
def vA:Nat:=33
def oO:Nat:=40
def pJ:Nat:=67
def cW:Nat:=78
def gH:Nat:=81
def hJ:Nat:=82
def eg:Nat:=83
def tv:Nat:=89
def xE:VCode:=
 r_ [k_ 2 false] [] (.seq (r_ [m_ 4 0,v_ 5 4,i_ 6 .gtr 5 30] [4,5] (c_ 6 (r_ [k_ 2 false] [] (.ret)) (.skip))) (.seq (r_ [j_ 3 0] [] (.block 0 (.loop (.seq (r_ [m_ 7 3,m_ 8 0,v_ 9 8,b_ 10 .lss 7 9] [7,9] (c_ 10 (.skip) (.exit 0))) (.seq (.block 1 (r_ [m_ 13 0,m_ 14 3,o1 15 (.indexAddr 3 (tm 13) (tm 14)),f_ 16 0 15,l_ 17 16,o1 18 (.lenS (tm 17)),i_ 19 .gtr 18 40,m_ 20 19,M_ 21 0 20 false,M_ 22 3 20 false,o2 23 (.indexAddr 3 (tm 21) (tm 22)) 20 false,F_ 24 2 23 20 false,L_ 25 24 20 false,o2 26 (.lenS (tm 25)) 20 false,I_ 27 .gtr 26 250 20 false,q_ 28 20 27,m_ 29 28,M_ 30 0 29 false,M_ 31 3 29 false,o2 32 (.indexAddr 3 (tm 30) (tm 31)) 29 false,F_ 33 1 32 29 false,L_ 34 33 29 false,o2 35 (.call rc [tm 34]) 29 false,o2 36 (.un (.not) (tm 35)) 29 false,q_ 37 29 36] [13,36] (c_ 37 (r_ [k_ 2 false] [] (.ret)) (.skip)))) (rt [m_ 11 3,i_ 12 .add 11 1,m_ 3 12] [11,12])))))) (r_ [k_ 2 true] [] (.ret))))
def xF:List VRes:=[.tmp 2]
theorem FH:FnOk Tryz.prog kw xE xF 38:=
 ⟨⟨Tryz.f8,_,Tryz.func8,by decide,rfl,by kernel_rfl,by kernel_rfl,by kernel_rfl,rfl⟩⟩

def CY:VCode:=
 r_ [o1 2 (.move (.const (.nils)))] [] (r_ [o1 3 (.move (.const (.nils)))] [] (.seq (r_ [j_ 4 0] [] (.block 0 (.loop (.seq (r_ [m_ 5 4,m_ 6 0,v_ 7 6,b_ 8 .lss 5 7] [5,7] (c_ 8 (.skip) (.exit 0))) (.seq (.block 1 (.region [m_ 11 3,m_ 12 0,m_ 13 4,o1 14 (.indexAddr 3 (tm 12) (tm 13)),f_ 15 0 14,l_ 16 15,m_ 17 0,m_ 18 4,o1 19 (.indexAddr 3 (tm 17) (tm 18)),f_ 20 1 19,l_ 21 20,o1 22 (.call uZ [tm 21]),m_ 23 0,m_ 24 4,o1 25 (.indexAddr 3 (tm 23) (tm 24)),f_ 26 2 25,l_ 27 26,o1 28 (.build [.val (.str []),.nils,.val (.str [])] [(0,1,tm 16),(1,1,tm 22),(2,1,tm 27)]),o1 29 (.buildSlice 3 1 [.val (.str []),.nils,.val (.str [])] [(0,3,tm 28)]),o1 30 (.append 77 3 56 (tm 11) (tm 29)),m_ 3 30] (.drawn [(0,11),(1,11),(2,11),(3,11),(4,11),(5,11),(11,12),(11,13),(11,14),(11,15),(11,16),(0,18)] (zL [(11,[(0,10),(12,16)]),(18,[(0,17)]),(19,[(0,18)])])) [11,30])) (rt [m_ 9 4,i_ 10 .add 9 1,m_ 4 10] [9,10])))))) (r_ [m_ 31 3,m_ 2 31] [31,31] (.ret))))
def CZ:List VRes:=[.tmp 2]
theorem Lc:FnOk Tryz.prog nL CY CZ 32:=
 ⟨⟨Tryz.f11,_,Tryz.func11,by decide,rfl,by kernel_rfl,by kernel_rfl,by kernel_rfl,rfl⟩⟩

def An:VCode:=
 r_ [j_ 4 0] [] (r_ [j_ 5 0] [] (.seq (r_ [m_ 8 0,v_ 9 8,j_ 10 0] [] (.block 0 (.loop (r_ [b_ 11 .lss 10 9] [] (.seq (c_ 11 (.skip) (.exit 0)) (.seq (.block 1 (r_ [o1 12 (.indexAddr 3 (tm 8) (tm 10)),s_ 13 3 12,o1 7 (.alloc [.val (.str []),.nils,.val (.str [])]),o3 (.store 3 (tm 7) (tm 13))] [12,13] (r_ [s_ 14 3 7,m_ 15 1,o1 16 (.call cW [tm 14,tm 15])] [14,15] (c_ 16 (rt [m_ 17 5,i_ 18 .add 17 1,m_ 5 18] [17,18]) (.skip))))) (rt [i_ 19 .add 10 1,m_ 10 19] [19,19]))))))) (r_ [m_ 20 5,m_ 4 20] [20,20] (.ret))))
def Ao:List VRes:=[.tmp 4]
theorem HL:FnOk Tryz.prog eX An Ao 21:=
 ⟨⟨Tryz.f29,_,Tryz.func29,by decide,rfl,by kernel_rfl,by kernel_rfl,by kernel_rfl,rfl⟩⟩

def D0:VCode:=
 r_ [o1 4 (.move (.const (.nils)))] [] (r_ [o1 5 (.move (.const (.nils)))] [] (.seq (r_ [m_ 8 0,v_ 9 8,j_ 10 0] [] (.block 0 (.loop (r_ [b_ 11 .lss 10 9] [] (.seq (c_ 11 (.skip) (.exit 0)) (.seq (.block 1 (r_ [o1 12 (.indexAddr 3 (tm 8) (tm 10)),s_ 13 3 12,o1 7 (.alloc [.val (.str []),.nils,.val (.str [])]),o3 (.store 3 (tm 7) (tm 13))] [12,13] (r_ [s_ 14 3 7,m_ 15 1,o1 16 (.call cW [tm 14,tm 15]),u_ 17 16] [14,16] (c_ 17 (rt [m_ 18 5,s_ 19 3 7,o1 20 (.call gH [tm 19]),o1 21 (.buildSlice 3 1 [.val (.str []),.nils,.val (.str [])] [(0,3,tm 20)]),o1 22 (.append 77 3 56 (tm 18) (tm 21)),m_ 5 22] [18,22]) (.skip))))) (rt [i_ 23 .add 10 1,m_ 10 23] [23,23]))))))) (r_ [m_ 24 5,m_ 4 24] [24,24] (.ret))))
def D1:List VRes:=[.tmp 4]
theorem Ld:FnOk Tryz.prog iy D0 D1 25:=
 ⟨⟨Tryz.f32,_,Tryz.func32,by decide,rfl,by kernel_rfl,by kernel_rfl,by kernel_rfl,rfl⟩⟩

def D2:VCode:=
 r_ [k_ 4 false] [] (r_ [m_ 5 0,m_ 6 1,o1 7 (.call hJ [tm 5,tm 6,.func eg]),m_ 4 7] [5,7] (.ret))
def D4:List VRes:=[.tmp 4]
theorem Le:FnOk Tryz.prog vA D2 D4 8:=
 ⟨⟨Tryz.f33,_,Tryz.func33,by decide,rfl,by kernel_rfl,by kernel_rfl,by kernel_rfl,rfl⟩⟩

def Ap:VCode:=
 r_ [o1 1 (.box (tm 0)),j_ 2 0] [] (.seq (r_ [f_ 4 0 1,l_ 5 4,o1 6 (.call oM [tm 5]),u_ 7 6] [4,6] (c_ 7 (r_ [j_ 2 4] [] (.ret)) (.skip))) (.seq (r_ [f_ 8 1 1,l_ 9 8,o1 10 (.call n4 [tm 9]),m_ 3 10] [8,10] (r_ [m_ 11 3,i_ 12 .neq 11 0] [11,11] (c_ 12 (r_ [m_ 13 3,m_ 2 13] [13,13] (.ret)) (.skip)))) (.seq (r_ [f_ 14 2 1,l_ 15 14,o1 16 (.lenS (tm 15)),i_ 17 .gtr 16 200] [14,16] (c_ 17 (r_ [j_ 2 5] [] (.ret)) (.skip))) (.seq (r_ [f_ 18 2 1,l_ 19 18,o1 20 (.call wI [tm 19]),i_ 21 .geq 20 0] [18,20] (c_ 21 (r_ [j_ 2 10] [] (.ret)) (.skip))) (r_ [j_ 2 0] [] (.ret))))))
def Aq:List VRes:=[.tmp 2]
theorem HM:FnOk Tryz.prog oO Ap Aq 22:=
 ⟨⟨Tryz.f40,_,Tryz.func40,by decide,rfl,by kernel_rfl,by kernel_rfl,by kernel_rfl,rfl⟩⟩

def FI:VCode:=
 r_ [o1 3 (.box (tm 1)),o1 4 (.move (.const (.nils)))] [] (r_ [o1 5 (.move (.const (.nils)))] [] (r_ [k_ 6 false] [] (.cut (.seq (r_ [m_ 9 0,v_ 10 9,j_ 11 0] [] (.block 0 (.loop (r_ [b_ 12 .lss 11 10] [] (.seq (c_ 12 (.skip) (.exit 0)) (.cut (.seq (.block 1 (r_ [o1 13 (.indexAddr 3 (tm 9) (tm 11)),s_ 14 3 13,o1 8 (.alloc [.val (.str []),.nils,.val (.str [])]),o3 (.store 3 (tm 8) (tm 14))] [13,14] (.block 2 (r_ [s_ 16 3 8,f_ 17 0 3,l_ 18 17,o1 19 (.call cW [tm 16,tm 18]),u_ 20 19,m_ 15 20] [16,20] (c_ 15 (rt [m_ 21 5,s_ 22 3 8,o1 23 (.call gH [tm 22]),o1 24 (.buildSlice 3 1 [.val (.str []),.nils,.val (.str [])] [(0,3,tm 23)]),o1 25 (.append 77 3 56 (tm 21) (tm 24)),m_ 5 25] [21,25]) (r_ [m_ 27 6,u_ 28 27,m_ 26 28] [27,28] (c_ 26 (r_ [m_ 29 5,s_ 30 3 3,o1 31 (.call gH [tm 30]),o1 32 (.buildSlice 3 1 [.val (.str []),.nils,.val (.str [])] [(0,3,tm 31)]),o1 33 (.append 77 3 56 (tm 29) (tm 32)),m_ 5 33] [29,33] (rt [k_ 6 true] [])) (.skip)))))))) (rt [i_ 34 .add 11 1,m_ 11 34] [34,34])))))))) (.cut (.seq (r_ [m_ 35 6,u_ 36 35] [35,35] (c_ 36 (rt [m_ 37 5,s_ 38 3 3,o1 39 (.call gH [tm 38]),o1 40 (.buildSlice 3 1 [.val (.str []),.nils,.val (.str [])] [(0,3,tm 39)]),o1 41 (.append 77 3 56 (tm 37) (tm 40)),m_ 5 41] [37,41]) (.skip))) (r_ [m_ 42 5,m_ 4 42] [42,42] (.ret))))))))
def FJ:List VRes:=[.tmp 4]
theorem NR:FnOk Tryz.prog pJ FI FJ 43:=
 ⟨⟨Tryz.f67,_,Tryz.func67,by decide,rfl,by kernel_rfl,by kernel_rfl,by kernel_rfl,rfl⟩⟩

def lY:VCode:=
 r_ [o1 2 (.box (tm 0)),k_ 4 false] [] (r_ [f_ 5 0 2,l_ 6 5,m_ 7 1,b_ 8 .eql 6 7,m_ 4 8] [5,8] (.ret))
def lZ:List VRes:=[.tmp 4]
theorem si:FnOk Tryz.prog cW lY lZ 9:=
 ⟨⟨Tryz.f78,_,Tryz.func78,by decide,rfl,by kernel_rfl,by kernel_rfl,by kernel_rfl,rfl⟩⟩

def xG:VCode:=
 r_ [o1 1 (.box (tm 0)),o1 2 (.alloc [.val (.str []),.nils,.val (.str [])])] [] (r_ [f_ 6 0 1,l_ 7 6,f_ 8 2 1,l_ 9 8,o1 10 (.build [.val (.str []),.nils,.val (.str [])] [(0,1,tm 7),(2,1,tm 9)]),o1 3 (.alloc [.val (.str []),.nils,.val (.str [])]),o3 (.store 3 (tm 3) (tm 10))] [6,10] (.cut (.seq (r_ [f_ 11 1 1,l_ 12 11,v_ 13 12,j_ 14 0] [11,11] (.block 0 (.loop (r_ [b_ 15 .lss 14 13] [] (.seq (c_ 15 (.skip) (.exit 0)) (.seq (.block 1 (r_ [o1 16 (.indexAddr 2 (tm 12) (tm 14)),s_ 17 2 16,o1 5 (.alloc [.val (.str []),.nils]),o3 (.store 2 (tm 5) (tm 17))] [16,17] (.region [f_ 18 1 3,l_ 19 18,f_ 20 0 5,l_ 21 20,f_ 22 1 5,l_ 23 22,o1 24 (.call fJ [tm 23]),o1 25 (.build [.val (.str []),.nils] [(0,1,tm 21),(1,1,tm 24)]),o1 26 (.buildSlice 2 1 [.val (.str []),.nils] [(0,2,tm 25)]),o1 27 (.append 154 2 40 (tm 19) (tm 26)),f_ 28 1 3,o3 (.store 1 (tm 28) (tm 27))] (.drawn [(0,6),(1,6),(2,6),(3,6),(0,8),(1,8)] (zL [(6,[(0,5)]),(8,[(0,7)]),(9,[(0,8)])])) [18,28]))) (rt [i_ 29 .add 14 1,m_ 14 29] [29,29]))))))) (r_ [s_ 30 3 3,o3 (.store 3 (tm 2) (tm 30))] [30,30] (.ret)))))
def xH:List VRes:=[.cell 2 (some 3)]
theorem FK:FnOk Tryz.prog gH xG xH 31:=
 ⟨⟨Tryz.f81,_,Tryz.func81,by decide,rfl,by kernel_rfl,by kernel_rfl,by kernel_rfl,rfl⟩⟩

def lr:VCode:=
 r_ [k_ 6 false] [] (.seq (r_ [m_ 10 0,v_ 11 10,m_ 12 1,v_ 13 12,b_ 14 .neq 11 13] [10,13] (c_ 14 (r_ [k_ 6 false] [] (.ret)) (.skip))) (.seq (r_ [m_ 15 0,v_ 16 15,j_ 17 0] [] (.block 0 (.loop (r_ [b_ 18 .lss 17 16] [] (.seq (c_ 18 (.skip) (.exit 0)) (.seq (.block 1 (r_ [m_ 19 17,o1 20 (.indexAddr 3 (tm 15) (tm 17)),s_ 21 3 20,o1 8 (.alloc [.val (.str []),.nils,.val (.str [])]),m_ 7 19,o3 (.store 3 (tm 8) (tm 21))] [19,21] (r_ [m_ 22 1,m_ 23 7,o1 24 (.indexAddr 3 (tm 22) (tm 23)),s_ 25 3 24,o1 9 (.alloc [.val (.str []),.nils,.val (.str [])]),o3 (.store 3 (tm 9) (tm 25))] [22,25] (r_ [m_ 26 2,s_ 27 3 8,s_ 28 3 9,o1 29 (.callV (tm 26) [tm 27,tm 28]),u_ 30 29] [26,29] (c_ 30 (r_ [k_ 6 false] [] (.ret)) (.skip)))))) (rt [i_ 31 .add 17 1,m_ 17 31] [31,31]))))))) (r_ [k_ 6 true] [] (.ret))))
def lu:List VRes:=[.tmp 6]
theorem rl:FnOk Tryz.prog hJ lr lu 32:=
 ⟨⟨Tryz.f82,_,Tryz.func82,by decide,rfl,by kernel_rfl,by kernel_rfl,by kernel_rfl,rfl⟩⟩

def kx:VCode:=
 r_ [o1 2 (.box (tm 0)),o1 3 (.box (tm 1)),k_ 4 false] [] (r_ [f_ 5 0 2,l_ 6 5,f_ 7 0 3,l_ 8 7,b_ 9 .eql 6 8,m_ 10 9,F_ 11 2 2 10 true,L_ 12 11 10 true,F_ 13 2 3 10 true,L_ 14 13 10 true,B_ 15 .eql 12 14 10 true,p_ 16 10 15,m_ 17 16,F_ 18 1 2 17 true,L_ 19 18 17 true,F_ 20 1 3 17 true,L_ 21 20 17 true,o2 22 (.call sY [tm 19,tm 21]) 17 true,p_ 23 17 22,m_ 4 23] [5,23] (.ret))
def kz:List VRes:=[.tmp 4]
theorem qp:FnOk Tryz.prog eg kx kz 24:=
 ⟨⟨Tryz.f83,_,Tryz.func83,by decide,rfl,by kernel_rfl,by kernel_rfl,by kernel_rfl,rfl⟩⟩

def FL:VCode:=
 r_ [o1 4 (.alloc [.val (.str []),.nils,.val (.str [])]),k_ 5 false] [] (.seq (r_ [m_ 8 0,v_ 9 8,j_ 10 0] [] (.block 0 (.loop (r_ [b_ 11 .lss 10 9] [] (.seq (c_ 11 (.skip) (.exit 0)) (.seq (.block 1 (r_ [o1 12 (.indexAddr 3 (tm 8) (tm 10)),s_ 13 3 12,o1 7 (.alloc [.val (.str []),.nils,.val (.str [])]),o3 (.store 3 (tm 7) (tm 13))] [12,13] (r_ [s_ 14 3 7,m_ 15 1,o1 16 (.call cW [tm 14,tm 15])] [14,15] (c_ 16 (r_ [s_ 17 3 7,o1 18 (.call gH [tm 17]),o3 (.store 3 (tm 4) (tm 18)),k_ 5 true] [17,18] (.ret)) (.skip))))) (rt [i_ 19 .add 10 1,m_ 10 19] [19,19]))))))) (r_ [o1 20 (.build [.val (.str []),.nils,.val (.str [])] []),o3 (.store 3 (tm 4) (tm 20)),k_ 5 false] [20,20] (.ret)))
def FM:List VRes:=[.cell 4 (some 3),.tmp 5]
theorem NT:FnOk Tryz.prog tv FL FM 21:=
 ⟨⟨Tryz.f89,_,Tryz.func89,by decide,rfl,by kernel_rfl,by kernel_rfl,by kernel_rfl,rfl⟩⟩
end Go.Vs.YtcjeehebikeghaaGreatDoor
