/- The code of the seat's functions in the small typed code; printed by a program of the prover's. -/
import Derived.Test.YtcjeehebikeghaaGreatDoorBI
set_option linter.unusedVariables false
set_option linter.unusedSimpArgs false
set_option maxRecDepth 100000
set_option maxHeartbeats 4000000
namespace Go.Vs.YtcjeehebikeghaaGreatDoor
open Go.Proofs
def rc:Nat:=34
def uZ:Nat:=44
def A5:Nat:=72
def oM:Nat:=91
def n4:Nat:=92
def fJ:Nat:=130
def sY:Nat:=131
def re:Nat:=140
def rg:Nat:=142
def jM:Nat:=143
def gG:Nat:=186
def lQ:Nat:=187
def ja:Nat:=188
def eE:Nat:=209
def kQ:Nat:=273
def eV:Nat:=290
def nX:Nat:=320
def kK:Nat:=321
def dr:Nat:=327
def dt:Nat:=332
def xo:VCode:=
 r_ [k_ 2 false] [] (.seq (r_ [m_ 5 0,v_ 6 5,i_ 7 .gtr 6 10] [5,6] (c_ 7 (r_ [k_ 2 false] [] (.ret)) (.skip))) (.seq (r_ [j_ 3 0] [] (.block 0 (.loop (.seq (r_ [m_ 8 3,m_ 9 0,v_ 10 9,b_ 11 .lss 8 10] [8,10] (c_ 11 (.skip) (.exit 0))) (.seq (.block 1 (.seq (r_ [m_ 14 0,m_ 15 3,o1 16 (.indexAddr 2 (tm 14) (tm 15)),f_ 17 0 16,l_ 18 17,o1 19 (.lenS (tm 18)),i_ 20 .gtr 19 40,m_ 21 20,M_ 22 0 21 false,M_ 23 3 21 false,o2 24 (.indexAddr 2 (tm 22) (tm 23)) 21 false,F_ 25 1 24 21 false,L_ 26 25 21 false,o2 27 (.lenV (tm 26)) 21 false,I_ 28 .gtr 27 10 21 false,q_ 29 21 28] [14,28] (c_ 29 (r_ [k_ 2 false] [] (.ret)) (.skip))) (r_ [j_ 4 0] [] (.block 2 (.loop (.seq (r_ [m_ 30 4,m_ 31 0,m_ 32 3,o1 33 (.indexAddr 2 (tm 31) (tm 32)),f_ 34 1 33,l_ 35 34,v_ 36 35,b_ 37 .lss 30 36] [30,36] (c_ 37 (.skip) (.exit 2))) (.seq (.block 3 (r_ [m_ 40 0,m_ 41 3,o1 42 (.indexAddr 2 (tm 40) (tm 41)),f_ 43 1 42,l_ 44 43,m_ 45 4,o1 46 (.indexAddr 1 (tm 44) (tm 45)),l_ 47 46,o1 48 (.lenS (tm 47)),i_ 49 .gtr 48 80] [40,48] (c_ 49 (r_ [k_ 2 false] [] (.ret)) (.skip)))) (rt [m_ 38 4,i_ 39 .add 38 1,m_ 4 39] [38,39])))))))) (rt [m_ 12 3,i_ 13 .add 12 1,m_ 3 13] [12,13])))))) (r_ [k_ 2 true] [] (.ret))))
def xp:List VRes:=[.tmp 2]
theorem Fs:FnOk Tryz.prog rc xo xp 50:=
 ⟨⟨Tryz.f34,_,Tryz.func34,by decide,rfl,by kernel_rfl,by kernel_rfl,by kernel_rfl,rfl⟩⟩

def CQ:VCode:=
 r_ [o1 2 (.move (.const (.nils)))] [] (r_ [o1 3 (.move (.const (.nils)))] [] (.seq (r_ [j_ 4 0] [] (.block 0 (.loop (.seq (r_ [m_ 6 4,m_ 7 0,v_ 8 7,b_ 9 .lss 6 8] [6,8] (c_ 9 (.skip) (.exit 0))) (.seq (.block 1 (r_ [m_ 12 0,m_ 13 4,o1 14 (.indexAddr 2 (tm 12) (tm 13)),f_ 15 0 14,l_ 16 15,o1 17 (.build [.val (.str []),.nils] [(0,1,tm 16)]),o1 5 (.alloc [.val (.str []),.nils]),o3 (.store 2 (tm 5) (tm 17))] [12,17] (.seq (.region [f_ 18 1 5,l_ 19 18,m_ 20 0,m_ 21 4,o1 22 (.indexAddr 2 (tm 20) (tm 21)),f_ 23 1 22,l_ 24 23,o1 25 (.append 9 1 16 (tm 19) (tm 24)),f_ 26 1 5,o3 (.store 1 (tm 26) (tm 25))] (.drawn [] (zL [(7,[(0,6)])])) [18,26]) (rt [m_ 27 3,s_ 28 2 5,o1 29 (.buildSlice 2 1 [.val (.str []),.nils] [(0,2,tm 28)]),o1 30 (.append 154 2 40 (tm 27) (tm 29)),m_ 3 30] [27,30])))) (rt [m_ 10 4,i_ 11 .add 10 1,m_ 4 11] [10,11])))))) (r_ [m_ 31 3,m_ 2 31] [31,31] (.ret))))
def CR:List VRes:=[.tmp 2]
theorem L2:FnOk Tryz.prog uZ CQ CR 32:=
 ⟨⟨Tryz.f44,_,Tryz.func44,by decide,rfl,by kernel_rfl,by kernel_rfl,by kernel_rfl,rfl⟩⟩

def A6:VCode:=
 r_ [o1 2 (.move (.const (.nils)))] [] (r_ [o1 3 (.move (.const (.nils)))] [] (.seq (r_ [j_ 4 0] [] (.block 0 (.loop (.seq (r_ [m_ 5 4,m_ 6 0,v_ 7 6,b_ 8 .lss 5 7] [5,7] (c_ 8 (.skip) (.exit 0))) (.seq (.block 1 (.region [m_ 11 3,m_ 12 0,m_ 13 4,o1 14 (.indexAddr 2 (tm 12) (tm 13)),f_ 15 0 14,l_ 16 15,m_ 17 0,m_ 18 4,o1 19 (.indexAddr 2 (tm 17) (tm 18)),f_ 20 1 19,l_ 21 20,o1 22 (.build [.val (.str []),.nils] [(0,1,tm 16),(1,1,tm 21)]),o1 23 (.buildSlice 2 1 [.val (.str []),.nils] [(0,2,tm 22)]),o1 24 (.append 141 2 40 (tm 11) (tm 23)),m_ 3 24] (.drawn [(0,12)] (zL [(12,[(0,11)]),(13,[(0,12)])])) [11,24])) (rt [m_ 9 4,i_ 10 .add 9 1,m_ 4 10] [9,10])))))) (r_ [m_ 25 3,m_ 2 25] [25,25] (.ret))))
def A7:List VRes:=[.tmp 2]
theorem HE:FnOk Tryz.prog A5 A6 A7 26:=
 ⟨⟨Tryz.f72,_,Tryz.func72,by decide,rfl,by kernel_rfl,by kernel_rfl,by kernel_rfl,rfl⟩⟩

def A8:VCode:=
 r_ [k_ 2 false] [] (r_ [m_ 3 0,o1 4 (.bin (.neq) (tm 3) (cs [])),m_ 5 4,M_ 6 0 5 true,o2 7 (.lenS (tm 6)) 5 true,I_ 8 .leq 7 24 5 true,p_ 9 5 8,m_ 10 9,M_ 11 0 10 true,o2 12 (.call re [tm 11]) 10 true,M_ 13 0 10 true,o2 14 (.lenS (tm 13)) 10 true,B_ 15 .eql 12 14 10 true,p_ 16 10 15,m_ 17 16,M_ 18 0 17 true,o2 19 (.call nI [tm 18]) 17 true,M_ 20 0 17 true,B_ 21 .eql 19 20 17 true,p_ 22 17 21,m_ 2 22] [3,22] (.ret))
def A9:List VRes:=[.tmp 2]
theorem HF:FnOk Tryz.prog oM A8 A9 23:=
 ⟨⟨Tryz.f91,_,Tryz.func91,by decide,rfl,by kernel_rfl,by kernel_rfl,by kernel_rfl,rfl⟩⟩

def rW:VCode:=
 r_ [j_ 2 0] [] (.seq (r_ [m_ 10 0,v_ 11 10,i_ 12 .gtr 11 6] [10,11] (c_ 12 (r_ [j_ 2 20] [] (.ret)) (.skip))) (.seq (r_ [m_ 13 0,v_ 14 13,j_ 15 0] [] (.block 0 (.loop (r_ [b_ 16 .lss 15 14] [] (.seq (c_ 16 (.skip) (.exit 0)) (.seq (.block 1 (r_ [o1 17 (.indexAddr 2 (tm 13) (tm 15)),s_ 18 2 17,o1 4 (.alloc [.val (.str []),.nils]),o3 (.store 2 (tm 4) (tm 18))] [17,18] (r_ [s_ 19 2 4,o1 20 (.call rg [tm 19]),m_ 5 20] [19,20] (r_ [m_ 21 5,i_ 22 .neq 21 0] [21,21] (c_ 22 (r_ [m_ 23 5,m_ 2 23] [23,23] (.ret)) (.skip)))))) (rt [i_ 24 .add 15 1,m_ 15 24] [24,24]))))))) (.seq (r_ [m_ 25 0,v_ 26 25,j_ 27 0] [] (.block 2 (.loop (r_ [b_ 28 .lss 27 26] [] (.seq (c_ 28 (.skip) (.exit 2)) (.seq (.block 3 (r_ [m_ 29 27,o1 30 (.indexAddr 2 (tm 25) (tm 27)),s_ 31 2 30,o1 7 (.alloc [.val (.str []),.nils]),m_ 6 29,o3 (.store 2 (tm 7) (tm 31))] [29,31] (.seq (.region [m_ 33 0,m_ 34 6,o1 35 (.subV 2 (tm 33) none (some (tm 34)) none),f_ 36 0 7,l_ 37 36,o1 38 (.call jM [tm 35,tm 37]),m_ 32 38,e_ 39 32 0,e_ 40 32 1,o1 8 (.alloc [.val (.str []),.nils]),o3 (.store 2 (tm 8) (tm 39)),m_ 9 40] (.drawn [(0,9),(1,9),(2,9),(3,9),(4,9),(5,9),(6,9),(7,9),(8,9)] (zL [(5,[(0,4),(9,9)]),(9,[(0,8)])])) [8,8,32,40]) (r_ [m_ 41 9] [] (c_ 41 (r_ [j_ 2 19] [] (.ret)) (.skip)))))) (rt [i_ 42 .add 27 1,m_ 27 42] [42,42]))))))) (r_ [j_ 2 0] [] (.ret)))))
def rX:List VRes:=[.tmp 2]
theorem Aa:FnOk Tryz.prog n4 rW rX 43:=
 ⟨⟨Tryz.f92,_,Tryz.func92,by decide,rfl,by kernel_rfl,by kernel_rfl,by kernel_rfl,rfl⟩⟩

def mr:VCode:=
 r_ [o1 2 (.move (.const (.nils)))] [] (.seq (r_ [m_ 3 0,o1 4 (.eqS false (tm 3))] [3,3] (c_ 4 (r_ [o1 2 (.move (.const (.nils)))] [] (.ret)) (.skip))) (r_ [o1 5 (.buildSlice 1 0 [.val (.str [])] []),m_ 6 0,o1 7 (.append 9 1 16 (tm 5) (tm 6)),m_ 2 7] [5,7] (.ret)))
def mt:List VRes:=[.tmp 2]
theorem sZ:FnOk Tryz.prog fJ mr mt 8:=
 ⟨⟨Tryz.f130,_,Tryz.func130,by decide,rfl,by kernel_rfl,by kernel_rfl,by kernel_rfl,rfl⟩⟩

def Ab:VCode:=
 r_ [k_ 4 false] [] (r_ [m_ 5 0,m_ 6 1,o1 7 (.call gG [tm 5,tm 6,.func lQ]),m_ 4 7] [5,7] (.ret))
def Ac:List VRes:=[.tmp 4]
theorem HG:FnOk Tryz.prog sY Ab Ac 8:=
 ⟨⟨Tryz.f131,_,Tryz.func131,by decide,rfl,by kernel_rfl,by kernel_rfl,by kernel_rfl,rfl⟩⟩

def xq:VCode:=
 r_ [j_ 2 0] [] (.seq (r_ [j_ 3 0] [] (.block 0 (.loop (.seq (r_ [m_ 5 3,m_ 6 0,o1 7 (.lenS (tm 6)),b_ 8 .lss 5 7] [5,7] (c_ 8 (.skip) (.exit 0))) (.seq (.block 1 (r_ [m_ 11 0,m_ 12 3,o1 13 (.indexS (tm 11) (tm 12)),m_ 4 13] [11,13] (r_ [m_ 14 4,o1 15 (.bin (.geq) (tm 14) (cu 65)),m_ 16 15,M_ 17 4 16 true,o2 18 (.bin (.leq) (tm 17) (cu 90)) 16 true,p_ 19 16 18,m_ 20 19,M_ 21 4 20 false,o2 22 (.bin (.geq) (tm 21) (cu 97)) 20 false,M_ 23 22 20 false,M_ 24 4 23 true,o2 25 (.bin (.leq) (tm 24) (cu 122)) 23 true,o2 26 (.pick (tm 23) (tm 25) (cb false)) 20 false,q_ 27 20 26,m_ 28 27,M_ 29 4 28 false,o2 30 (.bin (.geq) (tm 29) (cu 48)) 28 false,M_ 31 30 28 false,M_ 32 4 31 true,o2 33 (.bin (.leq) (tm 32) (cu 57)) 31 true,o2 34 (.pick (tm 31) (tm 33) (cb false)) 28 false,q_ 35 28 34,m_ 36 35,M_ 37 4 36 false,o2 38 (.bin (.eql) (tm 37) (cu 45)) 36 false,q_ 39 36 38,u_ 40 39] [14,39] (c_ 40 (r_ [m_ 41 3,m_ 2 41] [41,41] (.ret)) (.skip))))) (rt [m_ 9 3,i_ 10 .add 9 1,m_ 3 10] [9,10])))))) (r_ [m_ 42 0,o1 43 (.lenS (tm 42)),m_ 2 43] [42,43] (.ret)))
def xt:List VRes:=[.tmp 2]
theorem Ft:FnOk Tryz.prog re xq xt 44:=
 ⟨⟨Tryz.f140,_,Tryz.func140,by decide,rfl,by kernel_rfl,by kernel_rfl,by kernel_rfl,rfl⟩⟩

def xu:VCode:=
 r_ [o1 1 (.box (tm 0)),j_ 2 0] [] (.seq (r_ [f_ 8 0 1,l_ 9 8,o1 10 (.call oM [tm 9]),u_ 11 10] [8,10] (c_ 11 (r_ [j_ 2 4] [] (.ret)) (.skip))) (.seq (r_ [f_ 12 1 1,l_ 13 12,v_ 14 13,m_ 3 14] [12,14] (r_ [m_ 15 3,i_ 16 .eql 15 0,m_ 17 16,M_ 18 3 17 false,I_ 19 .gtr 18 6 17 false,q_ 20 17 19] [15,19] (c_ 20 (r_ [j_ 2 20] [] (.ret)) (.skip)))) (.seq (r_ [f_ 21 1 1,l_ 22 21,v_ 23 22,j_ 24 0] [21,21] (.block 0 (.loop (r_ [b_ 25 .lss 24 23] [] (.seq (c_ 25 (.skip) (.exit 0)) (.seq (.block 1 (r_ [o1 26 (.indexAddr 1 (tm 22) (tm 24)),l_ 27 26,m_ 5 27] [26,27] (.seq (r_ [m_ 28 5,o1 29 (.lenS (tm 28)),i_ 30 .gtr 29 60] [28,29] (c_ 30 (r_ [j_ 2 5] [] (.ret)) (.skip))) (r_ [m_ 31 5,o1 32 (.call eE [tm 31,cs [10]]),v_ 33 32,j_ 34 0] [31,31] (.block 2 (.loop (r_ [b_ 35 .lss 34 33] [] (.seq (c_ 35 (.skip) (.exit 2)) (.seq (.block 3 (r_ [o1 36 (.indexAddr 1 (tm 32) (tm 34)),l_ 37 36,m_ 7 37] [36,37] (r_ [m_ 38 7,o1 39 (.call wI [tm 38]),i_ 40 .geq 39 0] [38,39] (c_ 40 (r_ [j_ 2 10] [] (.ret)) (.skip))))) (rt [i_ 41 .add 34 1,m_ 34 41] [41,41])))))))))) (rt [i_ 42 .add 24 1,m_ 24 42] [42,42]))))))) (r_ [j_ 2 0] [] (.ret)))))
def xv:List VRes:=[.tmp 2]
theorem Fu:FnOk Tryz.prog rg xu xv 43:=
 ⟨⟨Tryz.f142,_,Tryz.func142,by decide,rfl,by kernel_rfl,by kernel_rfl,by kernel_rfl,rfl⟩⟩

def Ad:VCode:=
 r_ [o1 4 (.alloc [.val (.str []),.nils]),k_ 5 false] [] (.seq (r_ [m_ 8 0,v_ 9 8,j_ 10 0] [] (.block 0 (.loop (r_ [b_ 11 .lss 10 9] [] (.seq (c_ 11 (.skip) (.exit 0)) (.seq (.block 1 (r_ [o1 12 (.indexAddr 2 (tm 8) (tm 10)),s_ 13 2 12,o1 7 (.alloc [.val (.str []),.nils]),o3 (.store 2 (tm 7) (tm 13))] [12,13] (r_ [f_ 14 0 7,l_ 15 14,m_ 16 1,b_ 17 .eql 15 16] [14,16] (c_ 17 (.seq (.region [f_ 18 0 7,l_ 19 18,f_ 20 1 7,l_ 21 20,o1 22 (.call fJ [tm 21]),o1 23 (.build [.val (.str []),.nils] [(0,1,tm 19),(1,1,tm 22)]),o3 (.store 2 (tm 4) (tm 23)),k_ 5 true] (.drawn [(0,4),(1,4)] (zL [(4,[(0,3)])])) [18,23]) (.ret)) (.skip))))) (rt [i_ 24 .add 10 1,m_ 10 24] [24,24]))))))) (r_ [o1 25 (.build [.val (.str []),.nils] []),o3 (.store 2 (tm 4) (tm 25)),k_ 5 false] [25,25] (.ret)))
def Ae:List VRes:=[.cell 4 (some 2),.tmp 5]
theorem HH:FnOk Tryz.prog jM Ad Ae 26:=
 ⟨⟨Tryz.f143,_,Tryz.func143,by decide,rfl,by kernel_rfl,by kernel_rfl,by kernel_rfl,rfl⟩⟩

def kl:VCode:=
 r_ [k_ 6 false] [] (.seq (r_ [m_ 10 0,v_ 11 10,m_ 12 1,v_ 13 12,b_ 14 .neq 11 13] [10,13] (c_ 14 (r_ [k_ 6 false] [] (.ret)) (.skip))) (.seq (r_ [m_ 15 0,v_ 16 15,j_ 17 0] [] (.block 0 (.loop (r_ [b_ 18 .lss 17 16] [] (.seq (c_ 18 (.skip) (.exit 0)) (.seq (.block 1 (r_ [m_ 19 17,o1 20 (.indexAddr 2 (tm 15) (tm 17)),s_ 21 2 20,o1 8 (.alloc [.val (.str []),.nils]),m_ 7 19,o3 (.store 2 (tm 8) (tm 21))] [19,21] (r_ [m_ 22 1,m_ 23 7,o1 24 (.indexAddr 2 (tm 22) (tm 23)),s_ 25 2 24,o1 9 (.alloc [.val (.str []),.nils]),o3 (.store 2 (tm 9) (tm 25))] [22,25] (r_ [m_ 26 2,s_ 27 2 8,s_ 28 2 9,o1 29 (.callV (tm 26) [tm 27,tm 28]),u_ 30 29] [26,29] (c_ 30 (r_ [k_ 6 false] [] (.ret)) (.skip)))))) (rt [i_ 31 .add 17 1,m_ 17 31] [31,31]))))))) (r_ [k_ 6 true] [] (.ret))))
def kn:List VRes:=[.tmp 6]
theorem qm:FnOk Tryz.prog gG kl kn 32:=
 ⟨⟨Tryz.f186,_,Tryz.func186,by decide,rfl,by kernel_rfl,by kernel_rfl,by kernel_rfl,rfl⟩⟩

def v6:VCode:=
 r_ [o1 2 (.box (tm 0)),o1 3 (.box (tm 1)),k_ 4 false] [] (r_ [f_ 5 0 2,l_ 6 5,f_ 7 0 3,l_ 8 7,b_ 9 .eql 6 8,m_ 10 9,F_ 11 1 2 10 true,L_ 12 11 10 true,F_ 13 1 3 10 true,L_ 14 13 10 true,o2 15 (.call ja [tm 12,tm 14]) 10 true,p_ 16 10 15,m_ 4 16] [5,16] (.ret))
def v7:List VRes:=[.tmp 4]
theorem Dv:FnOk Tryz.prog lQ v6 v7 17:=
 ⟨⟨Tryz.f187,_,Tryz.func187,by decide,rfl,by kernel_rfl,by kernel_rfl,by kernel_rfl,rfl⟩⟩

def mw:VCode:=
 r_ [k_ 4 false] [] (.seq (r_ [m_ 6 0,v_ 7 6,m_ 8 1,v_ 9 8,b_ 10 .neq 7 9] [6,9] (c_ 10 (r_ [k_ 4 false] [] (.ret)) (.skip))) (.seq (r_ [m_ 11 0,v_ 12 11,j_ 13 0] [11,11] (.block 0 (.loop (r_ [b_ 14 .lss 13 12] [] (.seq (c_ 14 (.skip) (.exit 0)) (.seq (.block 1 (r_ [m_ 15 13,m_ 5 15] [15,15] (.seq (.region [m_ 16 0,m_ 17 5,o1 18 (.indexAddr 1 (tm 16) (tm 17)),l_ 19 18,m_ 20 1,m_ 21 5,o1 22 (.indexAddr 1 (tm 20) (tm 21)),l_ 23 22,b_ 24 .neq 19 23] (.calm) [16,23]) (c_ 24 (r_ [k_ 4 false] [] (.ret)) (.skip))))) (rt [i_ 25 .add 13 1,m_ 13 25] [25,25]))))))) (r_ [k_ 4 true] [] (.ret))))
def my:List VRes:=[.tmp 4]
theorem tc:FnOk Tryz.prog ja mw my 26:=
 ⟨⟨Tryz.f188,_,Tryz.func188,by decide,rfl,by kernel_rfl,by kernel_rfl,by kernel_rfl,rfl⟩⟩

def tT:VCode:=
 r_ [o1 4 (.move (.const (.nils)))] [] (r_ [m_ 5 0,m_ 6 1,o1 7 (.call kQ [tm 5,tm 6,ci 0,ci (-1)]),m_ 4 7] [5,7] (.ret))
def tU:List VRes:=[.tmp 4]
theorem BW:FnOk Tryz.prog eE tT tU 8:=
 ⟨⟨Tryz.f209,_,Tryz.func209,by decide,rfl,by kernel_rfl,by kernel_rfl,by kernel_rfl,rfl⟩⟩

def pA:VCode:=
 r_ [o1 8 (.move (.const (.nils)))] [] (.seq (r_ [m_ 12 3,i_ 13 .eql 12 0] [12,12] (c_ 13 (r_ [o1 8 (.move (.const (.nils)))] [] (.ret)) (.skip))) (.seq (r_ [m_ 14 1,t_ 15 14 []] [14,14] (c_ 15 (r_ [m_ 16 0,m_ 17 3,o1 18 (.call 319 [tm 16,tm 17]),m_ 8 18] [16,18] (.ret)) (.skip))) (.seq (r_ [m_ 19 3,i_ 20 .lss 19 0] [19,19] (c_ 20 (rt [m_ 21 0,m_ 22 1,o1 23 (.call nX [tm 21,tm 22]),i_ 24 .add 23 1,m_ 3 24] [21,24]) (.skip))) (r_ [m_ 25 3,m_ 26 0,o1 27 (.lenS (tm 26)),i_ 28 .add 27 1,o1 29 (.minI (tm 25) (tm 28)),m_ 3 29] [25,29] (r_ [m_ 30 3,o1 31 (.mkSlice 1 16 [.val (.str [])] (tm 30) (tm 30)),m_ 9 31] [30,31] (r_ [m_ 32 3,i_ 33 .sub 32 1,m_ 3 33] [32,33] (r_ [j_ 10 0] [] (.seq (.block 0 (.loop (.seq (r_ [m_ 34 10,m_ 35 3,b_ 36 .lss 34 35] [34,35] (c_ 36 (.skip) (.exit 0))) (.block 1 (r_ [m_ 37 0,m_ 38 1,o1 39 (.call kK [tm 37,tm 38]),m_ 11 39] [37,39] (.seq (r_ [m_ 40 11,i_ 41 .lss 40 0] [40,40] (c_ 41 (.exit 0) (.skip))) (r_ [m_ 42 9,m_ 43 10,m_ 44 0,m_ 45 11,m_ 46 2,b_ 47 .add 45 46,o1 48 (.subS (tm 44) none (some (tm 47))),o1 49 (.indexAddr 1 (tm 42) (tm 43)),o3 (.store 1 (tm 49) (tm 48))] [42,49] (r_ [m_ 50 0,m_ 51 11,m_ 52 1,o1 53 (.lenS (tm 52)),b_ 54 .add 51 53,o1 55 (.subS (tm 50) (some (tm 54)) none),m_ 0 55] [50,55] (rt [m_ 56 10,i_ 57 .add 56 1,m_ 10 57] [56,57]))))))))) (r_ [m_ 58 9,m_ 59 10,m_ 60 0,o1 61 (.indexAddr 1 (tm 58) (tm 59)),o3 (.store 1 (tm 61) (tm 60))] [58,61] (r_ [m_ 62 9,m_ 63 10,i_ 64 .add 63 1,o1 65 (.subV 1 (tm 62) none (some (tm 64)) none),m_ 8 65] [62,65] (.ret)))))))))))
def pB:List VRes:=[.tmp 8]
theorem wU:FnOk Tryz.prog kQ pA pB 66:=
 ⟨⟨Tryz.f273,_,Tryz.func273,by decide,rfl,by kernel_rfl,by kernel_rfl,by kernel_rfl,rfl⟩⟩

def lS:VCode:=
 r_ [o1 2 (.alloc Fp),k_ 3 false] [] (.seq (r_ [j_ 4 0] [] (.block 0 (.loop (.seq (r_ [m_ 6 4,m_ 7 0,o1 8 (.lenS (tm 7)),b_ 9 .lss 6 8] [6,8] (c_ 9 (.skip) (.exit 0))) (.seq (.block 1 (r_ [m_ 12 0,m_ 13 4,o1 14 (.indexS (tm 12) (tm 13)),m_ 5 14] [12,14] (.seq (r_ [m_ 15 5,o1 16 (.bin (.geq) (tm 15) (cu 128))] [15,15] (c_ 16 (r_ [s_ 17 256 2,o3 (.store 256 (tm 2) (tm 17)),k_ 3 false] [17,17] (.ret)) (.skip))) (rt [m_ 18 5,o1 19 (.indexArr 256 1 (tm 2) (tm 18)),o3 (.store 1 (tm 19) (cb true))] [18,19])))) (rt [m_ 10 4,i_ 11 .add 10 1,m_ 4 11] [10,11])))))) (r_ [s_ 20 256 2,o3 (.store 256 (tm 2) (tm 20)),k_ 3 true] [20,20] (.ret)))
def lU:List VRes:=[.cell 2 (some 256),.tmp 3]
theorem rY:FnOk Tryz.prog eV lS lU 21:=
 ⟨⟨Tryz.f290,_,Tryz.func290,by decide,rfl,by kernel_rfl,by kernel_rfl,by kernel_rfl,rfl⟩⟩

def tV:VCode:=
 r_ [j_ 4 0] [] (.seq (r_ [m_ 7 1,o1 8 (.lenS (tm 7)),i_ 9 .eql 8 0] [7,8] (c_ 9 (r_ [m_ 10 0,o1 11 (.call lN [tm 10]),i_ 12 .add 11 1,m_ 4 12] [10,12] (.ret)) (.skip))) (.seq (r_ [m_ 13 1,o1 14 (.lenS (tm 13)),i_ 15 .eql 14 1] [13,14] (c_ 15 (r_ [m_ 16 0,m_ 17 1,o1 18 (.indexS (tm 17) (ci 0)),o1 19 (.call gV [tm 16,tm 18]),m_ 4 19] [16,19] (.ret)) (.skip))) (r_ [j_ 5 0] [] (.block 0 (.loop (.block 1 (r_ [m_ 20 0,m_ 21 1,o1 22 (.call kK [tm 20,tm 21]),m_ 6 22] [20,22] (.seq (r_ [m_ 23 6,i_ 24 .eql 23 (-1)] [23,23] (c_ 24 (r_ [m_ 25 5,m_ 4 25] [25,25] (.ret)) (.skip))) (r_ [m_ 26 5,i_ 27 .add 26 1,m_ 5 27] [26,27] (rt [m_ 28 0,m_ 29 6,m_ 30 1,o1 31 (.lenS (tm 30)),b_ 32 .add 29 31,o1 33 (.subS (tm 28) (some (tm 32)) none),m_ 0 33] [28,33]))))))))))
def tW:List VRes:=[.tmp 4]
theorem BX:FnOk Tryz.prog nX tV tW 34:=
 ⟨⟨Tryz.f320,_,Tryz.func320,by decide,rfl,by kernel_rfl,by kernel_rfl,by kernel_rfl,rfl⟩⟩

def tX:VCode:=
 r_ [j_ 4 0] [] (r_ [m_ 5 0,m_ 6 1,o1 7 (.call dr [tm 5,tm 6]),m_ 4 7] [5,7] (.ret))
def tY:List VRes:=[.tmp 4]
theorem BY:FnOk Tryz.prog kK tX tY 8:=
 ⟨⟨Tryz.f321,_,Tryz.func321,by decide,rfl,by kernel_rfl,by kernel_rfl,by kernel_rfl,rfl⟩⟩

def iQ:VCode:=
 r_ [j_ 4 0] [] (r_ [m_ 14 1,o1 15 (.lenS (tm 14)),m_ 5 15] [14,15] (.seq (.block 0 (r_ [m_ 17 5,i_ 18 .eql 17 0,m_ 19 18,M_ 20 1 19 false,M_ 21 0 19 false,B_ 22 .eql 20 21 19 false,q_ 23 19 22,m_ 16 23] [17,23] (c_ 16 (r_ [j_ 4 0] [] (.ret)) (r_ [m_ 25 5,i_ 26 .eql 25 1,m_ 24 26] [25,26] (c_ 24 (r_ [m_ 27 0,m_ 28 1,o1 29 (.indexS (tm 28) (ci 0)),o1 30 (.call bX [tm 27,tm 29]),m_ 4 30] [27,30] (.ret)) (r_ [m_ 32 5,m_ 33 0,o1 34 (.lenS (tm 33)),b_ 35 .geq 32 34,m_ 31 35] [32,35] (c_ 31 (r_ [j_ 4 (-1)] [] (.ret)) (r_ [m_ 37 5,o1 38 (.load none (.glob 5)),b_ 39 .leq 37 38,m_ 40 39,M_ 41 0 40 true,o2 42 (.lenS (tm 41)) 40 true,I_ 43 .leq 42 64 40 true,p_ 44 40 43,m_ 36 44] [37,44] (c_ 36 (r_ [m_ 45 0,m_ 46 1,o1 47 (.call 360 [tm 45,tm 46]),m_ 4 47] [45,47] (.ret)) (.skip)))))))))) (r_ [m_ 48 1,o1 49 (.indexS (tm 48) (ci 0)),m_ 6 49] [48,49] (r_ [m_ 50 1,o1 51 (.indexS (tm 50) (ci 1)),m_ 7 51] [50,51] (r_ [j_ 8 0] [] (r_ [m_ 52 0,o1 53 (.lenS (tm 52)),m_ 54 5,b_ 55 .sub 53 54,i_ 56 .add 55 1,m_ 9 56] [52,56] (r_ [j_ 10 0] [] (.seq (.block 1 (.loop (.seq (r_ [m_ 57 8,m_ 58 9,b_ 59 .lss 57 58] [57,58] (c_ 59 (.skip) (.exit 1))) (.block 2 (.seq (r_ [m_ 60 0,m_ 61 8,o1 62 (.indexS (tm 60) (tm 61)),m_ 63 6,b_ 64 .neq 62 63] [60,63] (c_ 64 (r_ [m_ 65 0,m_ 66 8,i_ 67 .add 66 1,m_ 68 9,o1 69 (.subS (tm 65) (some (tm 67)) (some (tm 68))),m_ 70 6,o1 71 (.call bX [tm 69,tm 70]),m_ 11 71] [65,71] (.seq (r_ [m_ 72 11,i_ 73 .lss 72 0] [72,72] (c_ 73 (r_ [j_ 4 (-1)] [] (.ret)) (.skip))) (rt [m_ 74 8,m_ 75 11,i_ 76 .add 75 1,b_ 77 .add 74 76,m_ 8 77] [74,77]))) (.skip))) (.seq (r_ [m_ 78 0,m_ 79 8,i_ 80 .add 79 1,o1 81 (.indexS (tm 78) (tm 80)),m_ 82 7,b_ 83 .eql 81 82,m_ 84 83,M_ 85 0 84 true,M_ 86 8 84 true,M_ 87 8 84 true,M_ 88 5 84 true,B_ 89 .add 87 88 84 true,o2 90 (.subS (tm 85) (some (tm 86)) (some (tm 89))) 84 true,M_ 91 1 84 true,B_ 92 .eql 90 91 84 true,p_ 93 84 92] [78,92] (c_ 93 (r_ [m_ 94 8,m_ 4 94] [94,94] (.ret)) (.skip))) (r_ [m_ 95 8,i_ 96 .add 95 1,m_ 8 96] [95,96] (r_ [m_ 97 10,i_ 98 .add 97 1,m_ 10 98] [97,98] (r_ [m_ 99 5,o1 100 (.load none (.glob 5)),b_ 101 .leq 99 100,m_ 102 101,M_ 103 10 102 true,M_ 104 8 102 true,o2 105 (.call 361 [tm 104]) 102 true,B_ 106 .gtr 103 105 102 true,p_ 107 102 106] [99,106] (c_ 107 (r_ [m_ 108 0,m_ 109 8,o1 110 (.subS (tm 108) (some (tm 109)) none),m_ 111 1,o1 112 (.call 360 [tm 110,tm 111]),m_ 12 112] [108,112] (.seq (r_ [m_ 113 12,i_ 114 .geq 113 0] [113,113] (c_ 114 (r_ [m_ 115 12,m_ 116 8,b_ 117 .add 115 116,m_ 4 117] [115,117] (.ret)) (.skip))) (r_ [j_ 4 (-1)] [] (.ret)))) (r_ [m_ 118 5,o1 119 (.load none (.glob 5)),b_ 120 .gtr 118 119,m_ 121 120,M_ 122 10 121 true,M_ 123 8 121 true,o2 124 (.bin (.shr) (tm 123) (.const (.val (.int (.u64) 4)))) 121 true,o2 125 (.bin (.add) (ci 4) (tm 124)) 121 true,B_ 126 .geq 122 125 121 true,p_ 127 121 126,m_ 128 127,M_ 129 8 128 true,M_ 130 9 128 true,B_ 131 .lss 129 130 128 true,p_ 132 128 131] [118,131] (c_ 132 (r_ [m_ 133 0,m_ 134 8,o1 135 (.subS (tm 133) (some (tm 134)) none),m_ 136 1,o1 137 (.call 362 [tm 135,tm 136]),m_ 13 137] [133,137] (.seq (r_ [m_ 138 13,i_ 139 .lss 138 0] [138,138] (c_ 139 (r_ [j_ 4 (-1)] [] (.ret)) (.skip))) (r_ [m_ 140 8,m_ 141 13,b_ 142 .add 140 141,m_ 4 142] [140,142] (.ret)))) (.skip))))))))))))) (r_ [j_ 4 (-1)] [] (.ret))))))))))
def iR:List VRes:=[.tmp 4]
theorem nJ:FnOk Tryz.prog dr iQ iR 143:=
 ⟨⟨Tryz.f327,_,Tryz.func327,by decide,rfl,by kernel_rfl,by kernel_rfl,by kernel_rfl,rfl⟩⟩

def iS:VCode:=
 r_ [k_ 4 false] [] (r_ [m_ 5 0,m_ 6 1,n_ 7 5,o1 8 (.indexArr 256 1 (tm 7) (tm 6)),l_ 9 8,m_ 4 9] [5,9] (.ret))
def iT:List VRes:=[.tmp 4]
theorem nK:FnOk Tryz.prog dt iS iT 10:=
 ⟨⟨Tryz.f332,_,Tryz.func332,by decide,rfl,by kernel_rfl,by kernel_rfl,by kernel_rfl,rfl⟩⟩
end Go.Vs.YtcjeehebikeghaaGreatDoor
