/- The code of the seat's functions in the small typed code; printed by a program of the prover's. -/
import Derived.Test.YtmaenhgipojmfaaGreatDoorTC
import Derived.Test.YtmaenhgipojmfaaGreatDoorRows
import Derived.KernelRfl
import Derived.Test.YtmaenhgipojmfaaGreatDoorTM
import Derived.Test.YtmaenhgipojmfaaGreatDoorBD
set_option linter.unusedVariables false
set_option linter.unusedSimpArgs false
namespace Go.Vs.YtmaenhgipojmfaaGreatDoor
open Go.Proofs
set_option maxRecDepth 100000
set_option maxHeartbeats 4000000

def gp:Nat:=3
def hY:Nat:=4
def iE:Nat:=5
def iF:Nat:=6
def iG:Nat:=7
def be:Nat:=8
def kK:VCode:=
 .seq (rt [o1 2 (.move (cb false))] []) (.seq (.seq (rt [o1 8 (.move (tm 0)),o1 9 (.lenS (tm 8)),o1 10 (.bin (.gtr) (tm 9) (ci 6100))] [8,9]) (.cond (tm 10) (.seq (rt [o1 11 (.call be []),o1 2 (.move (tm 11))] [11,11]) (.ret)) (.skip))) (.seq (rt [o1 13 (.move (tm 0)),o1 14 (.call ct [tm 13]),o1 12 (.move (tm 14)),o1 15 (.extract (tm 12) 0),o1 16 (.extract (tm 12) 1),o1 3 (.move (tm 15)),o1 4 (.move (tm 16))] [12,16]) (.seq (rt [o1 18 (.move (tm 0)),o1 19 (.call lO [tm 18]),o1 17 (.move (tm 19)),o1 20 (.extract (tm 17) 0),o1 21 (.extract (tm 17) 1),o1 22 (.extract (tm 17) 2),o1 5 (.move (tm 20)),o1 6 (.move (tm 21)),o1 7 (.move (tm 22))] [17,22]) (.seq (rt [o1 23 (.move (tm 3)),o1 24 (.call nL [tm 23]),o1 25 (.move (tm 5)),o1 26 (.call jM [tm 24,tm 25]),o1 27 (.move (tm 26)),o2 28 (.move (tm 4)) 27 true,o2 29 (.call dT [tm 28]) 27 true,o2 30 (.move (tm 6)) 27 true,o2 31 (.bin (.eql) (tm 29) (tm 30)) 27 true,o1 32 (.pick (tm 27) (tm 31) (cb false)),o1 33 (.move (tm 32)),o2 34 (.move (tm 4)) 33 true,o2 35 (.call cK [tm 34]) 33 true,o2 36 (.move (tm 7)) 33 true,o2 37 (.bin (.eql) (tm 35) (tm 36)) 33 true,o1 38 (.pick (tm 33) (tm 37) (cb false)),o1 39 (.move (tm 38)),o2 40 (.move (tm 4)) 39 true,o2 41 (.eqN false (tm 40)) 39 true,o2 42 (.move (tm 6)) 39 true,o2 43 (.bin (.eql) (tm 42) (ci 0)) 39 true,o2 44 (.eqB false (tm 41) (tm 43)) 39 true,o1 45 (.pick (tm 39) (tm 44) (cb false)),o1 46 (.move (tm 45)),o2 47 (.call be []) 46 true,o1 48 (.pick (tm 46) (tm 47) (cb false)),o1 2 (.move (tm 48))] [23,48]) (.ret)))))
def kL:List VRes:=[.tmp 2]
theorem qr:FnOk Tryz.prog gp kK kL 49:=
 ⟨⟨Tryz.f3,_,Tryz.func3,by decide,rfl,by kernel_rfl,by kernel_rfl,by kernel_rfl,rfl⟩⟩

def lh:VCode:=
 .seq (rt [o1 2 (.box (tm 0)),o1 4 (.move (cb false))] []) (.seq (.seq (rt [o1 13 (.indexArr 2 1 (tm 2) (ci 0)),o1 14 (.load none (tm 13)),o1 15 (.call eo [tm 14]),o1 16 (.un (.not) (tm 15)),o1 17 (.move (tm 16)),o2 18 (.indexArr 2 1 (tm 2) (ci 1)) 17 false,o2 19 (.load none (tm 18)) 17 false,o2 20 (.call eo [tm 19]) 17 false,o2 21 (.un (.not) (tm 20)) 17 false,o1 22 (.pick (tm 17) (cb true) (tm 21))] [13,21]) (.cond (tm 22) (.seq (rt [o1 23 (.call be []),o1 4 (.move (tm 23))] [23,23]) (.ret)) (.skip))) (.seq (rt [o1 24 (.indexArr 2 1 (tm 2) (ci 0)),o1 25 (.load none (tm 24)),o1 26 (.call gC [tm 25]),o1 5 (.move (tm 26))] [24,26]) (.seq (rt [o1 28 (.move (tm 5)),o1 29 (.call dX [tm 28]),o1 27 (.move (tm 29)),o1 30 (.extract (tm 27) 0),o1 31 (.extract (tm 27) 1),o1 6 (.move (tm 30)),o1 7 (.move (tm 31))] [27,31]) (.seq (rt [o1 33 (.indexArr 2 1 (tm 2) (ci 0)),o1 34 (.load none (tm 33)),o1 35 (.call lP [tm 34]),o1 32 (.move (tm 35)),o1 36 (.extract (tm 32) 0),o1 37 (.extract (tm 32) 1),o1 8 (.move (tm 36)),o1 9 (.move (tm 37))] [32,37]) (.seq (.region [o1 38 (.move (tm 5)),o1 39 (.move (tm 1)),o1 40 (.call lf [tm 38,tm 39]),o1 41 (.indexArr 2 1 (tm 2) (ci 0)),o1 42 (.load none (tm 41)),o1 43 (.move (tm 1)),o1 44 (.call nM [tm 42,tm 43]),o1 10 (.move (tm 40)),o1 11 (.move (tm 44))] (.drawn [(2,3),(2,4),(2,5)] (y4 [(2,[(0,1),(3,5)]),(6,[(0,5)])])) [38,44]) (.seq (.seq (.region [o1 45 (.move (tm 6)),o1 46 (.move (tm 8)),o1 47 (.bin (.neq) (tm 45) (tm 46)),o1 48 (.move (tm 47)),o2 49 (.move (tm 7)) 48 false,o2 50 (.move (tm 9)) 48 false,o2 51 (.bin (.neq) (tm 49) (tm 50)) 48 false,o1 52 (.pick (tm 48) (cb true) (tm 51)),o1 53 (.move (tm 52)),o2 54 (.move (tm 5)) 53 false,o2 55 (.call di [tm 54]) 53 false,o2 56 (.indexArr 2 1 (tm 2) (ci 0)) 53 false,o2 57 (.load none (tm 56)) 53 false,o2 58 (.call iN [tm 57]) 53 false,o2 59 (.bin (.neq) (tm 55) (tm 58)) 53 false,o1 60 (.pick (tm 53) (cb true) (tm 59)),o1 61 (.move (tm 60)),o2 62 (.move (tm 5)) 61 false,o2 63 (.move (tm 1)) 61 false,o2 64 (.call jN [tm 62,tm 63]) 61 false,o2 65 (.indexArr 2 1 (tm 2) (ci 0)) 61 false,o2 66 (.load none (tm 65)) 61 false,o2 67 (.move (tm 1)) 61 false,o2 68 (.call fW [tm 66,tm 67]) 61 false,o2 69 (.bin (.neq) (tm 64) (tm 68)) 61 false,o1 70 (.pick (tm 61) (cb true) (tm 69)),o1 71 (.move (tm 70)),o2 72 (.move (tm 5)) 71 false,o2 73 (.indexArr 2 1 (tm 2) (ci 1)) 71 false,o2 74 (.load none (tm 73)) 71 false,o2 75 (.call gC [tm 74]) 71 false,o2 76 (.call eU [tm 72,tm 75]) 71 false,o2 77 (.indexArr 2 1 (tm 2) (ci 0)) 71 false,o2 78 (.load none (tm 77)) 71 false,o2 79 (.indexArr 2 1 (tm 2) (ci 1)) 71 false,o2 80 (.load none (tm 79)) 71 false,o2 81 (.call jM [tm 78,tm 80]) 71 false,o2 82 (.eqB true (tm 76) (tm 81)) 71 false,o1 83 (.pick (tm 71) (cb true) (tm 82)),o1 84 (.move (tm 83)),o2 85 (.move (tm 10)) 84 false,o2 86 (.lenV (tm 85)) 84 false,o2 87 (.move (tm 11)) 84 false,o2 88 (.lenV (tm 87)) 84 false,o2 89 (.bin (.neq) (tm 86) (tm 88)) 84 false,o1 90 (.pick (tm 84) (cb true) (tm 89))] (.drawn [(10,11),(10,12),(19,20),(19,21),(19,22),(27,30),(30,32),(31,32),(30,33),(31,33),(30,34),(31,34),(30,35),(31,35)] (y4 [(10,[(0,9),(11,12)]),(13,[(0,12)]),(19,[(0,18),(20,22)]),(23,[(0,22)]),(30,[(0,29),(32,35)]),(31,[(0,30),(32,35)]),(36,[(0,35)])])) [45,89]) (.cond (tm 90) (.seq (rt [o1 4 (.move (cb false))] []) (.ret)) (.skip))) (.seq (.seq (rt [o1 12 (.move (ci 0))] []) (.block 0 (.loop (.seq (.seq (rt [o1 91 (.move (tm 12)),o1 92 (.move (tm 10)),o1 93 (.lenV (tm 92)),o1 94 (.bin (.lss) (tm 91) (tm 93))] [91,93]) (.cond (tm 94) (.skip) (.exit 0))) (.seq (.block 1 (.seq (.region [o1 97 (.move (tm 10)),o1 98 (.move (tm 12)),o1 99 (.indexAddr 1 (tm 97) (tm 98)),o1 100 (.load none (tm 99)),o1 101 (.move (tm 11)),o1 102 (.move (tm 12)),o1 103 (.indexAddr 1 (tm 101) (tm 102)),o1 104 (.load none (tm 103)),o1 105 (.bin (.neq) (tm 100) (tm 104))] (.calm) [97,104]) (.cond (tm 105) (.seq (rt [o1 4 (.move (cb false))] []) (.ret)) (.skip)))) (rt [o1 95 (.move (tm 12)),o1 96 (.bin (.add) (tm 95) (ci 1)),o1 12 (.move (tm 96))] [95,96])))))) (.seq (rt [o1 106 (.call be []),o1 4 (.move (tm 106))] [106,106]) (.ret)))))))))
def li:List VRes:=[.tmp 4]
theorem su:FnOk Tryz.prog hY lh li 107:=
 ⟨⟨Tryz.f4,_,Tryz.func4,by decide,rfl,by kernel_rfl,by kernel_rfl,by kernel_rfl,rfl⟩⟩

def mz:VCode:=
 .seq (rt [o1 4 (.move (cb false))] []) (.seq (.seq (rt [o1 16 (.move (tm 0)),o1 17 (.call eo [tm 16]),o1 18 (.un (.not) (tm 17)),o1 19 (.move (tm 18)),o2 20 (.move (tm 1)) 19 false,o2 21 (.lenS (tm 20)) 19 false,o2 22 (.bin (.gtr) (tm 21) (ci 3000)) 19 false,o1 23 (.pick (tm 19) (cb true) (tm 22))] [16,22]) (.cond (tm 23) (.seq (rt [o1 24 (.call be []),o1 4 (.move (tm 24))] [24,24]) (.ret)) (.skip))) (.seq (rt [o1 25 (.move (tm 0)),o1 26 (.call gC [tm 25]),o1 5 (.move (tm 26))] [25,26]) (.seq (rt [o1 28 (.move (tm 5)),o1 29 (.call dX [tm 28]),o1 27 (.move (tm 29)),o1 30 (.extract (tm 27) 0),o1 31 (.extract (tm 27) 1),o1 6 (.move (tm 30)),o1 7 (.move (tm 31))] [27,31]) (.seq (.seq (rt [o1 32 (.move (tm 7)),o1 33 (.bin (.eql) (tm 32) (ci 0)),o1 34 (.move (tm 5)),o1 35 (.call di [tm 34]),o1 36 (.bin (.eql) (tm 35) (ci 0)),o1 37 (.eqB true (tm 33) (tm 36))] [32,36]) (.cond (tm 37) (.seq (rt [o1 4 (.move (cb false))] []) (.ret)) (.skip))) (.cut (.seq (.seq (rt [o1 38 (.move (tm 7)),o1 39 (.bin (.eql) (tm 38) (ci 0)),o1 40 (.move (tm 39)),o2 41 (.move (tm 6)) 40 true,o2 42 (.lenS (tm 41)) 40 true,o2 43 (.bin (.leq) (tm 42) (ci 6000)) 40 true,o1 44 (.pick (tm 40) (tm 43) (cb false))] [38,43]) (.cond (tm 44) (.seq (rt [o1 46 (.move (tm 6)),o1 47 (.call ct [tm 46]),o1 45 (.move (tm 47)),o1 48 (.extract (tm 45) 0),o1 49 (.extract (tm 45) 1),o1 8 (.move (tm 48)),o1 9 (.move (tm 49))] [45,49]) (.seq (rt [o1 50 (.move (tm 9)),o1 51 (.eqN true (tm 50)),o1 52 (.move (tm 51)),o2 53 (.move (tm 5)) 52 false,o2 54 (.move (tm 8)) 52 false,o2 55 (.call eU [tm 53,tm 54]) 52 false,o2 56 (.un (.not) (tm 55)) 52 false,o1 57 (.pick (tm 52) (cb true) (tm 56))] [50,56]) (.cond (tm 57) (.seq (rt [o1 4 (.move (cb false))] []) (.ret)) (.skip)))) (.skip))) (.seq (rt [o1 59 (.move (tm 1)),o1 60 (.call ct [tm 59]),o1 58 (.move (tm 60)),o1 61 (.extract (tm 58) 0),o1 62 (.extract (tm 58) 1),o1 10 (.move (tm 61)),o1 11 (.move (tm 62))] [58,62]) (.seq (.seq (rt [o1 63 (.move (tm 11)),o1 64 (.eqN true (tm 63))] [63,63]) (.cond (tm 64) (.seq (rt [o1 65 (.move (tm 10)),o1 66 (.lenV (tm 65)),o1 67 (.bin (.eql) (tm 66) (ci 0)),o1 68 (.move (tm 67)),o2 69 (.call be []) 68 true,o1 70 (.pick (tm 68) (tm 69) (cb false)),o1 4 (.move (tm 70))] [65,70]) (.ret)) (.skip))) (.seq (rt [o1 72 (.move (tm 10)),o1 73 (.call dX [tm 72]),o1 71 (.move (tm 73)),o1 74 (.extract (tm 71) 0),o1 75 (.extract (tm 71) 1),o1 12 (.move (tm 74)),o1 13 (.move (tm 75))] [71,75]) (.seq (.seq (rt [o1 76 (.move (tm 10)),o1 77 (.call di [tm 76]),o1 78 (.bin (.neq) (tm 77) (ci 0)),o1 79 (.move (tm 78)),o2 80 (.move (tm 13)) 79 false,o2 81 (.bin (.neq) (tm 80) (ci 0)) 79 false,o1 82 (.pick (tm 79) (cb true) (tm 81))] [76,81]) (.cond (tm 82) (.seq (rt [o1 4 (.move (cb false))] []) (.ret)) (.skip))) (.seq (.seq (rt [o1 83 (.move (tm 12)),o1 84 (.lenS (tm 83)),o1 85 (.bin (.leq) (tm 84) (ci 6000))] [83,84]) (.cond (tm 85) (.seq (rt [o1 87 (.move (tm 12)),o1 88 (.call ct [tm 87]),o1 86 (.move (tm 88)),o1 89 (.extract (tm 86) 0),o1 90 (.extract (tm 86) 1),o1 14 (.move (tm 89)),o1 15 (.move (tm 90))] [86,90]) (.seq (rt [o1 91 (.move (tm 15)),o1 92 (.eqN false (tm 91)),o1 93 (.move (tm 92)),o2 94 (.move (tm 10)) 93 true,o2 95 (.move (tm 14)) 93 true,o2 96 (.call eU [tm 94,tm 95]) 93 true,o1 97 (.pick (tm 93) (tm 96) (cb false)),o1 98 (.move (tm 97)),o2 99 (.call be []) 98 true,o1 100 (.pick (tm 98) (tm 99) (cb false)),o1 4 (.move (tm 100))] [91,100]) (.ret))) (.skip))) (.seq (rt [o1 101 (.call be []),o1 4 (.move (tm 101))] [101,101]) (.ret)))))))))))))
def mA:List VRes:=[.tmp 4]
theorem uH:FnOk Tryz.prog iE mz mA 102:=
 ⟨⟨Tryz.f5,_,Tryz.func5,by decide,rfl,by kernel_rfl,by kernel_rfl,by kernel_rfl,rfl⟩⟩

def mB:VCode:=
 .seq (rt [o1 2 (.move (cb false))] []) (.seq (.seq (rt [o1 7 (.move (tm 0)),o1 8 (.lenS (tm 7)),o1 9 (.bin (.gtr) (tm 8) (ci 4000))] [7,8]) (.cond (tm 9) (.seq (rt [o1 10 (.call be []),o1 2 (.move (tm 10))] [10,10]) (.ret)) (.skip))) (.seq (rt [o1 12 (.move (tm 0)),o1 13 (.call ct [tm 12]),o1 11 (.move (tm 13)),o1 14 (.extract (tm 11) 0),o1 15 (.extract (tm 11) 1),o1 3 (.move (tm 14)),o1 4 (.move (tm 15))] [11,15]) (.seq (.seq (rt [o1 16 (.move (tm 4)),o1 17 (.eqN false (tm 16))] [16,16]) (.cond (tm 17) (.seq (rt [o1 18 (.move (tm 3)),o1 19 (.call di [tm 18]),o1 20 (.bin (.eql) (tm 19) (ci 0)),o1 21 (.move (tm 20)),o2 22 (.call be []) 21 true,o1 23 (.pick (tm 21) (tm 22) (cb false)),o1 2 (.move (tm 23))] [18,23]) (.ret)) (.skip))) (.seq (rt [o1 5 (.alloc [.val (.nilp)])] []) (.seq (.seq (rt [o1 24 (.move (tm 4)),o1 25 (.mkIface 56 (tm 5)),o1 26 (.callM eL [tm 24,tm 25]),o1 27 (.un (.not) (tm 26)),o1 28 (.move (tm 27)),o2 29 (.load none (tm 5)) 28 false,o2 30 (.eqP false (tm 29)) 28 false,o1 31 (.pick (tm 28) (cb true) (tm 30))] [24,30]) (.cond (tm 31) (.seq (rt [o1 2 (.move (cb false))] []) (.ret)) (.skip))) (.seq (rt [o1 32 (.move (tm 4)),o1 33 (.call cK [tm 32]),o1 6 (.move (tm 33))] [32,33]) (.seq (rt [o1 34 (.move (tm 6)),o1 35 (.bin (.geq) (tm 34) (ci 0)),o1 36 (.move (tm 35)),o2 37 (.move (tm 6)) 36 true,o2 38 (.move (tm 0)) 36 true,o2 39 (.lenS (tm 38)) 36 true,o2 40 (.bin (.leq) (tm 37) (tm 39)) 36 true,o1 41 (.pick (tm 36) (tm 40) (cb false)),o1 42 (.move (tm 41)),o2 43 (.move (tm 4)) 42 true,o2 44 (.call dT [tm 43]) 42 true,o2 45 (.bin (.neq) (tm 44) (ci 0)) 42 true,o1 46 (.pick (tm 42) (tm 45) (cb false)),o1 47 (.move (tm 46)),o2 48 (.move (tm 3)) 47 true,o2 49 (.lenV (tm 48)) 47 true,o2 50 (.bin (.eql) (tm 49) (ci 0)) 47 true,o1 51 (.pick (tm 47) (tm 50) (cb false)),o1 52 (.move (tm 51)),o2 53 (.call be []) 52 true,o1 54 (.pick (tm 52) (tm 53) (cb false)),o1 2 (.move (tm 54))] [34,54]) (.ret))))))))
def mC:List VRes:=[.tmp 2]
theorem uI:FnOk Tryz.prog iF mB mC 55:=
 ⟨⟨Tryz.f6,_,Tryz.func6,by decide,rfl,by kernel_rfl,by kernel_rfl,by kernel_rfl,rfl⟩⟩

def mD:VCode:=
 .seq (rt [o1 2 (.move (cb false))] []) (.seq (.seq (rt [o1 12 (.move (tm 0)),o1 13 (.call eo [tm 12]),o1 14 (.un (.not) (tm 13))] [12,13]) (.cond (tm 14) (.seq (rt [o1 15 (.call be []),o1 2 (.move (tm 15))] [15,15]) (.ret)) (.skip))) (.seq (rt [o1 16 (.move (tm 0)),o1 17 (.call gC [tm 16]),o1 3 (.move (tm 17))] [16,17]) (.seq (rt [o1 19 (.move (tm 3)),o1 20 (.call dX [tm 19]),o1 18 (.move (tm 20)),o1 21 (.extract (tm 18) 0),o1 22 (.extract (tm 18) 1),o1 4 (.move (tm 21)),o1 5 (.move (tm 22))] [18,22]) (.seq (.seq (rt [o1 23 (.move (tm 5)),o1 24 (.bin (.neq) (tm 23) (ci 0)),o1 25 (.move (tm 24)),o2 26 (.move (tm 4)) 25 false,o2 27 (.lenS (tm 26)) 25 false,o2 28 (.bin (.gtr) (tm 27) (ci 6000)) 25 false,o1 29 (.pick (tm 25) (cb true) (tm 28))] [23,28]) (.cond (tm 29) (.seq (rt [o1 30 (.call be []),o1 2 (.move (tm 30))] [30,30]) (.ret)) (.skip))) (.seq (rt [o1 6 (.move (ci 0))] []) (.seq (.seq (rt [o1 7 (.move (ci 0))] []) (.block 0 (.loop (.seq (.seq (rt [o1 31 (.move (tm 7)),o1 32 (.move (tm 4)),o1 33 (.lenS (tm 32)),o1 34 (.bin (.lss) (tm 31) (tm 33))] [31,33]) (.cond (tm 34) (.skip) (.exit 0))) (.seq (.block 1 (.seq (rt [o1 37 (.move (tm 4)),o1 38 (.move (tm 7)),o1 39 (.indexS (tm 37) (tm 38)),o1 40 (.bin (.eql) (tm 39) (cu 10))] [37,39]) (.cond (tm 40) (.seq (.seq (rt [o1 41 (.move (tm 7)),o1 42 (.move (tm 6)),o1 43 (.bin (.sub) (tm 41) (tm 42)),o1 44 (.bin (.gtr) (tm 43) (ci 76)),o1 45 (.move (tm 44)),o2 46 (.move (tm 7)) 45 false,o2 47 (.bin (.eql) (tm 46) (ci 0)) 45 false,o1 48 (.pick (tm 45) (cb true) (tm 47)),o1 49 (.move (tm 48)),o2 50 (.move (tm 4)) 49 false,o2 51 (.move (tm 7)) 49 false,o2 52 (.bin (.sub) (tm 51) (ci 1)) 49 false,o2 53 (.indexS (tm 50) (tm 52)) 49 false,o2 54 (.bin (.neq) (tm 53) (cu 13)) 49 false,o1 55 (.pick (tm 49) (cb true) (tm 54))] [41,54]) (.cond (tm 55) (.seq (rt [o1 2 (.move (cb false))] []) (.ret)) (.skip))) (rt [o1 56 (.move (tm 7)),o1 57 (.bin (.add) (tm 56) (ci 1)),o1 6 (.move (tm 57))] [56,57])) (.skip)))) (rt [o1 35 (.move (tm 7)),o1 36 (.bin (.add) (tm 35) (ci 1)),o1 7 (.move (tm 36))] [35,36])))))) (.seq (rt [o1 59 (.move (tm 4)),o1 60 (.call iO [tm 59]),o1 58 (.move (tm 60)),o1 61 (.extract (tm 58) 0),o1 62 (.extract (tm 58) 1),o1 8 (.move (tm 61)),o1 9 (.move (tm 62))] [58,62]) (.seq (rt [o1 10 (.move (ci 0))] []) (.seq (.seq (rt [o1 11 (.move (ci 0))] []) (.block 2 (.loop (.seq (.seq (rt [o1 63 (.move (tm 11)),o1 64 (.move (tm 3)),o1 65 (.lenV (tm 64)),o1 66 (.bin (.lss) (tm 63) (tm 65))] [63,65]) (.cond (tm 66) (.skip) (.exit 2))) (.seq (.block 3 (rt [o1 69 (.move (tm 10)),o1 70 (.move (tm 3)),o1 71 (.move (tm 11)),o1 72 (.indexAddr 3 (tm 70) (tm 71)),o1 73 (.fieldAddr 2 (tm 72)),o1 74 (.load none (tm 73)),o1 75 (.lenV (tm 74)),o1 76 (.bin (.add) (ci 2) (tm 75)),o1 77 (.bin (.add) (tm 69) (tm 76)),o1 10 (.move (tm 77))] [69,77])) (rt [o1 67 (.move (tm 11)),o1 68 (.bin (.add) (tm 67) (ci 1)),o1 11 (.move (tm 68))] [67,68])))))) (.seq (rt [o1 78 (.move (tm 6)),o1 79 (.move (tm 4)),o1 80 (.lenS (tm 79)),o1 81 (.bin (.eql) (tm 78) (tm 80)),o1 82 (.move (tm 81)),o2 83 (.move (tm 9)) 82 true,o2 84 (.eqN false (tm 83)) 82 true,o1 85 (.pick (tm 82) (tm 84) (cb false)),o1 86 (.move (tm 85)),o2 87 (.move (tm 8)) 86 true,o2 88 (.lenV (tm 87)) 86 true,o2 89 (.move (tm 10)) 86 true,o2 90 (.bin (.eql) (tm 88) (tm 89)) 86 true,o1 91 (.pick (tm 86) (tm 90) (cb false)),o1 92 (.move (tm 91)),o2 93 (.call be []) 92 true,o1 94 (.pick (tm 92) (tm 93) (cb false)),o1 2 (.move (tm 94))] [78,94]) (.ret)))))))))))
def mF:List VRes:=[.tmp 2]
theorem uJ:FnOk Tryz.prog iG mD mF 95:=
 ⟨⟨Tryz.f7,_,Tryz.func7,by decide,rfl,by kernel_rfl,by kernel_rfl,by kernel_rfl,rfl⟩⟩

def rP:VCode:=
 .seq (rt [o1 0 (.move (cb false))] []) (.seq (rt [o1 10 (.call ct [cs [98,101,103,105,110,58,97,10,88,58,49,10,66,69,71,73,78,58,66,10,69,78,68,58,98,10,89,58,50,10,32,69,78,68,32,111,102,32,121,10,69,78,68,58,65,10]]),o1 9 (.move (tm 10)),o1 11 (.extract (tm 9) 0),o1 12 (.extract (tm 9) 1),o1 1 (.move (tm 11)),o1 2 (.move (tm 12))] [9,12]) (.seq (rt [o1 14 (.move (tm 1)),o1 15 (.call dX [tm 14]),o1 13 (.move (tm 15)),o1 16 (.extract (tm 13) 0),o1 17 (.extract (tm 13) 1),o1 3 (.move (tm 16)),o1 4 (.move (tm 17))] [13,17]) (.seq (rt [o1 19 (.call ct [cs [66,69,71,73,78,58,65,13,10,88,59,89,13,10]]),o1 18 (.move (tm 19)),o1 20 (.extract (tm 18) 0),o1 21 (.extract (tm 18) 1),o1 5 (.move (tm 20)),o1 6 (.move (tm 21))] [5,5,18,21]) (.seq (rt [o1 23 (.call ct [cs [66,69,71,73,78,58,65,13,10]]),o1 22 (.move (tm 23)),o1 24 (.extract (tm 22) 0),o1 25 (.extract (tm 22) 1),o1 7 (.move (tm 24)),o1 8 (.move (tm 25))] [7,7,22,25]) (.seq (rt [o1 26 (.move (tm 2)),o1 27 (.eqN false (tm 26)),o1 28 (.move (tm 27)),o2 29 (.move (tm 1)) 28 true,o2 30 (.lenV (tm 29)) 28 true,o2 31 (.bin (.eql) (tm 30) (ci 2)) 28 true,o1 32 (.pick (tm 28) (tm 31) (cb false)),o1 33 (.move (tm 32)),o2 34 (.move (tm 1)) 33 true,o2 35 (.indexAddr 3 (tm 34) (ci 0)) 33 true,o2 36 (.fieldAddr 0 (tm 35)) 33 true,o2 37 (.load none (tm 36)) 33 true,o2 38 (.bin (.eql) (tm 37) (ci (-1))) 33 true,o1 39 (.pick (tm 33) (tm 38) (cb false)),o1 40 (.move (tm 39)),o2 41 (.move (tm 1)) 40 true,o2 42 (.indexAddr 3 (tm 41) (ci 1)) 40 true,o2 43 (.fieldAddr 0 (tm 42)) 40 true,o2 44 (.load none (tm 43)) 40 true,o2 45 (.bin (.eql) (tm 44) (ci 0)) 40 true,o1 46 (.pick (tm 40) (tm 45) (cb false)),o1 47 (.move (tm 46)),o2 48 (.move (tm 1)) 47 true,o2 49 (.indexAddr 3 (tm 48) (ci 1)) 47 true,o2 50 (.fieldAddr 1 (tm 49)) 47 true,o2 51 (.load none (tm 50)) 47 true,o2 52 (.bin (.eql) (tm 51) (cs [66])) 47 true,o1 53 (.pick (tm 47) (tm 52) (cb false)),o1 54 (.move (tm 53)),o2 55 (.move (tm 1)) 54 true,o2 56 (.indexAddr 3 (tm 55) (ci 0)) 54 true,o2 57 (.fieldAddr 2 (tm 56)) 54 true,o2 58 (.load none (tm 57)) 54 true,o2 59 (.lenV (tm 58)) 54 true,o2 60 (.bin (.eql) (tm 59) (ci 2)) 54 true,o1 61 (.pick (tm 54) (tm 60) (cb false)),o1 62 (.move (tm 61)),o2 63 (.move (tm 1)) 62 true,o2 64 (.indexAddr 3 (tm 63) (ci 0)) 62 true,o2 65 (.fieldAddr 2 (tm 64)) 62 true,o2 66 (.load none (tm 65)) 62 true,o2 67 (.indexAddr 3 (tm 66) (ci 1)) 62 true,o2 68 (.fieldAddr 2 (tm 67)) 62 true,o2 69 (.load none (tm 68)) 62 true,o2 70 (.bin (.eql) (tm 69) (cs [50,69,78,68,32,111,102,32,121])) 62 true,o1 71 (.pick (tm 62) (tm 70) (cb false)),o1 72 (.move (tm 71)),o2 73 (.move (tm 4)) 72 true,o2 74 (.bin (.eql) (tm 73) (ci 0)) 72 true,o1 75 (.pick (tm 72) (tm 74) (cb false)),o1 76 (.move (tm 75)),o2 77 (.move (tm 3)) 76 true,o2 78 (.bin (.eql) (tm 77) (cs [66,69,71,73,78,58,65,13,10,88,58,49,13,10,89,58,50,69,78,68,32,111,102,32,121,13,10,66,69,71,73,78,58,66,13,10,69,78,68,58,66,13,10,69,78,68,58,65,13,10])) 76 true,o1 79 (.pick (tm 76) (tm 78) (cb false)),o1 80 (.move (tm 79)),o2 81 (.move (tm 6)) 80 true,o2 82 (.call dT [tm 81]) 80 true,o2 83 (.bin (.eql) (tm 82) (ci 4)) 80 true,o1 84 (.pick (tm 80) (tm 83) (cb false)),o1 85 (.move (tm 84)),o2 86 (.move (tm 6)) 85 true,o2 87 (.call cK [tm 86]) 85 true,o2 88 (.bin (.eql) (tm 87) (ci 12)) 85 true,o1 89 (.pick (tm 85) (tm 88) (cb false)),o1 90 (.move (tm 89)),o2 91 (.move (tm 8)) 90 true,o2 92 (.call dT [tm 91]) 90 true,o2 93 (.bin (.eql) (tm 92) (ci 3)) 90 true,o1 94 (.pick (tm 90) (tm 93) (cb false)),o1 95 (.move (tm 94)),o2 96 (.move (tm 8)) 95 true,o2 97 (.call cK [tm 96]) 95 true,o2 98 (.bin (.eql) (tm 97) (ci 9)) 95 true,o1 99 (.pick (tm 95) (tm 98) (cb false)),o1 100 (.move (tm 99)),o2 101 (.move (tm 1)) 100 true,o2 102 (.call lf [tm 101,ci 0]) 100 true,o2 103 (.lenV (tm 102)) 100 true,o2 104 (.bin (.eql) (tm 103) (ci 1)) 100 true,o1 105 (.pick (tm 100) (tm 104) (cb false)),o1 106 (.move (tm 105)),o2 107 (.move (tm 1)) 106 true,o2 108 (.call jN [tm 107,ci 1]) 106 true,o2 109 (.bin (.eql) (tm 108) (ci 1)) 106 true,o1 110 (.pick (tm 106) (tm 109) (cb false)),o1 111 (.move (tm 110)),o2 112 (.move (tm 1)) 111 true,o2 113 (.call di [tm 112]) 111 true,o2 114 (.bin (.eql) (tm 113) (ci 0)) 111 true,o1 115 (.pick (tm 111) (tm 114) (cb false)),o1 116 (.move (tm 115)),o2 117 (.move (tm 1)) 116 true,o2 118 (.move (tm 1)) 116 true,o2 119 (.call eU [tm 117,tm 118]) 116 true,o1 120 (.pick (tm 116) (tm 119) (cb false)),o1 121 (.move (tm 120)),o2 122 (.move (tm 1)) 121 true,o2 123 (.call eU [tm 122,.const (.nils)]) 121 true,o2 124 (.un (.not) (tm 123)) 121 true,o1 125 (.pick (tm 121) (tm 124) (cb false)),o1 126 (.move (tm 125)),o1 127 (.pick (tm 126) (cb true) (cb false)),o1 128 (.move (tm 127)),o1 129 (.pick (tm 128) (cb true) (cb false)),o1 130 (.move (tm 129)),o1 131 (.pick (tm 130) (cb true) (cb false)),o1 132 (.move (tm 131)),o1 133 (.pick (tm 132) (cb true) (cb false)),o1 0 (.move (tm 133))] [26,133]) (.ret))))))
def rQ:List VRes:=[.tmp 0]
theorem zp:FnOk Tryz.prog be rP rQ 134:=
 ⟨⟨Tryz.f8,_,Tryz.func8,by decide,rfl,by kernel_rfl,by kernel_rfl,by kernel_rfl,rfl⟩⟩

end Go.Vs.YtmaenhgipojmfaaGreatDoor
namespace Go.Vs.YtmaenhgipojmfaaGreatDoor
open Go.Proofs Go.Vs.U8 Go.Vs.Pa Go.Vs.Fd Go.Vs.Tr
set_option maxRecDepth 100000
set_option maxHeartbeats 16000000
theorem EK {l:cn} {i:Nat} {x:Nd Ln} (h:i < l.length) (hx:l[i]=x):gL (l.take (i+1))=gL (l.take i)++[[.int .i64 x.up,.str x.n,.slice (ls x.l)]]:=by
 rw[List.take_succ_eq_append_getElem h,hx,mr]
theorem xb (l:cn) (fl:qp l):Fn G Tryz.prog gC [.slice (gL l)] (.slice (gL l)):=by
 refine ac hm CM (by simp) ?_
 obtain ⟨hl,fl⟩:=fl
 simp[wj,wk,ah]
 refine aA hm [] (fun i:Nat=>[(4,.val (.int .i64 i)),(3,.own 3 i)]) (fun i=>[(3,.arr i 3 (gL (l.take i)))]) (fun i=>i≤l.length) (fun i=>l.length-i) 0 (by omega) ?_ ?_
 ·simp[gL]
  exact aS.trans (ce (k:=3) 3 3 (by simp) (by simp[ap,a8])) (an rfl rfl (by simp[St.adopt,aR,ap,a8,put,ba,SV.erase]) (by simp[St.adopt,bM,a8,put,aE,Ob.erase]) (by simp[St.adopt,bQ]))
 intro i hi
 simp[ah]
 by_cases h:i < l.length
 ·obtain ⟨x,hx⟩:∃ x,l[i]=x:=⟨_,rfl⟩
  have hg:=bC h hx
  have fx:=fl x (hx▸List.getElem_mem h)
  have hO:=LZ x.l fx.l fx.f
  have hnt:=EK h hx
  simp (disch:=omega) [wl,ah,hg]
  refine a7 hO ?_
  simp (disch:=omega) [wl,ah]
  refine ⟨by omega,rfl,?_⟩
  refine ae (i+1) (by omega) (by omega) ?_
  simp[hnt]
  exact aQ
 ·obtain rfl:i=l.length:=by omega
  rw[List.take_length]
  simp (disch:=omega) [wl,ah]
theorem EL (l:cn) (fl:qp l):Fn G Tryz.prog nL [.slice (gL l)] (.slice (gL l)):=by
 refine ac hm Ab (by simp) ?_
 obtain ⟨hl,fl⟩:=fl
 simp[uj,uk,ah]
 refine aA hm [] (fun i:Nat=>[(4,.val (.int .i64 i)),(3,.own 3 i)]) (fun i=>[(3,.arr i 3 (gL (l.take i)))]) (fun i=>i≤l.length) (fun i=>l.length-i) 0 (by omega) ?_ ?_
 ·simp[gL]
  exact aS.trans (ce (k:=3) 3 3 (by simp) (by simp[ap,a8])) (an rfl rfl (by simp[St.adopt,aR,ap,a8,put,ba,SV.erase]) (by simp[St.adopt,bM,a8,put,aE,Ob.erase]) (by simp[St.adopt,bQ]))
 intro i hi
 simp[ah]
 by_cases h:i < l.length
 ·obtain ⟨x,hx⟩:∃ x,l[i]=x:=⟨_,rfl⟩
  have hg:=bC h hx
  have fx:=fl x (hx▸List.getElem_mem h)
  have hO:=Kh x.l fx.l fx.f
  have hnt:=EK h hx
  simp (disch:=omega) [wl,ah,hg]
  refine a7 hO ?_
  simp (disch:=omega) [wl,ah]
  refine ⟨by omega,rfl,?_⟩
  refine ae (i+1) (by omega) (by omega) ?_
  simp[hnt]
  exact aQ
 ·obtain rfl:i=l.length:=by omega
  rw[List.take_length]
  simp (disch:=omega) [wl,ah]
def Mh (x:Nd Ln):Bool:=decide (x.n.length≤40)&&nE x.l
def nR (l:cn):Bool:=decide (l.length≤45)&&l.all Mh
theorem nS {l:cn} (h:nR l=true):qp l:=by
 simp only[nR,Bool.and_eq_true,decide_eq_true_eq,List.all_eq_true,Mh] at h
 refine ⟨by omega,fun x hx=>?_⟩
 obtain ⟨h1,h2⟩:=h.2 x hx
 obtain ⟨h3,h4⟩:=FY h2
 exact ⟨by omega,by omega,h4⟩
theorem ql (l:cn):Fn G Tryz.prog eo [.slice (gL l)] (.bool (nR l)):=by
 refine ac hm yX (by simp) ?_
 obtain ⟨R,hR⟩:∃ R,nR l=R:=⟨_,rfl⟩
 rw[hR]
 unfold nR at hR
 simp[rr,ru,ah]
 by_cases h45:l.length≤45
 ·rw[decide_eq_true h45,Bool.true_and] at hR
  simp (disch:=omega) [wl,ah]
  refine aA hm [] (fun i:Nat=>[(3,.val (.int .i64 i))]) (fun _=>[]) (fun i=>i≤l.length∧(l.drop i).all Mh=R) (fun i=>l.length-i) 0 ⟨by omega,by simpa using hR⟩ ?_ ?_
  ·simp
   exact aQ
  rintro i ⟨h1,h2⟩
  simp[ah]
  by_cases h:i < l.length
  ·obtain ⟨x,hx⟩:∃ x,l[i]=x:=⟨_,rfl⟩
   have hg:=bC h hx
   have hS:=I7 x.l
   rw[List.drop_eq_getElem_cons h,hx,List.all_cons] at h2
   unfold Mh at h2
   by_cases h40:x.n.length≤40
   ·rw[decide_eq_true h40,Bool.true_and] at h2
    simp (disch:=omega) [wl,ah,hg]
    refine a7 hS ?_
    cases hs:nE x.l with
    | true=>
     rw[hs,Bool.true_and] at h2
     simp (disch:=omega) [wl]
     refine ae (i+1) ⟨by omega,h2⟩ (by omega) ?_
     simp
     exact aQ
    | false=>
     rw[hs,Bool.false_and] at h2
     subst h2
     simp (disch:=omega) [wl]
   ·rw[decide_eq_false h40,Bool.false_and,Bool.false_and] at h2
    subst h2
    simp (disch:=omega) [wl,ah,hg]
  ·obtain rfl:i=l.length:=by omega
   rw[List.drop_length] at h2
   simp only[List.all_nil] at h2
   subst h2
   simp (disch:=omega) [wl,ah]
 ·rw[decide_eq_false h45,Bool.false_and] at hR
  subst hR
  simp (disch:=omega) [wl,ah]
def Oe:Str:=[98,101,103,105,110,58,97,10,88,58,49,10,66,69,71,73,78,58,66,10,69,78,68,58,98,10,89,58,50,10,32,69,78,68,32,111,102,32,121,10,69,78,68,58,65,10]
def GS:cn:=[⟨-1,[65],[⟨[88],[],[49]⟩,⟨[89],[],[50,69,78,68,32,111,102,32,121]⟩]⟩,⟨0,[66],[]⟩]
def Ol:Str:=[66,69,71,73,78,58,65,13,10,88,58,49,13,10,89,58,50,69,78,68,32,111,102,32,121,13,10,66,69,71,73,78,58,66,13,10,69,78,68,58,66,13,10,69,78,68,58,65,13,10]
theorem Ow:fU Oe=.ok GS:=by kernel_rfl
theorem Ox:fU [66,69,71,73,78,58,65,13,10,88,59,89,13,10]=.no 4 [9,1,2]:=by kernel_rfl
theorem Oy:fU [66,69,71,73,78,58,65,13,10]=.no 3 [9]:=by kernel_rfl
theorem Of:wi GS=0:=by kernel_rfl
theorem Oz:fV GS=Ol:=by kernel_rfl
theorem OA:we GS 0=[1]:=by kernel_rfl
theorem OB:nQ GS 1=1:=by kernel_rfl
theorem uK {l:cn} (h:wi l=0):qp l:=by
 obtain ⟨h1,q,hq⟩:=jX h
 refine ⟨by omega,fun x hx=>?_⟩
 obtain ⟨h2,h3⟩:=jY h x hx
 obtain ⟨k,hk,e⟩:=List.mem_iff_getElem.1 hx
 have hn:=yV l 0 [] q k x hq (by rw[List.getElem?_eq_getElem hk,e])
 exact ⟨by have:=(px hn).2.2;omega,by omega,fun y hy=>py (h3 y hy)⟩
theorem uL:qp []:=⟨by simp,fun x hx=>by cases hx⟩
theorem mG:Fn G Tryz.prog be [] (.bool true):=by
 refine ac hm zp (by simp) ?_
 have hP1:=fo Oe (by decide)
 rw[Ow] at hP1
 have hP2:=fo [66,69,71,73,78,58,65,13,10,88,59,89,13,10] (by decide)
 rw[Ox] at hP2
 have hP3:=fo [66,69,71,73,78,58,65,13,10] (by decide)
 rw[Oy] at hP3
 have fw:=uK Of
 have hPr:=jZ GS fw
 simp only[Ix,Of,Oz,if_true] at hPr
 have hC1:=wW 4 [9,1,2]
 have hF1:=oW 4 [9,1,2] (by simp) (by simp)
 have hC2:=wW 3 [9]
 have hF2:=oW 3 [9] (by simp) (by simp)
 have hK:=GM GS 0 (by decide)
 rw[OA] at hK
 have hD:=Bz GS 1 (by decide)
 rw[OB] at hD
 have hCh:=iD GS fw
 rw[Of] at hCh
 have hS1:=mt GS GS fw fw
 have hS2:=mt GS [] fw uL
 have hne:¬GS=[]:=by decide
 rw[decide_eq_true rfl] at hS1
 rw[decide_eq_false hne] at hS2
 obtain ⟨t1,v1,he1⟩:=aV 4 [9,1,2]
 obtain ⟨t2,v2,he2⟩:=aV 3 [9]
 have e4:gL GS=[[.int .i64 (-1),.str [65],.slice [[.str [88],.slice [],.str [49]],[.str [89],.slice [],.str [50,69,78,68,32,111,102,32,121]]]],[.int .i64 0,.str [66],.slice []]]:=rfl
 have e7:gL []=[]:=rfl
 have e8:kR [1]=[[.int .i64 1]]:=rfl
 simp only[D2,e4,e7,e8,he1,he2,Oe,Ol] at hP1 hP2 hP3 hPr hC1 hF1 hC2 hF2 hK hD hCh hS1 hS2
 simp[rP,rQ]
 refine a7 hP1 ?_
 simp (disch:=omega) [wl]
 refine a7 hPr ?_
 simp (disch:=omega) [wl]
 refine a7 hP2 ?_
 simp (disch:=omega) [wl]
 refine a7 hP3 ?_
 simp (disch:=omega) [wl]
 refine a7 hC1 ?_
 simp (disch:=omega) [wl]
 refine a7 hF1 ?_
 simp (disch:=omega) [wl]
 refine a7 hC2 ?_
 simp (disch:=omega) [wl]
 refine a7 hF2 ?_
 simp (disch:=omega) [wl]
 refine a7 hK ?_
 simp (disch:=omega) [wl]
 refine a7 hD ?_
 simp (disch:=omega) [wl]
 refine a7 hCh ?_
 simp (disch:=omega) [wl]
 refine a7 hS1 ?_
 simp (disch:=omega) [wl]
 refine a7 hS2 ?_
 simp (disch:=omega) [wl]
end Go.Vs.YtmaenhgipojmfaaGreatDoor
namespace Go.Vs.YtmaenhgipojmfaaGreatDoor
open Go.Proofs Go.Vs.U8 Go.Vs.Pa Go.Vs.Fd Go.Vs.Tr
set_option maxRecDepth 100000
theorem EM:∀ {rows:List (List IV)},(∀ row∈rows,Sh .str row)→∃ v,rows=ts v
 | [],_=>⟨[],rfl⟩
 | r::rs,h=>by
  obtain ⟨s,hs,_⟩:=h r (by simp)
  obtain ⟨v,hv⟩:=EM (rows:=rs) (fun x hx=>h x (by simp[hx]))
  exact ⟨s::v,by rw[hs,hv];rfl⟩
theorem zq:∀ {rows:List (List IV)},(∀ row∈rows,Sh (.struct [.str,.slice .str]) row)→∃ l,rows=ps l
 | [],_=>⟨[],rfl⟩
 | r::rs,h=>by
  obtain ⟨a,b,rfl,⟨s,rfl,_⟩,c,d,rfl,⟨rows',rfl,_,hr⟩,hd⟩:=h r (by simp)
  have hd:d=[]:=hd
  subst hd
  obtain ⟨v,rfl⟩:=EM hr
  obtain ⟨l,hl⟩:=zq (rows:=rs) (fun x hx=>h x (by simp[hx]))
  exact ⟨⟨s,v⟩::l,by rw[hl];rfl⟩
def Og:Sc:=.struct [.str,.slice (.struct [.str,.slice .str]),.str]
theorem KK:∀ {row:List IV},Sh Og row→∃ x:Ln,row=[.str x.n,.slice (ps x.p),.str x.v]
 | r,h=>by
  obtain ⟨a,b,rfl,⟨s,rfl,_⟩,c,d,rfl,⟨rows',rfl,_,hr⟩,e,f,rfl,⟨t,rfl,_⟩,hf⟩:=h
  have hf:f=[]:=hf
  subst hf
  obtain ⟨l,rfl⟩:=zq hr
  exact ⟨⟨s,l,t⟩,rfl⟩
theorem BJ:∀ {rows:List (List IV)},(∀ row∈rows,Sh Og row)→∃ l,rows=ls l
 | [],_=>⟨[],rfl⟩
 | r::rs,h=>by
  obtain ⟨x,rfl⟩:=KK (h r (by simp))
  obtain ⟨l,hl⟩:=BJ (rows:=rs) (fun x hx=>h x (by simp[hx]))
  exact ⟨x::l,by rw[hl];rfl⟩
def Mz:Sc:=.struct [.int .i64,.str,.slice Og]
theorem Mi:∀ {row:List IV},Sh Mz row→∃ x:Nd Ln,row=[.int .i64 x.up,.str x.n,.slice (ls x.l)]
 | r,h=>by
  obtain ⟨a,b,rfl,⟨n,rfl,_⟩,c,d,rfl,⟨s,rfl,_⟩,e,f,rfl,⟨rows',rfl,_,hr⟩,hf⟩:=h
  have hf:f=[]:=hf
  subst hf
  obtain ⟨l,rfl⟩:=BJ hr
  exact ⟨⟨n,s,l⟩,rfl⟩
theorem pN:∀ {rows:List (List IV)},(∀ row∈rows,Sh Mz row)→∃ l,rows=gL l
 | [],_=>⟨[],rfl⟩
 | r::rs,h=>by
  obtain ⟨x,rfl⟩:=Mi (h r (by simp))
  obtain ⟨l,hl⟩:=pN (rows:=rs) (fun x hx=>h x (by simp[hx]))
  exact ⟨x::l,by rw[hl];rfl⟩
end Go.Vs.YtmaenhgipojmfaaGreatDoor
