/- What the law's awake needs, at its constants: lines, facts, which functions. No conditions. -/
import Derived.Test.YtcjeehebikeghaaGreatDoorVL
import Derived.Test.YtcjeehebikeghaaGreatDoorVN
set_option linter.unusedVariables false
set_option linter.unusedSimpArgs false
set_option maxRecDepth 100000
set_option maxHeartbeats 16000000
namespace Go.Vs.YtcjeehebikeghaaGreatDoor.Vt
open Go.Proofs Go.Vs.U8 Go.Vs.Pa Go.Vs.Nu Go.Vs.Mo Go.Vs.Vt Go.Vs.YtcjeehebikeghaaGreatDoor.Rc
def R2:Nat:=36
def Wo:Nat:=37
def mcA:List Nat:=[136,137,198]
def pD:List Pm:=[⟨Gb,[Oa]⟩]
def aU(u:Str):Ln:=⟨dc,[],u⟩
def aS:Ln:=⟨bn,[],[50,48,50,51,49,50,51,49,84,48,48,48,48,48,48,90]⟩
def aB:Ln:=⟨aO,pD,[50,48,50,52,48,49,48,49]⟩
def aD:Ln:=⟨dd,pD,[50,48,50,52,48,49,48,51]⟩
def aR:Ln:=⟨bP,[],[70,82,69,81,61,68,65,73,76,89,59,67,79,85,78,84,61,50]⟩
def aX:Ln:=⟨[88,45,65],[],[98]⟩
def aA:Ln:=⟨gc,pD,[50,48,50,52,48,49,48,50]⟩
def aL:List Ln:=[aU [97],aS,aB,aD,aR,aX]
def aM:List Ln:=[aU [97,46,50],aS,aB,aD,aR,aX,aA]
def t0:Int:=63839664000
def Wp:Ru:=⟨3,1,2,⟨0,0⟩,[],[],[],[],[],[],[],[],[],0⟩
def aF:Fc:=⟨[97],[],⟨3,63839577600⟩,⟨1,t0⟩,⟨1,t0+172800⟩,0,⟨0,-1,-1⟩,0,true,Wp,[],[],⟨0,0⟩,false⟩
def aG:Fc:={aF with uid:=[97,46,50],at':=⟨1,t0+86400⟩ }
theorem Zd:ig aL=.ok aF:=by kernel_rfl
theorem Zf:ig aM=.ok aG:=by kernel_rfl
def aT:Tm:=⟨[0],0,[0],0,[0],0,0,86400⟩
theorem R3:wa Wp:=by simp[wa,Wp]
theorem Kh:Fn G2 Tryz.prog j9 [Wp.iv] (.int .i64 0):=by
 have h:=C9 Wp R3 (by decide)
 rwa[show o5 Wp=0 by kernel_rfl]at h
def eC:Ent:=⟨j9,[Wp.iv],.imm (.int .i64 0)⟩
theorem YA:Fn G2 Tryz.prog nz [Wp.iv,.int .i64 t0] (.tuple [.agg aT.cells,.bool true]):=
 Fb hm mcA [] (zY (gl:=G2) (es:=[eC]) (by intro e he;rw[List.mem_singleton.1 he];exact Kh)) 60 (by kernel_rfl)
def eT:Ent:=⟨Yy,[Wp.iv,.int .i64 t0,.int .i64 0,.int .i64 86400],.own 1 [[.int .i64 0]]⟩
theorem aaD:FitT aT:=⟨by decide,by decide,by decide,by decide,by decide,by decide,by decide,by decide,by decide,by decide,by decide⟩
theorem YB:BD G2 Tryz.prog Yy [Wp.iv,.int .i64 t0,.int .i64 0,.int .i64 86400] (.own 1 [[.int .i64 0]]):=by
 have h:=aaC Wp t0 aT aaD (by decide) (by decide) (by decide) (by rw[show jG aT=[0] by kernel_rfl];decide) YA
 rwa[show Bm (jG aT)=[[.int .i64 0]] by kernel_rfl]at h
theorem aby:∀e∈[eC,eT],BD G2 Tryz.prog e.k e.args e.r:=by
 intro e he;simp only[List.mem_cons,List.not_mem_nil,or_false]at he;rcases he with rfl|rfl
 ·exact Kh
 ·exact YB
theorem T3:Fn G2 Tryz.prog R2 [aF.iv,.int .i64 0,.int .i64 100] (.tuple [n9 ⟨1,t0+86400⟩,n9 ⟨1,t0⟩,.bool true,.int .i64 0]):=
 Fb hm mcA [] (zY (gl:=G2) aby) 200 (by kernel_rfl)
theorem T4:Fn G2 Tryz.prog R2 [aG.iv,.int .i64 0,.int .i64 100] (.tuple [n9 ⟨0,0⟩,n9 ⟨0,0⟩,.bool false,.int .i64 0]):=
 Fb hm mcA [] (zY (gl:=G2) aby) 200 (by kernel_rfl)
def Q4:List Ln:=[aU [97,46,50],aS,aB,aD,aR,aX]
theorem ab9(p:List Pm)(h:p=[]∨p=pD):Fit p:=by
 rcases h with rfl|rfl
 ·exact⟨by simp,by simp,by simp⟩
 ·exact⟨by simp[pD,Gb,Oa],by simp[pD,Gb,Oa],by simp[pD,Gb,Oa]⟩
theorem abz(x:Ln)(h1:x.n.length≤50)(h2:x.p=[]∨x.p=pD)(h3:x.v.length≤50):FitX x∧x.v.length≤1000:=by
 refine⟨⟨by omega,?_,ab9 x.p h2,by omega⟩,by omega⟩;rcases h2 with h|h<;>rw[h]<;>simp[pD]
def okL(l:List Ln):Bool:=l.all fun x=>Nat.ble x.n.length 50&&(decide (x.p=[])||decide (x.p=pD))&&Nat.ble x.v.length 50
theorem Q5{l:List Ln}(h:okL l=true):ew l∧j6 1000 l:=by
 unfold okL at h;rw[List.all_eq_true]at h
 have h':∀x∈l,FitX x∧x.v.length≤1000:=fun x hx=>by
  have:=h x hx;simp only[Bool.and_eq_true,Bool.or_eq_true,decide_eq_true_eq]at this;exact abz x (Nat.le_of_ble_eq_true this.1.1) this.1.2 (Nat.le_of_ble_eq_true this.2)
 exact⟨fun x hx=>(h' x hx).1,fun x hx=>(h' x hx).2⟩
theorem zi:ew aL∧j6 1000 aL:=Q5 (by kernel_rfl)
theorem LW:ew Q4∧j6 1000 Q4:=Q5 (by kernel_rfl)
theorem Q6:ew aM∧j6 1000 aM:=Q5 (by kernel_rfl)
theorem aaE:Fn G2 Tryz.prog cz [.slice (ls aL)] (.tuple [aF.iv,.nili]):=by
 have h:=jF aL zi.1 zi.2 (by decide)
 rwa[Zd]at h
theorem aaF:Fn G2 Tryz.prog cz [.slice (ls aM)] (.tuple [aG.iv,.nili]):=by
 have h:=jF aM Q6.1 Q6.2 (by decide)
 rwa[Zf]at h
def eRL:Ent:=⟨cz,[.slice (ls aL)],.imm (.tuple [aF.iv,.nili])⟩
def eRM:Ent:=⟨cz,[.slice (ls aM)],.imm (.tuple [aG.iv,.nili])⟩
def eP:Ent:=⟨lv,[.slice (ls aL),.str dc,.str [97,46,50]],.imm (.slice (ls Q4))⟩
def eD(n:Str):Ent:=⟨iy,[.slice (ls Q4),.str n],.imm (.slice (ls Q4))⟩
def eM:Ent:=⟨i8,[n9 ⟨1,t0+86400⟩],.imm (.tuple [.str [50,48,50,52,48,49,48,50],.int .i64 0])⟩
def eG:Ent:=⟨tv,[.slice (ls Q4),.str gc],.imm (Ss none)⟩
def eS:Ent:=⟨pJ,[.slice (ls Q4),aA.iv],.imm (.slice (ls aM))⟩
def eU:Ent:=⟨jN,[.str [97,46,50]],.imm (.bool true)⟩
theorem aca:∀e∈[eRL,eRM,eP,eD bF,eD dg,eD bj,eM,eG,eS,eU],BD G2 Tryz.prog e.k e.args e.r:=by
 have hd:∀n,br Q4 n=Q4→BD G2 Tryz.prog (eD n).k (eD n).args (eD n).r:=fun n h=>by
  have:=up (dF Q4 n (by decide) LW.1);rw[h]at this;exact this
 intro e he;simp only[List.mem_cons,List.not_mem_nil,or_false]at he;rcases he with rfl|rfl|rfl|rfl|rfl|rfl|rfl|rfl|rfl|rfl
 ·exact aaE
 ·exact aaF
 ·have:=Bk aL dc [97,46,50] zi.1 (by decide) (by decide) (by decide);rw[show ml aL dc [97,46,50]=Q4 by kernel_rfl]at this;exact this
 ·exact hd _ (by kernel_rfl)
 ·exact hd _ (by kernel_rfl)
 ·exact hd _ (by kernel_rfl)
 ·have:=wQ ⟨1,t0+86400⟩ (by decide);rw[show SG ⟨1,t0+86400⟩=.tuple [.str [50,48,50,52,48,49,48,50],.int .i64 0] by kernel_rfl]at this;exact this
 ·have:=up (QH Q4 gc (by decide) LW.1);rw[show cn Q4 gc=none by kernel_rfl]at this;exact this
 ·have:=up (Lf Q4 aA (by decide) LW.1 (abz aA (by decide) (.inr rfl) (by decide)).1);rw[show oP Q4 aA=aM by kernel_rfl]at this;exact this
 ·have:=up (Lk [97,46,50] (by decide));rw[show ra [97,46,50]=true by kernel_rfl]at this;exact this
theorem T5:Fn G2 Tryz.prog Wo [.slice (ls aL),.str [97,46,50],n9 ⟨1,t0+86400⟩,n9 ⟨1,t0⟩] (.tuple [.slice (ls aM),.int .i64 0]):=
 Fb hm mcA [] (zY (gl:=G2) aca) 200 (by kernel_rfl)
end Go.Vs.YtcjeehebikeghaaGreatDoor.Vt
namespace Go.Vs.YtcjeehebikeghaaGreatDoor
open Go.Proofs
def kW:Nat:=5
def kX:Nat:=6
def mj:Nat:=7
def dC:Nat:=9
def qg:VCode:=
 r_ [k_ 4 false] [] (.seq (r_ [m_ 13 0,o1 14 (.call kw [tm 13]),u_ 15 14,m_ 16 15,M_ 17 0 16 false,o2 18 (.lenV (tm 17)) 16 false,I_ 19 .eql 18 0 16 false,q_ 20 16 19] [13,19] (c_ 20 (r_ [o1 21 (.call dC []),m_ 4 21] [21,21] (.ret)) (.skip))) (r_ [m_ 22 0,o1 23 (.call nL [tm 22]),m_ 5 23] [22,23] (.seq (r_ [j_ 6 0] [] (.block 0 (.loop (.seq (r_ [m_ 24 6,m_ 25 5,v_ 26 25,b_ 27 .lss 24 26] [24,26] (c_ 27 (.skip) (.exit 0))) (.seq (.block 1 (r_ [m_ 30 5,m_ 31 5,m_ 32 6,o1 33 (.indexAddr 3 (tm 31) (tm 32)),f_ 34 0 33,l_ 35 34,o1 36 (.call eX [tm 30,tm 35]),i_ 37 .neq 36 1] [30,36] (c_ 37 (r_ [o1 38 (.call dC []),m_ 4 38] [38,38] (.ret)) (.skip)))) (rt [m_ 28 6,i_ 29 .add 28 1,m_ 6 29] [28,29])))))) (r_ [m_ 39 1,o1 40 (.convI (.i64) (tm 39)),m_ 41 5,v_ 42 41,b_ 43 .rem 40 42,m_ 7 43] [39,43] (r_ [o1 8 (.move (.const (.nils)))] [] (r_ [m_ 44 8,m_ 45 5,m_ 46 7,o1 47 (.subV 3 (tm 45) (some (tm 46)) none none),o1 48 (.append 77 3 56 (tm 44) (tm 47)),m_ 8 48] [44,48] (r_ [m_ 49 8,m_ 50 5,m_ 51 7,o1 52 (.subV 3 (tm 50) none (some (tm 51)) none),o1 53 (.append 77 3 56 (tm 49) (tm 52)),m_ 8 53] [49,53] (r_ [m_ 55 5,o1 56 (.call cz [tm 55]),m_ 54 56,e_ 57 54 0,e_ 58 54 1,o1 9 (.alloc z_),o3 (.store 34 (tm 9) (tm 57)),m_ 10 58] [54,58] (r_ [m_ 60 8,o1 61 (.call cz [tm 60]),m_ 59 61,e_ 62 59 0,e_ 63 59 1,o1 11 (.alloc z_),o3 (.store 34 (tm 11) (tm 62)),m_ 12 63] [59,63] (.seq (.region [m_ 64 10,o1 65 (.eqN false (tm 64)),m_ 66 12,o1 67 (.eqN false (tm 66)),o1 68 (.eqB false (tm 65) (tm 67)),m_ 69 68,o2 70 (.load (some 34) (tm 9)) 69 true,o2 71 (.call jP [tm 70]) 69 true,o2 72 (.load (some 34) (tm 11)) 69 true,o2 73 (.call jP [tm 72]) 69 true,o2 74 (.call oT [tm 71,tm 73]) 69 true,p_ 75 69 74,m_ 76 75,o2 77 (.call dC []) 76 true,p_ 78 76 77,m_ 4 78] (.drawn [(7,8)] (zL [(7,[(0,6),(8,8)]),(9,[(0,8)]),(10,[(0,9)]),(13,[(0,12)])])) [64,78]) (.ret)))))))))))
def qh:List VRes:=[.tmp 4]
theorem wY:FnOk Tryz.prog kW qg qh 79:=
 ⟨⟨Tryz.f5,_,Tryz.func5,by decide,rfl,by kernel_rfl,by kernel_rfl,by kernel_rfl,rfl⟩⟩

def qi:VCode:=
 r_ [k_ 2 false] [] (.seq (r_ [m_ 13 0,o1 14 (.call kw [tm 13]),u_ 15 14,m_ 16 15,M_ 17 0 16 false,o2 18 (.lenV (tm 17)) 16 false,I_ 19 .gtr 18 24 16 false,q_ 20 16 19] [13,19] (c_ 20 (r_ [o1 21 (.call dC []),m_ 2 21] [21,21] (.ret)) (.skip))) (r_ [m_ 22 0,o1 23 (.call nL [tm 22]),m_ 3 23] [22,23] (r_ [m_ 25 3,o1 26 (.call cz [tm 25]),m_ 24 26,e_ 27 24 0,e_ 28 24 1,o1 4 (.alloc z_),o3 (.store 34 (tm 4) (tm 27)),m_ 5 28] [24,28] (.seq (r_ [m_ 29 5,o1 30 (.eqN true (tm 29)),m_ 31 30,F_ 32 13 4 31 false,L_ 33 32 31 false,o2 34 (.un (.not) (tm 33)) 31 false,q_ 35 31 34] [29,34] (c_ 35 (r_ [o1 36 (.call dC []),m_ 2 36] [36,36] (.ret)) (.skip))) (r_ [m_ 38 3,o1 39 (.call rF [tm 38]),m_ 37 39,e_ 40 37 0,e_ 41 37 1,m_ 6 40,m_ 7 41] [37,41] (r_ [m_ 43 6,o1 44 (.call cz [tm 43]),m_ 42 44,e_ 45 42 0,e_ 46 42 1,o1 8 (.alloc z_),o3 (.store 34 (tm 8) (tm 45)),m_ 5 46] [42,46] (.seq (r_ [m_ 47 7,i_ 48 .neq 47 0,m_ 49 48,M_ 50 5 49 false,o2 51 (.eqN true (tm 50)) 49 false,q_ 52 49 51] [47,51] (c_ 52 (r_ [k_ 2 false] [] (.ret)) (.skip))) (r_ [s_ 54 34 4,o1 55 (.call jz [tm 54]),m_ 53 55,e_ 56 53 0,e_ 57 53 1,m_ 9 56,m_ 10 57] [53,57] (r_ [s_ 59 34 8,o1 60 (.call jz [tm 59]),m_ 58 60,e_ 61 58 0,e_ 62 58 1,m_ 11 61,m_ 12 62] [58,62] (.seq (.region [f_ 63 13 8,l_ 64 63,u_ 65 64,m_ 66 65,F_ 67 4 8 66 true,F_ 68 0 67 66 true,L_ 69 68 66 true,F_ 70 4 4 66 true,F_ 71 0 70 66 true,L_ 72 71 66 true,B_ 73 .eql 69 72 66 true,p_ 74 66 73,m_ 75 74,F_ 76 4 8 75 true,F_ 77 1 76 75 true,L_ 78 77 75 true,o2 79 (.load (some 34) (tm 4)) 75 true,o2 80 (.call jQ [tm 79]) 75 true,B_ 81 .eql 78 80 75 true,p_ 82 75 81,m_ 83 82,M_ 84 10 83 true,p_ 85 83 84,m_ 86 85,M_ 87 12 86 true,p_ 88 86 87,m_ 89 88,M_ 90 11 89 true,M_ 91 9 89 true,B_ 92 .eql 90 91 89 true,p_ 93 89 92,m_ 94 93,F_ 95 9 8 94 true,o2 96 (.load (some 3) (tm 95)) 94 true,F_ 97 9 4 94 true,o2 98 (.load (some 3) (tm 97)) 94 true,o2 99 (.eqA false [.i,.i,.i] (tm 96) (tm 98)) 94 true,p_ 100 94 99,m_ 101 100,F_ 102 0 8 101 true,L_ 103 102 101 true,F_ 104 0 4 101 true,L_ 105 104 101 true,B_ 106 .eql 103 105 101 true,p_ 107 101 106,m_ 108 107,F_ 109 1 8 108 true,L_ 110 109 108 true,F_ 111 1 4 108 true,L_ 112 111 108 true,B_ 113 .eql 110 112 108 true,p_ 114 108 113,m_ 115 114,F_ 116 12 8 115 true,L_ 117 116 115 true,F_ 118 12 4 115 true,L_ 119 118 115 true,B_ 120 .eql 117 119 115 true,p_ 121 115 120,m_ 122 121,F_ 123 8 8 122 true,L_ 124 123 122 true,F_ 125 8 4 122 true,L_ 126 125 122 true,B_ 127 .eql 124 126 122 true,p_ 128 122 127,m_ 129 128,o2 130 (.call dC []) 129 true,p_ 131 129 130,m_ 2 131] (.drawn [(13,17),(14,17),(15,17)] (zL [(17,[(0,16)]),(67,[(0,66)])])) [63,131]) (.ret)))))))))))
def qj:List VRes:=[.tmp 2]
theorem wZ:FnOk Tryz.prog kX qi qj 132:=
 ⟨⟨Tryz.f6,_,Tryz.func6,by decide,rfl,by kernel_rfl,by kernel_rfl,by kernel_rfl,rfl⟩⟩

def qR:VCode:=
 r_ [o1 3 (.box (tm 1)),k_ 4 false] [] (.seq (r_ [m_ 12 0,o1 13 (.call kw [tm 12]),u_ 14 13,m_ 15 14,M_ 16 0 15 false,o2 17 (.lenV (tm 16)) 15 false,I_ 18 .gtr 17 21 15 false,q_ 19 15 18] [12,18] (c_ 19 (r_ [o1 20 (.call dC []),m_ 4 20] [20,20] (.ret)) (.skip))) (r_ [m_ 21 0,o1 22 (.call nL [tm 21]),m_ 5 22] [21,22] (r_ [m_ 24 5,o1 25 (.call cz [tm 24]),m_ 23 25,e_ 26 23 0,e_ 27 23 1,o1 6 (.alloc z_),o3 (.store 34 (tm 6) (tm 26)),m_ 7 27] [23,27] (.seq (r_ [m_ 28 7,o1 29 (.eqN true (tm 28)),m_ 30 29,o2 31 (.load (some 3) (tm 3)) 30 false,o2 32 (.call jA [tm 31]) 30 false,I_ 33 .neq 32 0 30 false,q_ 34 30 33] [28,33] (c_ 34 (r_ [o1 35 (.call dC []),m_ 4 35] [35,35] (.ret)) (.skip))) (r_ [m_ 36 5,s_ 37 3 3,o1 38 (.call jR [tm 36,tm 37]),m_ 8 38] [36,38] (r_ [m_ 40 8,o1 41 (.call cz [tm 40]),m_ 39 41,e_ 42 39 0,e_ 43 39 1,o1 9 (.alloc z_),o3 (.store 34 (tm 9) (tm 42)),m_ 7 43] [39,43] (.seq (r_ [m_ 44 7,o1 45 (.eqN true (tm 44)),m_ 46 45,F_ 47 9 9 46 false,o2 48 (.load (some 3) (tm 47)) 46 false,o2 49 (.load (some 3) (tm 3)) 46 false,o2 50 (.eqA true [.i,.i,.i] (tm 48) (tm 49)) 46 false,q_ 51 46 50] [44,50] (c_ 51 (r_ [k_ 4 false] [] (.ret)) (.skip))) (r_ [f_ 52 9 6,s_ 53 3 52,f_ 54 9 9,o3 (.store 3 (tm 54) (tm 53))] [52,54] (r_ [o1 55 (.buildSlice 1 3 [.val (.str [])] [(0,1,cs [83,84,65,84,85,83]),(1,1,cs [80,69,82,67,69,78,84,45,67,79,77,80,76,69,84,69]),(2,1,cs [67,79,77,80,76,69,84,69,68])]),m_ 10 55] [55,55] (.seq (r_ [j_ 11 0] [] (.block 0 (.loop (.seq (r_ [m_ 56 11,m_ 57 10,v_ 58 57,b_ 59 .lss 56 58] [56,58] (c_ 59 (.skip) (.exit 0))) (.seq (.block 1 (.region [m_ 62 5,m_ 63 10,m_ 64 11,o1 65 (.indexAddr 1 (tm 63) (tm 64)),l_ 66 65,o1 67 (.call iy [tm 62,tm 66]),m_ 68 8,m_ 69 10,m_ 70 11,o1 71 (.indexAddr 1 (tm 69) (tm 70)),l_ 72 71,o1 73 (.call iy [tm 68,tm 72]),m_ 5 67,m_ 8 73] (.drawn [(5,6),(5,7),(5,8),(5,9),(5,10)] (zL [(5,[(0,4),(6,10)]),(11,[(0,10)])])) [62,73])) (rt [m_ 60 11,i_ 61 .add 60 1,m_ 11 61] [60,61])))))) (.seq (.region [s_ 74 34 6,o1 75 (.call jP [tm 74]),s_ 76 34 9,o1 77 (.call jP [tm 76]),o1 78 (.call oT [tm 75,tm 77]),m_ 79 78,M_ 80 5 79 true,M_ 81 8 79 true,o2 82 (.call vA [tm 80,tm 81]) 79 true,p_ 83 79 82,m_ 84 83,o2 85 (.call dC []) 84 true,p_ 86 84 85,m_ 4 86] (.drawn [(1,2)] (zL [(1,[(0,0),(2,2)]),(3,[(0,2)]),(4,[(0,3)]),(8,[(0,7)]),(11,[(0,10)])])) [74,86]) (.ret))))))))))))
def qS:List VRes:=[.tmp 4]
theorem zj:FnOk Tryz.prog mj qR qS 87:=
 ⟨⟨Tryz.f7,_,Tryz.func7,by decide,rfl,by kernel_rfl,by kernel_rfl,by kernel_rfl,rfl⟩⟩
end Go.Vs.YtcjeehebikeghaaGreatDoor
namespace Go.Vs.YtcjeehebikeghaaGreatDoor.Vt
open Go.Proofs Go.Vs.U8 Go.Vs.Pa Go.Vs.Nu Go.Vs.Mo Go.Vs.Vt Go.Vs.YtcjeehebikeghaaGreatDoor.Rc
def aLf:Lif:=⟨3,100,t0⟩
def aW:List Ln:=[aU [97],aS,aB,aD,aR,aX,⟨bF,[],[67,79,77,80,76,69,84,69,68]⟩,⟨dg,[],[49,48,48]⟩,⟨bj,[],[50,48,50,52,48,49,48,49,84,48,48,48,48,48,48,90]⟩]
def aFW:Fc:={aF with li:=aLf }
def aC1:List Ln:=[⟨eO,[],[120]⟩,⟨[88,45,65],[],[]⟩]
def aC2:List Ln:=[⟨dc,[],[120]⟩]
def aP:List Ln:=[aU [97],aS,aB,aD,aR,⟨eO,[],[120]⟩]
def aL2:List Ln:=[aS,aB,aD,aR,aX]
theorem YC:Lib.itoa 100=[49,48,48]:=by
 unfold Lib.itoa;rw[if_neg (by decide),show(100:Int).toNat=100 by decide,QF (by decide),QF (by decide),Sr (by decide)];rfl
theorem abB:mH aL aLf=aW:=by
 unfold mH;rw[if_neg (by decide),show aLf.p=100 from rfl,YC];kernel_rfl
theorem aaG:ew aW∧j6 1000 aW:=Q5 (by kernel_rfl)
theorem YD:ew aC1∧j6 1000 aC1:=Q5 (by kernel_rfl)
theorem YE:ew aC2∧j6 1000 aC2:=Q5 (by kernel_rfl)
theorem YF:ew aL2∧j6 1000 aL2:=Q5 (by kernel_rfl)
theorem abC(f:Fc)(h:f=aF∨f=aG):FitF f:=by
 rcases h with rfl|rfl<;>exact⟨⟨by decide,by decide,by decide⟩,⟨by decide,by decide,by decide⟩,⟨by decide,by decide,by decide⟩,⟨by decide,by decide,by decide⟩,by decide,by decide,by decide,by decide,by simp[aG,aF],by simp[aG,aF],R3,by decide,by decide,by decide,by decide⟩
def QO(l:List Ln)(r:RdX):Ent:=⟨cz,[.slice (ls l)],.imm (Hn r)⟩
def eDu(f:Fc)(d:Int):Ent:=⟨jz,[f.iv],.imm (.tuple [.int .i64 d,.bool true])⟩
def eN1:Ent:=⟨R2,[aF.iv,.int .i64 0,.int .i64 100],.imm (.tuple [n9 ⟨1,t0+86400⟩,n9 ⟨1,t0⟩,.bool true,.int .i64 0])⟩
def eN2:Ent:=⟨R2,[aG.iv,.int .i64 0,.int .i64 100],.imm (.tuple [n9 ⟨0,0⟩,n9 ⟨0,0⟩,.bool false,.int .i64 0])⟩
def eAg:Ent:=⟨Wo,[.slice (ls aL),.str [97,46,50],n9 ⟨1,t0+86400⟩,n9 ⟨1,t0⟩],.imm (.tuple [.slice (ls aM),.int .i64 0])⟩
def eWl:Ent:=⟨jR,[.slice (ls aL),Lif.iv aLf],.imm (.slice (ls aW))⟩
def ePa(c:List Ln)(r:PaX):Ent:=⟨rE,[.slice (ls aL),.slice (ls c)],.imm (paI r)⟩
def eIn:Ent:=⟨jQ,[aG.iv],.imm (.int .i64 (t0+86400))⟩
def eCo(e p:Int):Ent:=⟨iG,[dp e [p]],.imm (.int .i64 e)⟩
def ePl:Ent:=⟨qZ,[dp 6 [5]],.imm (.int .i64 5)⟩
def abF:List Ent:=[QO aL (.ok aF),QO aM (.ok aG),QO aW (.ok aFW),QO aL2 (.no 6 5),eDu aF (t0+172800),eDu aG (t0+259200),eN1,eN2,eAg,eWl,ePa aC1 (.ok aP),ePa aC2 (.no 11 0),eIn,eCo 11 0,eCo 6 5,ePl]
theorem acf:∀e∈abF,BD G2 Tryz.prog e.k e.args e.r:=by
 have rd:∀l r,(ew l∧j6 1000 l)→l.length<100000→ig l=r→BD G2 Tryz.prog (QO l r).k (QO l r).args (QO l r).r:=fun l r h hl e=>by
  have:=jF l h.1 h.2 hl;rw[e]at this;exact this
 have du:∀f d,(f=aF∨f=aG)→eH f=(d,true)→BD G2 Tryz.prog (eDu f d).k (eDu f d).args (eDu f d).r:=fun f d h e=>by
  have:=GA f (abC f h);rw[e]at this;exact this
 have pa:∀c r,(ew c∧j6 1000 c)→c.length<1000→Lz aL c=r→BD G2 Tryz.prog (ePa c r).k (ePa c r).args (ePa c r).r:=fun c r h hl e=>by
  have:=Wm aL c zi.1 zi.2 h.1 h.2 (by decide) hl;rw[e]at this;exact this
 intro e he;simp only[abF,List.mem_cons,List.not_mem_nil,or_false]at he;rcases he with rfl|rfl|rfl|rfl|rfl|rfl|rfl|rfl|rfl|rfl|rfl|rfl|rfl|rfl|rfl|rfl
 ·exact rd _ _ zi (by decide) Zd
 ·exact rd _ _ Q6 (by decide) Zf
 ·exact rd _ _ aaG (by decide) (by kernel_rfl)
 ·exact rd _ _ YF (by decide) (by kernel_rfl)
 ·exact du _ _ (.inl rfl) (by kernel_rfl)
 ·exact du _ _ (.inr rfl) (by kernel_rfl)
 ·exact T3
 ·exact T4
 ·exact T5
 ·have:=Dr aL aLf zi.1 (by decide) (by decide);rw[abB]at this;exact this
 ·exact pa _ _ YD (by decide) (by kernel_rfl)
 ·exact pa _ _ YE (by decide) (by kernel_rfl)
 ·have:=Ec aG;rw[show bO aG=t0+86400 by kernel_rfl]at this;exact this
 ·exact up (wJ 11 [0])
 ·exact up (wJ 6 [5])
 ·exact up (UM 6 [5] (by simp) (by decide))
theorem fI:Fn G2 Tryz.prog dC [] (.bool true):=
 Fb hm mcA [] (zY (gl:=G2) acf) 200 (by kernel_rfl)
end Go.Vs.YtcjeehebikeghaaGreatDoor.Vt
