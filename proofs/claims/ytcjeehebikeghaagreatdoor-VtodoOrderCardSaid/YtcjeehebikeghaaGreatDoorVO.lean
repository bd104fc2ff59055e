/- What the law's awake needs, at its constants: lines, facts, which functions. No conditions. -/
import Derived.Test.YtcjeehebikeghaaGreatDoorVL
import Derived.Test.YtcjeehebikeghaaGreatDoorVN
set_option linter.unusedVariables false
set_option linter.unusedSimpArgs false
set_option maxRecDepth 100000
set_option maxHeartbeats 16000000
namespace Go.Vs.YtcjeehebikeghaaGreatDoor.Vt
open Go.Proofs Go.Vs.U8 Go.Vs.Pa Go.Vs.Nu Go.Vs.Mo Go.Vs.Vt Go.Vs.YtcjeehebikeghaaGreatDoor.Rc
def R2:Nat:=36
def Wo:Nat:=37
def mcA:List Nat:=[136,137,198]
def pD:List Pm:=[⟨Gb,[Oa]⟩]
def aU(u:Str):Ln:=⟨dc,[],u⟩
def aS:Ln:=⟨bn,[],[50,48,50,51,49,50,51,49,84,48,48,48,48,48,48,90]⟩
def aB:Ln:=⟨aO,pD,[50,48,50,52,48,49,48,49]⟩
def aD:Ln:=⟨dd,pD,[50,48,50,52,48,49,48,51]⟩
def aR:Ln:=⟨bP,[],[70,82,69,81,61,68,65,73,76,89,59,67,79,85,78,84,61,50]⟩
def aX:Ln:=⟨[88,45,65],[],[98]⟩
def aA:Ln:=⟨gc,pD,[50,48,50,52,48,49,48,50]⟩
def aL:List Ln:=[aU [97],aS,aB,aD,aR,aX]
def aM:List Ln:=[aU [97,46,50],aS,aB,aD,aR,aX,aA]
def t0:Int:=63839664000
def Wp:Ru:=⟨3,1,2,⟨0,0⟩,[],[],[],[],[],[],[],[],[],0⟩
def aF:Fc:=⟨[97],[],⟨3,63839577600⟩,⟨1,t0⟩,⟨1,t0+172800⟩,0,⟨0,-1,-1⟩,0,true,Wp,[],[],⟨0,0⟩,false⟩
def aG:Fc:={aF with uid:=[97,46,50],at':=⟨1,t0+86400⟩ }
theorem Zd:ig aL=.ok aF:=by kernel_rfl
theorem Zf:ig aM=.ok aG:=by kernel_rfl
def aT:Tm:=⟨[0],0,[0],0,[0],0,0,86400⟩
theorem R3:wa Wp:=by simp[wa,Wp]
theorem Kh:Fn G2 Tryz.prog j9 [Wp.iv] (.int .i64 0):=by
 have h:=C9 Wp R3 (by decide)
 rwa[show o5 Wp=0 by kernel_rfl]at h
def eC:Ent:=⟨j9,[Wp.iv],.imm (.int .i64 0)⟩
theorem YA:Fn G2 Tryz.prog nz [Wp.iv,.int .i64 t0] (.tuple [.agg aT.cells,.bool true]):=
 Fb hm mcA [] (zY (gl:=G2) (es:=[eC]) (by intro e he;rw[List.mem_singleton.1 he];exact Kh)) 60 (by kernel_rfl)
def eT:Ent:=⟨Yy,[Wp.iv,.int .i64 t0,.int .i64 0,.int .i64 86400],.own 1 [[.int .i64 0]]⟩
theorem aaD:FitT aT:=⟨by decide,by decide,by decide,by decide,by decide,by decide,by decide,by decide,by decide,by decide,by decide⟩
theorem YB:BD G2 Tryz.prog Yy [Wp.iv,.int .i64 t0,.int .i64 0,.int .i64 86400] (.own 1 [[.int .i64 0]]):=by
 have h:=aaC Wp t0 aT aaD (by decide) (by decide) (by decide) (by rw[show jG aT=[0] by kernel_rfl];decide) YA
 rwa[show Bm (jG aT)=[[.int .i64 0]] by kernel_rfl]at h
theorem aby:∀e∈[eC,eT],BD G2 Tryz.prog e.k e.args e.r:=by
 intro e he;simp only[List.mem_cons,List.not_mem_nil,or_false]at he;rcases he with rfl|rfl
 ·exact Kh
 ·exact YB
theorem T3:Fn G2 Tryz.prog R2 [aF.iv,.int .i64 0,.int .i64 100] (.tuple [n9 ⟨1,t0+86400⟩,n9 ⟨1,t0⟩,.bool true,.int .i64 0]):=
 Fb hm mcA [] (zY (gl:=G2) aby) 200 (by kernel_rfl)
theorem T4:Fn G2 Tryz.prog R2 [aG.iv,.int .i64 0,.int .i64 100] (.tuple [n9 ⟨0,0⟩,n9 ⟨0,0⟩,.bool false,.int .i64 0]):=
 Fb hm mcA [] (zY (gl:=G2) aby) 200 (by kernel_rfl)
end Go.Vs.YtcjeehebikeghaaGreatDoor.Vt
