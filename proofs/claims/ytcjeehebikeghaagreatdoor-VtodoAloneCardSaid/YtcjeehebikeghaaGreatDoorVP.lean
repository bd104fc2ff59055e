/- A part of a proof. No conditions. -/
import Derived.Test.YtcjeehebikeghaaGreatDoorVL
import Derived.Test.YtcjeehebikeghaaGreatDoorVN
set_option linter.unusedVariables false
set_option linter.unusedSimpArgs false
set_option maxRecDepth 100000
set_option maxHeartbeats 16000000
namespace Go.Vs.YtcjeehebikeghaaGreatDoor.Vt
open Go.Proofs Go.Vs.U8 Go.Vs.Pa Go.Vs.Nu Go.Vs.Mo Go.Vs.Vt Go.Vs.YtcjeehebikeghaaGreatDoor.Rc
def MN:Nat:=36
def RM:Nat:=37
def WP:List Nat:=[136,137,198]
def pD:List Pm:=[⟨Dz,[JY]⟩]
def aU(u:Str):Ln:=⟨cZ,[],u⟩
def aS:Ln:=⟨be,[],[50,48,50,51,49,50,51,49,84,48,48,48,48,48,48,90]⟩
def aB:Ln:=⟨aK,pD,[50,48,50,52,48,49,48,49]⟩
def aD:Ln:=⟨cW,pD,[50,48,50,52,48,49,48,51]⟩
def aR:Ln:=⟨bH,[],[70,82,69,81,61,68,65,73,76,89,59,67,79,85,78,84,61,50]⟩
def aX:Ln:=⟨[88,45,65],[],[98]⟩
def aA:Ln:=⟨fX,pD,[50,48,50,52,48,49,48,50]⟩
def aL:List Ln:=[aU [97],aS,aB,aD,aR,aX]
def aM:List Ln:=[aU [97,46,50],aS,aB,aD,aR,aX,aA]
def t0:Int:=63839664000
def RN:Ru:=⟨3,1,2,⟨0,0⟩,[],[],[],[],[],[],[],[],[],0⟩
def aF:Fc:=⟨[97],[],⟨3,63839577600⟩,⟨1,t0⟩,⟨1,t0+172800⟩,0,⟨0,-1,-1⟩,0,true,RN,[],[],⟨0,0⟩,false⟩
def aG:Fc:={aF with uid:=[97,46,50],at':=⟨1,t0+86400⟩ }
theorem UD:kS aL=.ok aF:=by kernel_rfl
theorem UE:kS aM=.ok aG:=by kernel_rfl
def aT:Tm:=⟨[0],0,[0],0,[0],0,0,86400⟩
theorem MO:zT RN:=by simp[zT,RN]
theorem GD:Fn G2 T_ 189 [RN.iv] (.int .i64 0):=by
 have h:=zU RN MO (by decide)
 rwa[show mJ RN=0 by kernel_rfl]at h
def eC:Ent:=⟨189,[RN.iv],.imm (.int .i64 0)⟩
theorem U5:Fn G2 T_ 345 [RN.iv,.int .i64 t0] (.tuple [.agg aT.cells,.bool true]):=
 CD hm WP [] (xS (gl:=G2) (es:=[eC]) (by intro e he;rw[List.mem_singleton.1 he];exact GD)) 60 (by kernel_rfl)
def eT:Ent:=⟨U3,[RN.iv,.int .i64 t0,.int .i64 0,.int .i64 86400],.own 1 [[.int .i64 0]]⟩
theorem VQ:FitT aT:=⟨by decide,by decide,by decide,by decide,by decide,by decide,by decide,by decide,by decide,by decide,by decide⟩
theorem U6:zk G2 T_ U3 [RN.iv,.int .i64 t0,.int .i64 0,.int .i64 86400] (.own 1 [[.int .i64 0]]):=by
 have h:=VP RN t0 aT VQ (by decide) (by decide) (by decide) (by rw[show j0 aT=[0] by kernel_rfl];decide) U5
 rwa[show yY (j0 aT)=[[.int .i64 0]] by kernel_rfl]at h
theorem WQ:∀e∈[eC,eT],zk G2 T_ e.k e.args e.r:=by
 intro e he;simp only[List.mem_cons,List.not_mem_nil,or_false]at he;rcases he with rfl|rfl
 ·exact GD
 ·exact U6
theorem OE:Fn G2 T_ MN [aF.iv,.int .i64 0,.int .i64 100] (.tuple [lK ⟨1,t0+86400⟩,lK ⟨1,t0⟩,.bool true,.int .i64 0]):=
 CD hm WP [] (xS (gl:=G2) WQ) 200 (by kernel_rfl)
theorem OF:Fn G2 T_ MN [aG.iv,.int .i64 0,.int .i64 100] (.tuple [lK ⟨0,0⟩,lK ⟨0,0⟩,.bool false,.int .i64 0]):=
 CD hm WP [] (xS (gl:=G2) WQ) 200 (by kernel_rfl)
def LI:List Ln:=[aU [97,46,50],aS,aB,aD,aR,aX]
theorem Xs(p:List Pm)(h:p=[]\/p=pD):Fit p:=by
 rcases h with rfl|rfl
 ·exact⟨by simp,by simp,by simp⟩
 ·exact⟨by simp[pD,Dz,JY],by simp[pD,Dz,JY],by simp[pD,Dz,JY]⟩
theorem WR(x:Ln)(h1:x.n.length<=50)(h2:x.p=[]\/x.p=pD)(h3:x.v.length<=50):FitX x/\x.v.length<=1000:=by
 refine⟨⟨by omega,?_,Xs x.p h2,by omega⟩,by omega⟩;rcases h2 with h|h<;>rw[h]<;>simp[pD]
def XG(l:List Ln):Bool:=l.all fun x=>Nat.ble x.n.length 50&&(decide (x.p=[])||decide (x.p=pD))&&Nat.ble x.v.length 50
theorem LJ{l:List Ln}(h:XG l=true):fU l/\jo 1000 l:=by
 unfold XG at h;rw[List.all_eq_true]at h
 have h':∀x∈l,FitX x/\x.v.length<=1000:=fun x hx=>by
  have:=h x hx;simp only[Bool.and_eq_true,Bool.or_eq_true,decide_eq_true_eq]at this;exact WR x (Nat.le_of_ble_eq_true this.1.1) this.1.2 (Nat.le_of_ble_eq_true this.2)
 exact⟨fun x hx=>(h' x hx).1,fun x hx=>(h' x hx).2⟩
theorem xf:fU aL/\jo 1000 aL:=LJ (by kernel_rfl)
theorem Ih:fU LI/\jo 1000 LI:=LJ (by kernel_rfl)
theorem LL:fU aM/\jo 1000 aM:=LJ (by kernel_rfl)
theorem VR:Fn G2 T_ 10 [.slice (ls aL)] (.tuple [aF.iv,.nili]):=by
 have h:=oL aL xf.1 xf.2 (by decide)
 rwa[UD]at h
theorem VS:Fn G2 T_ 10 [.slice (ls aM)] (.tuple [aG.iv,.nili]):=by
 have h:=oL aM LL.1 LL.2 (by decide)
 rwa[UE]at h
def XZ:Ent:=⟨10,[.slice (ls aL)],.imm (.tuple [aF.iv,.nili])⟩
def Y0:Ent:=⟨10,[.slice (ls aM)],.imm (.tuple [aG.iv,.nili])⟩
def eP:Ent:=⟨79,[.slice (ls aL),.str cZ,.str [97,46,50]],.imm (.slice (ls LI))⟩
def eD(n:Str):Ent:=⟨32,[.slice (ls LI),.str n],.imm (.slice (ls LI))⟩
def eM:Ent:=⟨62,[lK ⟨1,t0+86400⟩],.imm (.tuple [.str [50,48,50,52,48,49,48,50],.int .i64 0])⟩
def eG:Ent:=⟨89,[.slice (ls LI),.str fX],.imm (O4 none)⟩
def eS:Ent:=⟨67,[.slice (ls LI),aA.iv],.imm (.slice (ls aM))⟩
def eU:Ent:=⟨138,[.str [97,46,50]],.imm (.bool true)⟩
theorem Xt:∀e∈[XZ,Y0,eP,eD dq,eD ii,eD bP,eM,eG,eS,eU],zk G2 T_ e.k e.args e.r:=by
 have hd:∀n,bf LI n=LI->zk G2 T_ (eD n).k (eD n).args (eD n).r:=fun n h=>by
  have:=up (gp LI n (by decide) Ih.1);rw[h]at this;exact this
 intro e he;simp only[List.mem_cons,List.not_mem_nil,or_false]at he;rcases he with rfl|rfl|rfl|rfl|rfl|rfl|rfl|rfl|rfl|rfl
 ·exact VR
 ·exact VS
 ·have:=yX aL cZ [97,46,50] xf.1 (by decide) (by decide) (by decide);rw[show kW aL cZ [97,46,50]=LI by kernel_rfl]at this;exact this
 ·exact hd _ (by kernel_rfl)
 ·exact hd _ (by kernel_rfl)
 ·exact hd _ (by kernel_rfl)
 ·have:=uJ ⟨1,t0+86400⟩ (by decide);rw[show Oh ⟨1,t0+86400⟩=.tuple [.str [50,48,50,52,48,49,48,50],.int .i64 0] by kernel_rfl]at this;exact this
 ·have:=up (Mr LI fX (by decide) Ih.1);rw[show d7 LI fX=none by kernel_rfl]at this;exact this
 ·have:=up (Hz LI aA (by decide) Ih.1 (WR aA (by decide) (.inr rfl) (by decide)).1);rw[show nv LI aA=aM by kernel_rfl]at this;exact this
 ·have:=up (HE [97,46,50] (by decide));rw[show pz [97,46,50]=true by kernel_rfl]at this;exact this
theorem OG:Fn G2 T_ RM [.slice (ls aL),.str [97,46,50],lK ⟨1,t0+86400⟩,lK ⟨1,t0⟩] (.tuple [.slice (ls aM),.int .i64 0]):=
 CD hm WP [] (xS (gl:=G2) Xt) 200 (by kernel_rfl)
end Go.Vs.YtcjeehebikeghaaGreatDoor.Vt
namespace Go.Vs.YtcjeehebikeghaaGreatDoor
open Go.Proofs
def oM:VCode:=Q_ 2 [.K (cb false)] (.seq (C_ 13 19 [.m 0,.c1 8,.u,.w,.m 0,.v,.i .gtr 24,.O] (R_ 21 21 [.c0 9,.a 2] .ret) .skip) (R_ 22 23 [.m 0,.c1 11,.a 3] (V_ 25 28 [.m 3,.c1 10,.a 24,.e 24 0,.e 24 1,.Y 4 z_1,.T 34 4 27,.a 5] (.seq (C_ 29 34 [.m 5,.g (.eqN true (tm 29)),.w,.F 13 4,.l,.u,.O] (R_ 36 36 [.c0 9,.a 2] .ret) .skip) (V_ 38 41 [.m 3,.c1 30,.a 37,.e 37 0,.e 37 1,.M 6 40,.a 7] (V_ 43 46 [.m 6,.c1 10,.a 42,.e 42 0,.e 42 1,.Y 8 z_1,.T 34 8 45,.a 5] (.seq (C_ 47 51 [.m 7,.N 0,.w,.m 5,.g (.eqN true (tm 50)),.O] (Q_ 2 [.K (cb false)] .ret) .skip) (V_ 54 57 [.W 34 4,.c1 17,.a 53,.e 53 0,.e 53 1,.M 9 56,.a 10] (V_ 59 62 [.W 34 8,.c1 17,.a 58,.e 58 0,.e 58 1,.M 11 61,.a 12] (.seq (.region (D_ [.F 13 8,.l,.u,.z,.F 4 8,.f 0,.l,.F 4 4,.f 0,.l,.b .eql,.A,.z,.F 4 8,.f 1,.l,.W 34 4,.c1 21,.b .eql,.A,.z,.m 10,.A,.z,.m 12,.A,.z,.m 11,.m 9,.b .eql,.A,.z,.F 9 8,.L 3,.F 9 4,.L 3,.g (.eqA false [.i,.i,.i] (tm 96) (tm 98)),.A,.z,.F 0 8,.l,.F 0 4,.l,.b .eql,.A,.z,.F 1 8,.l,.F 1 4,.l,.b .eql,.A,.z,.F 12 8,.l,.F 12 4,.l,.b .eql,.A,.z,.F 8 8,.l,.F 8 4,.l,.b .eql,.A,.z,.c0 9,.A,.a 2] 63) (.drawn [(13,17),(14,17),(15,17)] (Co [(17,[(0,16)]),(67,[(0,66)])])) [63,131]) .ret))))))))))
theorem uR:FnOk T_ 6 oM [.tmp 2] 132:=fK_ Tryz.func6
end Go.Vs.YtcjeehebikeghaaGreatDoor
namespace Go.Vs.YtcjeehebikeghaaGreatDoor.Vt
open Go.Proofs Go.Vs.U8 Go.Vs.Pa Go.Vs.Nu Go.Vs.Mo Go.Vs.Vt Go.Vs.YtcjeehebikeghaaGreatDoor.Rc
def WS:Lif:=⟨3,100,t0⟩
def aW:List Ln:=[aU [97],aS,aB,aD,aR,aX,⟨dq,[],[67,79,77,80,76,69,84,69,68]⟩,⟨ii,[],[49,48,48]⟩,⟨bP,[],[50,48,50,52,48,49,48,49,84,48,48,48,48,48,48,90]⟩]
def Y1:Fc:={aF with li:=WS }
def Xu:List Ln:=[⟨fK,[],[120]⟩,⟨[88,45,65],[],[]⟩]
def Xv:List Ln:=[⟨cZ,[],[120]⟩]
def aP:List Ln:=[aU [97],aS,aB,aD,aR,⟨fK,[],[120]⟩]
def Xw:List Ln:=[aS,aB,aD,aR,aX]
theorem U7:Lib.itoa 100=[49,48,48]:=by
 unfold Lib.itoa;rw[if_neg (by decide),show(100:Int).toNat=100 by decide,Mp (by decide),Mp (by decide),O3 (by decide)];rfl
theorem WT:DD aL WS=aW:=by
 unfold DD;rw[if_neg (by decide),show WS.p=100 from rfl,U7];kernel_rfl
theorem VT:fU aW/\jo 1000 aW:=LJ (by kernel_rfl)
theorem U9:fU Xu/\jo 1000 Xu:=LJ (by kernel_rfl)
theorem Ua:fU Xv/\jo 1000 Xv:=LJ (by kernel_rfl)
theorem Ub:fU Xw/\jo 1000 Xw:=LJ (by kernel_rfl)
theorem WU(f:Fc)(h:f=aF\/f=aG):FitF f:=by
 rcases h with rfl|rfl<;>exact⟨⟨by decide,by decide,by decide⟩,⟨by decide,by decide,by decide⟩,⟨by decide,by decide,by decide⟩,⟨by decide,by decide,by decide⟩,by decide,by decide,by decide,by decide,by simp[aG,aF],by simp[aG,aF],MO,by decide,by decide,by decide,by decide⟩
def VU(l:List Ln)(r:RdX):Ent:=⟨10,[.slice (ls l)],.imm (Kj r)⟩
def WV(f:Fc)(d:Int):Ent:=⟨17,[f.iv],.imm (.tuple [.int .i64 d,.bool true])⟩
def Y2:Ent:=⟨MN,[aF.iv,.int .i64 0,.int .i64 100],.imm (.tuple [lK ⟨1,t0+86400⟩,lK ⟨1,t0⟩,.bool true,.int .i64 0])⟩
def Y3:Ent:=⟨MN,[aG.iv,.int .i64 0,.int .i64 100],.imm (.tuple [lK ⟨0,0⟩,lK ⟨0,0⟩,.bool false,.int .i64 0])⟩
def Y4:Ent:=⟨RM,[.slice (ls aL),.str [97,46,50],lK ⟨1,t0+86400⟩,lK ⟨1,t0⟩],.imm (.tuple [.slice (ls aM),.int .i64 0])⟩
def Y5:Ent:=⟨23,[.slice (ls aL),Lif.iv WS],.imm (.slice (ls aW))⟩
def WW(c:List Ln)(r:PaX):Ent:=⟨24,[.slice (ls aL),.slice (ls c)],.imm (Wj r)⟩
def Y6:Ent:=⟨21,[aG.iv],.imm (.int .i64 (t0+86400))⟩
def XH(e p:Int):Ent:=⟨15,[cS e [p]],.imm (.int .i64 e)⟩
def Y7:Ent:=⟨16,[cS 6 [5]],.imm (.int .i64 5)⟩
def WX:List Ent:=[VU aL (.ok aF),VU aM (.ok aG),VU aW (.ok Y1),VU Xw (.no 6 5),WV aF (t0+172800),WV aG (t0+259200),Y2,Y3,Y4,Y5,WW Xu (.ok aP),WW Xv (.no 11 0),Y6,XH 11 0,XH 6 5,Y7]
theorem Xx:∀e∈WX,zk G2 T_ e.k e.args e.r:=by
 have rd:∀l r,(fU l/\jo 1000 l)->l.length<100000->kS l=r->zk G2 T_ (VU l r).k (VU l r).args (VU l r).r:=fun l r h hl e=>by
  have:=oL l h.1 h.2 hl;rw[e]at this;exact this
 have du:∀f d,(f=aF\/f=aG)->dX f=(d,true)->zk G2 T_ (WV f d).k (WV f d).args (WV f d).r:=fun f d h e=>by
  have:=DV f (WU f h);rw[e]at this;exact this
 have pa:∀c r,(fU c/\jo 1000 c)->c.length<1000->HT aL c=r->zk G2 T_ (WW c r).k (WW c r).args (WW c r).r:=fun c r h hl e=>by
  have:=RK aL c xf.1 xf.2 h.1 h.2 (by decide) hl;rw[e]at this;exact this
 intro e he;simp only[WX,List.mem_cons,List.not_mem_nil,or_false]at he;rcases he with rfl|rfl|rfl|rfl|rfl|rfl|rfl|rfl|rfl|rfl|rfl|rfl|rfl|rfl|rfl|rfl
 ·exact rd _ _ xf (by decide) UD
 ·exact rd _ _ LL (by decide) UE
 ·exact rd _ _ VT (by decide) (by kernel_rfl)
 ·exact rd _ _ Ub (by decide) (by kernel_rfl)
 ·exact du _ _ (.inl rfl) (by kernel_rfl)
 ·exact du _ _ (.inr rfl) (by kernel_rfl)
 ·exact OE
 ·exact OF
 ·exact OG
 ·have:=Km aL WS xf.1 (by decide) (by decide);rw[WT]at this;exact this
 ·exact pa _ _ U9 (by decide) (by kernel_rfl)
 ·exact pa _ _ Ua (by decide) (by kernel_rfl)
 ·have:=BH aG;rw[show bD aG=t0+86400 by kernel_rfl]at this;exact this
 ·exact up (uE 11 [0])
 ·exact up (uE 6 [5])
 ·exact up (Qm 6 [5] (by simp) (by decide))
theorem uv:Fn G2 T_ 9 [] (.bool true):=
 CD hm WP [] (xS (gl:=G2) Xx) 200 (by kernel_rfl)
end Go.Vs.YtcjeehebikeghaaGreatDoor.Vt
