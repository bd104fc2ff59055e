/- A part of a proof. No conditions. -/
import Derived.Test.YtcjeehebikeghaaGreatDoorVLz
import Derived.Test.YtcjeehebikeghaaGreatDoorVNz
set_option linter.unusedVariables false
set_option linter.unusedSimpArgs false
set_option maxRecDepth 100000
set_option maxHeartbeats 16000000
namespace Go.Vs.YtcjeehebikeghaaGreatDoor.Vt
open Go.Proofs Go.Vs.U8 Go.Vs.Pa Go.Vs.Nu Go.Vs.Mo Go.Vs.Vt Go.Vs.YtcjeehebikeghaaGreatDoor.Rc
def Uq:Nat:=36
def Zn:Nat:=37
def mcA:List Nat:=[136,137,198]
def pD:List Pm:=[⟨KY,[QS]⟩]
def aU(u:Str):Ln:=⟨cp,[],u⟩
def aS:Ln:=⟨aK,[],[50,48,50,51,49,50,51,49,84,48,48,48,48,48,48,90]⟩
def aB:Ln:=⟨aV,pD,[50,48,50,52,48,49,48,49]⟩
def aD:Ln:=⟨cN,pD,[50,48,50,52,48,49,48,51]⟩
def aR:Ln:=⟨cc,[],[70,82,69,81,61,68,65,73,76,89,59,67,79,85,78,84,61,50]⟩
def aX:Ln:=⟨[88,45,65],[],[98]⟩
def aA:Ln:=⟨eO,pD,[50,48,50,52,48,49,48,50]⟩
def aL:List Ln:=[aU [97],aS,aB,aD,aR,aX]
def aM:List Ln:=[aU [97,46,50],aS,aB,aD,aR,aX,aA]
def t0:Int:=63839664000
def Zp:Ru:=⟨3,1,2,⟨0,0⟩,[],[],[],[],[],[],[],[],[],0⟩
def aF:Fc:=⟨[97],[],⟨3,63839577600⟩,⟨1,t0⟩,⟨1,t0+172800⟩,0,⟨0,-1,-1⟩,0,true,Zp,[],[],⟨0,0⟩,false⟩
def aG:Fc:={aF with uid:=[97,46,50],at':=⟨1,t0+86400⟩ }
theorem acd:mH aL=.ok aF:=by kernel_rfl
theorem ace:mH aM=.ok aG:=by kernel_rfl
def aT:Tm:=⟨[0],0,[0],0,[0],0,0,86400⟩
theorem Ur:uW Zp:=by simp[uW,Zp]
theorem N2:Fn G2 T_ 189 [Zp.iv] (.int .i64 0):=by
 have h:=EL Zp Ur (by decide)
 rwa[show jo Zp=0 by kernel_rfl]at h
def eC:Ent:=⟨189,[Zp.iv],.imm (.int .i64 0)⟩
theorem abF:Fn G2 T_ 345 [Zp.iv,.int .i64 t0] (.tuple [.agg aT.cells,.bool true]):=
 HY hm mcA [] (BX (gl:=G2) (es:=[eC]) (by intro e a;rw[List.mem_singleton.1 a];exact N2)) 60 (by kernel_rfl)
def eT:Ent:=⟨abD,[Zp.iv,.int .i64 t0,.int .i64 0,.int .i64 86400],.own 1 [[.int .i64 0]]⟩
theorem adr:FitT aT:=⟨by decide,by decide,by decide,by decide,by decide,by decide,by decide,by decide,by decide,by decide,by decide⟩
theorem abG:Ea G2 T_ abD [Zp.iv,.int .i64 t0,.int .i64 0,.int .i64 86400] (.own 1 [[.int .i64 0]]):=by
 have h:=adq Zp t0 aT adr (by decide) (by decide) (by decide) (by rw[show jB aT=[0] by kernel_rfl];decide) abF
 rwa[show DW (jB aT)=[[.int .i64 0]] by kernel_rfl]at h
theorem aep:∀e∈[eC,eT],Ea G2 T_ e.k e.args e.r:=by
 intro e a;simp only[List.mem_cons,List.not_mem_nil,or_false]at a;rcases a with rfl|rfl
 ·exact N2
 ·exact abG
theorem Wf:Fn G2 T_ Uq [aF.iv,.int .i64 0,.int .i64 100] (.tuple [eX ⟨1,t0+86400⟩,eX ⟨1,t0⟩,.bool true,.int .i64 0]):=
 HY hm mcA [] (BX (gl:=G2) aep) 200 (by kernel_rfl)
theorem Wg:Fn G2 T_ Uq [aG.iv,.int .i64 0,.int .i64 100] (.tuple [eX ⟨0,0⟩,eX ⟨0,0⟩,.bool false,.int .i64 0]):=
 HY hm mcA [] (BX (gl:=G2) aep) 200 (by kernel_rfl)
def Tb:List Ln:=[aU [97,46,50],aS,aB,aD,aR,aX]
theorem aeY(p:List Pm)(h:p=[]\/p=pD):Fit p:=by
 rcases h with rfl|rfl
 ·exact⟨by simp,by simp,by simp⟩
 ·exact⟨by simp[pD,KY,QS],by simp[pD,KY,QS],by simp[pD,KY,QS]⟩
theorem aeq(x:Ln)(b:x.n.length<=50)(a:x.p=[]\/x.p=pD)(c:x.v.length<=50):FitX x/\x.v.length<=1000:=by
 refine⟨⟨by omega,?_,aeY x.p a,by omega⟩,by omega⟩;rcases a with h|h<;>rw[h]<;>simp[pD]
def okL(l:List Ln):Bool:=l.all fun x=>Nat.ble x.n.length 50&&(decide (x.p=[])||decide (x.p=pD))&&Nat.ble x.v.length 50
theorem Tc{l:List Ln}(h:okL l=true):kl l/\og 1000 l:=by
 unfold okL at h;rw[List.all_eq_true]at h
 have b:∀x∈l,FitX x/\x.v.length<=1000:=fun x a=>by
  have:=h x a;simp only[Bool.and_eq_true,Bool.or_eq_true,decide_eq_true_eq]at this;exact aeq x (Nat.le_of_ble_eq_true this.1.1) this.1.2 (Nat.le_of_ble_eq_true this.2)
 exact⟨fun x a=>(b x a).1,fun x a=>(b x a).2⟩
theorem Bo:kl aL/\og 1000 aL:=Tc (by kernel_rfl)
theorem P4:kl Tb/\og 1000 Tb:=Tc (by kernel_rfl)
theorem Td:kl aM/\og 1000 aM:=Tc (by kernel_rfl)
theorem ads:Fn G2 T_ 10 [.slice (ls aL)] (.tuple [aF.iv,.nili]):=by
 have h:=xX aL Bo.1 Bo.2 (by decide)
 rwa[acd]at h
theorem adt:Fn G2 T_ 10 [.slice (ls aM)] (.tuple [aG.iv,.nili]):=by
 have h:=xX aM Td.1 Td.2 (by decide)
 rwa[ace]at h
def eRL:Ent:=⟨10,[.slice (ls aL)],.imm (.tuple [aF.iv,.nili])⟩
def eRM:Ent:=⟨10,[.slice (ls aM)],.imm (.tuple [aG.iv,.nili])⟩
def eP:Ent:=⟨79,[.slice (ls aL),.str cp,.str [97,46,50]],.imm (.slice (ls Tb))⟩
def eD(n:Str):Ent:=⟨32,[.slice (ls Tb),.str n],.imm (.slice (ls Tb))⟩
def eM:Ent:=⟨62,[eX ⟨1,t0+86400⟩],.imm (.tuple [.str [50,48,50,52,48,49,48,50],.int .i64 0])⟩
def eG:Ent:=⟨89,[.slice (ls Tb),.str eO],.imm (Vw none)⟩
def eS:Ent:=⟨67,[.slice (ls Tb),aA.iv],.imm (.slice (ls aM))⟩
def eU:Ent:=⟨138,[.str [97,46,50]],.imm (.bool true)⟩
theorem aeZ:∀e∈[eRL,eRM,eP,eD bN,eD cY,eD bq,eM,eG,eS,eU],Ea G2 T_ e.k e.args e.r:=by
 have a:∀n,fL Tb n=Tb->Ea G2 T_ (eD n).k (eD n).args (eD n).r:=fun n h=>by
  have:=up (II Tb n (by decide) P4.1);rw[h]at this;exact this
 intro e b;simp only[List.mem_cons,List.not_mem_nil,or_false]at b;rcases b with rfl|rfl|rfl|rfl|rfl|rfl|rfl|rfl|rfl|rfl
 ·exact ads
 ·exact adt
 ·have:=Um aL cp [97,46,50] Bo.1 (by decide) (by decide) (by decide);rw[show YU aL cp [97,46,50]=Tb by kernel_rfl]at this;exact this
 ·exact a _ (by kernel_rfl)
 ·exact a _ (by kernel_rfl)
 ·exact a _ (by kernel_rfl)
 ·have:=ML ⟨1,t0+86400⟩ (by decide);rw[show aa1 ⟨1,t0+86400⟩=.tuple [.str [50,48,50,52,48,49,48,50],.int .i64 0] by kernel_rfl]at this;exact this
 ·have:=up (TX Tb eO (by decide) P4.1);rw[show qQ Tb eO=none by kernel_rfl]at this;exact this
 ·have:=up (O2 Tb aA (by decide) P4.1 (aeq aA (by decide) (.inr rfl) (by decide)).1);rw[show tI Tb aA=aM by kernel_rfl]at this;exact this
 ·have:=up (O6 [97,46,50] (by decide));rw[show jF [97,46,50]=true by kernel_rfl]at this;exact this
theorem Wh:Fn G2 T_ Zn [.slice (ls aL),.str [97,46,50],eX ⟨1,t0+86400⟩,eX ⟨1,t0⟩] (.tuple [.slice (ls aM),.int .i64 0]):=
 HY hm mcA [] (BX (gl:=G2) aeZ) 200 (by kernel_rfl)
end Go.Vs.YtcjeehebikeghaaGreatDoor.Vt
namespace Go.Vs.YtcjeehebikeghaaGreatDoor
open Go.Proofs
def qK:VCode:=Q_ 4 [.K (cb false)] (.seq (C_ 18 19 [.m 0,.c1 8,.u] (R_ 21 21 [.c0 9,.a 4] .ret) .skip) (V_ 23 27 [.m 0,.c1 11,.c1 10,.a 22,.e 22 0,.e 22 1,.Y 5 z_1,.T 34 5 26,.a 6] (V_ 29 33 [.m 0,.c1 12,.a 28,.e 28 0,.e 28 1,.e 28 2,.Y 7 z_1,.T 34 7 31,.M 8 32,.a 9] (.seq (.seq (.region (D_ [.W 34 5,.c1 14,.W 34 7,.c2 13,.u,.w,.m 6,.c1 15,.m 8,.b .neq,.O,.w,.m 6,.c1 16,.m 9,.b .neq,.O,.w,.m 6,.g (.eqN false (tm 52)),.m 8,.E 0,.g (.eqB true (tm 53) (tm 55)),.O] 34) (.drawn [(1,2),(7,8),(13,14)] (wo [(1,[(0,0),(2,2)]),(3,[(0,2)]),(7,[(0,6),(8,8)]),(13,[(0,12),(14,14)])])) [34,56]) (c_ 57 (Q_ 4 [.K (cb false)] .ret) .skip)) (.seq (C_ 58 58 [.m 8,.N 0] (R_ 60 60 [.c0 9,.a 4] .ret) .skip) (V_ 62 65 [.W 34 5,.c1 17,.a 61,.e 61 0,.e 61 1,.M 10 64,.a 11] (V_ 67 70 [.W 34 7,.c1 18,.a 66,.e 66 0,.e 66 1,.M 12 69,.a 13] (V_ 72 76 [.W 34 5,.m 1,.c2 19,.a 71,.e 71 0,.e 71 1,.M 14 75,.a 15] (V_ 78 82 [.W 34 7,.m 1,.c2 20,.a 77,.e 77 0,.e 77 1,.M 16 81,.a 17] (.seq (.region (D_ [.m 10,.m 12,.b .eql,.z,.m 11,.m 13,.g (.eqB false (tm 87) (tm 88)),.A,.z,.m 14,.m 16,.b .eql,.A,.z,.m 15,.m 17,.g (.eqB false (tm 97) (tm 98)),.A,.z,.W 34 5,.c1 21,.W 34 7,.c1 22,.b .eql,.A,.z,.c0 9,.A,.a 4] 83) (.drawn [(20,21)] (wo [(20,[(0,19),(21,21)]),(22,[(0,21)]),(26,[(0,25)])])) [83,110]) .ret))))))))))
theorem yI:FnOk T_ 3 qK [.tmp 4] 111:=fK_ Tryz.func3
def ab4:VCode:=Q_ 5 [.X 2,.K (cb false)] (.seq (C_ 14 20 [.m 0,.c1 8,.u,.w,.m 1,.c1 8,.u,.O] (R_ 22 22 [.c0 9,.a 6] .ret) .skip) (R_ 23 24 [.m 0,.c1 11,.a 7] (R_ 25 27 [.m 7,.W 3 5,.c2 23,.a 8] (V_ 29 34 [.m 7,.m 1,.c1 11,.c2 24,.a 28,.e 28 0,.e 28 1,.M 9 33,.a 10] (V_ 36 41 [.m 0,.m 1,.c2 25,.a 35,.e 35 0,.e 35 1,.e 35 2,.M 11 39,.M 12 40,.a 13] (.seq (.region (D_ [.m 8,.c1 27,.m 0,.W 3 5,.c2 28,.c2 26,.z,.m 9,.c1 27,.m 11,.c2 26,.A,.z,.m 10,.c1 15,.m 12,.b .eql,.A,.z,.m 10,.c1 16,.m 13,.b .eql,.A,.z,.m 10,.g (.eqN false (tm 67)),.m 12,.E 0,.g (.eqB false (tm 68) (tm 70)),.A,.z,.m 7,.c1 27,.m 0,.c2 26,.A,.z,.c0 9,.A,.a 6] 42) (.drawn [(1,2),(1,3),(8,9),(14,15),(20,21),(33,34)] (wo [(1,[(0,0),(2,3)]),(4,[(0,3)]),(5,[(0,4)]),(8,[(0,7),(9,9)]),(10,[(0,9)]),(14,[(0,13),(15,15)]),(20,[(0,19),(21,21)]),(33,[(0,32),(34,34)]),(35,[(0,34)]),(38,[(0,37)])])) [42,81]) .ret))))))
theorem adN:FnOk T_ 4 ab4 [.tmp 6] 82:=fK_ Tryz.func4
end Go.Vs.YtcjeehebikeghaaGreatDoor
namespace Go.Vs.YtcjeehebikeghaaGreatDoor.Vt
open Go.Proofs Go.Vs.U8 Go.Vs.Pa Go.Vs.Nu Go.Vs.Mo Go.Vs.Vt Go.Vs.YtcjeehebikeghaaGreatDoor.Rc
def aLf:Lif:=⟨3,100,t0⟩
def aW:List Ln:=[aU [97],aS,aB,aD,aR,aX,⟨bN,[],[67,79,77,80,76,69,84,69,68]⟩,⟨cY,[],[49,48,48]⟩,⟨bq,[],[50,48,50,52,48,49,48,49,84,48,48,48,48,48,48,90]⟩]
def aFW:Fc:={aF with li:=aLf }
def aC1:List Ln:=[⟨cg,[],[120]⟩,⟨[88,45,65],[],[]⟩]
def aC2:List Ln:=[⟨cp,[],[120]⟩]
def aP:List Ln:=[aU [97],aS,aB,aD,aR,⟨cg,[],[120]⟩]
def aL2:List Ln:=[aS,aB,aD,aR,aX]
theorem abH:Lib.itoa 100=[49,48,48]:=by
 unfold Lib.itoa;rw[if_neg (by decide),show(100:Int).toNat=100 by decide,TU (by decide),TU (by decide),Vv (by decide)];rfl
theorem aes:Jf aL aLf=aW:=by
 unfold Jf;rw[if_neg (by decide),show aLf.p=100 from rfl,abH];kernel_rfl
theorem adu:kl aW/\og 1000 aW:=Tc (by kernel_rfl)
theorem abI:kl aC1/\og 1000 aC1:=Tc (by kernel_rfl)
theorem abJ:kl aC2/\og 1000 aC2:=Tc (by kernel_rfl)
theorem abK:kl aL2/\og 1000 aL2:=Tc (by kernel_rfl)
theorem aet(f:Fc)(h:f=aF\/f=aG):FitF f:=by
 rcases h with rfl|rfl<;>exact⟨⟨by decide,by decide,by decide⟩,⟨by decide,by decide,by decide⟩,⟨by decide,by decide,by decide⟩,⟨by decide,by decide,by decide⟩,by decide,by decide,by decide,by decide,by simp[aG,aF],by simp[aG,aF],Ur,by decide,by decide,by decide,by decide⟩
def eRd(l:List Ln)(r:RdX):Ent:=⟨10,[.slice (ls l)],.imm (T9 r)⟩
def eDu(f:Fc)(d:Int):Ent:=⟨17,[f.iv],.imm (.tuple [.int .i64 d,.bool true])⟩
def eN1:Ent:=⟨Uq,[aF.iv,.int .i64 0,.int .i64 100],.imm (.tuple [eX ⟨1,t0+86400⟩,eX ⟨1,t0⟩,.bool true,.int .i64 0])⟩
def eN2:Ent:=⟨Uq,[aG.iv,.int .i64 0,.int .i64 100],.imm (.tuple [eX ⟨0,0⟩,eX ⟨0,0⟩,.bool false,.int .i64 0])⟩
def eAg:Ent:=⟨Zn,[.slice (ls aL),.str [97,46,50],eX ⟨1,t0+86400⟩,eX ⟨1,t0⟩],.imm (.tuple [.slice (ls aM),.int .i64 0])⟩
def eWl:Ent:=⟨23,[.slice (ls aL),Lif.iv aLf],.imm (.slice (ls aW))⟩
def ePa(c:List Ln)(r:PaX):Ent:=⟨24,[.slice (ls aL),.slice (ls c)],.imm (paI r)⟩
def eIn:Ent:=⟨21,[aG.iv],.imm (.int .i64 (t0+86400))⟩
def eCo(e p:Int):Ent:=⟨15,[dq e [p]],.imm (.int .i64 e)⟩
def ePl:Ent:=⟨16,[dq 6 [5]],.imm (.int .i64 5)⟩
def aew:List Ent:=[eRd aL (.ok aF),eRd aM (.ok aG),eRd aW (.ok aFW),eRd aL2 (.no 6 5),eDu aF (t0+172800),eDu aG (t0+259200),eN1,eN2,eAg,eWl,ePa aC1 (.ok aP),ePa aC2 (.no 11 0),eIn,eCo 11 0,eCo 6 5,ePl]
theorem ae3:∀e∈aew,Ea G2 T_ e.k e.args e.r:=by
 have a:∀l r,(kl l/\og 1000 l)->l.length<100000->mH l=r->Ea G2 T_ (eRd l r).k (eRd l r).args (eRd l r).r:=fun l r h b e=>by
  have:=xX l h.1 h.2 b;rw[e]at this;exact this
 have g:∀f d,(f=aF\/f=aG)->kQ f=(d,true)->Ea G2 T_ (eDu f d).k (eDu f d).args (eDu f d).r:=fun f d h e=>by
  have:=T4 f (aet f h);rw[e]at this;exact this
 have i:∀c r,(kl c/\og 1000 c)->c.length<1000->Oo aL c=r->Ea G2 T_ (ePa c r).k (ePa c r).args (ePa c r).r:=fun c r h b e=>by
  have:=Zl aL c Bo.1 Bo.2 h.1 h.2 (by decide) b;rw[e]at this;exact this
 intro e j;simp only[aew,List.mem_cons,List.not_mem_nil,or_false]at j;rcases j with rfl|rfl|rfl|rfl|rfl|rfl|rfl|rfl|rfl|rfl|rfl|rfl|rfl|rfl|rfl|rfl
 ·exact a _ _ Bo (by decide) acd
 ·exact a _ _ Td (by decide) ace
 ·exact a _ _ adu (by decide) (by kernel_rfl)
 ·exact a _ _ abK (by decide) (by kernel_rfl)
 ·exact g _ _ (.inl rfl) (by kernel_rfl)
 ·exact g _ _ (.inr rfl) (by kernel_rfl)
 ·exact Wf
 ·exact Wg
 ·exact Wh
 ·have:=Rp aL aLf Bo.1 (by decide) (by decide);rw[aes]at this;exact this
 ·exact i _ _ abI (by decide) (by kernel_rfl)
 ·exact i _ _ abJ (by decide) (by kernel_rfl)
 ·have:=OK aG;rw[show jt aG=t0+86400 by kernel_rfl]at this;exact this
 ·exact up (uv 11 [0])
 ·exact up (uv 6 [5])
 ·exact up (Qf 6 [5] (by simp) (by decide))
theorem JL:Fn G2 T_ 9 [] (.bool true):=
 HY hm mcA [] (BX (gl:=G2) ae3) 200 (by kernel_rfl)
theorem Zq{l:List Ln}{f:Fc}(j:og 1000 l)(h:mH l=.ok f):FitF f:=by
 unfold mH at h;split at h
 ·cases h
 ·next n=>
  have b:∀(r:List Ln) (i:Nat) (g:Fc),i+r.length<=24->(∀x∈r,x.v.length<=1000)->Wa i g->ju l r i g=.ok f->FitF f:=by
   intro r
   induction r with
   |nil=>
    intro i g _ _ c a;unfold ju at a;split at a
    ·cases a;exact c.1
    ·cases a
   |cons x r k=>
    intro i g d e c a;unfold ju at a;split at a
    ·exact k (i+1) _ (by simp at d;omega) (fun y m=>e y (List.mem_cons_of_mem _ m)) (qJ c (by simp at d;omega) (e x (by simp))) a
    ·cases a
  exact b l 0 fc1 (by omega) j OX h
theorem Te{l:List Ln}(h:sh l=true):og 1000 l:=fun x a=>by
 simp only[sh,Bool.and_eq_true,decide_eq_true_eq,List.all_eq_true,TY]at h;have:=(h.2 x a).2.1;omega
theorem ahf{n:Int}(h:(Lit.int .u8 n).wf=true):0<=n/\n<=255:=by
 simp[Lit.wf]at h;have a:IntKind.u8.max=255:=by rfl
 have b:IntKind.u8.min=0:=by rfl
 simp only[a,b]at h;exact h
theorem params_psL:∀ {rows:List (List IV)},(∀e∈rows,Sh (.struct [.str,.slice .str]) e)->∃l,rows=ps l
 |[],_=>⟨[],rfl⟩
 |r::i,h=>by
  obtain⟨a,b,rfl,⟨s,rfl,_⟩,c,d,rfl,⟨f,rfl,_,j⟩,g⟩:=h r (by simp);have g:d=[]:=g;subst g;obtain⟨v,rfl⟩:=IJ j;obtain⟨l,k⟩:=params_psL (rows:=i) (fun x m=>h x (by simp[m]));exact⟨⟨s,v⟩::l,by rw[k];rfl⟩
def scL:Sc:=.struct [.str,.slice (.struct [.str,.slice .str]),.str]
theorem line_of:∀ {g:List IV},Sh scL g->∃x:Ln,g=[.str x.n,.slice (ps x.p),.str x.v]
 |r,h=>by
  obtain⟨a,b,rfl,⟨s,rfl,_⟩,c,d,rfl,⟨i,rfl,_,k⟩,e,f,rfl,⟨t,rfl,_⟩,j⟩:=h;have j:f=[]:=j;subst j;obtain⟨l,rfl⟩:=params_psL k;exact⟨⟨s,l,t⟩,rfl⟩
theorem lines_of:∀ {rows:List (List IV)},(∀row∈rows,Sh scL row)->∃l,rows=ls l
 |[],_=>⟨[],rfl⟩
 |r::a,h=>by
  obtain⟨x,rfl⟩:=line_of (h r (by simp));obtain⟨l,b⟩:=lines_of (rows:=a) (fun x c=>h x (by simp[c]));exact⟨x::l,by rw[b];rfl⟩
end Go.Vs.YtcjeehebikeghaaGreatDoor.Vt
