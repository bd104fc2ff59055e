/- A part of a proof. No conditions. -/
import Derived.Test.YtnhbiolfmeeniaaGreatDoorVLz
import Derived.Test.YtnhbiolfmeeniaaGreatDoorVNz
set_option linter.all false
set_option maxRecDepth 100000
set_option maxHeartbeats 16000000
namespace Go.Vs.Y.Vt
open Go.Proofs Go.Vs.U8 Go.Vs.Pa Go.Vs.Nu Go.Vs.Mo Go.Vs.Vt Go.Vs.Y.Rc
def XW:Nat:=8
def adt:Nat:=9
def mcA:List Nat:=[62,63,107]
def pD:List Pm:=[⟨F3,[LA]⟩]
def aU(u:Str):Ln:=⟨bK,[],u⟩
def aS:Ln:=⟨bp,[],[50,48,50,51,49,50,51,49,84,48,48,48,48,48,48,90]⟩
def aB:Ln:=⟨ba,pD,[50,48,50,52,48,49,48,49]⟩
def aD:Ln:=⟨ct,pD,[50,48,50,52,48,49,48,51]⟩
def aR:Ln:=⟨bN,[],[70,82,69,81,61,68,65,73,76,89,59,67,79,85,78,84,61,50]⟩
def aX:Ln:=⟨[88,45,65],[],[98]⟩
def aA:Ln:=⟨fI,pD,[50,48,50,52,48,49,48,50]⟩
def aL:List Ln:=[aU [97],aS,aB,aD,aR,aX]
def aM:List Ln:=[aU [97,46,50],aS,aB,aD,aR,aX,aA]
def t0:Int:=63839664000
def aRu:Ru:=⟨3,1,2,⟨0,0⟩,[],[],[],[],[],[],[],[],[],0⟩
def aF:Fc:=⟨[97],[],⟨3,63839577600⟩,⟨1,t0⟩,⟨1,t0+172800⟩,0,⟨0,-1,-1⟩,0,true,aRu,[],[],⟨0,0⟩,false⟩
def aG:Fc:={aF with uid:=[97,46,50],at':=⟨1,t0+86400⟩ }
theorem ag9:gK aL=.ok aF:=by kernel_rfl
theorem aha:gK aM=.ok aG:=by kernel_rfl
def aT:Tm:=⟨[0],0,[0],0,[0],0,0,86400⟩
theorem XX:Do aRu:=by simp[Do,aRu]
theorem PF:Fn G2 T_ 72 [aRu.iv] (.int .i64 0):=by
 have h:=wF aRu XX (by decide)
 rwa[show cT aRu=0 by kernel_rfl]at h
def eC:Ent:=⟨72,[aRu.iv],.imm (.int .i64 0)⟩
theorem af9:Fn G2 T_ 253 [aRu.iv,.int .i64 t0] (.tuple [.agg aT.cells,.bool true]):=
 D4 hm mcA [] (xe (gl:=G2) (es:=[eC]) (by intro e a;rw[List.mem_singleton.1 a];exact PF)) 60 (by kernel_rfl)
def eT:Ent:=⟨aaa,[aRu.iv,.int .i64 t0,.int .i64 0,.int .i64 86400],.own 1 [[.int .i64 0]]⟩
theorem ain:FitT aT:=⟨by decide,by decide,by decide,by decide,by decide,by decide,by decide,by decide,by decide,by decide,by decide⟩
theorem aga:CV G2 T_ aaa [aRu.iv,.int .i64 t0,.int .i64 0,.int .i64 86400] (.own 1 [[.int .i64 0]]):=by
 have h:=WA aRu t0 aT ain (by decide) (by decide) (by decide) (by rw[show i6 aT=[0] by kernel_rfl];decide) af9
 rwa[show yo (i6 aT)=[[.int .i64 0]] by kernel_rfl]at h
theorem ajq:∀e∈[eC,eT],CV G2 T_ e.k e.args e.r:=by
 intro e a;simp only[List.mem_cons,List.not_mem_nil,or_false]at a;rcases a with rfl|rfl
 .exact PF
 exact aga
theorem aab:Fn G2 T_ XW [aF.iv,.int .i64 0,.int .i64 100] (.tuple [ma ⟨1,t0+86400⟩,ma ⟨1,t0⟩,.bool true,.int .i64 0]):=
 D4 hm mcA [] (xe (gl:=G2) ajq) 200 (by kernel_rfl)
theorem aac:Fn G2 T_ XW [aG.iv,.int .i64 0,.int .i64 100] (.tuple [ma ⟨0,0⟩,ma ⟨0,0⟩,.bool false,.int .i64 0]):=
 D4 hm mcA [] (xe (gl:=G2) ajq) 200 (by kernel_rfl)
def WB:List Ln:=[aU [97,46,50],aS,aB,aD,aR,aX]
theorem aka(p:List Pm)(h:p=[]\/p=pD):Fit p:=by
 rcases h with rfl|rfl
 .exact⟨by simp,by simp,by simp⟩
 exact⟨by simp[pD,F3,LA],by simp[pD,F3,LA],by simp[pD,F3,LA]⟩
theorem ajr(x:Ln)(b:x.n.length<=50)(a:x.p=[]\/x.p=pD)(c:x.v.length<=50):FitX x/\x.v.length<=1000:=by
 refine⟨⟨by omega,?_,aka x.p a,by omega⟩,by omega⟩;rcases a with h|h<;>rw[h]<;>simp[pD]
def okL(l:List Ln):Bool:=l.all fun x=>Nat.ble x.n.length 50&&(decide (x.p=[])||decide (x.p=pD))&&Nat.ble x.v.length 50
theorem WC{l:List Ln}(h:okL l=true):ec l/\gx 1000 l:=by
 unfold okL at h;rw[List.all_eq_true]at h
 have b:∀x∈l,FitX x/\x.v.length<=1000:=fun x a=>by
  have:=h x a;simp only[Bool.and_eq_true,Bool.or_eq_true,decide_eq_true_eq]at this;exact ajr x (Nat.le_of_ble_eq_true this.1.1) this.1.2 (Nat.le_of_ble_eq_true this.2)
 exact⟨fun x a=>(b x a).1,fun x a=>(b x a).2⟩
theorem Dy:ec aL/\gx 1000 aL:=WC (by kernel_rfl)
theorem Rz:ec WB/\gx 1000 WB:=WC (by kernel_rfl)
theorem WD:ec aM/\gx 1000 aM:=WC (by kernel_rfl)
theorem aio:Fn G2 T_ 7 [.slice (ls aL)] (.tuple [aF.iv,.nili]):=by
 have h:=qP aL Dy.1 Dy.2 (by decide)
 rwa[ag9]at h
theorem aip:Fn G2 T_ 7 [.slice (ls aM)] (.tuple [aG.iv,.nili]):=by
 have h:=qP aM WD.1 WD.2 (by decide)
 rwa[aha]at h
def eRL:Ent:=⟨7,[.slice (ls aL)],.imm (.tuple [aF.iv,.nili])⟩
def eRM:Ent:=⟨7,[.slice (ls aM)],.imm (.tuple [aG.iv,.nili])⟩
def eP:Ent:=⟨33,[.slice (ls aL),.str bK,.str [97,46,50]],.imm (.slice (ls WB))⟩
def eD(n:Str):Ent:=⟨34,[.slice (ls WB),.str n],.imm (.slice (ls WB))⟩
def eM:Ent:=⟨35,[ma ⟨1,t0+86400⟩],.imm (.tuple [.str [50,48,50,52,48,49,48,50],.int .i64 0])⟩
def eG:Ent:=⟨36,[.slice (ls WB),.str fI],.imm (Ty none)⟩
def eS:Ent:=⟨37,[.slice (ls WB),aA.iv],.imm (.slice (ls aM))⟩
def eU:Ent:=⟨65,[.str [97,46,50]],.imm (.bool true)⟩
theorem akb:∀e∈[eRL,eRM,eP,eD bW,eD eg,eD bv,eM,eG,eS,eU],CV G2 T_ e.k e.args e.r:=by
 have a:∀n,dh WB n=WB->CV G2 T_ (eD n).k (eD n).args (eD n).r:=fun n h=>by
  have:=up (wB WB n (by decide) Rz.1);rw[h]at this;exact this
 intro e b;simp only[List.mem_cons,List.not_mem_nil,or_false]at b;rcases b with rfl|rfl|rfl|rfl|rfl|rfl|rfl|rfl|rfl|rfl
 .exact aio
 .exact aip
 .have:=AU aL bK [97,46,50] Dy.1 (by decide) (by decide) (by decide);rw[show gb aL bK [97,46,50]=WB by kernel_rfl]at this;exact this
 .exact a _ (by kernel_rfl)
 .exact a _ (by kernel_rfl)
 .exact a _ (by kernel_rfl)
 .have:=sE ⟨1,t0+86400⟩ (by decide);rw[show TO ⟨1,t0+86400⟩=.tuple [.str [50,48,50,52,48,49,48,50],.int .i64 0] by kernel_rfl]at this;exact this
 .have:=up (QS WB fI (by decide) Rz.1);rw[show bH WB fI=none by kernel_rfl]at this;exact this
 .have:=up (Je WB aA (by decide) Rz.1 (ajr aA (by decide) (.inr rfl) (by decide)).1);rw[show kB WB aA=aM by kernel_rfl]at this;exact this
 have:=up (L3 [97,46,50] (by decide));rw[show ti [97,46,50]=true by kernel_rfl]at this;exact this
theorem aad:Fn G2 T_ adt [.slice (ls aL),.str [97,46,50],ma ⟨1,t0+86400⟩,ma ⟨1,t0⟩] (.tuple [.slice (ls aM),.int .i64 0]):=
 D4 hm mcA [] (xe (gl:=G2) akb) 200 (by kernel_rfl)
end Go.Vs.Y.Vt
namespace Go.Vs.Y
open Go.Proofs
end Go.Vs.Y
namespace Go.Vs.Y.Vt
open Go.Proofs Go.Vs.U8 Go.Vs.Pa Go.Vs.Nu Go.Vs.Mo Go.Vs.Vt Go.Vs.Y.Rc
def aLf:Lif:=⟨3,100,t0⟩
def aW:List Ln:=[aU [97],aS,aB,aD,aR,aX,⟨bW,[],[67,79,77,80,76,69,84,69,68]⟩,⟨eg,[],[49,48,48]⟩,⟨bv,[],[50,48,50,52,48,49,48,49,84,48,48,48,48,48,48,90]⟩]
def aFW:Fc:={aF with li:=aLf }
def aC1:List Ln:=[⟨fG,[],[120]⟩,⟨[88,45,65],[],[]⟩]
def aC2:List Ln:=[⟨bK,[],[120]⟩]
def aP:List Ln:=[aU [97],aS,aB,aD,aR,⟨fG,[],[120]⟩]
def aL2:List Ln:=[aS,aB,aD,aR,aX]
theorem agb:Lib.itoa 100=[49,48,48]:=by
 unfold Lib.itoa;rw[if_neg (by decide),show(100:Int).toNat=100 by decide,Xr (by decide),Xr (by decide),Zn (by decide)];rfl
theorem ajt:LD aL aLf=aW:=by
 unfold LD;rw[if_neg (by decide),show aLf.p=100 from rfl,agb];kernel_rfl
theorem aiq:ec aW/\gx 1000 aW:=WC (by kernel_rfl)
theorem agc:ec aC1/\gx 1000 aC1:=WC (by kernel_rfl)
theorem agd:ec aC2/\gx 1000 aC2:=WC (by kernel_rfl)
theorem age:ec aL2/\gx 1000 aL2:=WC (by kernel_rfl)
theorem aju(f:Fc)(h:f=aF\/f=aG):FitF f:=by
 rcases h with rfl|rfl<;>exact⟨⟨by decide,by decide,by decide⟩,⟨by decide,by decide,by decide⟩,⟨by decide,by decide,by decide⟩,⟨by decide,by decide,by decide⟩,by decide,by decide,by decide,by decide,by simp[aG,aF],by simp[aG,aF],XX,by decide,by decide,by decide,by decide⟩
def eRd(l:List Ln)(r:RdX):Ent:=⟨7,[.slice (ls l)],.imm (Ug r)⟩
def eDu(f:Fc)(d:Int):Ent:=⟨10,[f.iv],.imm (.tuple [.int .i64 d,.bool true])⟩
def eN1:Ent:=⟨XW,[aF.iv,.int .i64 0,.int .i64 100],.imm (.tuple [ma ⟨1,t0+86400⟩,ma ⟨1,t0⟩,.bool true,.int .i64 0])⟩
def eN2:Ent:=⟨XW,[aG.iv,.int .i64 0,.int .i64 100],.imm (.tuple [ma ⟨0,0⟩,ma ⟨0,0⟩,.bool false,.int .i64 0])⟩
def eAg:Ent:=⟨adt,[.slice (ls aL),.str [97,46,50],ma ⟨1,t0+86400⟩,ma ⟨1,t0⟩],.imm (.tuple [.slice (ls aM),.int .i64 0])⟩
def eWl:Ent:=⟨17,[.slice (ls aL),Lif.iv aLf],.imm (.slice (ls aW))⟩
def ePa(c:List Ln)(r:PaX):Ent:=⟨18,[.slice (ls aL),.slice (ls c)],.imm (paI r)⟩
def eIn:Ent:=⟨11,[aG.iv],.imm (.int .i64 (t0+86400))⟩
def eCo(e p:Int):Ent:=⟨19,[dD e [p]],.imm (.int .i64 e)⟩
def ePl:Ent:=⟨20,[dD 6 [5]],.imm (.int .i64 5)⟩
def ajx:List Ent:=[eRd aL (.ok aF),eRd aM (.ok aG),eRd aW (.ok aFW),eRd aL2 (.no 6 5),eDu aF (t0+172800),eDu aG (t0+259200),eN1,eN2,eAg,eWl,ePa aC1 (.ok aP),ePa aC2 (.no 11 0),eIn,eCo 11 0,eCo 6 5,ePl]
theorem akf:∀e∈ajx,CV G2 T_ e.k e.args e.r:=by
 have a:∀l r,(ec l/\gx 1000 l)->l.length<100000->gK l=r->CV G2 T_ (eRd l r).k (eRd l r).args (eRd l r).r:=fun l r h b e=>by
  have:=qP l h.1 h.2 b;rw[e]at this;exact this
 have g:∀f d,(f=aF\/f=aG)->mg f=(d,true)->CV G2 T_ (eDu f d).k (eDu f d).args (eDu f d).r:=fun f d h e=>by
  have:=Rn f (aju f h);rw[e]at this;exact this
 have i:∀c r,(ec c/\gx 1000 c)->c.length<1000->Ra aL c=r->CV G2 T_ (ePa c r).k (ePa c r).args (ePa c r).r:=fun c r h b e=>by
  have:=adr aL c Dy.1 Dy.2 h.1 h.2 (by decide) b;rw[e]at this;exact this
 intro e j;simp only[ajx,List.mem_cons,List.not_mem_nil,or_false]at j;rcases j with rfl|rfl|rfl|rfl|rfl|rfl|rfl|rfl|rfl|rfl|rfl|rfl|rfl|rfl|rfl|rfl
 .exact a _ _ Dy (by decide) ag9
 .exact a _ _ WD (by decide) aha
 .exact a _ _ aiq (by decide) (by kernel_rfl)
 .exact a _ _ age (by decide) (by kernel_rfl)
 .exact g _ _ (.inl rfl) (by kernel_rfl)
 .exact g _ _ (.inr rfl) (by kernel_rfl)
 .exact aab
 .exact aac
 .exact aad
 .have:=Uj aL aLf Dy.1 (by decide) (by decide);rw[ajt]at this;exact this
 .exact i _ _ agc (by decide) (by kernel_rfl)
 .exact i _ _ agd (by decide) (by kernel_rfl)
 .have:=Fs aG;rw[show dN aG=t0+86400 by kernel_rfl]at this;exact this
 .exact up (AM 11 [0])
 .exact up (AM 6 [5])
 exact up (fn_Place 6 [5] (by simp) (by decide))
theorem k9:Fn G2 T_ 5 [] (.bool true):=
 D4 hm mcA [] (xe (gl:=G2) akf) 200 (by kernel_rfl)
theorem LZ{l:List Ln}{f:Fc}(m:gx 1000 l)(h:gK l=.ok f):FitF f:=by
 unfold gK at h;split at h
 .cases h
 next p=>
 have d:∀(r:List Ln) (i:Nat) (g:Fc),i+r.length<=24->(∀x∈r,x.v.length<=1000)->adm i g->kV l r i g=.ok f->FitF f:=by
  intro r
  induction r with
  |nil=>
   intro i g _ _ e b;unfold kV at b;split at b
   .cases b;exact e.1
   cases b
  |cons x r n=>
   intro i g j k e b;unfold kV at b;split at b
   .exact n (i+1) _ (by simp at j;omega) (fun y o=>k y (List.mem_cons_of_mem _ o)) (LX e (by simp at j;omega) (k x (by simp))) b
   cases b
 exact d l 0 fc1 (by omega) m XS h
theorem WE{l:List Ln}(h:vz l=true):gx 1000 l:=fun x b=>by
 simp only[vz,Bool.and_eq_true,decide_eq_true_eq,List.all_eq_true,Xu]at h;have:=(h.2 x b).2.1;omega
theorem M0:∀ {rows:List (List IV)},(∀e∈rows,Sh (.struct [.str,.slice .str]) e)->∃l,rows=ps l
 |[],_=>⟨[],rfl⟩
 |r::i,h=>by
  obtain⟨a,b,rfl,⟨s,rfl,_⟩,c,d,rfl,⟨f,rfl,_,j⟩,g⟩:=h r (by simp);have g:d=[]:=g;subst g;obtain⟨v,rfl⟩:=Tz j;obtain⟨l,k⟩:=M0 (rows:=i) (fun x m=>h x (by simp[m]));exact⟨⟨s,v⟩::l,by rw[k];rfl⟩
def scL:Sc:=.struct [.str,.slice (.struct [.str,.slice .str]),.str]
theorem agf:∀ {g:List IV},Sh scL g->∃x:Ln,g=[.str x.n,.slice (ps x.p),.str x.v]
 |r,h=>by
  obtain⟨a,b,rfl,⟨s,rfl,_⟩,c,d,rfl,⟨i,rfl,_,k⟩,e,f,rfl,⟨t,rfl,_⟩,j⟩:=h;have j:f=[]:=j;subst j;obtain⟨l,rfl⟩:=M0 k;exact⟨⟨s,l,t⟩,rfl⟩
theorem Um:∀ {rows:List (List IV)},(∀a∈rows,Sh scL a)->∃l,rows=ls l
 |[],_=>⟨[],rfl⟩
 |r::b,h=>by
  obtain⟨x,rfl⟩:=agf (h r (by simp));obtain⟨l,c⟩:=Um (rows:=b) (fun x d=>h x (by simp[d]));exact⟨x::l,by rw[c];rfl⟩
end Go.Vs.Y.Vt
