/- A part of a proof. No conditions. -/
import Derived.Test.YtcjeehebikeghaaGreatDoorCA
set_option linter.unusedVariables false
set_option linter.unusedSimpArgs false
set_option maxRecDepth 100000
set_option maxHeartbeats 8000000
namespace Go.Vs.YtcjeehebikeghaaGreatDoor
open Go.Proofs Go.Vs.U8 Go.Vs.Pa
structure Ln where
 n:Str
 p:List Pm
 v:Str
 deriving DecidableEq
def Ln.iv(x:Ln):IV:=.agg [.str x.n,.slice (ps x.p),.str x.v]
def ls(l:List Ln):List (List IV):=l.map fun x=>[.str x.n,.slice (ps x.p),.str x.v]
theorem bt(l:List Ln):(ls l).length=l.length:=by simp[ls]
theorem tz{d:List Ln}{i:Nat}{x:Ln}(h:i<d.length)(hx:d[i]=x):(ls d)[i]?=some [.str x.n,.slice (ps x.p),.str x.v]:=by simp[ls,h,hx]
theorem yd(l:List Ln)(x:Ln):ls (l++[x])=ls l++[[.str x.n,.slice (ps x.p),.str x.v]]:=by simp[ls]
structure FitX(x:Ln):Prop where
 n:x.n.length<100000
 p:x.p.length<100000
 f:Fit x.p
 v:x.v.length<100000
def fU(l:List Ln):Prop:=∀x∈l,FitX x
theorem Mq(x:Ln)(n:Str):Fn G T_ 78 [x.iv,.str n] (.bool (decide (x.n=n))):=by
 refine ag hm qu (by simp) ?_;simp[kK,Ln.iv]
theorem uF(x:Ln)(fx:FitX x):Fn G T_ 81 [x.iv] x.iv:=by
 refine ag hm D8 (by simp) ?_;have hpl:=fx.p;simp[vG,Ln.iv,cG];refine p5 hm ?_;simp[cG];refine ce hm [] (fun i:Nat=>[(14,.val (.int .i64 i))]) (fun i=>if i=0 then [(3,.box [.val (.str x.n),.nils,.val (.str x.v)])]else [(3,.box [.val (.str x.n),.own 27 (i-1),.val (.str x.v)]),(27,.arr (i-1) 2 (ps (x.p.take i)))]) (fun i=>i<=x.p.length) (fun i=>x.p.length-i) 0 (by omega) ?_ ?_
 ·simp;exact bQ
 intro i hi;simp[cG];by_cases h:i<x.p.length
 ·obtain⟨p,hp⟩:∃p,x.p[i]=p:=⟨_,rfl⟩;have hg:=zI h hp;have ht:=y8 h hp;have hC:=fn_Clone p.v (by have:=fx.f.v p (hp▸List.getElem_mem h);omega);cases i with
  |zero=>
   simp(disch:=omega)[wl,cG,hg];refine aa hC ?_;simp(disch:=omega)[wl];refine⟨rfl,?_⟩;refine au 1 (by omega) (by omega) ?_;have ht1:ps (x.p.take 1)=[[.str p.n,.slice (ts p.v)]]:=by simpa[ps]using ht
   simp[ht1];exact bQ
  |succ i=>
   have htl:(ps (x.p.take (i+1))).length=i+1:=by rw[cG,List.length_take];omega
   have e0:(0:Int)<=(i:Int)+1:=by omega
   have e1:((i:Int)+1).toNat=i+1:=by omega
   simp(disch:=omega)[wl,cG,hg,e0,e1];refine aa hC ?_;simp(disch:=omega)[wl,htl];refine⟨by omega,rfl,?_⟩;refine au (i+1+1) (by omega) (by omega) ?_;simp[ht];exact bQ
 ·obtain rfl:i=x.p.length:=by omega
  cases hx:x.p.length with
  |zero=>
   have:x.p=[]:=List.length_eq_zero_iff.1 hx;simp(disch:=omega)[wl,this,ps];simp[List.filter,this,ps]
  |succ k=>
   have:x.p.take (k+1)=x.p:=by rw[<-hx,List.take_length]
   simp(disch:=omega)[wl,hx,this];simp[List.filter]
def dr(n:Str)(x:Ln):Bool:=decide (x.n=n)
def aV(l:List Ln)(n:Str):Nat:=(l.filter (dr n)).length
def d7(l:List Ln)(n:Str):Option Ln:=l.find? (dr n)
def bf(l:List Ln)(n:Str):List Ln:=l.filter fun x=>!dr n x
def ec(x:Ln):List Ln->Bool->List Ln×Bool
 |[],d=>([],d)
 |y::r,d=>if dr x.n y then (if d then ec x r d else (x::(ec x r true).1,(ec x r true).2))else (y::(ec x r d).1,(ec x r d).2)
def nv(l:List Ln)(x:Ln):List Ln:=if (ec x l false).2 then (ec x l false).1 else (ec x l false).1++[x]
def O4:Option Ln->IV
 |some x=>.tuple [x.iv,.bool true]
 |none=>.tuple [(⟨[],[],[]⟩:Ln).iv,.bool false]
theorem QG{l:List Ln}{i:Nat}{x:Ln}{n:Str}(h:i<l.length)(hx:l[i]=x):aV (l.take (i+1)) n=aV (l.take i) n+(if x.n=n then 1 else 0):=by
 rw[List.take_succ_eq_append_getElem h,hx];by_cases e:x.n=n<;>simp[aV,dr,e]
theorem QH(l:List Ln)(n:Str)(i:Nat):aV (l.take i) n<=i:=by
 have:=List.length_filter_le (dr n) (l.take i);rw[List.length_take]at this;simp only[aV];omega
theorem Vv{l:List Ln}{i:Nat}{x:Ln}{n:Str}(h:i<l.length)(hx:l[i]=x):d7 (l.drop i) n=if x.n=n then some x else d7 (l.drop (i+1)) n:=by
 rw[List.drop_eq_getElem_cons h,hx];by_cases e:x.n=n<;>simp[d7,dr,e]
theorem drop_at{l:List Ln}{i:Nat}{x:Ln}{n:Str}(h:i<l.length)(hx:l[i]=x):bf (l.take (i+1)) n=bf (l.take i) n++(if x.n=n then []else [x]):=by
 rw[List.take_succ_eq_append_getElem h,hx];by_cases e:x.n=n<;>simp[bf,dr,e]
theorem QI(l:List Ln)(n:Str)(i:Nat):(bf (l.take i) n).length<=i:=by
 have:=List.length_filter_le (fun x=>!dr n x) (l.take i);rw[List.length_take]at this;simp only[bf];omega
theorem zM(l:List Ln)(n:Str)(hl:l.length<100000):Fn G T_ 29 [.slice (ls l),.str n] (.int .i64 (aV l n)):=by
 refine ag hm EN (by simp) ?_;simp[y9,bt];refine ce hm [] (fun i:Nat=>[(10,.val (.int .i64 i)),(5,.val (.int .i64 (aV (l.take i) n)))]) (fun _=>[]) (fun i=>i<=l.length) (fun i=>l.length-i) 0 (by omega) ?_ ?_
 ·simp[aV];exact bQ
 intro i hi;simp[bt];have hcl:=QH l n i;by_cases h:i<l.length
 ·obtain⟨x,hx⟩:∃x,l[i]=x:=⟨_,rfl⟩;have hg:=tz h hx;have hI:=Mq x n;have hca:=QG (n:=n) h hx;simp only[Ln.iv]at hI;by_cases e:x.n=n
  ·rw[decide_eq_true e]at hI;rw[if_pos e]at hca;simp(disch:=omega)[wl,bt,hg];refine aa hI ?_;simp(disch:=omega)[wl];refine au (i+1) (by omega) (by omega) ?_;simp[hca];exact bQ
  ·rw[decide_eq_false e]at hI;rw[if_neg e]at hca;simp(disch:=omega)[wl,bt,hg];refine aa hI ?_;simp(disch:=omega)[wl];refine au (i+1) (by omega) (by omega) ?_;simp[hca];exact bQ
 ·obtain rfl:i=l.length:=by omega
  simp(disch:=omega)[wl]
theorem Mr(l:List Ln)(n:Str)(hl:l.length<100000)(hf:fU l):Fn G T_ 89 [.slice (ls l),.str n] (O4 (d7 l n)):=by
 refine ag hm JI (by simp) ?_;simp[D9,bt];refine ce hm [] (fun i:Nat=>[(10,.val (.int .i64 i))]) (fun _=>[]) (fun i=>i<=l.length/\d7 (l.drop i) n=d7 l n) (fun i=>l.length-i) 0 ⟨by omega,by simp⟩ ?_ ?_
 ·simp;exact bQ
 rintro i ⟨hi,hgi⟩;simp[bt];by_cases h:i<l.length
 ·obtain⟨x,hx⟩:∃x,l[i]=x:=⟨_,rfl⟩;have hg:=tz h hx;have hI:=Mq x n;have hC:=uF x (hf x (hx▸List.getElem_mem h));rw[Vv h hx]at hgi;simp only[Ln.iv]at hI hC;by_cases e:x.n=n
  ·rw[decide_eq_true e]at hI;rw[if_pos e]at hgi;rw[<-hgi];simp(disch:=omega)[wl,bt,hg];refine aa hI ?_;simp(disch:=omega)[wl];refine aa hC ?_;simp(disch:=omega)[wl,O4,Ln.iv]
  ·rw[decide_eq_false e]at hI;rw[if_neg e]at hgi;simp(disch:=omega)[wl,bt,hg];refine aa hI ?_;simp(disch:=omega)[wl];refine au (i+1) ⟨by omega,hgi⟩ (by omega) ?_;simp;exact bQ
 ·obtain rfl:i=l.length:=by omega
  have:d7 l n=none:=by rw[<-hgi,List.drop_length];rfl
  rw[this];simp(disch:=omega)[wl,O4,Ln.iv,ps]
theorem gp(l:List Ln)(n:Str)(hl:l.length<100000)(hf:fU l):Fn G T_ 32 [.slice (ls l),.str n] (.slice (ls (bf l n))):=by
 refine ag hm Hy (by simp) ?_;simp[AG,bt];refine ce hm [] (fun i:Nat=>[(10,.val (.int .i64 i)),(5,.own 5 (bf (l.take i) n).length)]) (fun i=>[(5,.arr (bf (l.take i) n).length 3 (ls (bf (l.take i) n)))]) (fun i=>i<=l.length) (fun i=>l.length-i) 0 (by omega) ?_ ?_
 ·simp[bf,ls];exact cR.trans (fS (k:=5) 5 3 (by simp) (by simp[aC,ac])) (ap rfl rfl (by simp[St.adopt,bp,aC,ac,put,dT,SV.erase]) (by simp[St.adopt,ch,ac,put,cC,Ob.erase]) (by simp[St.adopt,cg]))
 intro i hi;simp[bt];have KH:=QI l n i;by_cases h:i<l.length
 ·obtain⟨x,hx⟩:∃x,l[i]=x:=⟨_,rfl⟩;have hg:=tz h hx;have hI:=Mq x n;have hC:=uF x (hf x (hx▸List.getElem_mem h));have hda:=drop_at (n:=n) h hx;simp only[Ln.iv]at hI hC;by_cases e:x.n=n
  ·rw[decide_eq_true e]at hI;rw[if_pos e,List.append_nil]at hda;simp(disch:=omega)[wl,bt,hg];refine aa hI ?_;simp(disch:=omega)[wl];refine au (i+1) (by omega) (by omega) ?_;simp[hda];exact bQ
  ·rw[decide_eq_false e]at hI;rw[if_neg e]at hda;simp(disch:=omega)[wl,bt,hg];refine aa hI ?_;simp(disch:=omega)[wl];refine aa hC ?_;simp(disch:=omega)[wl,bt];refine⟨by omega,?_⟩;refine au (i+1) (by omega) (by omega) ?_;simp[hda,yd];exact bQ
 ·obtain rfl:i=l.length:=by omega
  simp(disch:=omega)[wl]
theorem wY(x y:Ln):∀(l:List Ln) (d:Bool),ec x (l++[y]) d =
  if dr x.n y then (if (ec x l d).2 then ec x l d else ((ec x l d).1++[x],true))else ((ec x l d).1++[y],(ec x l d).2)
 |[],d=>by cases h:dr x.n y<;>cases d<;>simp[ec,h]
 |z::r,d=>by
  have ih1:=wY x y r d;have ih2:=wY x y r true;cases h:dr x.n y<;>cases hz:dr x.n z<;>cases d<;>simp[ec,h,hz]at ih1 ih2 |-<;>(try simp[ih1,ih2])<;>(try (split<;>simp_all))
theorem uG(x:Ln):∀(l:List Ln) (d:Bool),(ec x l d).1.length<=l.length
 |[],d=>by simp[ec]
 |z::r,d=>by
  have ih1:=uG x r d;have ih2:=uG x r true;cases hz:dr x.n z<;>cases d<;>simp[ec,hz]<;>omega
theorem Hz(l:List Ln)(x:Ln)(hl:l.length<100000)(hf:fU l)(fx:FitX x):Fn G T_ 67 [.slice (ls l),x.iv] (.slice (ls (nv l x))):=by
 refine ag hm JH (by simp) ?_;have hCx:=uF x fx;simp only[Ln.iv]at hCx;simp[D6,bt,Ln.iv];refine p5 hm ?_;simp[bt];refine ce hm [] (fun i:Nat=>[(11,.val (.int .i64 i)),(6,.val (.bool (ec x (l.take i) false).2)),(5,.own 5 (ec x (l.take i) false).1.length)]) (fun i=>[(5,.arr (ec x (l.take i) false).1.length 3 (ls (ec x (l.take i) false).1))]) (fun i=>i<=l.length) (fun i=>l.length-i) 0 (by omega) ?_ ?_
 ·simp[ec,ls];exact cR.trans (fS (k:=5) 5 3 (by simp) (by simp[aC,ac])) (ap rfl rfl (by simp[St.adopt,bp,aC,ac,put,dT,SV.erase]) (by simp[St.adopt,ch,ac,put,cC,Ob.erase]) (by simp[St.adopt,cg]))
 intro i hi;simp[bt];have hsl:=uG x (l.take i) false;rw[List.length_take]at hsl;by_cases h:i<l.length
 ·obtain⟨y,hy⟩:∃y,l[i]=y:=⟨_,rfl⟩;have hg:=tz h hy;have hI:=Mq y x.n;have hC:=uF y (hf y (hy▸List.getElem_mem h));have hs:=wY x y (l.take i) false;rw[<-hy,<-List.take_succ_eq_append_getElem h,hy]at hs;simp only[Ln.iv]at hI hC;simp(disch:=omega)[wl,bt,hg];refine p5 hm ?_;simp[bt,hg];refine aa hI ?_;by_cases e:y.n=x.n
  ·have hb:dr x.n y=true:=by simp[dr,e]
   rw[if_pos hb]at hs;rw[decide_eq_true e];cases hd:(ec x (l.take i) false).2 with
   |true=>
    rw[if_pos hd]at hs;simp(disch:=omega)[wl];refine au (i+1) (by omega) (by omega) ?_;simp[hs,hd];exact bQ
   |false=>
    rw[if_neg (by simp[hd])]at hs;simp(disch:=omega)[wl];refine aa hCx ?_;simp(disch:=omega)[wl,bt];refine⟨by omega,?_⟩;refine au (i+1) (by omega) (by omega) ?_;simp[hs,yd];exact bQ
  ·have hb:dr x.n y=false:=by simp[dr,e]
   rw[if_neg (by simp[hb])]at hs;rw[decide_eq_false e];simp(disch:=omega)[wl];refine aa hC ?_;simp(disch:=omega)[wl,bt];refine⟨by omega,?_⟩;refine au (i+1) (by omega) (by omega) ?_;simp[hs,yd];exact bQ
 ·have hil:i=l.length:=by omega
  have htk:l.take i=l:=by rw[hil,List.take_length]
  rw[htk]at hsl |-;cases hd:(ec x l false).2 with
  |true=>
   have hR:nv l x=(ec x l false).1:=by simp[nv,hd]
   rw[hR];simp(disch:=omega)[wl];refine p5 hm ?_;simp(disch:=omega)[wl,hd]
  |false=>
   have hR:nv l x=(ec x l false).1++[x]:=by simp[nv,hd]
   rw[hR,yd];simp(disch:=omega)[wl];refine p5 hm ?_;simp(disch:=omega)[wl,hd];refine aa hCx ?_;simp(disch:=omega)[wl,bt]
   try omega
end Go.Vs.YtcjeehebikeghaaGreatDoor
