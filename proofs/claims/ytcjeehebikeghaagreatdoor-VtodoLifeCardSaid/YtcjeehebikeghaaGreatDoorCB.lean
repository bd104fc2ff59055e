/- The walk of line, part 1: lines compared, copied, found. No conditions. -/
import Derived.Test.YtcjeehebikeghaaGreatDoorCA
set_option linter.unusedVariables false
set_option linter.unusedSimpArgs false
set_option maxRecDepth 100000
set_option maxHeartbeats 8000000
namespace Go.Vs.YtcjeehebikeghaaGreatDoor
open Go.Proofs Go.Vs.U8 Go.Vs.Pa
structure Ln where
 n:Str
 p:List Pm
 v:Str
 deriving DecidableEq
def Ln.iv(x:Ln):IV:=.agg [.str x.n,.slice (ps x.p),.str x.v]
def ls(l:List Ln):List (List IV):=l.map fun x=>[.str x.n,.slice (ps x.p),.str x.v]
theorem be(l:List Ln):(ls l).length=l.length:=by simp[ls]
theorem pK{d:List Ln}{i:Nat}{x:Ln}(h:i<d.length)(hx:d[i]=x):(ls d)[i]?=some [.str x.n,.slice (ps x.p),.str x.v]:=by simp[ls,h,hx]
theorem Ar(l:List Ln)(x:Ln):ls (l++[x])=ls l++[[.str x.n,.slice (ps x.p),.str x.v]]:=by simp[ls]
structure FitX(x:Ln):Prop where
 n:x.n.length<100000
 p:x.p.length<100000
 f:Fit x.p
 v:x.v.length<100000
def ew(l:List Ln):Prop:=∀x∈l,FitX x
theorem QG(x:Ln)(n:Str):Fn G Tryz.prog cW [x.iv,.str n] (.bool (decide (x.n=n))):=by
 refine ag hm si (by simp) ?_;simp[lY,lZ,Ln.iv]
theorem Va(x y:Ln)(fx:FitX x)(fy:FitX y):Fn G Tryz.prog eg [x.iv,y.iv] (.bool (decide (x=y))):=by
 refine ag hm qp (by simp) ?_;have hS:=XH x.p y.p (by have:=fx.p;omega) (by have:=fy.p;omega) fx.f fy.f
 have hxy:x=y↔x.n=y.n∧x.v=y.v∧x.p=y.p:=by
  obtain⟨a,b,c⟩:=x;obtain⟨d,e,f⟩:=y;simp only[Ln.mk.injEq];exact⟨fun h=>⟨h.1,h.2.2,h.2.1⟩,fun h=>⟨h.1,h.2.2,h.2.1⟩⟩
 simp[kx,kz,Ln.iv];by_cases h1:x.n=y.n
 ·by_cases h2:x.v=y.v
  ·simp(disch:=omega)[wl,h1,h2];refine aa hS ?_;simp[hxy,h1,h2]
  ·simp(disch:=omega)[wl,h1,h2,hxy]
 ·simp(disch:=omega)[wl,h1,hxy]
theorem HN(a b:List Ln)(ha:a.length<1000000)(hb:b.length<1000000)(fa:ew a)(fb:ew b):Fn G Tryz.prog hJ [.slice (ls a),.slice (ls b),.fn eg []] (.bool (decide (a=b))):=by
 refine ag hm rl (by simp) ?_;simp[lr,lu,be];by_cases hl:a.length=b.length
 ·simp(disch:=omega)[wl,be,hl];refine bS hm [] (fun i:Nat=>[(17,.val (.int .i64 i))]) (fun i=>[]) (fun i=>i≤a.length∧a.take i=b.take i) (fun i=>a.length-i) 0 ⟨by omega,by simp⟩ ?_ ?_
  ·simp;exact bT
  rintro i ⟨hi,ht⟩;simp[be];by_cases h:i<a.length
  ·have h':i<b.length:=by omega
   obtain⟨x,hx⟩:∃x,a[i]=x:=⟨_,rfl⟩;obtain⟨y,hy⟩:∃y,b[i]=y:=⟨_,rfl⟩;have g1:=pK h hx;have g2:=pK h' hy;have hS:=Va x y (fa x (hx▸List.getElem_mem h)) (fb y (hy▸List.getElem_mem h'));simp only[Ln.iv]at hS;by_cases e:x=y
   ·have hs:=tr h h' ht (by rw[hx,hy,e]);rw[decide_eq_true e]at hS;simp(disch:=omega)[wl,be,g1,g2];refine aa hS ?_;simp(disch:=omega)[wl];refine aq (i+1) ⟨by omega,hs⟩ (by omega) ?_;simp;exact bT
   ·have hne:¬a=b:=fun hab=>e (by subst hab;rw[←hx,←hy])
    rw[decide_eq_false e]at hS;simp(disch:=omega)[wl,be,g1,g2,hne];refine aa hS ?_;simp[hne]
  ·obtain rfl:i=a.length:=by omega
   have:a=b:=by rw[List.take_length,hl,List.take_length]at ht;exact ht
   simp(disch:=omega)[wl,this]
 ·have hne:¬a=b:=fun hab=>hl (by rw[hab])
  simp(disch:=omega)[wl,be,hl,hne]
theorem Vb(a b:List Ln)(ha:a.length<1000000)(hb:b.length<1000000)(fa:ew a)(fb:ew b):Fn G Tryz.prog vA [.slice (ls a),.slice (ls b)] (.bool (decide (a=b))):=by
 refine ag hm Le (by simp) ?_;simp[D2,D4];refine aa (HN a b ha hb fa fb) ?_;simp
theorem wK(x:Ln)(fx:FitX x):Fn G Tryz.prog gH [x.iv] x.iv:=by
 refine ag hm FK (by simp) ?_;have hpl:=fx.p;simp[xG,xH,Ln.iv,bZ];refine qA hm ?_;simp[bZ];refine bS hm [] (fun i:Nat=>[(14,.val (.int .i64 i))]) (fun i=>if i=0 then [(3,.box [.val (.str x.n),.nils,.val (.str x.v)])]else [(3,.box [.val (.str x.n),.own 27 (i-1),.val (.str x.v)]),(27,.arr (i-1) 2 (ps (x.p.take i)))]) (fun i=>i≤x.p.length) (fun i=>x.p.length-i) 0 (by omega) ?_ ?_
 ·simp;exact bT
 intro i hi;simp[bZ];by_cases h:i<x.p.length
 ·obtain⟨p,hp⟩:∃p,x.p[i]=p:=⟨_,rfl⟩;have hg:=tf h hp;have ht:=tu h hp;have hC:=fn_Clone p.v (by have:=fx.f.v p (hp▸List.getElem_mem h);omega);cases i with
  |zero=>
   simp(disch:=omega)[wl,bZ,hg];refine aa hC ?_;simp(disch:=omega)[wl];refine⟨rfl,?_⟩;refine aq 1 (by omega) (by omega) ?_;have ht1:ps (x.p.take 1)=[[.str p.n,.slice (ts p.v)]]:=by simpa[ps]using ht
   simp[ht1];exact bT
  |succ i=>
   have htl:(ps (x.p.take (i+1))).length=i+1:=by rw[bZ,List.length_take];omega
   have e0:(0:Int)≤(i:Int)+1:=by omega
   have e1:((i:Int)+1).toNat=i+1:=by omega
   simp(disch:=omega)[wl,bZ,hg,e0,e1];refine aa hC ?_;simp(disch:=omega)[wl,htl];refine⟨by omega,rfl,?_⟩;refine aq (i+1+1) (by omega) (by omega) ?_;simp[ht];exact bT
 ·obtain rfl:i=x.p.length:=by omega
  cases hx:x.p.length with
  |zero=>
   have:x.p=[]:=List.length_eq_zero_iff.1 hx;simp(disch:=omega)[wl,this,ps];simp[List.filter,this,ps]
  |succ k=>
   have:x.p.take (k+1)=x.p:=by rw[←hx,List.take_length]
   simp(disch:=omega)[wl,hx,this];simp[List.filter]
def ck(n:Str)(x:Ln):Bool:=decide (x.n=n)
def aE(l:List Ln)(n:Str):Nat:=(l.filter (ck n)).length
def cn(l:List Ln)(n:Str):Option Ln:=l.find? (ck n)
def br(l:List Ln)(n:Str):List Ln:=l.filter fun x=>!ck n x
def eL(x:Ln):List Ln→Bool→List Ln×Bool
 |[],d=>([],d)
 |y::r,d=>if ck x.n y then (if d then eL x r d else (x::(eL x r true).1,(eL x r true).2))else (y::(eL x r d).1,(eL x r d).2)
def oP(l:List Ln)(x:Ln):List Ln:=if (eL x l false).2 then (eL x l false).1 else (eL x l false).1++[x]
def Ss:Option Ln→IV
 |some x=>.tuple [x.iv,.bool true]
 |none=>.tuple [(⟨[],[],[]⟩:Ln).iv,.bool false]
theorem Vc{l:List Ln}{i:Nat}{x:Ln}{n:Str}(h:i<l.length)(hx:l[i]=x):aE (l.take (i+1)) n=aE (l.take i) n+(if x.n=n then 1 else 0):=by
 rw[List.take_succ_eq_append_getElem h,hx];by_cases e:x.n=n<;>simp[aE,ck,e]
theorem Vd(l:List Ln)(n:Str)(i:Nat):aE (l.take i) n≤i:=by
 have:=List.length_filter_le (ck n) (l.take i);rw[List.length_take]at this;simp only[aE];omega
theorem aaj{l:List Ln}{i:Nat}{x:Ln}{n:Str}(h:i<l.length)(hx:l[i]=x):cn (l.drop i) n=if x.n=n then some x else cn (l.drop (i+1)) n:=by
 rw[List.drop_eq_getElem_cons h,hx];by_cases e:x.n=n<;>simp[cn,ck,e]
theorem drop_at{l:List Ln}{i:Nat}{x:Ln}{n:Str}(h:i<l.length)(hx:l[i]=x):br (l.take (i+1)) n=br (l.take i) n++(if x.n=n then []else [x]):=by
 rw[List.take_succ_eq_append_getElem h,hx];by_cases e:x.n=n<;>simp[br,ck,e]
theorem Ve(l:List Ln)(n:Str)(i:Nat):(br (l.take i) n).length≤i:=by
 have:=List.length_filter_le (fun x=>!ck n x) (l.take i);rw[List.length_take]at this;simp only[br];omega
theorem wL(l:List Ln)(n:Str)(hl:l.length<100000):Fn G Tryz.prog eX [.slice (ls l),.str n] (.int .i64 (aE l n)):=by
 refine ag hm HL (by simp) ?_;simp[An,Ao,be];refine bS hm [] (fun i:Nat=>[(10,.val (.int .i64 i)),(5,.val (.int .i64 (aE (l.take i) n)))]) (fun _=>[]) (fun i=>i≤l.length) (fun i=>l.length-i) 0 (by omega) ?_ ?_
 ·simp[aE];exact bT
 intro i hi;simp[be];have hcl:=Vd l n i;by_cases h:i<l.length
 ·obtain⟨x,hx⟩:∃x,l[i]=x:=⟨_,rfl⟩;have hg:=pK h hx;have hI:=QG x n;have hca:=Vc (n:=n) h hx;simp only[Ln.iv]at hI;by_cases e:x.n=n
  ·rw[decide_eq_true e]at hI;rw[if_pos e]at hca;simp(disch:=omega)[wl,be,hg];refine aa hI ?_;simp(disch:=omega)[wl];refine aq (i+1) (by omega) (by omega) ?_;simp[hca];exact bT
  ·rw[decide_eq_false e]at hI;rw[if_neg e]at hca;simp(disch:=omega)[wl,be,hg];refine aa hI ?_;simp(disch:=omega)[wl];refine aq (i+1) (by omega) (by omega) ?_;simp[hca];exact bT
 ·obtain rfl:i=l.length:=by omega
  simp(disch:=omega)[wl]
theorem QH(l:List Ln)(n:Str)(hl:l.length<100000)(hf:ew l):Fn G Tryz.prog tv [.slice (ls l),.str n] (Ss (cn l n)):=by
 refine ag hm NT (by simp) ?_;simp[FL,FM,be];refine bS hm [] (fun i:Nat=>[(10,.val (.int .i64 i))]) (fun _=>[]) (fun i=>i≤l.length∧cn (l.drop i) n=cn l n) (fun i=>l.length-i) 0 ⟨by omega,by simp⟩ ?_ ?_
 ·simp;exact bT
 rintro i ⟨hi,hgi⟩;simp[be];by_cases h:i<l.length
 ·obtain⟨x,hx⟩:∃x,l[i]=x:=⟨_,rfl⟩;have hg:=pK h hx;have hI:=QG x n;have hC:=wK x (hf x (hx▸List.getElem_mem h));rw[aaj h hx]at hgi;simp only[Ln.iv]at hI hC;by_cases e:x.n=n
  ·rw[decide_eq_true e]at hI;rw[if_pos e]at hgi;rw[←hgi];simp(disch:=omega)[wl,be,hg];refine aa hI ?_;simp(disch:=omega)[wl];refine aa hC ?_;simp(disch:=omega)[wl,Ss,Ln.iv]
  ·rw[decide_eq_false e]at hI;rw[if_neg e]at hgi;simp(disch:=omega)[wl,be,hg];refine aa hI ?_;simp(disch:=omega)[wl];refine aq (i+1) ⟨by omega,hgi⟩ (by omega) ?_;simp;exact bT
 ·obtain rfl:i=l.length:=by omega
  have:cn l n=none:=by rw[←hgi,List.drop_length];rfl
  rw[this];simp(disch:=omega)[wl,Ss,Ln.iv,ps]
theorem dF(l:List Ln)(n:Str)(hl:l.length<100000)(hf:ew l):Fn G Tryz.prog iy [.slice (ls l),.str n] (.slice (ls (br l n))):=by
 refine ag hm Ld (by simp) ?_;simp[D0,D1,be];refine bS hm [] (fun i:Nat=>[(10,.val (.int .i64 i)),(5,.own 5 (br (l.take i) n).length)]) (fun i=>[(5,.arr (br (l.take i) n).length 3 (ls (br (l.take i) n)))]) (fun i=>i≤l.length) (fun i=>l.length-i) 0 (by omega) ?_ ?_
 ·simp[br,ls];exact d5.trans (dR (k:=5) 5 3 (by simp) (by simp[aC,ac])) (ap rfl rfl (by simp[St.adopt,bv,aC,ac,put,dJ,SV.erase]) (by simp[St.adopt,cC,ac,put,cK,Ob.erase]) (by simp[St.adopt,ct]))
 intro i hi;simp[be];have OX:=Ve l n i;by_cases h:i<l.length
 ·obtain⟨x,hx⟩:∃x,l[i]=x:=⟨_,rfl⟩;have hg:=pK h hx;have hI:=QG x n;have hC:=wK x (hf x (hx▸List.getElem_mem h));have hda:=drop_at (n:=n) h hx;simp only[Ln.iv]at hI hC;by_cases e:x.n=n
  ·rw[decide_eq_true e]at hI;rw[if_pos e,List.append_nil]at hda;simp(disch:=omega)[wl,be,hg];refine aa hI ?_;simp(disch:=omega)[wl];refine aq (i+1) (by omega) (by omega) ?_;simp[hda];exact bT
  ·rw[decide_eq_false e]at hI;rw[if_neg e]at hda;simp(disch:=omega)[wl,be,hg];refine aa hI ?_;simp(disch:=omega)[wl];refine aa hC ?_;simp(disch:=omega)[wl,be];refine⟨by omega,?_⟩;refine aq (i+1) (by omega) (by omega) ?_;simp[hda,Ar];exact bT
 ·obtain rfl:i=l.length:=by omega
  simp(disch:=omega)[wl]
theorem yS(x y:Ln):∀(l:List Ln) (d:Bool),eL x (l++[y]) d =
  if ck x.n y then (if (eL x l d).2 then eL x l d else ((eL x l d).1++[x],true))else ((eL x l d).1++[y],(eL x l d).2)
 |[],d=>by cases h:ck x.n y<;>cases d<;>simp[eL,h]
 |z::r,d=>by
  have ih1:=yS x y r d;have ih2:=yS x y r true;cases h:ck x.n y<;>cases hz:ck x.n z<;>cases d<;>simp[eL,h,hz]at ih1 ih2 ⊢<;>(try simp[ih1,ih2])<;>(try (split<;>simp_all))
theorem wM(x:Ln):∀(l:List Ln) (d:Bool),(eL x l d).1.length≤l.length
 |[],d=>by simp[eL]
 |z::r,d=>by
  have ih1:=wM x r d;have ih2:=wM x r true;cases hz:ck x.n z<;>cases d<;>simp[eL,hz]<;>omega
theorem Lf(l:List Ln)(x:Ln)(hl:l.length<100000)(hf:ew l)(fx:FitX x):Fn G Tryz.prog pJ [.slice (ls l),x.iv] (.slice (ls (oP l x))):=by
 refine ag hm NR (by simp) ?_;have hCx:=wK x fx;simp only[Ln.iv]at hCx;simp[FI,FJ,be,Ln.iv];refine qA hm ?_;simp[be];refine bS hm [] (fun i:Nat=>[(11,.val (.int .i64 i)),(6,.val (.bool (eL x (l.take i) false).2)),(5,.own 5 (eL x (l.take i) false).1.length)]) (fun i=>[(5,.arr (eL x (l.take i) false).1.length 3 (ls (eL x (l.take i) false).1))]) (fun i=>i≤l.length) (fun i=>l.length-i) 0 (by omega) ?_ ?_
 ·simp[eL,ls];exact d5.trans (dR (k:=5) 5 3 (by simp) (by simp[aC,ac])) (ap rfl rfl (by simp[St.adopt,bv,aC,ac,put,dJ,SV.erase]) (by simp[St.adopt,cC,ac,put,cK,Ob.erase]) (by simp[St.adopt,ct]))
 intro i hi;simp[be];have hsl:=wM x (l.take i) false;rw[List.length_take]at hsl;by_cases h:i<l.length
 ·obtain⟨y,hy⟩:∃y,l[i]=y:=⟨_,rfl⟩;have hg:=pK h hy;have hI:=QG y x.n;have hC:=wK y (hf y (hy▸List.getElem_mem h));have hs:=yS x y (l.take i) false;rw[←hy,←List.take_succ_eq_append_getElem h,hy]at hs;simp only[Ln.iv]at hI hC;simp(disch:=omega)[wl,be,hg];refine qA hm ?_;simp[be,hg];refine aa hI ?_;by_cases e:y.n=x.n
  ·have hb:ck x.n y=true:=by simp[ck,e]
   rw[if_pos hb]at hs;rw[decide_eq_true e];cases hd:(eL x (l.take i) false).2 with
   |true=>
    rw[if_pos hd]at hs;simp(disch:=omega)[wl];refine aq (i+1) (by omega) (by omega) ?_;simp[hs,hd];exact bT
   |false=>
    rw[if_neg (by simp[hd])]at hs;simp(disch:=omega)[wl];refine aa hCx ?_;simp(disch:=omega)[wl,be];refine⟨by omega,?_⟩;refine aq (i+1) (by omega) (by omega) ?_;simp[hs,Ar];exact bT
  ·have hb:ck x.n y=false:=by simp[ck,e]
   rw[if_neg (by simp[hb])]at hs;rw[decide_eq_false e];simp(disch:=omega)[wl];refine aa hC ?_;simp(disch:=omega)[wl,be];refine⟨by omega,?_⟩;refine aq (i+1) (by omega) (by omega) ?_;simp[hs,Ar];exact bT
 ·have hil:i=l.length:=by omega
  have htk:l.take i=l:=by rw[hil,List.take_length]
  rw[htk]at hsl ⊢;cases hd:(eL x l false).2 with
  |true=>
   have hR:oP l x=(eL x l false).1:=by simp[oP,hd]
   rw[hR];simp(disch:=omega)[wl];refine qA hm ?_;simp(disch:=omega)[wl,hd]
  |false=>
   have hR:oP l x=(eL x l false).1++[x]:=by simp[oP,hd]
   rw[hR,Ar];simp(disch:=omega)[wl];refine qA hm ?_;simp(disch:=omega)[wl,hd];refine aa hCx ?_;simp(disch:=omega)[wl,be]
   try omega
end Go.Vs.YtcjeehebikeghaaGreatDoor
