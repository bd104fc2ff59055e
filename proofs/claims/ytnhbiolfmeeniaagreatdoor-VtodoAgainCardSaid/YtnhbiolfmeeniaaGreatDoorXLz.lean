/- A part of a proof. No conditions. -/
import Derived.Test.YtnhbiolfmeeniaaGreatDoorXKz
set_option linter.all false
set_option maxRecDepth 100000
set_option maxHeartbeats 16000000
namespace Go.Vs.Y.Rc
open Go.Proofs Go.Vs.Cv Go.Vs.Nu
def AE(m:Nat)(n:Int):List Int:=List.replicate m n
theorem Jx(m:Nat)(n:Int):(is (AE m n)).length=m:=by simp[is_len,AE]
theorem Ye{m j:Nat}(n:Int)(h:j<m):(is (AE m n))[j]?=some [.int .i64 n]:=by
 simp[is,AE,h]
theorem aec(m:Nat)(n:Int):mV (AE m n)=AE m n:=List.perm_replicate.1 (Vt.sort_perm _)
theorem aed(m:Nat)(n:Int):AE m n++[n]=AE (m+1) n:=by unfold AE;rw[List.replicate_succ']
theorem DH(v:Nat)(R:List (List IV))(n:Int)(a b:Nat)(d:R[a]?=some [.int .i64 n])(e:R[b]?=some [.int .i64 n]) :
  lB G2 T_ 256 {args:=[.own 1000 v,.val (.int .i64 a),.val (.int .i64 b),.loc 1001 0],objs:=[(1000,.arr v 1 R),(1001,.box [.val (.int .i64 0)])],res:=.val (.tuple [.int .i64 a,.int .i64 b]),objs':=[(1000,.arr v 1 R),(1001,.box [.val (.int .i64 0)])],ro':=[] }:=by
 refine aK hm sw (by simp) rfl ?_;obtain⟨f,g⟩:=List.getElem?_eq_some_iff.1 d;obtain⟨h,i⟩:=List.getElem?_eq_some_iff.1 e;have c:=RN n n;rw[decide_eq_false (by omega)]at c;simp[lw,f,g,h,i];refine aa c ?_;simp(disch:=omega)[wl];refine⟨rfl,?_⟩;exact ch [(8,.val (.int .i64 a)),(9,.val (.int .i64 b))]
theorem WX(v:Nat)(R:List (List IV))(n:Int)(a b c:Nat)(e:R[a]?=some [.int .i64 n])(d:R[b]?=some [.int .i64 n])(f:R[c]?=some [.int .i64 n]) :
  lB G2 T_ 224 {args:=[.own 1000 v,.val (.int .i64 a),.val (.int .i64 b),.val (.int .i64 c),.loc 1001 0],objs:=[(1000,.arr v 1 R),(1001,.box [.val (.int .i64 0)])],res:=.val (.int .i64 b),objs':=[(1000,.arr v 1 R),(1001,.box [.val (.int .i64 0)])],ro':=[] }:=by
 refine aK hm su (by simp) rfl ?_;simp[lu];refine callM [(1000,1000),(1001,1001)] [] (DH v R n a b e d) rfl rfl (by simp[gI,Vs.ren,ac,Ob.ren,SV.ren]) (by simp[iT,Vs.ren,ac,SV.ren]) rfl ?_;simp(disch:=omega)[wl];refine callM [(1000,1000),(1001,1001)] [] (DH v R n b c d f) rfl rfl (by simp[gI,Vs.ren,ac,Ob.ren,SV.ren]) (by simp[iT,Vs.ren,ac,SV.ren]) rfl ?_;simp(disch:=omega)[wl];refine callM [(1000,1000),(1001,1001)] [] (DH v R n a b e d) rfl rfl (by simp[gI,Vs.ren,ac,Ob.ren,SV.ren]) (by simp[iT,Vs.ren,ac,SV.ren]) rfl ?_;simp(disch:=omega)[wl];exact ch [(10,.val (.int .i64 b))]
theorem aax(v:Nat)(R:List (List IV))(n:Int)(h:∀j<13,R[j]?=some [.int .i64 n]) :
  lB G2 T_ 177 {args:=[.own 1000 v,.val (.int .i64 0),.val (.int .i64 13)],objs:=[(1000,.arr v 1 R)],res:=.val (.tuple [.int .i64 6,.int .i64 1]),objs':=[(1000,.arr v 1 R)],ro':=[] }:=by
 refine aK hm oZ (by simp) rfl ?_;simp[iU];simp(disch:=omega)[wl];refine callM [(1000,1000),(1001,9)] [] (WX v R n 3 6 9 (h 3 (by omega)) (h 6 (by omega)) (h 9 (by omega))) rfl rfl (by simp[gI,Vs.ren,ac,Ob.ren,SV.ren]) (by simp[iT,Vs.ren,ac,SV.ren]) rfl ?_;simp(disch:=omega)[wl];exact ch [(6,.val (.int .i64 6)),(7,.val (.int .i64 1))]
theorem UO(v:Nat)(R:List (List IV))(n:Int)(k:R.length=13)(h:∀j<13,R[j]?=some [.int .i64 n]) :
  lB G2 T_ 179 {args:=[.own 1000 v,.val (.int .i64 0),.val (.int .i64 13)],objs:=[(1000,.arr v 1 R)],res:=.val (.bool true),objs':=[(1000,.arr v 1 R)],ro':=[] }:=by
 refine aK hm kb (by simp) rfl ?_;have a:=RN n n;rw[decide_eq_false (by omega)]at a;have w1:IntKind.i64.wrap 1=1:=by rw[IntKind.wrap_i64];omega
 simp[eK];refine bx hm [] (fun x:Nat=>[(7,.val (.int .i64 1)),(8,.val (.int .i64 0))]) (fun _=>[(1000,.arr v 1 R)]) (fun x=>True) (fun x=>0) 0 trivial ?_ ?_
 .simp[w1];exact bA
 rintro _ _;simp;refine bx hm [] (fun i:Nat=>[(7,.val (.int .i64 ((i+1:Nat):Int)))]) (fun _=>[(1000,.arr v 1 R)]) (fun i=>i<=12) (fun i=>12-i) 0 (by omega) ?_ ?_
 .simp;exact bA
 rintro i l;simp;by_cases q:i<12
 .obtain⟨b,c⟩:=List.getElem?_eq_some_iff.1 (h i (by omega));obtain⟨d,e⟩:=List.getElem?_eq_some_iff.1 (h (i+1) (by omega));have f:(i:Int)+1<13:=by omega
  have g:(0:Int)<=(i:Int)+1:=by omega
  simp(disch:=omega)[wl,f,g,b,c,d,e];refine aa a ?_;simp(disch:=omega)[wl];refine⟨rfl,?_⟩;refine aj (i+1) (by omega) (by omega) ?_;simp;exact bA
 obtain rfl:i=12:=by omega
 simp(disch:=omega)[wl];refine⟨rfl,?_⟩;exact ch [(6,.val (.bool true))]
theorem aay(v:Nat)(R:List (List IV))(n:Int)(a:R.length=13)(h:∀j<13,R[j]?=some [.int .i64 n]) :
  lB G2 T_ 125 {args:=[.own 1000 v,.val (.int .i64 0),.val (.int .i64 13),.val (.int .i64 4)],objs:=[(1000,.arr v 1 R)],res:=.val (.tuple []),objs':=[(1000,.arr v 1 R)],ro':=[] }:=by
 refine aK hm ka (by simp) rfl ?_;simp[fV];refine bx hm [] (fun x:Nat=>[(8,.val (.bool true)),(9,.val (.bool true))]) (fun _=>[(1000,.arr v 1 R)]) (fun x=>True) (fun x=>0) 0 trivial ?_ ?_
 .simp;exact bA
 intro i _;simp;simp(disch:=omega)[wl];refine callM [(1000,1000)] [] (aax v R n h) rfl rfl (by simp[gI,Vs.ren,ac,Ob.ren]) (by simp[iT,Vs.ren,ac,SV.ren]) rfl ?_;simp(disch:=omega)[wl];refine callM [(1000,1000)] [] (UO v R n a h) rfl rfl (by simp[gI,Vs.ren,ac,Ob.ren]) (by simp[iT,Vs.ren,ac,SV.ren]) rfl ?_;simp(disch:=omega)[wl];exact ch []
theorem aaz(v m:Nat)(n:Int)(h:m<=13) :
  lB G2 T_ 74 {args:=[.own 1000 v],objs:=[(1000,.arr v 1 (is (AE m n)))],res:=.val (.tuple []),objs':=[(1000,.arr v 1 (is (AE m n)))],ro':=[] }:=by
 by_cases e:m<=12
 .have:=Mu v (AE m n) (by simpa[AE]using e)
  rwa[aec]at this
 obtain rfl:m=13:=by omega
 refine aK hm uf (by simp) rfl ?_;have f:Fn G2 T_ 126 [.int .u64 13] (.int .i64 4):=D4 hm [] [] (xe (gl:=G2) (es:=[]) (by simp)) 60 (by kernel_rfl);have a:=Jx 13 n;have c:∀j<13,(is (AE 13 n))[j]?=some [.int .i64 n]:=fun j g=>Ye n g
 obtain⟨R,i⟩:=A_ (is (AE 13 n));rw[i]at a c |-;simp[oV];have b:(R.length:Int)=13:=by omega
 simp(disch:=omega)[wl,b];refine aa f ?_;simp(disch:=omega)[wl];refine callM [(1000,1000)] [] (aay v R n a c) rfl rfl (by simp[gI,Vs.ren,ac,Ob.ren]) (by simp[iT,Vs.ren,ac,SV.ren,a]) rfl ?_;simp;exact ch []
theorem S4(v m:Nat)(n:Int)(h:m<2) :
  lB G2 T_ 75 {args:=[.own 1000 v],objs:=[(1000,.arr v 1 (is (AE m n)))],res:=.own 1000 v,objs':=[(1000,.arr v 1 (is (AE m n)))],ro':=[] }:=by
 refine aK hm pv (by simp) rfl ?_;have a:=Jx m n;obtain⟨R,b⟩:=A_ (is (AE m n));rw[b]at a |-;have c:(m:Int)<2:=by omega
 simp[lq];simp(disch:=omega)[wl,a,c];exact ch [(2,.own 1000 v)]
theorem S6(v m:Nat)(n:Int)(h:2<=m/\m<=13) :
  lB G2 T_ 75 {args:=[.own 1000 v],objs:=[(1000,.arr v 1 (is (AE m n)))],res:=.view 1000 v 0 1,objs':=[(1000,.arr v 1 ((is (AE m n)).take 1++List.replicate (m-1) [.int .i64 0]))],ro':=[] }:=by
 refine aK hm pv (by simp) rfl ?_;have a:=Jx m n;have b:∀j<m,(is (AE m n))[j]?=some [.int .i64 n]:=fun j c=>Ye n c
 obtain⟨R,e⟩:=A_ (is (AE m n));rw[e]at a b |-;have f:¬(m:Int)<2:=by omega
 have g:(1:Int)<m:=by omega
 obtain⟨k,l⟩:=List.getElem?_eq_some_iff.1 (b 0 (by omega));obtain⟨o,p⟩:=List.getElem?_eq_some_iff.1 (b 1 (by omega));simp[lq];simp(disch:=omega)[wl,a,f];refine bx hm [] (fun x:Nat=>[(3,.val (.int .i64 1))]) (fun _=>[(1000,.arr v 1 R)]) (fun x=>True) (fun x=>0) 0 trivial ?_ ?_
 .simp;exact bA
 intro i _;simp;simp(disch:=omega)[wl,a,g,k,l,o,p];refine⟨by omega,by omega,by omega,?_⟩;refine bx hm [] (fun x:Nat=>[(5,.val (.int .i64 ((x+1:Nat):Int)))]) (fun _=>[(1000,.arr v 1 R)]) (fun x=>x+2<=m) (fun x=>m-x) 0 (by omega) ?_ ?_
 .simp;exact bA
 rintro x z;simp;by_cases q:x+2<m
 .obtain⟨s,u⟩:=List.getElem?_eq_some_iff.1 (b (1+x) (by omega));obtain⟨d0,d1⟩:=List.getElem?_eq_some_iff.1 (b (1+(x+1)) (by omega));have w:(0:Int)<=(x:Int)+1:=by omega
  simp(disch:=omega)[wl,a,q,w,s,u,d0,d1];refine⟨by omega,by omega,?_⟩;refine aj (x+1) (by omega) (by omega) ?_;simp;exact bA
 have y:List.drop m R=[]:=List.drop_eq_nil_iff.2 (by omega);simp(disch:=omega)[wl,a,y];refine⟨by omega,?_⟩;exact ch [(2,.view 1000 v 0 1)]
theorem O2(l:List Int)(b:Nat)(a:List IV)(g:l.length<1000000)(d:∀v∈l,Fn G2 T_ b (.int .i64 v::a) (.bool false)):Fn G2 T_ 127 [.slice (is l),.fn b a] (.int .i64 (-1)):=by
 refine ae hm wN (by simp) ?_;simp[oX,is_len];refine bx hm [] (fun i:Nat=>[(8,.val (.int .i64 i))]) (fun _=>[]) (fun i=>i<=l.length) (fun i=>l.length-i) 0 (by omega) ?_ ?_
 .simp;exact bA
 intro i j;simp[is_len];by_cases h:i<l.length
 .obtain⟨x,c⟩:=A_ (l[i]);have e:(is l)[i]?=some [.int .i64 x]:=by simp[is,h,c]
  have f:=d x (c▸List.getElem_mem h);simp(disch:=omega)[wl,is_len,e,h];refine aa f ?_;simp(disch:=omega)[wl];refine aj (i+1) (by omega) (by omega) ?_;simp;exact bA
 simp(disch:=omega)[wl,is_len,h]
theorem O3(l:List Int)(b:Nat)(a:List IV)(c:l.length<1000000)(e:∀v∈l,Fn G2 T_ b (.int .i64 v::a) (.bool false)):Fn G2 T_ 76 [.slice (is l),.fn b a] (.slice (is l)):=by
 refine ae hm w7 (by simp) ?_;simp[nY,is_len];refine aa (O2 l b a c e) ?_;simp(disch:=omega)[wl]
end Go.Vs.Y.Rc
namespace Go.Vs.Y.Vt
open Go.Proofs Go.Vs.Cv Go.Vs.Nu Go.Vs.Mo Go.Vs.Y.Rc
theorem MD(b:Mom)(r:Ru)(i o:List Mom)(t:Int)(h:o.length<1000000):Fn G2 T_ 77 [.int .i64 t,.ref ([.int .u8 b.k,.int .i64 b.s]++(cells r++[.slice (ms i),.slice (ms o)]))] (.bool (atM o t)):=by
 refine ae hm H5 (by simp) ?_;have a:=WM o t h;simp only[cells,List.cons_append,List.nil_append];simp[yp];refine aa a ?_;simp(disch:=omega)[wl]
def aiL(p:List Int×Int×Int):IV:=.tuple [.slice (is p.1),.int .i64 p.2.1,.int .i64 p.2.2]
theorem aaA(b:Mom)(r:Ru)(i o:List Mom)(n a:Int)(P:FitS b r i o)(C:0<=r.f)(h:kC b r i o=0)(X:0<=n/\n<=315537897599)(Q:0<=a/\a<=4000)(Y:atM o n=false) :
  Fn G2 T_ 41 [wI b r i o,.int .i64 n,.int .i64 (n+1),.int .i64 a] (aiL (WW b r i o n a)):=by
 refine ae hm Md (by simp) ?_;obtain⟨R,Z,a'⟩:=agH P C h X Q;have D:=uS P;rw[h]at D;have w:=UD a;rw[decide_eq_true Q]at w;have F:=fun t=>MD b r i o t (by omega)
 obtain⟨⟨S,V,W⟩,c⟩:=A_ (WW b r i o n a);rw[c];unfold WW at c;have e:=Y9 (oc b r i o n a) R;have x:=agE R (G1 h);obtain⟨⟨E,U,M⟩,hE⟩:=A_ (mW (oc b r i o n a));rw[hE]at c e x;simp only[oc,WkA.obs,AD,pd,List.cons_append,List.nil_append]at e;have y:=PU b r i o n (n+1) a false;simp only[AD,pd,wI,cells,List.cons_append,List.nil_append]at y F
 obtain⟨k,hk,H⟩:∃k,k<=1/\M=AE k n:=by
  rcases x with h|h
  .exact⟨0,by omega,h⟩
  exact⟨1,by omega,h⟩
 subst H;have I:=fun m=>Jx m n
 have g:∀q:Nat,q<=13->Fn G2 T_ 76 [.slice (is (AE q n)),.fn 77 [.ref ([.int .u8 b.k,.int .i64 b.s]++(cells r++[.slice (ms i),.slice (ms o)]))]] (.slice (is (AE q n))):=fun q hq=>by
  refine O3 (AE q n) _ _ (by simp[AE];omega) fun v A=>?_
  rw[List.eq_of_mem_replicate A,<-Y];exact MD b r i o n (by omega)
 simp only[cells,List.cons_append,List.nil_append]at g;have b':=Yd i n;simp only[wI,cells,List.cons_append,List.nil_append]at D |-;simp only[aiL];simp[Cr,is_len,aJ,bP];refine aa D ?_;have e1:¬n<0:=by omega
 have e2:¬n+1<n:=by omega
 have e3:¬315537897600<n+1:=by omega
 simp(disch:=omega)[wl,e1,e2,e3];refine aa w ?_;simp(disch:=omega)[wl];have J:(AE k n).length=k:=by simp[AE]
 rw[J]at e c;refine Vy hm [] [] (fun _:Unit=>[(12,.loc 12 0)]) (fun _=>[(12,.box (AD b r i o n (n+1) a false 0 (.own 61 0))),(61,.arr 0 1 [])]) (fun _=>True) ?_ ?_
 .simp(disch:=omega)[wl];refine callM [(10,65)] [] y rfl rfl trivial ⟨[],[],rfl,⟨[],[],rfl,⟨[],[],rfl,⟨[],[],rfl,⟨[],[],rfl,rfl,rfl⟩,rfl⟩,rfl⟩,rfl⟩,rfl⟩ rfl ?_;simp(disch:=omega)[wl];refine cz () trivial ?_;simp[AD,pd];exact cJ.trans (wq false (d:=12) (j:=25) 61 1 (by simp) (by decide) rfl rfl rfl) (an rfl rfl (by simp[St.adoptC,bj,aE,ac,dB,SV.erase]) (by simp[St.adoptC,bZ,ac,put,cp,fJ,Ob.erase,SV.erase,qd,xc]) (by simp[bX,St.adoptC]))
 intro _ _;simp[AD,pd];refine callM [(1000,12),(1001,61)] [] e rfl rfl ⟨rfl,rfl,trivial⟩ ⟨rfl,rfl⟩ rfl ?_;simp(disch:=omega)[wl];by_cases p:E=0
 case neg=>
  rw[if_pos p]at c;obtain⟨rfl,rfl,rfl⟩:[]=S/\0=V/\E=W:=by simpa using c
  simp(disch:=omega)[wl,p];rfl
 subst p;simp only[ne_eq,not_true_eq_false,if_false]at c;simp(disch:=omega)[wl];refine bx hm [] (fun j:Nat=>[(52,.val (.int .i64 j)),(14,.own 61 (k+DG (i.take j) n))]) (fun j=>[(61,.arr (k+DG (i.take j) n) 1 (is (AE (k+DG (i.take j) n) n))),(12,.box (AD b r i o n (n+1) a false U (.own 61 k)))]) (fun j=>j<=i.length) (fun j=>i.length-j) 0 (by omega) ?_ ?_
 .simp[DG,AD,pd];exact bA
 rintro j hj;simp[bP,AD,pd];by_cases s:j<i.length
 .obtain⟨v,A⟩:=A_ (i[j]);have hg:=Rm s A;have f:=aav (i.take j) v n;rw[show i.take j++[v]=i.take (j+1) by rw[List.take_succ_eq_append_getElem s,A]]at f;have z:=Yd (i.take j) n;rw[List.length_take]at z;obtain⟨m,u⟩:=A_ (DG (i.take j) n);rw[u]at f z |-;have K:is (AE (k+m) n)++[[.int .i64 n]]=is (AE (k+m+1) n):=by rw[<-aed];simp[is]
  simp(disch:=omega)[wl,s,bP,hg];by_cases q:v.s=n
  .rw[if_pos q]at f;have B:n<=v.s:=by omega
   have L:v.s<n+1:=by omega
   simp(disch:=omega)[wl,B,L,I];rw[q,K];refine⟨by omega,?_⟩;refine aj (j+1) (by omega) (by omega) ?_;have N:k+DG (i.take (j+1)) n=k+m+1:=by omega
   simp[N,bP,AD,pd];exact bA
  rw[if_neg q]at f;by_cases B:n<=v.s
  .have L:¬v.s<n+1:=by omega
   simp(disch:=omega)[wl,B,L];refine aj (j+1) (by omega) (by omega) ?_;simp[f,bP,AD,pd];exact bA
  simp(disch:=omega)[wl,B];refine aj (j+1) (by omega) (by omega) ?_;simp[f,bP,AD,pd];exact bA
 obtain rfl:j=i.length:=by omega
 rw[List.take_length];obtain⟨m,u⟩:=A_ (k+DG i n);rw[u]at c |-;have l:m<=13:=by omega
 replace c:(if m=0 then []else [n])=S/\(U=V/\0=W):=by simpa using c
 simp(disch:=omega)[wl,bP];refine callM [(1000,61)] [] (aaz m m n l) rfl rfl (by simp[gI,Vs.ren,ac,Ob.ren]) (by simp[iT,Vs.ren,ac,SV.ren]) rfl ?_;simp(disch:=omega)[wl];by_cases h2:m<2
 .refine callM [(1000,61)] [] (S4 m m n h2) rfl rfl (by simp[gI,Vs.ren,ac,Ob.ren]) (by simp[iT,Vs.ren,ac,SV.ren]) rfl ?_;simp(disch:=omega)[wl];refine aa (g m (by omega)) ?_;simp(disch:=omega)[wl];refine⟨?_,by simpa using c.2⟩;rw[<-c.1];by_cases O:m=0
  .rw[if_pos O,O];rfl
  rw[if_neg O,show m=1 by omega];rfl
 refine callM [(1000,61)] [] (S6 m m n ⟨by omega,l⟩) rfl rfl (by simp[gI,Vs.ren,ac,Ob.ren]) (by simp[iT,Vs.ren,ac,SV.ren]) rfl ?_
 have ht:List.take 1 (List.take 1 (is (AE m n))++List.replicate (m-1) [IV.int IntKind.i64 0])=is (AE 1 n):=by
  obtain⟨q,rfl⟩:∃q,m=q+1:=⟨m-1,by omega⟩;simp[is,AE,List.replicate_succ]
 simp(disch:=omega)[wl];rw[ht];refine aa (g 1 (by omega)) ?_;simp(disch:=omega)[wl];refine⟨?_,by simpa using c.2⟩;rw[<-c.1,if_neg (by omega)];rfl
theorem fn_Has(b:Mom)(r:Ru)(i o:List Mom)(n bud:Int)(j:FitS b r i o)(e:0<=r.f)(h:kC b r i o=0)(k:0<=n/\n<=315537897599)(l:0<=bud/\bud<=4000)(m:atM o n=false) :
  Fn G2 T_ 14 [wI b r i o,.int .i64 n,.int .i64 bud] (.tuple [.bool (UN b r i o n bud).1,.int .i64 (UN b r i o n bud).2]):=by
 refine ae hm Us (by simp) ?_;have g:=uS j;rw[h]at g;have d:=aaA b r i o n bud j e h k l m;unfold UN;obtain⟨⟨q,s,u⟩,p⟩:=A_ (WW b r i o n bud);rw[p]at d |-;simp only[aiL,wI,cells,List.cons_append,List.nil_append]at g d |-;simp[Mb,is_len,aJ,bP];refine aa g ?_;have e1:¬n<0:=by omega
 have e2:¬315537897599<n:=by omega
 simp(disch:=omega)[wl,e1,e2];refine aa d ?_;simp(disch:=omega)[wl,is_len]
end Go.Vs.Y.Vt
