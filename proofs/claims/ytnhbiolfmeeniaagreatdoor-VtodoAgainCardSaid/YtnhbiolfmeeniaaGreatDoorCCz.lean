/- A part of a proof. No conditions. -/
import Derived.Test.YtnhbiolfmeeniaaGreatDoorBWz
set_option linter.all false
set_option maxRecDepth 100000
set_option maxHeartbeats 64000000
namespace Go.Vs.Pa
open Go.Vs.U8
def mul(m:Str):Prop:=m≠[]/\(∀b∈m,128<=b.toNat)/\∀r,rr (m++r)=false/\gh (m++r)=m.length
end Go.Vs.Pa
namespace Go.Vs.Y
open Go.Proofs Go.Vs.U8 Go.Vs.Pa
def smV(v:List Str):Bool:=v.all fun x=>decide (x.length<=80)
def smP(p:Pm):Bool:=decide (p.n.length<=40)&&decide (p.v.length<=10)&&smV p.v
def zx(l:List Pm):Bool:=decide (l.length<=10)&&l.all smP
theorem VX{a:Type}{f:a->Bool}{l:List a}{i:Nat}{x:a}(h:i<l.length)(b:l[i]=x):(l.drop i).all f=(f x&&(l.drop (i+1)).all f):=by
 rw[List.drop_eq_getElem_cons h,b];rfl
theorem aci(l:List Pm):Fn G T_ 15 [.slice (ps l)] (.bool (zx l)):=by
 refine ae hm KC (by simp) ?_;simp[Bs,dk];by_cases v:10<l.length
 .have:zx l=false:=by simp[zx];omega
  simp(disch:=omega)[wl,this,dk]
 have o:zx l=l.all smP:=by
  have:l.length<=10:=by omega
  simp[zx,this]
 rw[o];simp(disch:=omega)[wl,dk];refine bx hm [] (fun i:Nat=>[(3,.val (.int .i64 i))]) (fun i=>[]) (fun i=>i<=l.length/\(l.drop i).all smP=l.all smP) (fun i=>l.length-i) 0 ⟨by omega,by simp⟩ ?_ ?_
 .simp;exact bA
 rintro i ⟨w,b⟩;simp[dk];by_cases h:i<l.length
 .obtain⟨p,j⟩:=A_ (l[i]);have c:=Gz h j;rw[VX h j]at b;have a:smP p=false->l.all smP=false:=fun e=>by rw[<-b,e];rfl
  by_cases y:40<p.n.length
  .have f:=a (by simp[smP];omega);simp(disch:=omega)[wl,dk,c,f]
  by_cases z:10<p.v.length
  .have f:=a (by simp[smP];omega);simp(disch:=omega)[wl,dk,bO,c,f]
  have q:smP p=smV p.v:=by
   have s:p.n.length<=40:=by omega
   have u:p.v.length<=10:=by omega
   simp[smP,s,u]
  rw[q]at b a;simp(disch:=omega)[wl,dk,bO,c];refine bx hm [] (fun k:Nat=>[(4,.val (.int .i64 k))]) (fun k=>[]) (fun k=>k<=p.v.length/\smV (p.v.drop k)=smV p.v) (fun k=>p.v.length-k) 0 ⟨by omega,by simp⟩ ?_ ?_
  .simp;exact bA
  rintro k ⟨A,d⟩;simp[dk];by_cases m:k<p.v.length
  .obtain⟨x,n⟩:=A_ (p.v[k]);have g:=xt m n;rw[smV,VX m n]at d;by_cases B:80<x.length
   .have:decide (x.length<=80)=false:=by simp;omega
    rw[this]at d;have f:=a (by rw[<-d];rfl);simp(disch:=omega)[wl,dk,bO,c,g,f]
   have:decide (x.length<=80)=true:=by simp;omega
   rw[this,Bool.true_and]at d;simp(disch:=omega)[wl,dk,bO,c,g];refine aj (k+1) ⟨by omega,d⟩ (by omega) ?_;simp;exact bA
  obtain rfl:k=p.v.length:=by omega
  have:smV p.v=true:=by rw[<-d];simp[smV]
  rw[this,Bool.true_and]at b;simp(disch:=omega)[wl,dk,bO,c];refine aj (i+1) ⟨by omega,b⟩ (by omega) ?_;simp;exact bA
 obtain rfl:i=l.length:=by omega
 have:l.all smP=true:=by rw[<-b];simp
 simp(disch:=omega)[wl,this]
theorem Ey{l:List Pm}{i:Nat}{p:Pm}(h:i<l.length)(a:l[i]=p):ps (l.take (i+1))=ps (l.take i)++[[.str p.n,.slice (ts p.v)]]:=by
 rw[List.take_succ_eq_append_getElem h,a,afl]
theorem ah5(l:List Pm)(q:l.length<100000)(o:Fit l):Fn G T_ 21 [.slice (ps l)] (.slice (ps l)):=by
 refine ae hm QG (by simp) ?_;simp[HE,dk];refine bx hm [] (fun i:Nat=>[(4,.val (.int .i64 i)),(3,.own 3 i)]) (fun i=>[(3,.arr i 2 (ps (l.take i)))]) (fun i=>i<=l.length) (fun i=>l.length-i) 0 (by omega) ?_ ?_
 .simp[ps];exact cJ.trans (fu (k:=3) 3 2 (by simp) (by simp[aE,ac])) (an rfl rfl (by simp[St.adopt,bj,aE,ac,put,dB,SV.erase]) (by simp[St.adopt,bZ,ac,put,cp,Ob.erase]) (by simp[St.adopt,bX]))
 intro i s;simp[dk];by_cases h:i<l.length
 .obtain⟨p,f⟩:=A_ (l[i]);have c:=Gz h f;have d:=Ey h f;have g:p∈l:=f▸List.getElem_mem h;have e:=o.v p g;cases m:p.v with
  |nil=>
   rw[m]at c d;have j:ps (l.take (i+1))=ps (l.take i)++[[.str p.n,.slice []]]:=d;simp(disch:=omega)[wl,dk,c,ts];refine⟨rfl,by omega,?_⟩;refine aj (i+1) (by omega) (by omega) ?_;simp[j];exact bA
  |cons x r=>
   have b:=bO (x::r);rw[m]at c d e;simp only[List.length_cons]at b e;have:ts (x::r)=[.str x]::ts r:=rfl;rw[this]at b c d;simp at b;simp(disch:=omega)[wl,dk,c,b];refine⟨⟨by omega,fun a n=>by simp[ts]at n;obtain⟨y,_,rfl⟩:=n;rfl⟩,rfl,by omega,?_⟩;refine aj (i+1) (by omega) (by omega) ?_;simp[d];exact bA
 obtain rfl:i=l.length:=by omega
 simp(disch:=omega)[wl]
theorem aaC(p:UInt8->Bool):∀x:Str,(∀i,i<run p x->∃c,x[i]?=some c/\p c=true)/\∀c,x[run p x]?=some c->p c=false
 |[]=>⟨fun i h=>by simp[run]at h,fun c h=>by simp at h⟩
 |d::r=>by
  obtain⟨e,f⟩:=aaC p r;simp only[run];split
  .next b=>
   refine⟨fun i g=>?_,fun c a=>f c (by simpa using a)⟩;cases i with
   |zero=>exact⟨d,rfl,b⟩
   |succ i=>simpa using e i (by omega)
  next b=>
  refine⟨fun i g=>by omega,fun c a=>?_⟩;simp at a;subst a;simpa using b
theorem ac6{p:UInt8->Bool} : ∀ {x:Str} {k:Nat},(∀i,i<k->∃c,x[i]?=some c/\p c=true)->(∀c,x[k]?=some c->p c=false)->run p x=k
 |[],k,b,_=>by
  cases k with
  |zero=>rfl
  |succ k=>obtain⟨c,a,_⟩:=b 0 (by omega);simp at a
 |d::r,0,_,e=>by
  have:=e d rfl;simp[run,this]
 |d::r,k+1,b,e=>by
  obtain⟨c,a,f⟩:=b 0 (by omega);simp at a;subst a;have:=ac6 (x:=r) (k:=k) (fun i g=>by simpa using b (i+1) (by omega)) (fun c a=>e c (by simpa using a));simp[run,f,this]
structure Ag(n:Nat)(s t:Str):Prop where
 eq:∀i,i<n->t[i]?=s[i]?
 ls:n<=s.length
 lt:n<=t.length
 es:s[n]?=none\/s[n]?=some 58
 et:t[n]?=none\/t[n]?=some 58
theorem Ag.of{n:Nat}{s t:Str}(h:Ag n s t){k:Nat}(g:k<=n){c:UInt8}(b:c.toNat≠58):t[k]?=some c↔s[k]?=some c:=by
 rcases Nat.lt_or_ge k n with d|d
 .rw[h.eq k d]
 obtain rfl:k=n:=by omega
 constructor
 .intro e;rcases h.et with a|a
  .rw[a]at e;cases e
  rw[a]at e;cases e;exact absurd rfl b
 intro e;rcases h.es with a|a
 .rw[a]at e;cases e
 rw[a]at e;cases e;exact absurd rfl b
theorem Ag.run{n:Nat}{s t:Str}(h:Ag n s t){p:UInt8->Bool}(C:p 58=false){a k:Nat}(E:run p (s.drop a)=k)(I:a+k<=n):Vs.Y.run p (t.drop a)=k:=by
 have:=aaC p (s.drop a);rw[E]at this;refine ac6 (fun i H=>?_) (fun c l=>?_)
 .obtain⟨c,q,B⟩:=this.1 i H;refine⟨c,?_,B⟩;rw[List.getElem?_drop]at q |-;rw[h.eq _ (by omega)];exact q
 rw[List.getElem?_drop]at l;rcases Nat.lt_or_ge (a+k) n with q|q
 .rw[h.eq _ q]at l;exact this.2 c (by rw[List.getElem?_drop];exact l)
 obtain e:a+k=n:=by omega
 rw[e]at l;rcases h.et with B|B
 .rw[B]at l;cases l
 rw[B]at l;cases l;exact C
theorem Ag.take{n:Nat}{s t:Str}(h:Ag n s t){a k:Nat}(g:a+k<=n):(t.drop a).take k=(s.drop a).take k:=by
 apply List.ext_getElem?;intro i;rw[List.getElem?_take,List.getElem?_take];split
 .rw[List.getElem?_drop,List.getElem?_drop,h.eq _ (by omega)]
 rfl
end Go.Vs.Y
namespace Go.Vs.Y
open Go.Proofs
def BE:VCode:=Q_ 2 [.K (cb false)] (.seq (C_ 4 5 [.m 0,.v,.i .gtr 30] (Q_ 2 [.K (cb false)] .ret) .skip) (.seq (Q_ 3 [.n 0] (.block 0 (.loop (.seq (C_ 7 9 [.m 3,.m 0,.v,.b .lss] .skip (.exit 0)) (.seq (.block 1 (C_ 13 36 [.m 0,.m 3,.x 3,.f 0,.l,.h,.i .gtr 40,.w,.m 0,.m 3,.x 3,.f 2,.l,.h,.i .gtr 250,.O,.w,.m 0,.m 3,.x 3,.f 1,.l,.c1 15,.u,.O] (Q_ 2 [.K (cb false)] .ret) .skip)) (X_ 11 12 [.m 3,.P 1,.a 3])))))) (Q_ 2 [.K (cb true)] .ret)))
theorem KU:FnOk T_ 4 BE [.tmp 2] 38:=fK_ Tryz.func4
def HM:VCode:=Q_ 2 [.K (.const .nils)] (Q_ 3 [.K (.const .nils)] (.seq (Q_ 4 [.n 0] (.block 0 (.loop (.seq (C_ 5 7 [.m 4,.m 0,.v,.b .lss] .skip (.exit 0)) (.seq (.block 1 (.region (D_ [.m 3,.m 0,.m 4,.x 3,.f 0,.l,.m 0,.m 4,.x 3,.f 1,.l,.c1 21,.m 0,.m 4,.x 3,.f 2,.l,.g (.build z_7 [(0,1,tm 16),(1,1,tm 22),(2,1,tm 27)]),.g (.buildSlice 3 1 z_7 [(0,3,tm 28)]),.g (.append 65 3 56 (tm 11) (tm 29)),.a 3] 11) (.drawn [(0,11),(1,11),(2,11),(3,11),(4,11),(5,11),(11,12),(11,13),(11,14),(11,15),(11,16),(0,18)] (wd [(11,[(0,10),(12,16)]),(18,[(0,17)]),(19,[(0,18)])])) [11,30])) (X_ 9 10 [.m 4,.P 1,.a 4])))))) (R_ 31 31 [.m 3,.a 2] .ret)))
theorem QQ:FnOk T_ 6 HM [.tmp 2] 32:=fK_ Tryz.func6
def Ez:VCode:=Q_ 1 [.X 0,.n 0] (.seq (C_ 4 6 [.F 0 1,.l,.c1 51,.u] (Q_ 2 [.n 4] .ret) .skip) (.seq (R_ 8 10 [.F 1 1,.l,.c1 52,.a 3] (C_ 11 11 [.m 3,.N 0] (R_ 13 13 [.m 3,.a 2] .ret) .skip)) (.seq (C_ 14 16 [.F 2 1,.l,.h,.i .gtr 200] (Q_ 2 [.n 5] .ret) .skip) (.seq (C_ 18 20 [.F 2 1,.l,.c1 53,.i .geq 0] (Q_ 2 [.n 10] .ret) .skip) (Q_ 2 [.n 0] .ret)))))
theorem Np:FnOk T_ 23 Ez [.tmp 2] 22:=fK_ Tryz.func23
def EB:VCode:=Q_ 4 [.n 0] (Q_ 5 [.n 0] (.seq (Q_ 8 [.m 0,.v,.n 0] (.block 0 (.loop (Q_ 11 [.g (.bin .lss (tm 10) (tm 9))] (.seq (c_ 11 .skip (.exit 0)) (.seq (.block 1 (R_ 12 13 [.g (.indexAddr 3 (tm 8) (tm 10)),.L 3,.Y 7 z_7,.s 3 7] (C_ 14 15 [.W 3 7,.m 1,.c2 54] (X_ 17 18 [.m 5,.P 1,.a 5]) .skip))) (X_ 19 19 [.g (.bin .add (tm 10) (ci 1)),.a 10]))))))) (R_ 20 20 [.m 5,.a 4] .ret)))
theorem Nq:FnOk T_ 25 EB [.tmp 4] 21:=fK_ Tryz.func25
def HO:VCode:=Q_ 4 [.K (.const .nils)] (Q_ 5 [.K (.const .nils)] (.seq (Q_ 8 [.m 0,.v,.n 0] (.block 0 (.loop (Q_ 11 [.g (.bin .lss (tm 10) (tm 9))] (.seq (c_ 11 .skip (.exit 0)) (.seq (.block 1 (R_ 12 13 [.g (.indexAddr 3 (tm 8) (tm 10)),.L 3,.Y 7 z_7,.s 3 7] (C_ 14 16 [.W 3 7,.m 1,.c2 54,.u] (X_ 18 22 [.m 5,.W 3 7,.c1 67,.g (.buildSlice 3 1 z_7 [(0,3,tm 20)]),.g (.append 65 3 56 (tm 18) (tm 21)),.a 5]) .skip))) (X_ 23 23 [.g (.bin .add (tm 10) (ci 1)),.a 10]))))))) (R_ 24 24 [.m 5,.a 4] .ret)))
theorem QR:FnOk T_ 34 HO [.tmp 4] 25:=fK_ Tryz.func34
def KV:VCode:=Q_ 4 [.Z z_7,.K (cb false)] (.seq (Q_ 8 [.m 0,.v,.n 0] (.block 0 (.loop (Q_ 11 [.g (.bin .lss (tm 10) (tm 9))] (.seq (c_ 11 .skip (.exit 0)) (.seq (.block 1 (R_ 12 13 [.g (.indexAddr 3 (tm 8) (tm 10)),.L 3,.Y 7 z_7,.s 3 7] (C_ 14 15 [.W 3 7,.m 1,.c2 54] (R_ 17 18 [.W 3 7,.c1 67,.s 3 4,.J 5 (cb true)] .ret) .skip))) (X_ 19 19 [.g (.bin .add (tm 10) (ci 1)),.a 10]))))))) (R_ 20 20 [.D z_7,.s 3 4,.J 5 (cb false)] .ret))
theorem Tw:FnOk T_ 36 KV [.cell 4 (some 3),.tmp 5] 21:=fK_ Tryz.func36
def KX:VCode:=Q_ 3 [.X 1,.K (.const .nils)] (Q_ 5 [.K (.const .nils)] (Q_ 6 [.K (cb false)] (.cut (.seq (Q_ 9 [.m 0,.v,.n 0] (.block 0 (.loop (Q_ 12 [.g (.bin .lss (tm 11) (tm 10))] (.seq (c_ 12 .skip (.exit 0)) (.cut (.seq (.block 1 (R_ 13 14 [.g (.indexAddr 3 (tm 9) (tm 11)),.L 3,.Y 8 z_7,.s 3 8] (.block 2 (R_ 16 20 [.W 3 8,.F 0 3,.l,.c2 54,.u,.a 15] (c_ 15 (X_ 21 25 [.m 5,.W 3 8,.c1 67,.g (.buildSlice 3 1 z_7 [(0,3,tm 23)]),.g (.append 65 3 56 (tm 21) (tm 24)),.a 5]) (R_ 27 28 [.m 6,.u,.a 26] (c_ 26 (R_ 29 33 [.m 5,.W 3 3,.c1 67,.g (.buildSlice 3 1 z_7 [(0,3,tm 31)]),.g (.append 65 3 56 (tm 29) (tm 32)),.a 5] (Y_ 6 [.K (cb true)])) .skip))))))) (X_ 34 34 [.g (.bin .add (tm 11) (ci 1)),.a 11])))))))) (.cut (.seq (C_ 35 35 [.m 6,.u] (X_ 37 41 [.m 5,.W 3 3,.c1 67,.g (.buildSlice 3 1 z_7 [(0,3,tm 39)]),.g (.append 65 3 56 (tm 37) (tm 40)),.a 5]) .skip) (R_ 42 42 [.m 5,.a 4] .ret)))))))
theorem Tx:FnOk T_ 37 KX [.tmp 4] 43:=fK_ Tryz.func37
def oF:VCode:=Q_ 2 [.X 0,.J 4 (cb false)] (R_ 5 8 [.F 0 2,.l,.m 1,.b .eql,.a 4] .ret)
theorem wA:FnOk T_ 54 oF [.tmp 4] 9:=fK_ Tryz.func54
def BG:VCode:=Q_ 1 [.X 0,.Z z_7] (R_ 6 10 [.F 0 1,.l,.F 2 1,.l,.g (.build z_7 [(0,1,tm 7),(2,1,tm 9)]),.Y 3 z_7,.s 3 3] (.cut (.seq (G_ 11 [.F 1 1,.l,.v,.n 0] [11,11] (.block 0 (.loop (Q_ 15 [.g (.bin .lss (tm 14) (tm 13))] (.seq (c_ 15 .skip (.exit 0)) (.seq (.block 1 (R_ 16 17 [.g (.indexAddr 2 (tm 12) (tm 14)),.L 2,.Y 5 z_8,.s 2 5] (.region (D_ [.F 1 3,.l,.F 0 5,.l,.F 1 5,.l,.c1 110,.g (.build z_8 [(0,1,tm 21),(1,1,tm 24)]),.g (.buildSlice 2 1 z_8 [(0,2,tm 25)]),.g (.append 92 2 40 (tm 19) (tm 26)),.F 1 3,.T 1 28 27] 18) (.drawn [(0,6),(1,6),(2,6),(3,6),(0,8),(1,8)] (wd [(6,[(0,5)]),(8,[(0,7)]),(9,[(0,8)])])) [18,28]))) (X_ 29 29 [.g (.bin .add (tm 14) (ci 1)),.a 14]))))))) (R_ 30 30 [.W 3 3,.s 3 2] .ret))))
theorem KZ:FnOk T_ 67 BG [.cell 2 (some 3)] 31:=fK_ Tryz.func67
open Go.Vs.U8 Go.Vs.Pa
structure Ln where
 n:Str
 p:List Pm
 v:Str
 deriving DecidableEq
def Ln.iv(x:Ln):IV:=.agg [.str x.n,.slice (ps x.p),.str x.v]
def ls(l:List Ln):List (List IV):=l.map fun x=>[.str x.n,.slice (ps x.p),.str x.v]
theorem bF(l:List Ln):(ls l).length=l.length:=by simp[ls]
theorem zz{d:List Ln}{i:Nat}{x:Ln}(h:i<d.length)(a:d[i]=x):(ls d)[i]?=some [.str x.n,.slice (ps x.p),.str x.v]:=by simp[ls,h,a]
theorem ED(l:List Ln)(x:Ln):ls (l++[x])=ls l++[[.str x.n,.slice (ps x.p),.str x.v]]:=by simp[ls]
structure FitX(x:Ln):Prop where
 n:x.n.length<100000
 p:x.p.length<100000
 f:Fit x.p
 v:x.v.length<100000
def ec(l:List Ln):Prop:=∀x∈l,FitX x
theorem Xt(x:Ln)(n:Str):Fn G T_ 54 [x.iv,.str n] (.bool (decide (x.n=n))):=by
 refine ae hm wA (by simp) ?_;simp[oF,Ln.iv]
theorem AP(x:Ln)(e:FitX x):Fn G T_ 67 [x.iv] x.iv:=by
 refine ae hm KZ (by simp) ?_;have l:=e.p;simp[BG,Ln.iv,dk];refine uF hm ?_;simp[dk];refine bx hm [] (fun i:Nat=>[(14,.val (.int .i64 i))]) (fun i=>if i=0 then [(3,.box [.val (.str x.n),.nils,.val (.str x.v)])]else [(3,.box [.val (.str x.n),.own 27 (i-1),.val (.str x.v)]),(27,.arr (i-1) 2 (ps (x.p.take i)))]) (fun i=>i<=x.p.length) (fun i=>x.p.length-i) 0 (by omega) ?_ ?_
 .simp;exact bA
 intro i m;simp[dk];by_cases h:i<x.p.length
 .obtain⟨p,a⟩:=A_ (x.p[i]);have f:=Gz h a;have g:=Ey h a;have j:=fn_Clone p.v (by have:=e.f.v p (a▸List.getElem_mem h);omega);cases i with
  |zero=>
   simp(disch:=omega)[wl,dk,f];refine aa j ?_;simp(disch:=omega)[wl];refine⟨rfl,?_⟩;refine aj 1 (by omega) (by omega) ?_;have b:ps (x.p.take 1)=[[.str p.n,.slice (ts p.v)]]:=by simpa[ps]using g
   simp[b];exact bA
  |succ i=>
   have c:(ps (x.p.take (i+1))).length=i+1:=by rw[dk,List.length_take];omega
   have e0:(0:Int)<=(i:Int)+1:=by omega
   have e1:((i:Int)+1).toNat=i+1:=by omega
   simp(disch:=omega)[wl,dk,f,e0,e1];refine aa j ?_;simp(disch:=omega)[wl,c];refine⟨by omega,rfl,?_⟩;refine aj (i+1+1) (by omega) (by omega) ?_;simp[g];exact bA
 obtain rfl:i=x.p.length:=by omega
 cases d:x.p.length with
 |zero=>
  have:x.p=[]:=List.length_eq_zero_iff.1 d;simp(disch:=omega)[wl,this,ps];simp[List.filter,this,ps]
 |succ k=>
  have:x.p.take (k+1)=x.p:=by rw[<-d,List.take_length]
  simp(disch:=omega)[wl,d,this];simp[List.filter]
def hasL(n:Str)(x:Ln):Bool:=decide (x.n=n)
def aO(l:List Ln)(n:Str):Nat:=(l.filter (hasL n)).length
def bH(l:List Ln)(n:Str):Option Ln:=l.find? (hasL n)
def dh(l:List Ln)(n:Str):List Ln:=l.filter fun x=>!hasL n x
def eX(x:Ln):List Ln->Bool->List Ln×Bool
 |[],d=>([],d)
 |y::r,d=>if hasL x.n y then (if d then eX x r d else (x::(eX x r true).1,(eX x r true).2))else (y::(eX x r d).1,(eX x r d).2)
def kB(l:List Ln)(x:Ln):List Ln:=if (eX x l false).2 then (eX x l false).1 else (eX x l false).1++[x]
def Ty:Option Ln->IV
 |some x=>.tuple [x.iv,.bool true]
 |none=>.tuple [(⟨[],[],[]⟩:Ln).iv,.bool false]
theorem acj{l:List Ln}{i:Nat}{x:Ln}{n:Str}(h:i<l.length)(a:l[i]=x):aO (l.take (i+1)) n=aO (l.take i) n+(if x.n=n then 1 else 0):=by
 rw[List.take_succ_eq_append_getElem h,a];by_cases e:x.n=n<;>simp[aO,hasL,e]
theorem ack(l:List Ln)(n:Str)(i:Nat):aO (l.take i) n<=i:=by
 have:=List.length_filter_le (hasL n) (l.take i);rw[List.length_take]at this;simp only[aO];omega
theorem ah6{l:List Ln}{i:Nat}{x:Ln}{n:Str}(h:i<l.length)(a:l[i]=x):bH (l.drop i) n=if x.n=n then some x else bH (l.drop (i+1)) n:=by
 rw[List.drop_eq_getElem_cons h,a];by_cases e:x.n=n<;>simp[bH,hasL,e]
theorem drop_at{l:List Ln}{i:Nat}{x:Ln}{n:Str}(h:i<l.length)(a:l[i]=x):dh (l.take (i+1)) n=dh (l.take i) n++(if x.n=n then []else [x]):=by
 rw[List.take_succ_eq_append_getElem h,a];by_cases e:x.n=n<;>simp[dh,hasL,e]
theorem acl(l:List Ln)(n:Str)(i:Nat):(dh (l.take i) n).length<=i:=by
 have:=List.length_filter_le (fun x=>!hasL n x) (l.take i);rw[List.length_take]at this;simp only[dh];omega
theorem GC(l:List Ln)(n:Str)(k:l.length<100000):Fn G T_ 25 [.slice (ls l),.str n] (.int .i64 (aO l n)):=by
 refine ae hm Nq (by simp) ?_;simp[EB,bF];refine bx hm [] (fun i:Nat=>[(10,.val (.int .i64 i)),(5,.val (.int .i64 (aO (l.take i) n)))]) (fun _=>[]) (fun i=>i<=l.length) (fun i=>l.length-i) 0 (by omega) ?_ ?_
 .simp[aO];exact bA
 intro i m;simp[bF];have g:=ack l n i;by_cases h:i<l.length
 .obtain⟨x,c⟩:=A_ (l[i]);have f:=zz h c;have b:=Xt x n;have a:=acj (n:=n) h c;simp only[Ln.iv]at b;by_cases e:x.n=n
  .rw[decide_eq_true e]at b;rw[if_pos e]at a;simp(disch:=omega)[wl,bF,f];refine aa b ?_;simp(disch:=omega)[wl];refine aj (i+1) (by omega) (by omega) ?_;simp[a];exact bA
  rw[decide_eq_false e]at b;rw[if_neg e]at a;simp(disch:=omega)[wl,bF,f];refine aa b ?_;simp(disch:=omega)[wl];refine aj (i+1) (by omega) (by omega) ?_;simp[a];exact bA
 obtain rfl:i=l.length:=by omega
 simp(disch:=omega)[wl]
theorem QS(l:List Ln)(n:Str)(k:l.length<100000)(j:ec l):Fn G T_ 36 [.slice (ls l),.str n] (Ty (bH l n)):=by
 refine ae hm Tw (by simp) ?_;simp[KV,bF];refine bx hm [] (fun i:Nat=>[(10,.val (.int .i64 i))]) (fun _=>[]) (fun i=>i<=l.length/\bH (l.drop i) n=bH l n) (fun i=>l.length-i) 0 ⟨by omega,by simp⟩ ?_ ?_
 .simp;exact bA
 rintro i ⟨m,a⟩;simp[bF];by_cases h:i<l.length
 .obtain⟨x,d⟩:=A_ (l[i]);have f:=zz h d;have b:=Xt x n;have g:=AP x (j x (d▸List.getElem_mem h));rw[ah6 h d]at a;simp only[Ln.iv]at b g;by_cases e:x.n=n
  .rw[decide_eq_true e]at b;rw[if_pos e]at a;rw[<-a];simp(disch:=omega)[wl,bF,f];refine aa b ?_;simp(disch:=omega)[wl];refine aa g ?_;simp(disch:=omega)[wl,Ty,Ln.iv]
  rw[decide_eq_false e]at b;rw[if_neg e]at a;simp(disch:=omega)[wl,bF,f];refine aa b ?_;simp(disch:=omega)[wl];refine aj (i+1) ⟨by omega,a⟩ (by omega) ?_;simp;exact bA
 obtain rfl:i=l.length:=by omega
 have:bH l n=none:=by rw[<-a,List.drop_length];rfl
 rw[this];simp(disch:=omega)[wl,Ty,Ln.iv,ps]
theorem wB(l:List Ln)(n:Str)(m:l.length<100000)(j:ec l):Fn G T_ 34 [.slice (ls l),.str n] (.slice (ls (dh l n))):=by
 refine ae hm QR (by simp) ?_;simp[HO,bF];refine bx hm [] (fun i:Nat=>[(10,.val (.int .i64 i)),(5,.own 5 (dh (l.take i) n).length)]) (fun i=>[(5,.arr (dh (l.take i) n).length 3 (ls (dh (l.take i) n)))]) (fun i=>i<=l.length) (fun i=>l.length-i) 0 (by omega) ?_ ?_
 .simp[dh,ls];exact cJ.trans (fu (k:=5) 5 3 (by simp) (by simp[aE,ac])) (an rfl rfl (by simp[St.adopt,bj,aE,ac,put,dB,SV.erase]) (by simp[St.adopt,bZ,ac,put,cp,Ob.erase]) (by simp[St.adopt,bX]))
 intro i o;simp[bF];have N7:=acl l n i;by_cases h:i<l.length
 .obtain⟨x,d⟩:=A_ (l[i]);have f:=zz h d;have b:=Xt x n;have g:=AP x (j x (d▸List.getElem_mem h));have a:=drop_at (n:=n) h d;simp only[Ln.iv]at b g;by_cases e:x.n=n
  .rw[decide_eq_true e]at b;rw[if_pos e,List.append_nil]at a;simp(disch:=omega)[wl,bF,f];refine aa b ?_;simp(disch:=omega)[wl];refine aj (i+1) (by omega) (by omega) ?_;simp[a];exact bA
  rw[decide_eq_false e]at b;rw[if_neg e]at a;simp(disch:=omega)[wl,bF,f];refine aa b ?_;simp(disch:=omega)[wl];refine aa g ?_;simp(disch:=omega)[wl,bF];refine⟨by omega,?_⟩;refine aj (i+1) (by omega) (by omega) ?_;simp[a,ED];exact bA
 obtain rfl:i=l.length:=by omega
 simp(disch:=omega)[wl]
theorem Df(x y:Ln):∀(l:List Ln) (d:Bool),eX x (l++[y]) d =
  if hasL x.n y then (if (eX x l d).2 then eX x l d else ((eX x l d).1++[x],true))else ((eX x l d).1++[y],(eX x l d).2)
 |[],d=>by cases h:hasL x.n y<;>cases d<;>simp[eX,h]
 |z::r,d=>by
  have a:=Df x y r d;have b:=Df x y r true;cases h:hasL x.n y<;>cases c:hasL x.n z<;>cases d<;>simp[eX,h,c]at a b |-<;>(try simp[a,b])<;>(try (split<;>simp_all))
theorem GD(x:Ln):∀(l:List Ln) (d:Bool),(eX x l d).1.length<=l.length
 |[],d=>by simp[eX]
 |z::r,d=>by
  have a:=GD x r d;have b:=GD x r true;cases c:hasL x.n z<;>cases d<;>simp[eX,c]<;>omega
theorem Je(l:List Ln)(x:Ln)(w:l.length<100000)(u:ec l)(v:FitX x):Fn G T_ 37 [.slice (ls l),x.iv] (.slice (ls (kB l x))):=by
 refine ae hm Tx (by simp) ?_;have d:=AP x v;simp only[Ln.iv]at d;simp[KX,bF,Ln.iv];refine uF hm ?_;simp[bF];refine bx hm [] (fun i:Nat=>[(11,.val (.int .i64 i)),(6,.val (.bool (eX x (l.take i) false).2)),(5,.own 5 (eX x (l.take i) false).1.length)]) (fun i=>[(5,.arr (eX x (l.take i) false).1.length 3 (ls (eX x (l.take i) false).1))]) (fun i=>i<=l.length) (fun i=>l.length-i) 0 (by omega) ?_ ?_
 .simp[eX,ls];exact cJ.trans (fu (k:=5) 5 3 (by simp) (by simp[aE,ac])) (an rfl rfl (by simp[St.adopt,bj,aE,ac,put,dB,SV.erase]) (by simp[St.adopt,bZ,ac,put,cp,Ob.erase]) (by simp[St.adopt,bX]))
 intro i z;simp[bF];have f:=GD x (l.take i) false;rw[List.length_take]at f;by_cases h:i<l.length
 .obtain⟨y,g⟩:=A_ (l[i]);have p:=zz h g;have q:=Xt y x.n;have s:=AP y (u y (g▸List.getElem_mem h));have a:=Df x y (l.take i) false;rw[<-g,<-List.take_succ_eq_append_getElem h,g]at a;simp only[Ln.iv]at q s;simp(disch:=omega)[wl,bF,p];refine uF hm ?_;simp[bF,p];refine aa q ?_;by_cases e:y.n=x.n
  .have j:hasL x.n y=true:=by simp[hasL,e]
   rw[if_pos j]at a;rw[decide_eq_true e];cases b:(eX x (l.take i) false).2 with
   |true=>
    rw[if_pos b]at a;simp(disch:=omega)[wl];refine aj (i+1) (by omega) (by omega) ?_;simp[a,b];exact bA
   |false=>
    rw[if_neg (by simp[b])]at a;simp(disch:=omega)[wl];refine aa d ?_;simp(disch:=omega)[wl,bF];refine⟨by omega,?_⟩;refine aj (i+1) (by omega) (by omega) ?_;simp[a,ED];exact bA
  have j:hasL x.n y=false:=by simp[hasL,e]
  rw[if_neg (by simp[j])]at a;rw[decide_eq_false e];simp(disch:=omega)[wl];refine aa s ?_;simp(disch:=omega)[wl,bF];refine⟨by omega,?_⟩;refine aj (i+1) (by omega) (by omega) ?_;simp[a,ED];exact bA
 have m:i=l.length:=by omega
 have n:l.take i=l:=by rw[m,List.take_length]
 rw[n]at f |-;cases b:(eX x l false).2 with
 |true=>
  have o:kB l x=(eX x l false).1:=by simp[kB,b]
  rw[o];simp(disch:=omega)[wl];refine uF hm ?_;simp(disch:=omega)[wl,b]
 |false=>
  have o:kB l x=(eX x l false).1++[x]:=by simp[kB,b]
  rw[o,ED];simp(disch:=omega)[wl];refine uF hm ?_;simp(disch:=omega)[wl,b];refine aa d ?_;simp(disch:=omega)[wl,bF]
  try omega
def gR(x:Ln):Int:=if rz x.n then (if je x.p=0 then (if 200<x.v.length then 5 else if (Hx x.v).isSome then 10 else 0)else je x.p)else 4
theorem Pi(x:Ln)(c:FitX x):Fn G T_ 23 [x.iv] (.int .i64 (gR x)):=by
 refine ae hm Np (by simp) ?_;simp[Ez,Ln.iv];refine aa (Xo x.n (by have:=c.n;omega)) ?_;cases a:rz x.n with
 |false=>simp(disch:=omega)[wl,gR,a]
 |true=>
  simp(disch:=omega)[wl];refine aa (Th x.p c.p c.f) ?_;by_cases b:je x.p=0
  .by_cases e:200<x.v.length
   .simp(disch:=omega)[wl,gR,a,b,e]
   simp(disch:=omega)[wl,b];refine aa (abY x.v (by have:=c.v;omega)) ?_;cases f:Hx x.v with
   |none=>simp[gR,a,b,e,f,T6]
   |some k=>simp[gR,a,b,e,f,T6]
  simp(disch:=omega)[wl,gR,a,b]
theorem Dg(x:Ln):gR x=0↔rz x.n=true/\je x.p=0/\x.v.length<=200/\Hx x.v=none:=by
 simp only[gR];constructor
 .intro h;split at h
  .next d=>
   split at h
   .next a=>
    split at h
    .cases h
    split at h
    .cases h
    next i f=>exact⟨d,a,by omega,by simpa using f⟩
   next a=>exact absurd h a
  cases h
 rintro⟨d,a,i,f⟩;rw[if_pos d,if_pos a,if_neg (by omega),f];rfl
theorem QT{l:List Ln}{i:Nat}{x:Ln}(h:i<l.length)(a:l[i]=x):ls (l.take (i+1))=ls (l.take i)++[[.str x.n,.slice (ps x.p),.str x.v]]:=by
 rw[List.take_succ_eq_append_getElem h,a,ED]
theorem afp(l:List Ln)(n:l.length<100000)(g:ec l):Fn G T_ 6 [.slice (ls l)] (.slice (ls l)):=by
 refine ae hm QQ (by simp) ?_;simp[HM,bF];refine bx hm [] (fun i:Nat=>[(4,.val (.int .i64 i)),(3,.own 3 i)]) (fun i=>[(3,.arr i 3 (ls (l.take i)))]) (fun i=>i<=l.length) (fun i=>l.length-i) 0 (by omega) ?_ ?_
 .simp[ls];exact cJ.trans (fu (k:=3) 3 3 (by simp) (by simp[aE,ac])) (an rfl rfl (by simp[St.adopt,bj,aE,ac,put,dB,SV.erase]) (by simp[St.adopt,bZ,ac,put,cp,Ob.erase]) (by simp[St.adopt,bX]))
 intro i o;simp[bF];by_cases h:i<l.length
 .obtain⟨x,b⟩:=A_ (l[i]);have d:=zz h b;have j:=QT h b;have e:=g x (b▸List.getElem_mem h);have m:=ah5 x.p e.p e.f;simp(disch:=omega)[wl,bF,d];refine aa m ?_;simp(disch:=omega)[wl,bF,d];refine⟨by omega,rfl,?_⟩;refine aj (i+1) (by omega) (by omega) ?_;simp[j];exact bA
 obtain rfl:i=l.length:=by omega
 simp(disch:=omega)[wl]
def Xu(x:Ln):Bool:=decide (x.n.length<=40)&&(decide (x.v.length<=250)&&zx x.p)
def vz(l:List Ln):Bool:=decide (l.length<=30)&&l.all Xu
theorem VY{l:List Ln}(h:vz l=true):l.length<=30/\ec l:=by
 simp only[vz,Bool.and_eq_true,decide_eq_true_eq,List.all_eq_true,Xu,zx,smP,smV]at h;refine⟨h.1,fun x e=>?_⟩;obtain⟨i,j,k,d⟩:=h.2 x e;exact⟨by omega,by omega,⟨fun p b=>by have:=(d p b).1.1;omega,fun p b=>by have:=(d p b).1.2;omega,fun p b s g=>by have:=(d p b).2 s g;omega⟩,by omega⟩
theorem Zr(l:List Ln):Fn G T_ 4 [.slice (ls l)] (.bool (vz l)):=by
 refine ae hm KU (by simp) ?_;simp[BE,bF];by_cases s:30<l.length
 .have:vz l=false:=by simp[vz];omega
  simp(disch:=omega)[wl,this,bF]
 have n:vz l=l.all Xu:=by
  have:l.length<=30:=by omega
  simp[vz,this]
 rw[n];simp(disch:=omega)[wl,bF];refine bx hm [] (fun i:Nat=>[(3,.val (.int .i64 i))]) (fun i=>[]) (fun i=>i<=l.length/\(l.drop i).all Xu=l.all Xu) (fun i=>l.length-i) 0 ⟨by omega,by simp⟩ ?_ ?_
 .simp;exact bA
 rintro i ⟨u,d⟩;simp[bF];by_cases h:i<l.length
 .obtain⟨x,k⟩:=A_ (l[i]);have j:=zz h k;have o:=aci x.p;rw[VX h k]at d;have b:Xu x=false->l.all Xu=false:=fun e=>by rw[<-d,e];rfl
  by_cases v:40<x.n.length
  .have g:=b (by simp[Xu];omega);simp(disch:=omega)[wl,bF,j,g]
   try rfl
  by_cases w:250<x.v.length
  .have g:=b (by simp[Xu];omega);simp(disch:=omega)[wl,bF,j,g]
   try rfl
  have p:decide (x.n.length<=40)=true:=by simp;omega
  have q:decide (x.v.length<=250)=true:=by simp;omega
  simp(disch:=omega)[wl,bF,j];refine aa o ?_;cases m:zx x.p with
  |false=>
   have g:=b (by simp only[Xu,m,Bool.and_false]);simp(disch:=omega)[wl,g]
   try rfl
  |true=>
   have:Xu x=true:=by simp only[Xu,m,p,q];rfl
   rw[this,Bool.true_and]at d;simp(disch:=omega)[wl,bF,j]
   try refine⟨rfl,?_⟩
   refine aj (i+1) ⟨by omega,d⟩ (by omega) ?_;simp;exact bA
 obtain rfl:i=l.length:=by omega
 have:l.all Xu=true:=by rw[<-d];simp
 simp(disch:=omega)[wl,this]
theorem sD(x:Ln):∀(l:List Ln) (d:Bool) (y:Ln),y∈(eX x l d).1->y=x\/y∈l
 |[],d,y,h=>by simp[eX]at h
 |z::r,d,y,h=>by
  cases a:hasL x.n z<;>cases d<;>simp[eX,a]at h
  .rcases h with rfl|h
   .exact .inr (by simp)
   rcases sD x r false y h with h|h
   .exact .inl h
   exact .inr (by simp[h])
  .rcases h with rfl|h
   .exact .inr (by simp)
   rcases sD x r true y h with h|h
   .exact .inl h
   exact .inr (by simp[h])
  .rcases h with rfl|h
   .exact .inl rfl
   rcases sD x r true y h with h|h
   .exact .inl h
   exact .inr (by simp[h])
  rcases sD x r true y h with h|h
  .exact .inl h
  exact .inr (by simp[h])
theorem afq{l:List Ln}{x:Ln}(h:ec l)(b:FitX x):ec (kB l x):=by
 intro y a;unfold kB at a;split at a
 .rcases sD x l false y a with rfl|a
  .exact b
  exact h y a
 rcases List.mem_append.1 a with a|a
 .rcases sD x l false y a with rfl|a
  .exact b
  exact h y a
 rw[List.mem_singleton.1 a];exact b
theorem AT(l:List Ln)(x:Ln):(kB l x).length<=l.length+1:=by
 have:=GD x l false;unfold kB;split
 .omega
 simp;omega
theorem tQ(l:List Ln)(n:Str):(dh l n).length<=l.length:=List.length_filter_le _ _
theorem Tz:∀ {rows:List (List IV)},(∀a∈rows,Sh .str a)->∃v,rows=ts v
 |[],_=>⟨[],rfl⟩
 |r::b,h=>by
  obtain⟨s,c,_⟩:=h r (by simp);obtain⟨v,d⟩:=Tz (rows:=b) (fun x e=>h x (by simp[e]));exact⟨s::v,by rw[c,d];rfl⟩
theorem M0:∀ {rows:List (List IV)},(∀e∈rows,Sh (.struct [.str,.slice .str]) e)->∃l,rows=ps l
 |[],_=>⟨[],rfl⟩
 |r::i,h=>by
  obtain⟨a,b,rfl,⟨s,rfl,_⟩,c,d,rfl,⟨f,rfl,_,j⟩,g⟩:=h r (by simp);have g:d=[]:=g;subst g;obtain⟨v,rfl⟩:=Tz j;obtain⟨l,k⟩:=M0 (rows:=i) (fun x m=>h x (by simp[m]));exact⟨⟨s,v⟩::l,by rw[k];rfl⟩
def scL:Sc:=.struct [.str,.slice (.struct [.str,.slice .str]),.str]
theorem agf:∀ {g:List IV},Sh scL g->∃x:Ln,g=[.str x.n,.slice (ps x.p),.str x.v]
 |r,h=>by
  obtain⟨a,b,rfl,⟨s,rfl,_⟩,c,d,rfl,⟨i,rfl,_,k⟩,e,f,rfl,⟨t,rfl,_⟩,j⟩:=h;have j:f=[]:=j;subst j;obtain⟨l,rfl⟩:=M0 k;exact⟨⟨s,l,t⟩,rfl⟩
theorem Um:∀ {rows:List (List IV)},(∀a∈rows,Sh scL a)->∃l,rows=ls l
 |[],_=>⟨[],rfl⟩
 |r::b,h=>by
  obtain⟨x,rfl⟩:=agf (h r (by simp));obtain⟨l,c⟩:=Um (rows:=b) (fun x d=>h x (by simp[d]));exact⟨x::l,by rw[c];rfl⟩
theorem drop_drop(l:List Ln)(n:Str):dh (dh l n) n=dh l n:=by
 simp only[dh];rw[List.filter_filter];congr 1;funext a;cases hasL n a<;>rfl
theorem drop_length(n:Str):∀l:List Ln,(dh l n).length+aO l n=l.length
 |[]=>rfl
 |y::r=>by
  have b:=drop_length n r;simp only[dh,aO]at b |-;cases e:hasL n y<;>simp[e]<;>omega
end Go.Vs.Y
