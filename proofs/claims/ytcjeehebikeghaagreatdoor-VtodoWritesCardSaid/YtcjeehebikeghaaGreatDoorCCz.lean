/- A part of a proof. No conditions. -/
import Derived.Test.YtcjeehebikeghaaGreatDoorBWz
set_option linter.unusedVariables false
set_option linter.unusedSimpArgs false
set_option maxRecDepth 100000
set_option maxHeartbeats 64000000
namespace Go.Vs.Pa
open Go.Vs.U8
def mul(m:Str):Prop:=m≠[]/\(∀b∈m,128<=b.toNat)/\∀r,mw (m++r)=false/\eF (m++r)=m.length
end Go.Vs.Pa
namespace Go.Vs.YtcjeehebikeghaaGreatDoor
open Go.Proofs Go.Vs.U8 Go.Vs.Pa
def smV(v:List Str):Bool:=v.all fun x=>decide (x.length<=80)
def Wr(p:Pm):Bool:=decide (p.n.length<=40)&&decide (p.v.length<=10)&&smV p.v
def wT(l:List Pm):Bool:=decide (l.length<=10)&&l.all Wr
theorem SE{a:Type}{f:a->Bool}{l:List a}{i:Nat}{x:a}(h:i<l.length)(b:l[i]=x):(l.drop i).all f=(f x&&(l.drop (i+1)).all f):=by
 rw[List.drop_eq_getElem_cons h,b];rfl
theorem Y4(l:List Pm):Fn G T_ 34 [.slice (ps l)] (.bool (wT l)):=by
 refine ae hm Ih (by simp) ?_;simp[z7,bW];by_cases v:10<l.length
 ·have:wT l=false:=by simp[wT];omega
  simp(disch:=omega)[wl,this,bW]
 ·have o:wT l=l.all Wr:=by
   have:l.length<=10:=by omega
   simp[wT,this]
  rw[o];simp(disch:=omega)[wl,bW];refine be hm [] (fun i:Nat=>[(3,.val (.int .i64 i))]) (fun i=>[]) (fun i=>i<=l.length/\(l.drop i).all Wr=l.all Wr) (fun i=>l.length-i) 0 ⟨by omega,by simp⟩ ?_ ?_
  ·simp;exact bp
  rintro i ⟨w,b⟩;simp[bW];by_cases h:i<l.length
  ·obtain⟨p,j⟩:∃p,l[i]=p:=⟨_,rfl⟩;have c:=qf h j;rw[SE h j]at b;have a:Wr p=false->l.all Wr=false:=fun e=>by rw[<-b,e];rfl
   by_cases y:40<p.n.length
   ·have f:=a (by simp[Wr];omega);simp(disch:=omega)[wl,bW,c,f]
   ·by_cases z:10<p.v.length
    ·have f:=a (by simp[Wr];omega);simp(disch:=omega)[wl,bW,aQ,c,f]
    ·have q:Wr p=smV p.v:=by
      have s:p.n.length<=40:=by omega
      have u:p.v.length<=10:=by omega
      simp[Wr,s,u]
     rw[q]at b a;simp(disch:=omega)[wl,bW,aQ,c];refine be hm [] (fun k:Nat=>[(4,.val (.int .i64 k))]) (fun k=>[]) (fun k=>k<=p.v.length/\smV (p.v.drop k)=smV p.v) (fun k=>p.v.length-k) 0 ⟨by omega,by simp⟩ ?_ ?_
     ·simp;exact bp
     rintro k ⟨A,d⟩;simp[bW];by_cases m:k<p.v.length
     ·obtain⟨x,n⟩:∃x,p.v[k]=x:=⟨_,rfl⟩;have g:=kM m n;rw[smV,SE m n]at d;by_cases B:80<x.length
      ·have:decide (x.length<=80)=false:=by simp;omega
       rw[this]at d;have f:=a (by rw[<-d];rfl);simp(disch:=omega)[wl,bW,aQ,c,g,f]
      ·have:decide (x.length<=80)=true:=by simp;omega
       rw[this,Bool.true_and]at d;simp(disch:=omega)[wl,bW,aQ,c,g];refine ai (k+1) ⟨by omega,d⟩ (by omega) ?_;simp;exact bp
     ·obtain rfl:k=p.v.length:=by omega
      have:smV p.v=true:=by rw[<-d];simp[smV]
      rw[this,Bool.true_and]at b;simp(disch:=omega)[wl,bW,aQ,c];refine ai (i+1) ⟨by omega,b⟩ (by omega) ?_;simp;exact bp
  ·obtain rfl:i=l.length:=by omega
   have:l.all Wr=true:=by rw[<-b];simp
   simp(disch:=omega)[wl,this]
theorem uH{l:List Pm}{i:Nat}{p:Pm}(h:i<l.length)(a:l[i]=p):ps (l.take (i+1))=ps (l.take i)++[[.str p.n,.slice (ts p.v)]]:=by
 rw[List.take_succ_eq_append_getElem h,a,aaN]
theorem fn_Back(l:List Pm)(e:l.length<100000):Fn G T_ 72 [.slice (ps l)] (.slice (ps l)):=by
 refine ae hm Kq (by simp) ?_;simp[C4,bW];refine be hm [] (fun i:Nat=>[(4,.val (.int .i64 i)),(3,.own 3 i)]) (fun i=>[(3,.arr i 2 (ps (l.take i)))]) (fun i=>i<=l.length) (fun i=>l.length-i) 0 (by omega) ?_ ?_
 ·simp[ps];exact cH.trans (ct (k:=3) 3 2 (by simp) (by simp[ap,ac])) (ag rfl rfl (by simp[St.adopt,aI,ap,ac,put,cS,SV.erase]) (by simp[St.adopt,bD,ac,put,ck,Ob.erase]) (by simp[St.adopt,bB]))
 intro i f;simp[bW];by_cases h:i<l.length
 ·obtain⟨p,a⟩:∃p,l[i]=p:=⟨_,rfl⟩;have c:=qf h a;have d:=uH h a;have b:(ps (l.take i)).length<=100000:=by rw[bW,List.length_take];omega
  simp(disch:=omega)[wl,bW,c];refine⟨by omega,rfl,?_⟩;refine ai (i+1) (by omega) (by omega) ?_;simp[d];exact bp
 ·obtain rfl:i=l.length:=by omega
  simp(disch:=omega)[wl]
theorem ac5(l:List Pm)(q:l.length<100000)(o:Fit l):Fn G T_ 44 [.slice (ps l)] (.slice (ps l)):=by
 refine ae hm NM (by simp) ?_;simp[Fr,bW];refine be hm [] (fun i:Nat=>[(4,.val (.int .i64 i)),(3,.own 3 i)]) (fun i=>[(3,.arr i 2 (ps (l.take i)))]) (fun i=>i<=l.length) (fun i=>l.length-i) 0 (by omega) ?_ ?_
 ·simp[ps];exact cH.trans (ct (k:=3) 3 2 (by simp) (by simp[ap,ac])) (ag rfl rfl (by simp[St.adopt,aI,ap,ac,put,cS,SV.erase]) (by simp[St.adopt,bD,ac,put,ck,Ob.erase]) (by simp[St.adopt,bB]))
 intro i s;simp[bW];by_cases h:i<l.length
 ·obtain⟨p,f⟩:∃p,l[i]=p:=⟨_,rfl⟩;have c:=qf h f;have d:=uH h f;have g:p∈l:=f▸List.getElem_mem h;have e:=o.v p g;cases m:p.v with
  |nil=>
   rw[m]at c d;have j:ps (l.take (i+1))=ps (l.take i)++[[.str p.n,.slice []]]:=d;simp(disch:=omega)[wl,bW,c,ts];refine⟨rfl,by omega,?_⟩;refine ai (i+1) (by omega) (by omega) ?_;simp[j];exact bp
  |cons x r=>
   have b:=aQ (x::r);rw[m]at c d e;simp only[List.length_cons]at b e;have:ts (x::r)=[.str x]::ts r:=rfl;rw[this]at b c d;simp at b;simp(disch:=omega)[wl,bW,c,b];refine⟨⟨by omega,fun a n=>by simp[ts]at n;obtain⟨y,_,rfl⟩:=n;rfl⟩,rfl,by omega,?_⟩;refine ai (i+1) (by omega) (by omega) ?_;simp[d];exact bp
 ·obtain rfl:i=l.length:=by omega
  simp(disch:=omega)[wl]
theorem Qx(p:UInt8->Bool):∀x:Str,(∀i,i<run p x->∃c,x[i]?=some c/\p c=true)/\∀c,x[run p x]?=some c->p c=false
 |[]=>⟨fun i h=>by simp[run]at h,fun c h=>by simp at h⟩
 |d::r=>by
  obtain⟨e,f⟩:=Qx p r;simp only[run];split
  ·next b=>
   refine⟨fun i g=>?_,fun c a=>f c (by simpa using a)⟩;cases i with
   |zero=>exact⟨d,rfl,b⟩
   |succ i=>simpa using e i (by omega)
  ·next b=>
   refine⟨fun i g=>by omega,fun c a=>?_⟩;simp at a;subst a;simpa using b
theorem Y5{p:UInt8->Bool} : ∀ {x:Str} {k:Nat},(∀i,i<k->∃c,x[i]?=some c/\p c=true)->(∀c,x[k]?=some c->p c=false)->run p x=k
 |[],k,b,_=>by
  cases k with
  |zero=>rfl
  |succ k=>obtain⟨c,a,_⟩:=b 0 (by omega);simp at a
 |d::r,0,_,e=>by
  have:=e d rfl;simp[run,this]
 |d::r,k+1,b,e=>by
  obtain⟨c,a,f⟩:=b 0 (by omega);simp at a;subst a;have:=Y5 (x:=r) (k:=k) (fun i g=>by simpa using b (i+1) (by omega)) (fun c a=>e c (by simpa using a));simp[run,f,this]
structure Ag(n:Nat)(s t:Str):Prop where
 eq:∀i,i<n->t[i]?=s[i]?
 ls:n<=s.length
 lt:n<=t.length
 es:s[n]?=none\/s[n]?=some 58
 et:t[n]?=none\/t[n]?=some 58
theorem Ag.of{n:Nat}{s t:Str}(h:Ag n s t){k:Nat}(f:k<=n){c:UInt8}(b:c.toNat≠58):t[k]?=some c↔s[k]?=some c:=by
 rcases Nat.lt_or_ge k n with d|d
 ·rw[h.eq k d]
 ·obtain rfl:k=n:=by omega
  constructor
  ·intro e;rcases h.et with a|a
   ·rw[a]at e;cases e
   ·rw[a]at e;cases e;exact absurd rfl b
  ·intro e;rcases h.es with a|a
   ·rw[a]at e;cases e
   ·rw[a]at e;cases e;exact absurd rfl b
theorem Ag.run{n:Nat}{s t:Str}(h:Ag n s t){p:UInt8->Bool}(C:p 58=false){a k:Nat}(E:run p (s.drop a)=k)(I:a+k<=n):Vs.YtcjeehebikeghaaGreatDoor.run p (t.drop a)=k:=by
 have:=Qx p (s.drop a);rw[E]at this;refine Y5 (fun i H=>?_) (fun c l=>?_)
 ·obtain⟨c,q,B⟩:=this.1 i H;refine⟨c,?_,B⟩;rw[List.getElem?_drop]at q |-;rw[h.eq _ (by omega)];exact q
 ·rw[List.getElem?_drop]at l;rcases Nat.lt_or_ge (a+k) n with q|q
  ·rw[h.eq _ q]at l;exact this.2 c (by rw[List.getElem?_drop];exact l)
  ·obtain e:a+k=n:=by omega
   rw[e]at l;rcases h.et with B|B
   ·rw[B]at l;cases l
   ·rw[B]at l;cases l;exact C
theorem Ag.take{n:Nat}{s t:Str}(h:Ag n s t){a k:Nat}(g:a+k<=n):(t.drop a).take k=(s.drop a).take k:=by
 apply List.ext_getElem?;intro i;rw[List.getElem?_take,List.getElem?_take];split
 ·rw[List.getElem?_drop,List.getElem?_drop,h.eq _ (by omega)]
 ·rfl
end Go.Vs.YtcjeehebikeghaaGreatDoor
namespace Go.Vs.YtcjeehebikeghaaGreatDoor
open Go.Proofs
def zo:VCode:=Q_ 2 [.K (cb false)] (.seq (C_ 4 5 [.m 0,.v,.i .gtr 30] (Q_ 2 [.K (cb false)] .ret) .skip) (.seq (Q_ 3 [.n 0] (.block 0 (.loop (.seq (C_ 7 9 [.m 3,.m 0,.v,.b .lss] .skip (.exit 0)) (.seq (.block 1 (C_ 13 36 [.m 0,.m 3,.x 3,.f 0,.l,.h,.i .gtr 40,.w,.m 0,.m 3,.x 3,.f 2,.l,.h,.i .gtr 250,.O,.w,.m 0,.m 3,.x 3,.f 1,.l,.c1 34,.u,.O] (Q_ 2 [.K (cb false)] .ret) .skip)) (X_ 11 12 [.m 3,.P 1,.a 3])))))) (Q_ 2 [.K (cb true)] .ret)))
theorem IA:FnOk T_ 8 zo [.tmp 2] 38:=fK_ Tryz.func8
def FH:VCode:=Q_ 2 [.K (.const .nils)] (Q_ 3 [.K (.const .nils)] (.seq (Q_ 4 [.n 0] (.block 0 (.loop (.seq (C_ 5 7 [.m 4,.m 0,.v,.b .lss] .skip (.exit 0)) (.seq (.block 1 (.region (D_ [.m 3,.m 0,.m 4,.x 3,.f 0,.l,.m 0,.m 4,.x 3,.f 1,.l,.c1 44,.m 0,.m 4,.x 3,.f 2,.l,.g (.build z_3 [(0,1,tm 16),(1,1,tm 22),(2,1,tm 27)]),.g (.buildSlice 3 1 z_3 [(0,3,tm 28)]),.g (.append 77 3 56 (tm 11) (tm 29)),.a 3] 11) (.drawn [(0,11),(1,11),(2,11),(3,11),(4,11),(5,11),(11,12),(11,13),(11,14),(11,15),(11,16),(0,18)] (wo [(11,[(0,10),(12,16)]),(18,[(0,17)]),(19,[(0,18)])])) [11,30])) (X_ 9 10 [.m 4,.P 1,.a 4])))))) (R_ 31 31 [.m 3,.a 2] .ret)))
theorem O0:FnOk T_ 11 FH [.tmp 2] 32:=fK_ Tryz.func11
def aez:VCode:=Q_ 4 [.K (cb false)] (.seq (C_ 6 9 [.m 0,.v,.m 1,.v,.b .neq] (Q_ 4 [.K (cb false)] .ret) .skip) (.seq (Q_ 5 [.n 0] (.block 0 (.loop (.seq (C_ 11 13 [.m 5,.m 0,.v,.b .lss] .skip (.exit 0)) (.seq (.block 1 (.seq (.region (D_ [.m 0,.m 5,.x 3,.f 0,.l,.m 1,.m 5,.x 3,.f 0,.l,.b .neq,.w,.m 0,.m 5,.x 3,.f 2,.l,.m 1,.m 5,.x 3,.f 2,.l,.b .neq,.O,.w,.m 0,.m 5,.x 3,.f 1,.l,.m 1,.m 5,.x 3,.f 1,.l,.c2 71,.u,.O] 17) (.drawn [] (wo [(35,[(0,34)])])) [17,53]) (c_ 54 (Q_ 4 [.K (cb false)] .ret) .skip))) (X_ 15 16 [.m 5,.P 1,.a 5])))))) (Q_ 4 [.K (cb true)] .ret)))
theorem afS:FnOk T_ 26 aez [.tmp 4] 55:=fK_ Tryz.func26
def aeB:VCode:=Q_ 2 [.K (.const .nils)] (Q_ 3 [.K (.const .nils)] (.seq (Q_ 4 [.n 0] (.block 0 (.loop (.seq (C_ 5 7 [.m 4,.m 0,.v,.b .lss] .skip (.exit 0)) (.seq (.block 1 (.region (D_ [.m 3,.m 0,.m 4,.x 3,.f 0,.l,.m 0,.m 4,.x 3,.f 1,.l,.c1 72,.m 0,.m 4,.x 3,.f 2,.l,.g (.build z_3 [(0,1,tm 16),(1,1,tm 22),(2,1,tm 27)]),.g (.buildSlice 3 1 z_3 [(0,3,tm 28)]),.g (.append 88 3 56 (tm 11) (tm 29)),.a 3] 11) (.drawn [(0,11),(1,11),(2,11),(3,11),(4,11),(5,11),(11,12),(11,13),(11,14),(11,15),(11,16),(0,18)] (wo [(11,[(0,10),(12,16)]),(18,[(0,17)]),(19,[(0,18)])])) [11,30])) (X_ 9 10 [.m 4,.P 1,.a 4])))))) (R_ 31 31 [.m 3,.a 2] .ret)))
theorem afT:FnOk T_ 27 aeB [.tmp 2] 32:=fK_ Tryz.func27
def Cy:VCode:=Q_ 4 [.n 0] (Q_ 5 [.n 0] (.seq (Q_ 8 [.m 0,.v,.n 0] (.block 0 (.loop (Q_ 11 [.g (.bin .lss (tm 10) (tm 9))] (.seq (c_ 11 .skip (.exit 0)) (.seq (.block 1 (R_ 12 13 [.g (.indexAddr 3 (tm 8) (tm 10)),.L 3,.Y 7 z_3,.s 3 7] (C_ 14 15 [.W 3 7,.m 1,.c2 78] (X_ 17 18 [.m 5,.P 1,.a 5]) .skip))) (X_ 19 19 [.g (.bin .add (tm 10) (ci 1)),.a 10]))))))) (R_ 20 20 [.m 5,.a 4] .ret)))
theorem KC:FnOk T_ 29 Cy [.tmp 4] 21:=fK_ Tryz.func29
def FJ:VCode:=Q_ 4 [.K (.const .nils)] (Q_ 5 [.K (.const .nils)] (.seq (Q_ 8 [.m 0,.v,.n 0] (.block 0 (.loop (Q_ 11 [.g (.bin .lss (tm 10) (tm 9))] (.seq (c_ 11 .skip (.exit 0)) (.seq (.block 1 (R_ 12 13 [.g (.indexAddr 3 (tm 8) (tm 10)),.L 3,.Y 7 z_3,.s 3 7] (C_ 14 16 [.W 3 7,.m 1,.c2 78,.u] (X_ 18 22 [.m 5,.W 3 7,.c1 81,.g (.buildSlice 3 1 z_3 [(0,3,tm 20)]),.g (.append 77 3 56 (tm 18) (tm 21)),.a 5]) .skip))) (X_ 23 23 [.g (.bin .add (tm 10) (ci 1)),.a 10]))))))) (R_ 24 24 [.m 5,.a 4] .ret)))
theorem O1:FnOk T_ 32 FJ [.tmp 4] 25:=fK_ Tryz.func32
def CA:VCode:=Q_ 1 [.X 0,.n 0] (.seq (C_ 4 6 [.F 0 1,.l,.c1 91,.u] (Q_ 2 [.n 4] .ret) .skip) (.seq (R_ 8 10 [.F 1 1,.l,.c1 92,.a 3] (C_ 11 11 [.m 3,.N 0] (R_ 13 13 [.m 3,.a 2] .ret) .skip)) (.seq (C_ 14 16 [.F 2 1,.l,.h,.i .gtr 200] (Q_ 2 [.n 5] .ret) .skip) (.seq (C_ 18 20 [.F 2 1,.l,.c1 93,.i .geq 0] (Q_ 2 [.n 10] .ret) .skip) (Q_ 2 [.n 0] .ret)))))
theorem KD:FnOk T_ 40 CA [.tmp 2] 22:=fK_ Tryz.func40
def zq:VCode:=Q_ 1 [.X 0,.n 0] (.seq (C_ 4 6 [.F 0 1,.l,.c1 98,.u] (Q_ 2 [.n 4] .ret) .skip) (.seq (R_ 8 10 [.F 1 1,.l,.c1 99,.a 3] (C_ 11 11 [.m 3,.N 0] (R_ 13 13 [.m 3,.a 2] .ret) .skip)) (.seq (C_ 14 16 [.F 2 1,.l,.h,.i .gtr 200] (Q_ 2 [.n 5] .ret) .skip) (.seq (C_ 18 20 [.F 2 1,.l,.c1 100,.N (-1)] (Q_ 2 [.n 10] .ret) .skip) (Q_ 2 [.n 0] .ret)))))
theorem IB:FnOk T_ 46 zq [.tmp 2] 22:=fK_ Tryz.func46
def zt:VCode:=Q_ 4 [.n 0] (Q_ 5 [.n 0] (.seq (Q_ 6 [.n 0] (.block 0 (.loop (.seq (C_ 7 9 [.m 6,.m 0,.v,.b .lss] .skip (.exit 0)) (.seq (.block 1 (C_ 13 18 [.m 0,.m 6,.x 3,.f 0,.l,.m 1,.b .eql] (X_ 20 21 [.m 5,.P 1,.a 5]) .skip)) (X_ 11 12 [.m 6,.P 1,.a 6])))))) (R_ 22 22 [.m 5,.a 4] .ret)))
theorem IC:FnOk T_ 49 zt [.tmp 4] 23:=fK_ Tryz.func49
def ID:VCode:=Q_ 3 [.X 1,.K (.const .nils)] (Q_ 5 [.K (.const .nils)] (Q_ 6 [.K (cb false)] (.cut (.seq (Q_ 9 [.m 0,.v,.n 0] (.block 0 (.loop (Q_ 12 [.g (.bin .lss (tm 11) (tm 10))] (.seq (c_ 12 .skip (.exit 0)) (.cut (.seq (.block 1 (R_ 13 14 [.g (.indexAddr 3 (tm 9) (tm 11)),.L 3,.Y 8 z_3,.s 3 8] (.block 2 (R_ 16 20 [.W 3 8,.F 0 3,.l,.c2 78,.u,.a 15] (c_ 15 (X_ 21 25 [.m 5,.W 3 8,.c1 81,.g (.buildSlice 3 1 z_3 [(0,3,tm 23)]),.g (.append 77 3 56 (tm 21) (tm 24)),.a 5]) (R_ 27 28 [.m 6,.u,.a 26] (c_ 26 (R_ 29 33 [.m 5,.W 3 3,.c1 81,.g (.buildSlice 3 1 z_3 [(0,3,tm 31)]),.g (.append 77 3 56 (tm 29) (tm 32)),.a 5] (Y_ 6 [.K (cb true)])) .skip))))))) (X_ 34 34 [.g (.bin .add (tm 11) (ci 1)),.a 11])))))))) (.cut (.seq (C_ 35 35 [.m 6,.u] (X_ 37 41 [.m 5,.W 3 3,.c1 81,.g (.buildSlice 3 1 z_3 [(0,3,tm 39)]),.g (.append 77 3 56 (tm 37) (tm 40)),.a 5]) .skip) (R_ 42 42 [.m 5,.a 4] .ret)))))))
theorem Qy:FnOk T_ 67 ID [.tmp 4] 43:=fK_ Tryz.func67
def aeE:VCode:=Q_ 4 [.K (.const .nils)] (Q_ 5 [.K (.const .nils)] (.seq (Q_ 6 [.n 0] (.block 0 (.loop (.seq (C_ 7 9 [.m 6,.m 0,.v,.b .lss] .skip (.exit 0)) (.seq (.block 1 (C_ 13 18 [.m 0,.m 6,.x 3,.f 0,.l,.m 1,.b .neq] (X_ 20 26 [.m 5,.m 0,.m 6,.x 3,.L 3,.g (.buildSlice 3 1 z_3 [(0,3,tm 24)]),.g (.append 88 3 56 (tm 20) (tm 25)),.a 5]) .skip)) (X_ 11 12 [.m 6,.P 1,.a 6])))))) (R_ 27 27 [.m 5,.a 4] .ret)))
theorem afU:FnOk T_ 69 aeE [.tmp 4] 28:=fK_ Tryz.func69
def ae2:VCode:=Q_ 3 [.X 1,.K (.const .nils)] (Q_ 5 [.K (.const .nils)] (Q_ 6 [.K (cb false)] (.cut (.seq (Q_ 7 [.n 0] (.block 0 (.loop (.seq (C_ 8 10 [.m 7,.m 0,.v,.b .lss] .skip (.exit 0)) (.cut (.seq (.block 1 (.seq (.region (D_ [.m 0,.m 7,.x 3,.f 0,.l,.F 0 3,.l,.b .neq] 14) .calm [14,20]) (c_ 21 (X_ 22 28 [.m 5,.m 0,.m 7,.x 3,.L 3,.g (.buildSlice 3 1 z_3 [(0,3,tm 26)]),.g (.append 88 3 56 (tm 22) (tm 27)),.a 5]) (C_ 29 29 [.m 6,.u] (R_ 31 34 [.m 5,.W 3 3,.g (.buildSlice 3 1 z_3 [(0,3,tm 32)]),.g (.append 88 3 56 (tm 31) (tm 33)),.a 5] (Y_ 6 [.K (cb true)])) .skip)))) (X_ 12 13 [.m 7,.P 1,.a 7]))))))) (.cut (.seq (C_ 35 35 [.m 6,.u] (X_ 37 40 [.m 5,.W 3 3,.g (.buildSlice 3 1 z_3 [(0,3,tm 38)]),.g (.append 88 3 56 (tm 37) (tm 39)),.a 5]) .skip) (R_ 41 41 [.m 5,.a 4] .ret)))))))
theorem af0:FnOk T_ 70 ae2 [.tmp 4] 42:=fK_ Tryz.func70
def lQ:VCode:=Q_ 2 [.X 0,.J 4 (cb false)] (R_ 5 8 [.F 0 2,.l,.m 1,.b .eql,.a 4] .ret)
theorem tH:FnOk T_ 78 lQ [.tmp 4] 9:=fK_ Tryz.func78
def zw:VCode:=Q_ 1 [.X 0,.Z z_3] (R_ 6 10 [.F 0 1,.l,.F 2 1,.l,.g (.build z_3 [(0,1,tm 7),(2,1,tm 9)]),.Y 3 z_3,.s 3 3] (.cut (.seq (G_ 11 [.F 1 1,.l,.v,.n 0] [11,11] (.block 0 (.loop (Q_ 15 [.g (.bin .lss (tm 14) (tm 13))] (.seq (c_ 15 .skip (.exit 0)) (.seq (.block 1 (R_ 16 17 [.g (.indexAddr 2 (tm 12) (tm 14)),.L 2,.Y 5 z_6,.s 2 5] (.region (D_ [.F 1 3,.l,.F 0 5,.l,.F 1 5,.l,.c1 130,.g (.build z_6 [(0,1,tm 21),(1,1,tm 24)]),.g (.buildSlice 2 1 z_6 [(0,2,tm 25)]),.g (.append 154 2 40 (tm 19) (tm 26)),.F 1 3,.T 1 28 27] 18) (.drawn [(0,6),(1,6),(2,6),(3,6),(0,8),(1,8)] (wo [(6,[(0,5)]),(8,[(0,7)]),(9,[(0,8)])])) [18,28]))) (X_ 29 29 [.g (.bin .add (tm 14) (ci 1)),.a 14]))))))) (R_ 30 30 [.W 3 3,.s 3 2] .ret))))
theorem IF:FnOk T_ 81 zw [.cell 2 (some 3)] 31:=fK_ Tryz.func81
def IG:VCode:=Q_ 4 [.Z z_3,.K (cb false)] (.seq (Q_ 8 [.m 0,.v,.n 0] (.block 0 (.loop (Q_ 11 [.g (.bin .lss (tm 10) (tm 9))] (.seq (c_ 11 .skip (.exit 0)) (.seq (.block 1 (R_ 12 13 [.g (.indexAddr 3 (tm 8) (tm 10)),.L 3,.Y 7 z_3,.s 3 7] (C_ 14 15 [.W 3 7,.m 1,.c2 78] (R_ 17 18 [.W 3 7,.c1 81,.s 3 4,.J 5 (cb true)] .ret) .skip))) (X_ 19 19 [.g (.bin .add (tm 10) (ci 1)),.a 10]))))))) (R_ 20 20 [.D z_3,.s 3 4,.J 5 (cb false)] .ret))
theorem Qz:FnOk T_ 89 IG [.cell 4 (some 3),.tmp 5] 21:=fK_ Tryz.func89
def ae6:VCode:=Q_ 4 [.Z z_3,.K (cb false)] (.seq (Q_ 6 [.n 0] (.block 0 (.loop (.seq (C_ 7 9 [.m 6,.m 0,.v,.b .lss] .skip (.exit 0)) (.seq (.block 1 (C_ 13 18 [.m 0,.m 6,.x 3,.f 0,.l,.m 1,.b .eql] (R_ 20 23 [.m 0,.m 6,.x 3,.L 3,.s 3 4,.J 5 (cb true)] .ret) .skip)) (X_ 11 12 [.m 6,.P 1,.a 6])))))) (R_ 24 24 [.D z_3,.s 3 4,.J 5 (cb false)] .ret))
theorem af1:FnOk T_ 182 ae6 [.cell 4 (some 3),.tmp 5] 25:=fK_ Tryz.func182
open Go.Vs.U8 Go.Vs.Pa
structure Ln where
 n:Str
 p:List Pm
 v:Str
 deriving DecidableEq
def Ln.iv(x:Ln):IV:=.agg [.str x.n,.slice (ps x.p),.str x.v]
def ls(l:List Ln):List (List IV):=l.map fun x=>[.str x.n,.slice (ps x.p),.str x.v]
theorem bv(l:List Ln):(ls l).length=l.length:=by simp[ls]
theorem sf{d:List Ln}{i:Nat}{x:Ln}(h:i<d.length)(a:d[i]=x):(ls d)[i]?=some [.str x.n,.slice (ps x.p),.str x.v]:=by simp[ls,h,a]
theorem CC(l:List Ln)(x:Ln):ls (l++[x])=ls l++[[.str x.n,.slice (ps x.p),.str x.v]]:=by simp[ls]
structure FitX(x:Ln):Prop where
 n:x.n.length<100000
 p:x.p.length<100000
 f:Fit x.p
 v:x.v.length<100000
def kl(l:List Ln):Prop:=∀x∈l,FitX x
theorem TW(x:Ln)(n:Str):Fn G T_ 78 [x.iv,.str n] (.bool (decide (x.n=n))):=by
 refine ae hm tH (by simp) ?_;simp[lQ,Ln.iv]
theorem adO(a b:List Ln)(H:a.length<1000000)(I:b.length<1000000)(D:kl a)(E:kl b):Fn G T_ 26 [.slice (ls a),.slice (ls b)] (.bool (decide (a=b))):=by
 refine ae hm afS (by simp) ?_;simp[aez,bv];by_cases n:a.length=b.length
 ·simp(disch:=omega)[wl,bv,n];refine be hm [] (fun i:Nat=>[(5,.val (.int .i64 i))]) (fun i=>[]) (fun i=>i<=a.length/\a.take i=b.take i) (fun i=>a.length-i) 0 ⟨by omega,by simp⟩ ?_ ?_
  ·simp;exact bp
  rintro i ⟨J,v⟩;simp[bv];by_cases h:i<a.length
  ·have w:i<b.length:=by omega
   obtain⟨x,o⟩:∃x,a[i]=x:=⟨_,rfl⟩;obtain⟨y,p⟩:∃y,b[i]=y:=⟨_,rfl⟩;have q:=sf h o;have s:=sf w p;have z:=D x (o▸List.getElem_mem h);have A:=E y (p▸List.getElem_mem w);have C:=agi x.p y.p (by have:=z.p;omega) (by have:=A.p;omega) z.f A.f
   have j:x=y↔x.n=y.n/\x.v=y.v/\x.p=y.p:=by
    obtain⟨a,b,c⟩:=x;obtain⟨d,e,f⟩:=y;simp only[Ln.mk.injEq];exact⟨fun h=>⟨h.1,h.2.2,h.2.1⟩,fun h=>⟨h.1,h.2.2,h.2.1⟩⟩
   have ne:¬x=y->¬a=b:=fun e k=>e (by subst k;rw[<-o,<-p])
   by_cases l:x.n=y.n
   ·by_cases m:x.v=y.v
    ·by_cases u:x.p=y.p
     ·have F:=adH h w v (by rw[o,p];exact j.2 ⟨l,m,u⟩);simp(disch:=omega)[wl,bv,q,s,l,m];refine aa C ?_;simp(disch:=omega)[wl,u];refine⟨rfl,?_⟩;refine ai (i+1) ⟨by omega,F⟩ (by omega) ?_;simp;exact bp
     ·have g:=ne (fun e=>u (j.1 e).2.2);simp(disch:=omega)[wl,bv,q,s,l,m];refine aa C ?_;simp(disch:=omega)[wl,u,g]
      try rfl
    ·have g:=ne (fun e=>m (j.1 e).2.1);simp(disch:=omega)[wl,bv,q,s,l,m,g]
     try rfl
   ·have g:=ne (fun e=>l (j.1 e).1);simp(disch:=omega)[wl,bv,q,s,l,g]
    try rfl
  ·obtain rfl:i=a.length:=by omega
   have:a=b:=by rw[List.take_length,n,List.take_length]at v;exact v
   simp(disch:=omega)[wl,this]
 ·have g:¬a=b:=fun k=>n (by rw[k])
  simp(disch:=omega)[wl,bv,n,g]
theorem yg(x:Ln)(e:FitX x):Fn G T_ 81 [x.iv] x.iv:=by
 refine ae hm IF (by simp) ?_;have l:=e.p;simp[zw,Ln.iv,bW];refine nu hm ?_;simp[bW];refine be hm [] (fun i:Nat=>[(14,.val (.int .i64 i))]) (fun i=>if i=0 then [(3,.box [.val (.str x.n),.nils,.val (.str x.v)])]else [(3,.box [.val (.str x.n),.own 27 (i-1),.val (.str x.v)]),(27,.arr (i-1) 2 (ps (x.p.take i)))]) (fun i=>i<=x.p.length) (fun i=>x.p.length-i) 0 (by omega) ?_ ?_
 ·simp;exact bp
 intro i m;simp[bW];by_cases h:i<x.p.length
 ·obtain⟨p,a⟩:∃p,x.p[i]=p:=⟨_,rfl⟩;have f:=qf h a;have g:=uH h a;have j:=fn_Clone p.v (by have:=e.f.v p (a▸List.getElem_mem h);omega);cases i with
  |zero=>
   simp(disch:=omega)[wl,bW,f];refine aa j ?_;simp(disch:=omega)[wl];refine⟨rfl,?_⟩;refine ai 1 (by omega) (by omega) ?_;have b:ps (x.p.take 1)=[[.str p.n,.slice (ts p.v)]]:=by simpa[ps]using g
   simp[b];exact bp
  |succ i=>
   have c:(ps (x.p.take (i+1))).length=i+1:=by rw[bW,List.length_take];omega
   have e0:(0:Int)<=(i:Int)+1:=by omega
   have e1:((i:Int)+1).toNat=i+1:=by omega
   simp(disch:=omega)[wl,bW,f,e0,e1];refine aa j ?_;simp(disch:=omega)[wl,c];refine⟨by omega,rfl,?_⟩;refine ai (i+1+1) (by omega) (by omega) ?_;simp[g];exact bp
 ·obtain rfl:i=x.p.length:=by omega
  cases d:x.p.length with
  |zero=>
   have:x.p=[]:=List.length_eq_zero_iff.1 d;simp(disch:=omega)[wl,this,ps];simp[List.filter,this,ps]
  |succ k=>
   have:x.p.take (k+1)=x.p:=by rw[<-d,List.take_length]
   simp(disch:=omega)[wl,d,this];simp[List.filter]
def km(n:Str)(x:Ln):Bool:=decide (x.n=n)
def bG(l:List Ln)(n:Str):Nat:=(l.filter (km n)).length
def qQ(l:List Ln)(n:Str):Option Ln:=l.find? (km n)
def fL(l:List Ln)(n:Str):List Ln:=l.filter fun x=>!km n x
def eH(x:Ln):List Ln->Bool->List Ln×Bool
 |[],d=>([],d)
 |y::r,d=>if km x.n y then (if d then eH x r d else (x::(eH x r true).1,(eH x r true).2))else (y::(eH x r d).1,(eH x r d).2)
def tI(l:List Ln)(x:Ln):List Ln:=if (eH x l false).2 then (eH x l false).1 else (eH x l false).1++[x]
def Vw:Option Ln->IV
 |some x=>.tuple [x.iv,.bool true]
 |none=>.tuple [(⟨[],[],[]⟩:Ln).iv,.bool false]
theorem QA{l:List Ln}{i:Nat}{x:Ln}{n:Str}(h:i<l.length)(a:l[i]=x):bG (l.take (i+1)) n=bG (l.take i) n+(if x.n=n then 1 else 0):=by
 rw[List.take_succ_eq_append_getElem h,a];by_cases e:x.n=n<;>simp[bG,km,e]
theorem QB(l:List Ln)(n:Str)(i:Nat):bG (l.take i) n<=i:=by
 have:=List.length_filter_le (km n) (l.take i);rw[List.length_take]at this;simp only[bG];omega
theorem ac6{l:List Ln}{i:Nat}{x:Ln}{n:Str}(h:i<l.length)(a:l[i]=x):qQ (l.drop i) n=if x.n=n then some x else qQ (l.drop (i+1)) n:=by
 rw[List.drop_eq_getElem_cons h,a];by_cases e:x.n=n<;>simp[qQ,km,e]
theorem drop_at{l:List Ln}{i:Nat}{x:Ln}{n:Str}(h:i<l.length)(a:l[i]=x):fL (l.take (i+1)) n=fL (l.take i) n++(if x.n=n then []else [x]):=by
 rw[List.take_succ_eq_append_getElem h,a];by_cases e:x.n=n<;>simp[fL,km,e]
theorem Y6(l:List Ln)(n:Str)(i:Nat):(fL (l.take i) n).length<=i:=by
 have:=List.length_filter_le (fun x=>!km n x) (l.take i);rw[List.length_take]at this;simp only[fL];omega
theorem EA(l:List Ln)(n:Str)(k:l.length<100000):Fn G T_ 29 [.slice (ls l),.str n] (.int .i64 (bG l n)):=by
 refine ae hm KC (by simp) ?_;simp[Cy,bv];refine be hm [] (fun i:Nat=>[(10,.val (.int .i64 i)),(5,.val (.int .i64 (bG (l.take i) n)))]) (fun _=>[]) (fun i=>i<=l.length) (fun i=>l.length-i) 0 (by omega) ?_ ?_
 ·simp[bG];exact bp
 intro i m;simp[bv];have g:=QB l n i;by_cases h:i<l.length
 ·obtain⟨x,c⟩:∃x,l[i]=x:=⟨_,rfl⟩;have f:=sf h c;have b:=TW x n;have a:=QA (n:=n) h c;simp only[Ln.iv]at b;by_cases e:x.n=n
  ·rw[decide_eq_true e]at b;rw[if_pos e]at a;simp(disch:=omega)[wl,bv,f];refine aa b ?_;simp(disch:=omega)[wl];refine ai (i+1) (by omega) (by omega) ?_;simp[a];exact bp
  ·rw[decide_eq_false e]at b;rw[if_neg e]at a;simp(disch:=omega)[wl,bv,f];refine aa b ?_;simp(disch:=omega)[wl];refine ai (i+1) (by omega) (by omega) ?_;simp[a];exact bp
 ·obtain rfl:i=l.length:=by omega
  simp(disch:=omega)[wl]
theorem Bb(l:List Ln)(n:Str)(g:l.length<100000):Fn G T_ 49 [.slice (ls l),.str n] (.int .i64 (bG l n)):=by
 refine ae hm IC (by simp) ?_;simp[zt,bv];refine be hm [] (fun i:Nat=>[(6,.val (.int .i64 i)),(5,.val (.int .i64 (bG (l.take i) n)))]) (fun _=>[]) (fun i=>i<=l.length) (fun i=>l.length-i) 0 (by omega) ?_ ?_
 ·simp[bG];exact bp
 intro i k;simp[bv];have f:=QB l n i;by_cases h:i<l.length
 ·obtain⟨x,b⟩:∃x,l[i]=x:=⟨_,rfl⟩;have c:=sf h b;have a:=QA (n:=n) h b;by_cases e:x.n=n
  ·rw[if_pos e]at a;simp(disch:=omega)[wl,bv,c,e];refine ai (i+1) (by omega) (by omega) ?_;simp[a];exact bp
  ·rw[if_neg e]at a;simp(disch:=omega)[wl,bv,c,e];refine ai (i+1) (by omega) (by omega) ?_;simp[a];exact bp
 ·obtain rfl:i=l.length:=by omega
  simp(disch:=omega)[wl]
theorem TX(l:List Ln)(n:Str)(j:l.length<100000)(g:kl l):Fn G T_ 89 [.slice (ls l),.str n] (Vw (qQ l n)):=by
 refine ae hm Qz (by simp) ?_;simp[IG,bv];refine be hm [] (fun i:Nat=>[(10,.val (.int .i64 i))]) (fun _=>[]) (fun i=>i<=l.length/\qQ (l.drop i) n=qQ l n) (fun i=>l.length-i) 0 ⟨by omega,by simp⟩ ?_ ?_
 ·simp;exact bp
 rintro i ⟨k,a⟩;simp[bv];by_cases h:i<l.length
 ·obtain⟨x,c⟩:∃x,l[i]=x:=⟨_,rfl⟩;have d:=sf h c;have b:=TW x n;have f:=yg x (g x (c▸List.getElem_mem h));rw[ac6 h c]at a;simp only[Ln.iv]at b f;by_cases e:x.n=n
  ·rw[decide_eq_true e]at b;rw[if_pos e]at a;rw[<-a];simp(disch:=omega)[wl,bv,d];refine aa b ?_;simp(disch:=omega)[wl];refine aa f ?_;simp(disch:=omega)[wl,Vw,Ln.iv]
  ·rw[decide_eq_false e]at b;rw[if_neg e]at a;simp(disch:=omega)[wl,bv,d];refine aa b ?_;simp(disch:=omega)[wl];refine ai (i+1) ⟨by omega,a⟩ (by omega) ?_;simp;exact bp
 ·obtain rfl:i=l.length:=by omega
  have:qQ l n=none:=by rw[<-a,List.drop_length];rfl
  rw[this];simp(disch:=omega)[wl,Vw,Ln.iv,ps]
theorem agl(l:List Ln)(n:Str)(d:l.length<100000):Fn G T_ 182 [.slice (ls l),.str n] (Vw (qQ l n)):=by
 refine ae hm af1 (by simp) ?_;simp[ae6,bv];refine be hm [] (fun i:Nat=>[(6,.val (.int .i64 i))]) (fun _=>[]) (fun i=>i<=l.length/\qQ (l.drop i) n=qQ l n) (fun i=>l.length-i) 0 ⟨by omega,by simp⟩ ?_ ?_
 ·simp;exact bp
 rintro i ⟨f,a⟩;simp[bv];by_cases h:i<l.length
 ·obtain⟨x,b⟩:∃x,l[i]=x:=⟨_,rfl⟩;have c:=sf h b;rw[ac6 h b]at a;by_cases e:x.n=n
  ·rw[if_pos e]at a;rw[<-a];simp(disch:=omega)[wl,bv,c,e,Vw,Ln.iv]
  ·rw[if_neg e]at a;simp(disch:=omega)[wl,bv,c,e];refine ai (i+1) ⟨by omega,a⟩ (by omega) ?_;simp;exact bp
 ·obtain rfl:i=l.length:=by omega
  have:qQ l n=none:=by rw[<-a,List.drop_length];rfl
  rw[this];simp(disch:=omega)[wl,Vw,Ln.iv,ps]
theorem II(l:List Ln)(n:Str)(j:l.length<100000)(g:kl l):Fn G T_ 32 [.slice (ls l),.str n] (.slice (ls (fL l n))):=by
 refine ae hm O1 (by simp) ?_;simp[FJ,bv];refine be hm [] (fun i:Nat=>[(10,.val (.int .i64 i)),(5,.own 5 (fL (l.take i) n).length)]) (fun i=>[(5,.arr (fL (l.take i) n).length 3 (ls (fL (l.take i) n)))]) (fun i=>i<=l.length) (fun i=>l.length-i) 0 (by omega) ?_ ?_
 ·simp[fL,ls];exact cH.trans (ct (k:=5) 5 3 (by simp) (by simp[ap,ac])) (ag rfl rfl (by simp[St.adopt,aI,ap,ac,put,cS,SV.erase]) (by simp[St.adopt,bD,ac,put,ck,Ob.erase]) (by simp[St.adopt,bB]))
 intro i m;simp[bv];have Ef:=Y6 l n i;by_cases h:i<l.length
 ·obtain⟨x,c⟩:∃x,l[i]=x:=⟨_,rfl⟩;have d:=sf h c;have b:=TW x n;have f:=yg x (g x (c▸List.getElem_mem h));have a:=drop_at (n:=n) h c;simp only[Ln.iv]at b f;by_cases e:x.n=n
  ·rw[decide_eq_true e]at b;rw[if_pos e,List.append_nil]at a;simp(disch:=omega)[wl,bv,d];refine aa b ?_;simp(disch:=omega)[wl];refine ai (i+1) (by omega) (by omega) ?_;simp[a];exact bp
  ·rw[decide_eq_false e]at b;rw[if_neg e]at a;simp(disch:=omega)[wl,bv,d];refine aa b ?_;simp(disch:=omega)[wl];refine aa f ?_;simp(disch:=omega)[wl,bv];refine⟨by omega,?_⟩;refine ai (i+1) (by omega) (by omega) ?_;simp[a,CC];exact bp
 ·obtain rfl:i=l.length:=by omega
  simp(disch:=omega)[wl]
theorem afY(l:List Ln)(n:Str)(d:l.length<100000):Fn G T_ 69 [.slice (ls l),.str n] (.slice (ls (fL l n))):=by
 refine ae hm afU (by simp) ?_;simp[aeE,bv];refine be hm [] (fun i:Nat=>[(6,.val (.int .i64 i)),(5,.own 5 (fL (l.take i) n).length)]) (fun i=>[(5,.arr (fL (l.take i) n).length 3 (ls (fL (l.take i) n)))]) (fun i=>i<=l.length) (fun i=>l.length-i) 0 (by omega) ?_ ?_
 ·simp[fL,ls];exact cH.trans (ct (k:=5) 5 3 (by simp) (by simp[ap,ac])) (ag rfl rfl (by simp[St.adopt,aI,ap,ac,put,cS,SV.erase]) (by simp[St.adopt,bD,ac,put,ck,Ob.erase]) (by simp[St.adopt,bB]))
 intro i f;simp[bv];have Ef:=Y6 l n i;by_cases h:i<l.length
 ·obtain⟨x,b⟩:∃x,l[i]=x:=⟨_,rfl⟩;have c:=sf h b;have a:=drop_at (n:=n) h b;by_cases e:x.n=n
  ·rw[if_pos e,List.append_nil]at a;simp(disch:=omega)[wl,bv,c,e];refine ai (i+1) (by omega) (by omega) ?_;simp[a];exact bp
  ·rw[if_neg e]at a;simp(disch:=omega)[wl,bv,c,e];refine⟨by omega,?_⟩;refine ai (i+1) (by omega) (by omega) ?_;simp[a,CC];exact bp
 ·obtain rfl:i=l.length:=by omega
  simp(disch:=omega)[wl]
theorem Bc(x y:Ln):∀(l:List Ln) (d:Bool),eH x (l++[y]) d =
  if km x.n y then (if (eH x l d).2 then eH x l d else ((eH x l d).1++[x],true))else ((eH x l d).1++[y],(eH x l d).2)
 |[],d=>by cases h:km x.n y<;>cases d<;>simp[eH,h]
 |z::r,d=>by
  have a:=Bc x y r d;have b:=Bc x y r true;cases h:km x.n y<;>cases c:km x.n z<;>cases d<;>simp[eH,h,c]at a b |-<;>(try simp[a,b])<;>(try (split<;>simp_all))
theorem yh(x:Ln):∀(l:List Ln) (d:Bool),(eH x l d).1.length<=l.length
 |[],d=>by simp[eH]
 |z::r,d=>by
  have a:=yh x r d;have b:=yh x r true;cases c:km x.n z<;>cases d<;>simp[eH,c]<;>omega
theorem O2(l:List Ln)(x:Ln)(v:l.length<100000)(s:kl l)(u:FitX x):Fn G T_ 67 [.slice (ls l),x.iv] (.slice (ls (tI l x))):=by
 refine ae hm Qy (by simp) ?_;have c:=yg x u;simp only[Ln.iv]at c;simp[ID,bv,Ln.iv];refine nu hm ?_;simp[bv];refine be hm [] (fun i:Nat=>[(11,.val (.int .i64 i)),(6,.val (.bool (eH x (l.take i) false).2)),(5,.own 5 (eH x (l.take i) false).1.length)]) (fun i=>[(5,.arr (eH x (l.take i) false).1.length 3 (ls (eH x (l.take i) false).1))]) (fun i=>i<=l.length) (fun i=>l.length-i) 0 (by omega) ?_ ?_
 ·simp[eH,ls];exact cH.trans (ct (k:=5) 5 3 (by simp) (by simp[ap,ac])) (ag rfl rfl (by simp[St.adopt,aI,ap,ac,put,cS,SV.erase]) (by simp[St.adopt,bD,ac,put,ck,Ob.erase]) (by simp[St.adopt,bB]))
 intro i w;simp[bv];have d:=yh x (l.take i) false;rw[List.length_take]at d;by_cases h:i<l.length
 ·obtain⟨y,f⟩:∃y,l[i]=y:=⟨_,rfl⟩;have o:=sf h f;have p:=TW y x.n;have q:=yg y (s y (f▸List.getElem_mem h));have a:=Bc x y (l.take i) false;rw[<-f,<-List.take_succ_eq_append_getElem h,f]at a;simp only[Ln.iv]at p q;simp(disch:=omega)[wl,bv,o];refine nu hm ?_;simp[bv,o];refine aa p ?_;by_cases e:y.n=x.n
  ·have g:km x.n y=true:=by simp[km,e]
   rw[if_pos g]at a;rw[decide_eq_true e];cases b:(eH x (l.take i) false).2 with
   |true=>
    rw[if_pos b]at a;simp(disch:=omega)[wl];refine ai (i+1) (by omega) (by omega) ?_;simp[a,b];exact bp
   |false=>
    rw[if_neg (by simp[b])]at a;simp(disch:=omega)[wl];refine aa c ?_;simp(disch:=omega)[wl,bv];refine⟨by omega,?_⟩;refine ai (i+1) (by omega) (by omega) ?_;simp[a,CC];exact bp
  ·have g:km x.n y=false:=by simp[km,e]
   rw[if_neg (by simp[g])]at a;rw[decide_eq_false e];simp(disch:=omega)[wl];refine aa q ?_;simp(disch:=omega)[wl,bv];refine⟨by omega,?_⟩;refine ai (i+1) (by omega) (by omega) ?_;simp[a,CC];exact bp
 ·have j:i=l.length:=by omega
  have m:l.take i=l:=by rw[j,List.take_length]
  rw[m]at d |-;cases b:(eH x l false).2 with
  |true=>
   have n:tI l x=(eH x l false).1:=by simp[tI,b]
   rw[n];simp(disch:=omega)[wl];refine nu hm ?_;simp(disch:=omega)[wl,b]
  |false=>
   have n:tI l x=(eH x l false).1++[x]:=by simp[tI,b]
   rw[n,CC];simp(disch:=omega)[wl];refine nu hm ?_;simp(disch:=omega)[wl,b];refine aa c ?_;simp(disch:=omega)[wl,bv]
   try omega
theorem af5(l:List Ln)(x:Ln)(o:l.length<100000):Fn G T_ 70 [.slice (ls l),x.iv] (.slice (ls (tI l x))):=by
 refine ae hm af0 (by simp) ?_;simp[ae2,bv,Ln.iv];refine nu hm ?_;simp[bv];refine be hm [] (fun i:Nat=>[(7,.val (.int .i64 i)),(6,.val (.bool (eH x (l.take i) false).2)),(5,.own 5 (eH x (l.take i) false).1.length)]) (fun i=>[(5,.arr (eH x (l.take i) false).1.length 3 (ls (eH x (l.take i) false).1))]) (fun i=>i<=l.length) (fun i=>l.length-i) 0 (by omega) ?_ ?_
 ·simp[eH,ls];exact cH.trans (ct (k:=5) 5 3 (by simp) (by simp[ap,ac])) (ag rfl rfl (by simp[St.adopt,aI,ap,ac,put,cS,SV.erase]) (by simp[St.adopt,bD,ac,put,ck,Ob.erase]) (by simp[St.adopt,bB]))
 intro i p;simp[bv];have c:=yh x (l.take i) false;rw[List.length_take]at c;by_cases h:i<l.length
 ·obtain⟨y,f⟩:∃y,l[i]=y:=⟨_,rfl⟩;have d:=sf h f;have a:=Bc x y (l.take i) false;rw[<-f,<-List.take_succ_eq_append_getElem h,f]at a;simp(disch:=omega)[wl,bv,d];refine nu hm ?_;by_cases e:y.n=x.n
  ·have g:km x.n y=true:=by simp[km,e]
   rw[if_pos g]at a;cases b:(eH x (l.take i) false).2 with
   |true=>
    rw[if_pos b]at a;simp(disch:=omega)[wl,bv,d,e];refine ai (i+1) (by omega) (by omega) ?_;simp[a,b];exact bp
   |false=>
    rw[if_neg (by simp[b])]at a;simp(disch:=omega)[wl,bv,d,e];refine⟨by omega,?_⟩;refine ai (i+1) (by omega) (by omega) ?_;simp[a,CC];exact bp
  ·have g:km x.n y=false:=by simp[km,e]
   rw[if_neg (by simp[g])]at a;simp(disch:=omega)[wl,bv,d,e];refine⟨by omega,?_⟩;refine ai (i+1) (by omega) (by omega) ?_;simp[a,CC];exact bp
 ·have j:i=l.length:=by omega
  have m:l.take i=l:=by rw[j,List.take_length]
  rw[m]at c |-;cases b:(eH x l false).2 with
  |true=>
   have n:tI l x=(eH x l false).1:=by simp[tI,b]
   rw[n];simp(disch:=omega)[wl];refine nu hm ?_;simp(disch:=omega)[wl,b]
  |false=>
   have n:tI l x=(eH x l false).1++[x]:=by simp[tI,b]
   rw[n,CC];simp(disch:=omega)[wl];refine nu hm ?_;simp(disch:=omega)[wl,b,bv]
   try omega
def gS(x:Ln):Int:=if iE x.n then (if iF x.p=0 then (if 200<x.v.length then 5 else if (yB x.v).isSome then 10 else 0)else iF x.p)else 4
theorem MB(x:Ln)(c:FitX x):Fn G T_ 40 [x.iv] (.int .i64 (gS x)):=by
 refine ae hm KD (by simp) ?_;simp[CA,Ln.iv];refine aa (TM x.n (by have:=c.n;omega)) ?_;cases a:iE x.n with
 |false=>simp(disch:=omega)[wl,gS,a]
 |true=>
  simp(disch:=omega)[wl];refine aa (Qo x.p c.p c.f) ?_;by_cases b:iF x.p=0
  ·by_cases e:200<x.v.length
   ·simp(disch:=omega)[wl,gS,a,b,e]
   ·simp(disch:=omega)[wl,b];refine aa (XQ x.v (by have:=c.v;omega)) ?_;cases f:yB x.v with
    |none=>simp[gS,a,b,e,f,ww]
    |some k=>simp[gS,a,b,e,f,ww]
  ·simp(disch:=omega)[wl,gS,a,b]
theorem SF(x:Ln)(c:FitX x):Fn G T_ 46 [x.iv] (.int .i64 (gS x)):=by
 refine ae hm IB (by simp) ?_;simp[zq,Ln.iv];refine aa (Qi x.n (by have:=c.n;omega)) ?_;cases a:iE x.n with
 |false=>simp(disch:=omega)[wl,gS,a]
 |true=>
  simp(disch:=omega)[wl];refine aa (NP x.p c.p c.f) ?_;by_cases b:iF x.p=0
  ·by_cases f:200<x.v.length
   ·simp(disch:=omega)[wl,gS,a,b,f]
   ·simp(disch:=omega)[wl,b];refine aa (TI x.v (by have:=c.v;omega)) ?_;cases g:yB x.v with
    |none=>simp[gS,a,b,f,g,ww]
    |some k=>
     have e:¬((k:Int) = -1):=by omega
     simp[gS,a,b,f,g,ww,e]
  ·simp(disch:=omega)[wl,gS,a,b]
theorem O3{l:List Ln}{i:Nat}{x:Ln}(h:i<l.length)(a:l[i]=x):ls (l.take (i+1))=ls (l.take i)++[[.str x.n,.slice (ps x.p),.str x.v]]:=by
 rw[List.take_succ_eq_append_getElem h,a,CC]
theorem aeH(l:List Ln)(f:l.length<100000)(c:kl l):Fn G T_ 27 [.slice (ls l)] (.slice (ls l)):=by
 refine ae hm afT (by simp) ?_;simp[aeB,bv];refine be hm [] (fun i:Nat=>[(4,.val (.int .i64 i)),(3,.own 3 i)]) (fun i=>[(3,.arr i 3 (ls (l.take i)))]) (fun i=>i<=l.length) (fun i=>l.length-i) 0 (by omega) ?_ ?_
 ·simp[ls];exact cH.trans (ct (k:=3) 3 3 (by simp) (by simp[ap,ac])) (ag rfl rfl (by simp[St.adopt,aI,ap,ac,put,cS,SV.erase]) (by simp[St.adopt,bD,ac,put,ck,Ob.erase]) (by simp[St.adopt,bB]))
 intro i g;simp[bv];by_cases h:i<l.length
 ·obtain⟨x,a⟩:∃x,l[i]=x:=⟨_,rfl⟩;have b:=sf h a;have d:=O3 h a;have e:=fn_Back x.p (c x (a▸List.getElem_mem h)).p;simp(disch:=omega)[wl,bv,b];refine aa e ?_;simp(disch:=omega)[wl,bv,b];refine⟨by omega,rfl,?_⟩;refine ai (i+1) (by omega) (by omega) ?_;simp[d];exact bp
 ·obtain rfl:i=l.length:=by omega
  simp(disch:=omega)[wl]
theorem aaS(l:List Ln)(g:l.length<100000)(d:kl l):Fn G T_ 11 [.slice (ls l)] (.slice (ls l)):=by
 refine ae hm O0 (by simp) ?_;simp[FH,bv];refine be hm [] (fun i:Nat=>[(4,.val (.int .i64 i)),(3,.own 3 i)]) (fun i=>[(3,.arr i 3 (ls (l.take i)))]) (fun i=>i<=l.length) (fun i=>l.length-i) 0 (by omega) ?_ ?_
 ·simp[ls];exact cH.trans (ct (k:=3) 3 3 (by simp) (by simp[ap,ac])) (ag rfl rfl (by simp[St.adopt,aI,ap,ac,put,cS,SV.erase]) (by simp[St.adopt,bD,ac,put,ck,Ob.erase]) (by simp[St.adopt,bB]))
 intro i j;simp[bv];by_cases h:i<l.length
 ·obtain⟨x,a⟩:∃x,l[i]=x:=⟨_,rfl⟩;have b:=sf h a;have e:=O3 h a;have c:=d x (a▸List.getElem_mem h);have f:=ac5 x.p c.p c.f;simp(disch:=omega)[wl,bv,b];refine aa f ?_;simp(disch:=omega)[wl,bv,b];refine⟨by omega,rfl,?_⟩;refine ai (i+1) (by omega) (by omega) ?_;simp[e];exact bp
 ·obtain rfl:i=l.length:=by omega
  simp(disch:=omega)[wl]
def TY(x:Ln):Bool:=decide (x.n.length<=40)&&(decide (x.v.length<=250)&&wT x.p)
def sh(l:List Ln):Bool:=decide (l.length<=30)&&l.all TY
theorem SG{l:List Ln}(h:sh l=true):l.length<=30/\kl l:=by
 simp only[sh,Bool.and_eq_true,decide_eq_true_eq,List.all_eq_true,TY,wT,Wr,smV]at h;refine⟨h.1,fun x c=>?_⟩;obtain⟨e,f,g,b⟩:=h.2 x c;exact⟨by omega,by omega,⟨fun p a=>by have:=(b p a).1.1;omega,fun p a=>by have:=(b p a).1.2;omega,fun p a s d=>by have:=(b p a).2 s d;omega⟩,by omega⟩
theorem Vx(l:List Ln):Fn G T_ 8 [.slice (ls l)] (.bool (sh l)):=by
 refine ae hm IA (by simp) ?_;simp[zo,bv];by_cases o:30<l.length
 ·have:sh l=false:=by simp[sh];omega
  simp(disch:=omega)[wl,this,bv]
 ·have j:sh l=l.all TY:=by
   have:l.length<=30:=by omega
   simp[sh,this]
  rw[j];simp(disch:=omega)[wl,bv];refine be hm [] (fun i:Nat=>[(3,.val (.int .i64 i))]) (fun i=>[]) (fun i=>i<=l.length/\(l.drop i).all TY=l.all TY) (fun i=>l.length-i) 0 ⟨by omega,by simp⟩ ?_ ?_
  ·simp;exact bp
  rintro i ⟨p,b⟩;simp[bv];by_cases h:i<l.length
  ·obtain⟨x,f⟩:∃x,l[i]=x:=⟨_,rfl⟩;have d:=sf h f;have k:=Y4 x.p;rw[SE h f]at b;have a:TY x=false->l.all TY=false:=fun e=>by rw[<-b,e];rfl
   by_cases q:40<x.n.length
   ·have c:=a (by simp[TY];omega);simp(disch:=omega)[wl,bv,d,c]
    try rfl
   ·by_cases s:250<x.v.length
    ·have c:=a (by simp[TY];omega);simp(disch:=omega)[wl,bv,d,c]
     try rfl
    ·have m:decide (x.n.length<=40)=true:=by simp;omega
     have n:decide (x.v.length<=250)=true:=by simp;omega
     simp(disch:=omega)[wl,bv,d];refine aa k ?_;cases g:wT x.p with
     |false=>
      have c:=a (by simp only[TY,g,Bool.and_false]);simp(disch:=omega)[wl,c]
      try rfl
     |true=>
      have:TY x=true:=by simp only[TY,g,m,n];rfl
      rw[this,Bool.true_and]at b;simp(disch:=omega)[wl,bv,d]
      try refine⟨rfl,?_⟩
      refine ai (i+1) ⟨by omega,b⟩ (by omega) ?_;simp;exact bp
  ·obtain rfl:i=l.length:=by omega
   have:l.all TY=true:=by rw[<-b];simp
   simp(disch:=omega)[wl,this]
theorem set_len(l:List Ln)(x:Ln):(tI l x).length<=l.length+1:=by
 have:=yh x l false;unfold tI;split
 ·omega
 ·simp;omega
theorem drop_len(l:List Ln)(n:Str):(fL l n).length<=l.length:=List.length_filter_le _ _
theorem IJ:∀ {rows:List (List IV)},(∀a∈rows,Sh .str a)->∃v,rows=ts v
 |[],_=>⟨[],rfl⟩
 |r::b,h=>by
  obtain⟨s,c,_⟩:=h r (by simp);obtain⟨v,d⟩:=IJ (rows:=b) (fun x e=>h x (by simp[e]));exact⟨s::v,by rw[c,d];rfl⟩
theorem params_psL:∀ {rows:List (List IV)},(∀e∈rows,Sh (.struct [.str,.slice .str]) e)->∃l,rows=ps l
 |[],_=>⟨[],rfl⟩
 |r::i,h=>by
  obtain⟨a,b,rfl,⟨s,rfl,_⟩,c,d,rfl,⟨f,rfl,_,j⟩,g⟩:=h r (by simp);have g:d=[]:=g;subst g;obtain⟨v,rfl⟩:=IJ j;obtain⟨l,k⟩:=params_psL (rows:=i) (fun x m=>h x (by simp[m]));exact⟨⟨s,v⟩::l,by rw[k];rfl⟩
def scL:Sc:=.struct [.str,.slice (.struct [.str,.slice .str]),.str]
theorem line_of:∀ {g:List IV},Sh scL g->∃x:Ln,g=[.str x.n,.slice (ps x.p),.str x.v]
 |r,h=>by
  obtain⟨a,b,rfl,⟨s,rfl,_⟩,c,d,rfl,⟨i,rfl,_,k⟩,e,f,rfl,⟨t,rfl,_⟩,j⟩:=h;have j:f=[]:=j;subst j;obtain⟨l,rfl⟩:=params_psL k;exact⟨⟨s,l,t⟩,rfl⟩
theorem lines_of:∀ {rows:List (List IV)},(∀row∈rows,Sh scL row)->∃l,rows=ls l
 |[],_=>⟨[],rfl⟩
 |r::a,h=>by
  obtain⟨x,rfl⟩:=line_of (h r (by simp));obtain⟨l,b⟩:=lines_of (rows:=a) (fun x c=>h x (by simp[c]));exact⟨x::l,by rw[b];rfl⟩
theorem drop_drop(l:List Ln)(n:Str):fL (fL l n) n=fL l n:=by
 simp only[fL];rw[List.filter_filter];congr 1;funext a;cases km n a<;>rfl
theorem drop_length(n:Str):∀l:List Ln,(fL l n).length+bG l n=l.length
 |[]=>rfl
 |y::r=>by
  have a:=drop_length n r;simp only[fL,bG]at a |-;cases b:km n y<;>simp[b]<;>omega
end Go.Vs.YtcjeehebikeghaaGreatDoor
