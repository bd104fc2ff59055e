/- A part of a proof. No conditions. -/
import Derived.Test.YtnhbiolfmeeniaaGreatDoorRAz
set_option linter.all false
namespace Go.Vs.Cv
def ff:Nat:=315537897599
def eJ(f:Nat):Nat:=if f=0 then 1 else if f=1 then 60 else if f=2 then 3600 else 86400
def dK(f w s:Nat):Nat:=
 if f<=3 then s/eJ f else if f=4 then (s/86400+7-w)/7 else if f=5 then (bn (s/86400)).1*12+(bn (s/86400)).2.1-1 else (bn (s/86400)).1
def M7(f w i:Nat):Nat×Nat:=
 if f=4 then (7*i+w-7,7*i+w)else if f=5 then (dO (i/12) (i%12+1) 1,dO (i/12) (i%12+1) 1+jF (i/12) (i%12+1))else (dO i 1 1,dO i 1 1+fO i)
def iF(f w i:Nat):Nat×Nat:=
 if f<=3 then (i*eJ f,(i+1)*eJ f)else ((M7 f w i).1*86400,min (M7 f w i).2 3652059*86400)
theorem Af(f:Nat):0<eJ f:=by unfold eJ;split<;>(try split)<;>(try split)<;>omega
theorem oS{n:Nat}(h:n<=3652058):1<=(bn n).1/\(bn n).1<=9999/\1<=(bn n).2.1/\(bn n).2.1<=12/\1<=(bn n).2.2/\(bn n).2.2<=jF (bn n).1 (bn n).2.1/\dO (bn n).1 (bn n).2.1 (bn n).2.2=n:=by
 obtain⟨y,m,d,a,b,e,f,g,j,k,l⟩:=EI h;rw[l];exact⟨a,b,e,f,g,j,k⟩
theorem NP{y m n:Nat}(a:1<=y)(b:1<=m)(c:m<=12)(f:dO y m 1<=n)(g:n<dO y m 1+jF y m):(bn n).1=y/\(bn n).2.1=m:=by
 have e:n=dO y m (n-dO y m 1+1):=by unfold dO at *;omega
 have:=TE a b c (d:=n-dO y m 1+1) (by omega) (by omega);rw[<-e]at this;rw[this];exact⟨rfl,rfl⟩
theorem RD{y n:Nat}(a:1<=y)(b:dO y 1 1<=n)(c:n<dO y 1 1+fO y):(bn n).1=y:=by
 have d:dO y 1 1=ahead y:=by simp[dO,ej,before]
 rw[d]at b c;have h:=qA a (t:=n-ahead y) (by omega);have e:ahead y+(n-ahead y)=n:=by omega
 rw[e]at h;simp[bn,h]
theorem aag{y m d:Nat}(h:1<=d):dO y m d=dO y m 1+(d-1):=by unfold dO;omega
theorem FA{y m d:Nat}(f:1<=y)(a:1<=m)(b:m<=12)(g:1<=d)(h:d<=jF y m):dO y 1 1<=dO y m d/\dO y m d<dO y 1 1+fO y:=by
 have e:dO y 1 1=ahead y:=by simp[dO,ej,before]
 have i:=lF y a b;have j:=EH y a b;rw[e];unfold dO;omega
theorem XY{f w s:Nat}(u:f<=6)(v:w<=6)(l:s<=ff):(iF f w (dK f w s)).1<=s/\s<(iF f w (dK f w s)).2:=by
 have n:s/86400<=3652058:=by unfold ff at l;omega
 unfold iF dK;by_cases b:f<=3
 .simp only[if_pos b];have o:=Af f;have e:=Nat.div_add_mod s (eJ f);have e2:=Nat.mod_lt s o;have x:(s/eJ f+1)*eJ f=s/eJ f*eJ f+eJ f:=by rw[Nat.add_mul,Nat.one_mul]
  rw[Nat.mul_comm]at e;omega
 simp only[if_neg b];have:=oS n;unfold M7;by_cases d:f=4
 .simp only[if_pos d];omega
 simp only[if_neg d];by_cases g:f=5
 .simp only[if_pos g];obtain⟨h,p,i,j,a,k,q⟩:=this;have e1:((bn (s/86400)).1*12+(bn (s/86400)).2.1-1)/12=(bn (s/86400)).1:=by omega
  have e2:((bn (s/86400)).1*12+(bn (s/86400)).2.1-1)%12+1=(bn (s/86400)).2.1:=by omega
  rw[e1,e2];have:=aag (y:=(bn (s/86400)).1) (m:=(bn (s/86400)).2.1) a;omega
 simp only[if_neg g];obtain⟨h,p,i,j,a,k,q⟩:=this;have:=FA h i j a k;omega
theorem XZ{f w i s:Nat}(n:f<=6)(o:w<=6)(a:dK f w 0<=i)(p:s<=ff)(c:(iF f w i).1<=s)(b:s<(iF f w i).2):dK f w s=i:=by
 unfold iF dK at *;by_cases d:f<=3
 .simp only[if_pos d]at *;have q:=Af f;rw[Nat.add_mul,Nat.one_mul]at b;apply Nat.div_eq_of_lt_le
  .exact c
  rw[Nat.add_mul,Nat.one_mul];exact b
 simp only[if_neg d]at *;unfold M7 at c b;by_cases e:f=4
 .simp only[if_pos e]at *;omega
 simp only[if_neg e]at *;have e0:(bn 0).1=1/\(bn 0).2.1=1:=⟨rfl,rfl⟩;simp only[Nat.zero_div,e0.1,e0.2]at a;by_cases g:f=5
 .simp only[if_pos g]at *;have h:dO (i/12) (i%12+1) 1<=s/86400:=by omega
  have j:s/86400<dO (i/12) (i%12+1) 1+jF (i/12) (i%12+1):=by omega
  obtain⟨k,l⟩:=NP (y:=i/12) (m:=i%12+1) (by omega) (by omega) (by omega) h j;rw[k,l];omega
 simp only[if_neg g]at *;exact RD a (by omega) (by omega)
def dZ(f w:Nat):Nat:=dK f w ff
def wJ(first k at':Nat):Nat:=if first<at' then first+(at'-first+k-1)/k*k else first
theorem adv{a k j:Nat}(b:1<=k):wJ a k (a+k*j)=a+k*j:=by
 unfold wJ;split
 .have:(a+k*j-a+k-1)/k=j:=by
   have e:a+k*j-a+k-1=k*j+(k-1):=by omega
   rw[e,Nat.mul_add_div (by omega),Nat.div_eq_of_lt (by omega)];omega
  rw[this,Nat.mul_comm j k]
 rename_i h
 have:k*j=0:=by omega
 omega
def IP(f w i:Nat):Nat:=if i<dK f w 0 then 0 else (iF f w i).1
theorem adw(f w i:Nat):IP f w i<=IP f w (i+1):=by
 unfold IP;by_cases h:i<dK f w 0
 .simp only[h,if_true];omega
 have d:¬i+1<dK f w 0:=by omega
 simp only[h,d,if_false];unfold iF;by_cases a:f<=3
 .simp only[if_pos a];exact Nat.mul_le_mul_right _ (by omega)
 simp only[if_neg a];unfold dK at h;simp only[if_neg a]at h;have e0:(bn 0).1=1/\(bn 0).2.1=1:=⟨rfl,rfl⟩;simp only[Nat.zero_div,e0.1,e0.2]at h;apply Nat.mul_le_mul_right;unfold M7;by_cases b:f=4
 .simp only[if_pos b];omega
 simp only[if_neg b]at h |-;by_cases c:f=5
 .simp only[if_pos c]at h |-;by_cases hm:i%12=11
  .have e1:(i+1)/12=i/12+1:=by omega
   have e2:(i+1)%12+1=1:=by omega
   rw[e1,e2,hm];have:=jG (y:=i/12) (by omega);have:=EH (i/12) (m:=11) (by omega) (by omega);have e:ej (i/12+1) 1=0:=by simp[ej,before]
   unfold dO;omega
  have e1:(i+1)/12=i/12:=by omega
  have e2:(i+1)%12+1=(i%12+1)+1:=by omega
  rw[e1,e2];have:=lF (i/12) (m:=i%12+1) (by omega) (by omega);unfold dO;omega
 simp only[if_neg c]at h |-;have:=jG (y:=i) (by omega);have e:ej (i+1) 1=0:=by simp[ej,before]
 have g:ej i 1=0:=by simp[ej,before]
 unfold dO;omega
theorem adx(f w:Nat){i j:Nat}(h:i<=j):IP f w i<=IP f w j:=by
 induction h with
 |refl=>exact Nat.le_refl _
 |step _ a=>exact Nat.le_trans a (adw f w _)
theorem Y0{f w s:Nat}(u:f<=6)(v:w<=6)(x:s<=ff):dK f w 0<=dK f w s/\dK f w s<=dZ f w:=by
 have i:∀a b,a<=b->b<=ff->dK f w a<=dK f w b:=by
  intro a b g j;have L:=XY u v (Nat.le_trans g j);have M:=XY u v j;apply Nat.le_of_not_lt;intro d;have q:=L.1;have N:b/86400<=3652058:=by unfold ff at j;omega
  have l:a/86400<=3652058:=by omega
  unfold dK at d;by_cases z:f<=3
  .simp only[if_pos z]at d;have:=Nat.div_le_div_right (c:=eJ f) g;omega
  simp only[if_neg z]at d;have A:a/86400<=b/86400:=Nat.div_le_div_right g;by_cases B:f=4
  .simp only[if_pos B]at d;omega
  simp only[if_neg B]at d;obtain⟨O,X,P,C,Q,D,E⟩:=oS l;obtain⟨m,Y,F,R,S,U,V⟩:=oS N;have Z:=FA O P C Q D;have yb:=FA m F R S U
  have mono:∀p q,1<=p->p<q->dO p 1 1+fO p<=dO q 1 1:=by
   intro p q n h;have H:∀y,dO y 1 1=ahead y:=fun y=>by simp[dO,ej,before]
   rw[H,H]
   induction h with
   |refl=>rw[jG n];exact Nat.le_refl _
   | @step k o I=>rw[jG (show 1<=k by have:p+1<=k:=o;omega)];omega
  by_cases J:f=5
  .simp only[if_pos J]at d;have hy:(bn (b/86400)).1<=(bn (a/86400)).1:=by omega
   rcases Nat.lt_or_ge (bn (b/86400)).1 (bn (a/86400)).1 with K|K
   .have:=mono _ _ m K;omega
   have e:(bn (a/86400)).1=(bn (b/86400)).1:=by omega
   have hm:(bn (b/86400)).2.1<(bn (a/86400)).2.1:=by omega
   rw[e]at D E
   have W:∀p q,1<=p->p<q->q<=12->ej (bn (b/86400)).1 p+jF (bn (b/86400)).1 p<=ej (bn (b/86400)).1 q:=by
    intro p q n h hq
    induction h with
    |refl=>rw[lF _ n (by omega)];exact Nat.le_refl _
    | @step k o I=>rw[lF _ (show 1<=k by have:p+1<=k:=o;omega) (by omega)];have:=I (by omega);omega
   have:=W _ _ F hm C;unfold dO at E V;omega
  simp only[if_neg J]at d;have:=mono _ _ m d;omega
 exact⟨i 0 s (by omega) x,i s ff x (Nat.le_refl _)⟩
structure Wlk where
 start:Int
 en:Int
 fr:Int
 to:Int
 budget:Int
 once:Bool
 out:Int->Bool
 cost:Nat->Int
 of:Nat->List Int
 fst:Nat->Int
 last:Nat
 k:Nat
def dj(x:Wlk):List Int->Int->List Int->Bool×Int×List Int
 |[],left,a=>(false,left,a)
 |t::ts,left,a=>
  if t<x.start then dj x ts left a else if x.en<t then (true,left,a)
  else if (x.fr<=t/\t<x.to)then
   (if x.once=true/\x.out t=false then (true,left-1,a++[t])else if left-1=0 then (true,left-1,a++[t])else dj x ts (left-1) (a++[t]))
  else if left-1=0 then (true,left-1,a)else dj x ts (left-1) a
def mO(x:Wlk):Nat->Nat->Int->Int->List Int->Option (Int×List Int)
 |0,_,_,a,b=>some (a,b)
 |n+1,i,left,a,b=>
  if x.last<i then some (a,b)else if x.to<=x.fst i\/x.en<x.fst i then some (a,b)
  else if x.budget<a+x.cost i then none
  else match dj x (x.of i) left b with
   |(true,_,m)=>some (a+x.cost i,m)
   |(false,l,m)=>mO x n (i+x.k) l (a+x.cost i) m
def Wlk.at'(x:Wlk)(n:Int):Wlk:={x with fr:=n,to:=n+1,once:=false }
theorem pV(x:Wlk):∀(ts:List Int) (left:Int) (a:List Int),∃Y,(dj x ts left a).2.2=a++Y/\∀t∈Y,t∈ts/\x.start<=t/\t<=x.en/\x.fr<=t/\t<x.to
 |[],left,a=>⟨[],by simp[dj]⟩
 |t::ts,left,a=>by
  unfold dj;by_cases f:t<x.start
  .simp only[f,if_true];obtain⟨Y,h,c⟩:=pV x ts left a;exact⟨Y,h,fun s b=>⟨List.mem_cons_of_mem _ (c s b).1,(c s b).2⟩⟩
  simp only[f,if_false];by_cases g:x.en<t
  .simp only[g,if_true];exact⟨[],by simp⟩
  simp only[g,if_false];by_cases d:x.fr<=t/\t<x.to
  .simp only[d,and_self,if_true]
   have e:∀s∈[t],s∈t::ts/\x.start<=s/\s<=x.en/\x.fr<=s/\s<x.to:=by
    intro s b;rw[List.mem_singleton.1 b];exact⟨List.mem_cons_self,by omega,by omega,d.1,d.2⟩
   split
   .exact⟨[t],rfl,e⟩
   split
   .exact⟨[t],rfl,e⟩
   obtain⟨Y,h,c⟩:=pV x ts (left-1) (a++[t]);refine⟨t::Y,by rw[h];simp,fun s b=>?_⟩;rcases List.mem_cons.1 b with rfl|b
   .exact e _ (by simp)
   exact⟨List.mem_cons_of_mem _ (c s b).1,(c s b).2⟩
  simp only[d,if_false];split
  .exact⟨[],by simp⟩
  obtain⟨Y,h,c⟩:=pV x ts (left-1) a;exact⟨Y,h,fun s b=>⟨List.mem_cons_of_mem _ (c s b).1,(c s b).2⟩⟩
def PI(a b:Int):Prop:=a=b\/(a<=0/\b<=0)
theorem ady{a b:Int}(h:PI a b):PI (a-1) (b-1)/\(a-1=0↔b-1=0):=by
 unfold PI at *;omega
theorem DA(x:Wlk)(ts:List Int)(left:Int)(a:List Int){n:Int}(h:n∈a):n∈(dj x ts left a).2.2:=by
 obtain⟨Y,e,_⟩:=pV x ts left a;rw[e];exact List.mem_append_left _ h
theorem ub(x:Wlk)(n:Int):∀(ts:List Int) (a b:Int) (i f:List Int),PI a b->(n∈i->n∈f)->
  (n∈(dj x ts a i).2.2->n∈(dj (x.at' n) ts b f).2.2)/\((dj x ts a i).1=false->(dj (x.at' n) ts b f).1=false/\PI (dj x ts a i).2.1 (dj (x.at' n) ts b f).2.1)
 |[],a,b,i,f,k,hm=>⟨by simpa[dj]using hm,fun _=>⟨rfl,k⟩⟩
 |t::ts,a,b,i,f,k,hm=>by
  have j:=ady k;unfold dj;by_cases l:t<x.start
  .have e1:t<(x.at' n).start:=l;simp only[l,e1,if_true];exact ub x n ts a b i f k hm
  have e1:¬t<(x.at' n).start:=l;simp only[l,e1,if_false];by_cases m:x.en<t
  .have e2:(x.at' n).en<t:=m;simp only[m,e2,if_true];exact⟨hm,fun h=>by cases h⟩
  have e2:¬(x.at' n).en<t:=m;simp only[m,e2,if_false];have q:¬((x.at' n).once=true/\(x.at' n).out t=false):=by simp[Wlk.at']
  simp only[q,if_false];have s:((x.at' n).fr<=t/\t<(x.at' n).to)↔t=n:=by simp only[Wlk.at'];omega
  simp only[s];by_cases o:x.fr<=t/\t<x.to
  .simp only[o,and_self,if_true]
   have d:n∈i++[t]->n∈(if t=n then f++[t]else f):=by
    intro h;split
    .rename_i e;rw[e];simp
    rename_i e
    rcases List.mem_append.1 h with h|h
    .exact hm h
    exact absurd (List.mem_singleton.1 h).symm e
   by_cases p:x.once=true/\x.out t=false
   .simp only[p,and_self,if_true];refine⟨fun h=>?_,fun h=>by cases h⟩;have:=d h;by_cases e:t=n
    .simp only[e,if_true];split
     .simp
     exact DA _ _ _ _ (by simp)
    simp only[e,if_false]at this |-;split
    .exact this
    exact DA _ _ _ _ this
   simp only[p,if_false];by_cases g:a-1=0
   .have c:=j.2.1 g;simp only[g,c,if_true];refine⟨fun h=>?_,fun h=>by cases h⟩;have:=d h;by_cases e:t=n
    .simp only[e,if_true];simp
    simp only[e,if_false]at this |-;exact this
   have c:¬b-1=0:=fun h=>g (j.2.2 h)
   simp only[g,c,if_false];by_cases e:t=n
   .simp only[e,if_true]at d |-;exact ub x n ts _ _ _ _ j.1 d
   simp only[e,if_false]at d |-;exact ub x n ts _ _ _ _ j.1 d
  simp only[o,if_false];by_cases g:a-1=0
  .have c:=j.2.1 g;simp only[g,c,if_true];refine⟨fun h=>?_,fun h=>by cases h⟩;by_cases e:t=n
   .simp only[e,if_true];simp
   simp only[e,if_false];exact hm h
  have c:¬b-1=0:=fun h=>g (j.2.2 h)
  simp only[g,c,if_false];by_cases e:t=n
  .simp only[e,if_true];exact ub x n ts _ _ _ _ j.1 (fun _=>by simp)
  simp only[e,if_false];exact ub x n ts _ _ _ _ j.1 hm
theorem xO(x:Wlk):∀(N i:Nat) (a u:Int) (m:List Int) (U:Int) (M:List Int) {n:Int},mO x N i a u m=some (U,M)->n∈m->n∈M
 |0,i,a,u,m,U,M,n,h,b=>by simp only[mO,E_,Prod.mk.injEq]at h;rw[<-h.2];exact b
 |N+1,i,a,u,m,U,M,n,h,b=>by
  unfold mO at h;split at h
  .simp only[E_,Prod.mk.injEq]at h;rw[<-h.2];exact b
  split at h
  .simp only[E_,Prod.mk.injEq]at h;rw[<-h.2];exact b
  split at h
  .cases h
  have hm:=DA x (x.of i) a m b;obtain⟨⟨c,l,d⟩,e⟩:=A_ (dj x (x.of i) a m);rw[e]at h hm;cases c with
  |true=>simp only[E_,Prod.mk.injEq]at h;rw[<-h.2];exact hm
  |false=>exact xO x N _ _ _ _ _ _ h hm
theorem AV(x:Wlk)(o:∀i j,i<=j->x.fst i<=x.fst j)(p:∀i,∀t∈x.of i,x.fst i<=t):∀(N i:Nat) (a u:Int) (m:List Int) (U:Int) (M:List Int) {n:Int},mO x N i a u m=some (U,M)->n∈M->n∉m->
  x.fst i<=n/\n<=x.en/\x.start<=n/\x.fr<=n/\n<x.to/\i<=x.last/\∃j,i+x.k*j<=x.last/\n∈x.of (i+x.k*j)
 |0,i,a,u,m,U,M,n,h,b,hm=>by simp only[mO,E_,Prod.mk.injEq]at h;rw[<-h.2]at b;exact absurd b hm
 |N+1,i,a,u,m,U,M,n,h,b,hm=>by
  unfold mO at h;split at h
  .simp only[E_,Prod.mk.injEq]at h;rw[<-h.2]at b;exact absurd b hm
  rename_i E
  split at h
  .simp only[E_,Prod.mk.injEq]at h;rw[<-h.2]at b;exact absurd b hm
  split at h
  .cases h
  obtain⟨Y,k,v⟩:=pV x (x.of i) a m;obtain⟨⟨c,l,q⟩,e⟩:=A_ (dj x (x.of i) a m);rw[e]at h k
  have d:n∈q->x.fst i<=n/\n<=x.en/\x.start<=n/\x.fr<=n/\n<x.to/\i<=x.last/\∃j,i+x.k*j<=x.last/\n∈x.of (i+x.k*j):=by
   intro g;simp only at k;rw[k]at g;rcases List.mem_append.1 g with g|g
   .exact absurd g hm
   have:=v n g;exact⟨p i n this.1,this.2.2.1,this.2.1,this.2.2.2.1,this.2.2.2.2,by omega,0,by omega,by simpa using this.1⟩
  cases c with
  |true=>simp only[E_,Prod.mk.injEq]at h;rw[<-h.2]at b;exact d b
  |false=>
   by_cases s:n∈q
   .exact d s
   obtain⟨F,y,z,A,B,H,j,C,D⟩:=AV x o p N _ _ _ _ _ _ h b s;have e:i+x.k+x.k*j=i+x.k*(j+1):=by rw[Nat.mul_add];omega
   have:=o i (i+x.k) (by omega);exact⟨by omega,y,z,A,B,by omega,j+1,by rw[<-e];exact C,by rw[<-e];exact D⟩
theorem Up(x:Wlk)(z:∀i j,i<=j->x.fst i<=x.fst j)(A:∀i,∀t∈x.of i,x.fst i<=t):∀(N i:Nat) (a b u v:Int) (k m:List Int) (U V:Int) (M p:List Int) {n:Int},PI a b->mO x N i a u k=some (U,M)->n∈M->(n∈k->n∈m)->
  mO (x.at' n) N i b v m=some (V,p)->n∈p
 |0,i,a,b,u,v,k,m,U,V,M,p,n,B,h,g,hm,d=>by
  simp only[mO,E_,Prod.mk.injEq]at h d;rw[<-d.2];rw[<-h.2]at g;exact hm g
 |N+1,i,a,b,u,v,k,m,U,V,M,p,n,B,h,g,hm,d=>by
  by_cases q:n∈k
  .exact xO _ _ _ _ _ _ _ _ d (hm q)
  have D:=AV x z A _ _ _ _ _ _ _ h g q;obtain⟨K,L,O,P,Q,R,-⟩:=D;have o:=ub x n (x.of i) a b k m B hm;unfold mO at h d;have e1:¬x.last<i:=by omega
  have e2:¬((x.at' n).to<=(x.at' n).fst i\/(x.at' n).en<(x.at' n).fst i):=by simp only[Wlk.at'];omega
  have E:¬(x.at' n).last<i:=e1;simp only[e1,e2,E,if_false]at h d;split at d
  .cases d
  split at h
  .simp only[E_,Prod.mk.injEq]at h;rw[<-h.2]at g;exact absurd g q
  split at h
  .cases h
  have s:(x.at' n).of=x.of:=rfl;have y:(x.at' n).k=x.k:=rfl;rw[s,y]at d;obtain⟨⟨c,l,S⟩,e⟩:=A_ (dj x (x.of i) a k);obtain⟨⟨F,W,H⟩,e2⟩:=A_ (dj (x.at' n) (x.of i) b m);rw[e,e2]at o;rw[e]at h;rw[e2]at d;simp only at o;cases c with
  |true=>
   simp only[E_,Prod.mk.injEq]at h;rw[<-h.2]at g;have C:=o.1 g;cases F with
   |true=>simp only[E_,Prod.mk.injEq]at d;rw[<-d.2];exact C
   |false=>exact xO _ _ _ _ _ _ _ _ d C
  |false=>
   obtain⟨I,J⟩:=o.2 rfl;subst I;exact Up x z A N _ _ _ _ _ _ _ _ _ _ _ J h g o.1 d
theorem M8(x:Wlk)(E:∀i j,i<=j->x.fst i<=x.fst j)(F:∀i,∀t∈x.of i,x.fst i<=t):∀(N i:Nat) (a u:Int) (g:List Int) (U:Int) (M:List Int) {n:Int},a<=0->mO x N i a u g=some (U,M)->n∈M->n∉g->
  ∃j,i+x.k*j<=x.last/\n∈x.of (i+x.k*j)/\∀(K:Nat) (V:Int) (k:List Int),mO (x.at' n) (K+1) (i+x.k*j) 0 0 []=some (V,k)->n∈k
 |0,i,a,u,g,U,M,n,z,h,d,hm=>by simp only[mO,E_,Prod.mk.injEq]at h;rw[<-h.2]at d;exact absurd d hm
 |N+1,i,a,u,g,U,M,n,z,h,d,s=>by
   have J:=AV x E F _ _ _ _ _ _ _ h d s;obtain⟨Z,q2,q3,q4,q5,q6,-⟩:=J;have v:=ub x n (x.of i) a 0 g [] (Or.inr ⟨z,by omega⟩) (fun h=>absurd h s);unfold mO at h;have e1:¬x.last<i:=by omega
   simp only[e1,if_false]at h;split at h
   .simp only[E_,Prod.mk.injEq]at h;rw[<-h.2]at d;exact absurd d s
   split at h
   .cases h
   obtain⟨Y,A,L⟩:=pV x (x.of i) a g;obtain⟨⟨c,l,H⟩,e⟩:=A_ (dj x (x.of i) a g);rw[e]at h v A;simp only at v A
   have o:n∈H->∃j,i+x.k*j<=x.last/\n∈x.of (i+x.k*j)/\∀(K:Nat) (V:Int) (k:List Int),mO (x.at' n) (K+1) (i+x.k*j) 0 0 []=some (V,k)->n∈k:=by
    intro p;have y:=v.1 p;rw[A]at p
    have B:n∈x.of i:=by
     rcases List.mem_append.1 p with p|p
     .exact absurd p s
     exact(L n p).1
    refine⟨0,by omega,by simpa using B,fun K V k b=>?_⟩;rw[show i+x.k*0=i by omega]at b;unfold mO at b;have e2:¬((x.at' n).to<=(x.at' n).fst i\/(x.at' n).en<(x.at' n).fst i):=by simp only[Wlk.at'];omega
    have O:¬(x.at' n).last<i:=e1;rw[if_neg O,if_neg e2]at b;split at b
    .cases b
    have C:(x.at' n).of=x.of:=rfl;rw[C]at b;obtain⟨⟨P,l2,Q⟩,e2⟩:=A_ (dj (x.at' n) (x.of i) 0 []);rw[e2]at y b;simp only at y;cases P with
    |true=>simp only[E_,Prod.mk.injEq]at b;rw[<-b.2];exact y
    |false=>exact xO _ _ _ _ _ _ _ _ b y
   cases c with
   |true=>simp only[E_,Prod.mk.injEq]at h;rw[<-h.2]at d;exact o d
   |false=>
    by_cases q:n∈H
    .exact o q
    have R:=(v.2 rfl).2
    have D:l<=0:=by
     have:∀(ts:List Int) (a:Int) (m:List Int),a<=0->(dj x ts a m).2.1<=0:=by
      intro ts
      induction ts with
      |nil=>intro a m h;exact h
      |cons t ts I=>
       intro a m h;unfold dj
       repeat' split
       all_goals first|exact h|exact I _ _ h|exact I _ _ (by omega)|(simp only;omega)
     have:=this (x.of i) a g z;rw[e]at this;exact this
    obtain⟨j,S,W,X⟩:=M8 x E F N _ _ _ _ _ _ D h d q;have e:i+x.k+x.k*j=i+x.k*(j+1):=by rw[Nat.mul_add];omega
    exact⟨j+1,by rw[<-e];exact S,by rw[<-e];exact W,fun K V k b=>X K V k (by rw[e];exact b)⟩
end Go.Vs.Cv
namespace Go.Vs.Y.Rc
open Go.Proofs Go.Vs.U8 Go.Vs.Pa Go.Vs.Nu Go.Lib Go.Vs.Mo
def H2(b:Bool)(k:Nat)(v:Str):Nat:=if b=true then (eqS k v).length+1 else 0
def wt(r:Ru)(k:Nat):Nat:=
 if k=0 then (eqS 0 (lM r.f.toNat)).length+1
 else if k=1 then H2 (decide (r.u.k≠0)) 1 (dn r.u)
 else if k=2 then H2 (decide (r.c≠0)) 2 (itoa r.c)
 else if k=3 then H2 (decide (r.i≠1)) 3 (itoa r.i)
 else if k=13 then H2 (decide (r.w≠0)) 13 (yB r.w)
 else H2 (decide (qD r k≠[])) k (qD r k)
def xP(l:List Str):Nat:=(l.map fun p=>p.length+1).sum
theorem wK(a b:List Str):xP (a++b)=xP a+xP b:=by simp[xP]
theorem pW(p:Str)(l:List Str):xP (p::l)=p.length+1+xP l:=by simp[xP]
theorem M9(c:UInt8):∀(p:Str) (l:List Str),(join (p::l) [c]).length+1=xP (p::l)
 |p,[]=>by simp[join,xP]
 |p,q::l=>by
  have:=M9 c q l;rw[pW,<-this];simp[join];omega
theorem FB(b:Bool)(k:Nat)(v:Str):xP ((kh b k v).map fun p=>eqS p.1 p.2)=H2 b k v:=by
 unfold kh H2;cases b<;>simp[xP]
theorem Uq(r:Ru):∀a:List Nat,xP ((fA r a).map fun p=>eqS p.1 p.2)=(a.map fun k=>H2 (decide (qD r k≠[])) k (qD r k)).sum
 |[]=>rfl
 |k::a=>by
  rw[fA,List.map_append,wK,FB,Uq r a];simp
theorem H4(r:Ru):(dJ r).length+1=((List.range 14).map (wt r)).sum:=by
 have e:yj r=eqS 0 (lM r.f.toNat)::((kh (decide (r.u.k≠0)) 1 (dn r.u)++(kh (decide (r.c≠0)) 2 (itoa r.c)++(kh (decide (r.i≠1)) 3 (itoa r.i)++(fA r bq++kh (decide (r.w≠0)) 13 (yB r.w))))).map fun p=>eqS p.1 p.2):=rfl;unfold dJ;rw[e,M9,pW,List.map_append,List.map_append,List.map_append,List.map_append,wK,wK,wK,wK,FB,FB,FB,FB,Uq];have e2:(List.range 14).map (wt r)=[wt r 0,wt r 1,wt r 2,wt r 3,wt r 4,wt r 5,wt r 6,wt r 7,wt r 8,wt r 9,wt r 10,wt r 11,wt r 12,wt r 13]:=rfl;rw[e2];simp[bq,wt];omega
theorem WG{r b:Ru}{k:Nat}{v:Str}(c:k<14)(h:kN r k v=.ok b):∀j,j<14->j≠k->wt b j=wt r j:=by
 intro j d a;unfold kN at h;rcases Zw c with rfl|rfl|rfl|rfl|rfl|rfl|rfl|rfl|rfl|rfl|rfl|rfl|rfl|rfl
 all_goals
  simp +decide only [if_true,if_false]at h;split at h
 all_goals first
  |(cases h;done)
  |(simp only[TkR.ok.injEq]at h;subst h;rcases Zw d with rfl|rfl|rfl|rfl|rfl|rfl|rfl|rfl|rfl|rfl|rfl|rfl|rfl|rfl<;>first|rfl|exact absurd rfl a)
theorem WH(c:UInt8):∀s:Str,xP (parts c s)=s.length+1
 |[]=>rfl
 |x::r=>by
  have a:=WH c r;rw[parts];split
  .rw[pW,a];simp;omega
  split
  .next h=>exact absurd h (tp c r)
  next p ps h=>
  rw[h,pW]at a;rw[pW];simp only[List.length_cons];omega
def agh(r:Ru)(a:List Nat):Nat:=((List.range 14).map fun k=>if k∈a then wt r k else 0).sum
theorem WI{f g:Nat->Nat}{m:Nat}{k:Nat}(b:∀j,j≠k->j<14->f j<=g j)(hm:f k<=g k+m):∀n,n<=14->((List.range n).map f).sum<=((List.range n).map g).sum+(if k<n then m else 0)
 |0,_=>by simp
 |n+1,e=>by
  have a:=WI b hm n (by omega);rw[List.range_succ,List.map_append,List.map_append,List.sum_append,List.sum_append];simp only[List.map_cons,List.map_nil,List.sum_cons,List.sum_nil];by_cases h:n=k
  .subst h;rw[if_neg (by omega)]at a;rw[if_pos (by omega)];omega
  have:=b n h (by omega);by_cases d:k<n
  .rw[if_pos d]at a;rw[if_pos (by omega)];omega
  rw[if_neg d]at a;rw[if_neg (by omega)];omega
theorem adz{p:Str}(h:61∈p)(a:qE p<14):p.length=(lL (qE p)).length+(pq p).length+1:=by
 have b:qB.idxOf (tH p)<qB.length:=a
 have e:lL (qE p)=tH p:=by
  unfold lL qE;rw[List.getD_eq_getElem?_getD,List.getElem?_eq_getElem b,Option.getD_some,List.getElem_idxOf]
 have c:=List.idxOf_lt_length_iff.2 h;rw[e];unfold tH pq;rw[List.length_take,List.length_drop];omega
def adA:Prop:=∀(r:Ru) (k:Nat) (v:Str) (a:Ru),k<14->kN r k v=.ok a->wt a k<=(lL k).length+v.length+2
theorem Ur(u:adA)(N:Nat):∀(ps:List Str) (a:Nat) (b:List Nat) (r c:Ru),(∀k,k<14->k∉b->k≠0->wt r k=0)->fj N ps a b r=.ok c->((List.range 14).map (wt c)).sum<=agh r b+xP ps
 |[],a,b,r,c,n,h=>by
  have h:Nw N b r=.ok c:=h;unfold Nw at h;split at h
  .next o=>
   split at h
   .simp only[RuR.ok.injEq]at h;subst h;unfold agh
    have e:(List.range 14).map (wt r)=(List.range 14).map fun k=>if k∈b then wt r k else 0:=by
     apply List.map_congr_left;intro k d;have d:=List.mem_range.1 d;split
     .rfl
     next q=>exact n k d q (fun e=>q (e▸o))
    rw[e];exact Nat.le_add_right _ _
   cases h
  cases h
 |p::ps,a,b,r,c,n,h=>by
  unfold fj at h;split at h
  .cases h
  next z=>
  split at h
  .cases h
  next i=>
  split at h
  .cases h
  next A=>
  have i:qE p<14:=by omega
  split at h
  .cases h
  next v l=>
  have w:=WG i l;have D:=adz (by simpa using z) i;have E:=u _ _ _ _ i l
  have B:=Ur u N ps _ (qE p::b) v c (fun k d x o=>by
   rw[w k d (fun e=>x (by simp[e]))]
   exact n k d (fun q=>x (List.mem_cons_of_mem _ q)) o) h
  have C:=WI (f:=fun k=>if k∈qE p::b then wt v k else 0) (g:=fun k=>if k∈b then wt r k else 0) (m:=p.length+1) (k:=qE p) (fun j y s=>by
   simp only[List.mem_cons,y,false_or];split
   .rw[w j s y];exact Nat.le_refl _
   .exact Nat.le_refl _) (by
   simp only[List.mem_cons,true_or,if_true,A,if_false]
   omega) 14 (Nat.le_refl _)
  rw[if_pos i]at C;rw[pW];unfold agh at B |-;omega
theorem PJ(a:adA){s:Str}{r:Ru}(h:iY s=.ok r):(dJ r).length<=s.length:=by
 have i:=Ur a s.length (parts 59 s) 0 [] Xw r (fun k d _ f=>by
  rcases Zw d with rfl|rfl|rfl|rfl|rfl|rfl|rfl|rfl|rfl|rfl|rfl|rfl|rfl|rfl<;>first|rfl|exact absurd rfl f) h
 have j:=H4 r;have l:=WH 59 s;have m:agh Xw []=0:=rfl;omega
end Go.Vs.Y.Rc
