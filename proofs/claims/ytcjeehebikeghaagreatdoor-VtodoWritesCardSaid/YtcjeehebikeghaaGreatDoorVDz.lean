/- A part of a proof. No conditions. -/
import Derived.Test.YtcjeehebikeghaaGreatDoorVCz
set_option linter.unusedVariables false
set_option linter.unusedSimpArgs false
set_option maxRecDepth 100000
set_option maxHeartbeats 16000000
namespace Go.Vs.YtcjeehebikeghaaGreatDoor.Vt
open Go.Proofs Go.Vs.U8 Go.Vs.Pa Go.Vs.Nu Go.Vs.Vt
def xU(s:Str)(m:Nat):Nat×Bool:=if EN s m=true then ((MP (s.drop 1) m).2.1,decide ((MP (s.drop 1) m).1=[]))else (0,false)
def oe(s:Str):Nat×Bool:=match fI s 87 with
 |some (n,r)=>(n*604800,decide (r=[]))
 |none=>match fI s 68 with
  |some (n,r)=>if r=[]then (n*86400,true)else xU r (n*86400)
  |none=>xU s 0
theorem R0(s:Str)(m:Nat):MQ s m=if (xU s m).2=true then some (xU s m).1 else none:=by
 unfold MQ xU EN
 grind
theorem R1(s:Str):G0 s=if (oe s).2=true then some (oe s).1 else none:=by
 unfold G0 oe;cases fI s 87 with
 |some p=>simp
 |none=>
  cases fI s 68 with
  |some p=>
   simp only[];split
   ·rfl
   ·exact R0 ..
  |none=>exact R0 ..
theorem OF(s:Str)(m:Nat):(MP s m).2.1<=m+4000000000:=by
 unfold MP;have d:=MT 72 3600 s m 0;obtain⟨⟨a,b,c⟩,e0⟩:∃p,tk 72 3600 (s,m,0)=p:=⟨_,rfl⟩;rw[e0]at d |-;have e:=MT 77 60 a b c;obtain⟨⟨f,g,h⟩,e1⟩:∃p,tk 77 60 (a,b,c)=p:=⟨_,rfl⟩;rw[e1]at e |-;have i:=MT 83 1 f g h;dsimp only at *;omega
theorem VR(s:Str)(g:s.length<1000000):Fn G2 T_ 214 [.str s] (.tuple [.int .i64 (oe s).1,.bool (oe s).2]):=by
 refine ae hm JA (by simp) ?_;simp[AL];have d:=jz s 0 0 87 604800 g (by omega) (by omega) (by omega);cases a:fI s 87 with
 |some p=>
  obtain⟨n,r⟩:=p;have c:oe s=(n*604800,decide (r=[])):=by unfold oe;rw[a]
  rw[yt a,a]at d;rw[c];refine callM [(1000,4)] [] d rfl rfl ⟨rfl,trivial⟩ ⟨rfl,[],[],rfl,⟨[],[],rfl,rfl,rfl⟩,rfl⟩ rfl ?_;simp(disch:=omega)[wl,E3]
 |none=>
  rw[xS a,a]at d;have f:=jz s 0 0 68 86400 g (by omega) (by omega) (by omega);refine callM [(1000,4)] [] d rfl rfl ⟨rfl,trivial⟩ ⟨rfl,[],[],rfl,⟨[],[],rfl,rfl,rfl⟩,rfl⟩ rfl ?_;simp(disch:=omega)[wl,E3];cases b:fI s 68 with
  |some p=>
   obtain⟨n,r⟩:=p;rw[yt b,b]at f;have m:=yp b;refine callM [(1000,4)] [] f rfl rfl ⟨rfl,trivial⟩ ⟨rfl,[],[],rfl,⟨[],[],rfl,rfl,rfl⟩,rfl⟩ rfl ?_;by_cases e:r=[]
   ·have c:oe s=(n*86400,true):=by unfold oe;rw[a,b];simp[e]
    rw[c];simp(disch:=omega)[wl,E3,e]
   ·have c:oe s=xU r (n*86400):=by unfold oe;rw[a,b];simp[e]
    rw[c];simp(disch:=omega)[wl,E3,e];have i:=MU r (n*86400) 1 (by omega) (by omega) (by omega);have l:=OF (r.drop 1) (n*86400);have j:EN r (n*86400)=true->OE r (n*86400) 1=MP (r.drop 1) (n*86400):=fun h=>by unfold EN at h;simp at h;unfold OE;rw[if_pos (by simp[h])]
    refine callM [(1000,4)] [] (i) rfl rfl ⟨by simp[ac,E3,Ob.ren,SV.ren,Vs.ren],trivial⟩ ⟨rfl,rfl⟩ rfl ?_;unfold xU;cases k:EN r (n*86400)with
    |true=>
     rw[j k];simp(disch:=omega)[wl,E3]
    |false=>
     simp(disch:=omega)[wl,E3]
  |none=>
   rw[xS b,b]at f;have c:oe s=xU s 0:=by unfold oe;rw[a,b]
   rw[c];refine callM [(1000,4)] [] f rfl rfl ⟨rfl,trivial⟩ ⟨rfl,[],[],rfl,⟨[],[],rfl,rfl,rfl⟩,rfl⟩ rfl ?_;simp(disch:=omega)[wl,E3];have i:=MU s 0 0 g (by omega) (by omega);have l:=OF (s.drop 1) 0;have j:EN s 0=true->OE s 0 0=MP (s.drop 1) 0:=fun h=>by unfold EN at h;simp at h;unfold OE;rw[if_pos (by simp[h])]
   refine callM [(1000,4)] [] (i) rfl rfl ⟨by simp[ac,E3,Ob.ren,SV.ren,Vs.ren],trivial⟩ ⟨rfl,rfl⟩ rfl ?_;unfold xU;cases k:EN s 0 with
   |true=>
    rw[j k];simp(disch:=omega)[wl,E3]
   |false=>
    simp(disch:=omega)[wl,E3]
theorem R2(s:Str):(oe s).1<1000000000000:=by
 unfold oe;cases a:fI s 87 with
 |some p=>have:=yp a;simp;omega
 |none=>
  cases b:fI s 68 with
  |some p=>
   have:=yp b;have:=OF (p.2.drop 1) (p.1*86400);simp only[];split
   ·dsimp only;omega
   ·unfold xU;split<;>(dsimp only;omega)
  |none=>
   have:=OF (s.drop 1) 0;simp only[];unfold xU;split<;>(dsimp only;omega)
theorem SW(s:Str)(k:s.length<1000000):Fn G2 T_ 148 [.str s] (.tuple [.int .i64 (fM s).1,.int .i64 (fM s).2]):=by
 refine ae hm Lf (by simp) ?_;simp[DI];refine aa (OD s [45] k (by simp)) ?_;obtain⟨b,c⟩:∃b,kq s=b:=⟨_,rfl⟩;have g:b.length<1000000:=by rw[<-c];unfold kq;split<;>(try rw[List.length_drop])<;>omega
 have e:=OD b [80] g (by simp);have f:=VR (b.drop 1) (by rw[List.length_drop];omega);have d:=R2 (b.drop 1);have i:=R1 (b.drop 1);unfold fM;rw[c];obtain⟨⟨n,o⟩,l⟩:∃p,oe (b.drop 1)=p:=⟨_,rfl⟩;rw[l]at f d i;rw[List.drop_one]at f;rw[i];clear i l;unfold cutP at e |-;rw[Z3]at e |-;by_cases h:s[0]?=some 45
 ·have c:s.drop 1=b:=by rw[<-c];unfold kq;rw[if_pos (.inl h)]
  simp[h,c];refine aa e ?_;by_cases a:b[0]?=some 80
  ·simp[a];refine aa f ?_;cases o with
   |true=>
    simp at d;simp[fW];refine⟨fun j=>?_,fun j=>?_⟩
    ·have:86399913600<n:=by omega
     simp[this,a]
    ·have:¬86399913600<n:=by omega
     simp(disch:=omega)[wl,this,a,h]
   |false=>simp
  ·simp[a]
 ·simp[h];refine aa (Z2 s [43] k (by simp)) ?_
  have c:QZ s [43]=b:=by
   rw[<-c];unfold kq QZ;rw[Z3];by_cases m:s[0]?=some 43<;>simp[h,m]
  simp[c];refine aa e ?_;by_cases a:b[0]?=some 80
  ·simp[a];refine aa f ?_;cases o with
   |true=>
    simp at d;simp[fW];refine⟨fun j=>?_,fun j=>?_⟩
    ·have:86399913600<n:=by omega
     simp[this,a]
    ·have:¬86399913600<n:=by omega
     simp(disch:=omega)[wl,this,a,h]
   |false=>simp
  ·simp[a]
theorem Z4(a n:Int):Fn G2 T_ 154 [.int .i64 a,.int .i64 n] (.tuple [.int .i64 (addS a n).1,.int .i64 (addS a n).2]):=by
 refine ae hm QW (by simp) ?_;simp[Jt];have c:0<=a->a<=315537897599->-86399913600<=n->n<=86399913600->IntKind.i64.wrap (a+n)=a+n:=fun _ _ _ _=>wrap_i64 (by omega) (by omega)
 obtain⟨w,b⟩:∃w,IntKind.i64.wrap (a+n)=w:=⟨_,rfl⟩;rw[b]at c;unfold addS;simp[fW,b];clear b
 grind
def SX(s:Str)(a:Nat)(c:UInt8):Nat×Int:=match fI (s.drop a) c with
 |some (n,r)=>(n,((a+vP 6 (s.drop a)+1:Nat):Int))
 |none=>(0,-1)
theorem ab7{s:Str}{a:Nat}{c:UInt8}(h:fI (s.drop a) c=none):SX s a c=(0,-1):=by unfold SX;rw[h]
theorem fn_dnumber(s:Str)(a:Nat)(c:UInt8)(J:s.length<1000000)(K:a<=s.length):Fn G2 T_ 294 [.str s,.int .i64 a,.int .u8 c.toNat] (.tuple [.int .i64 (SX s a c).1,.int .i64 (SX s a c).2]):=by
 refine ae hm GO (by simp) ?_;simp[xN];obtain⟨t,v⟩:∃t,s.drop a=t:=⟨_,rfl⟩;have L:t.length=s.length-a:=by rw[<-v,List.length_drop]
 have w:∀i,a<=i->t[i-a]?=s[i]?:=fun i l=>by rw[<-v,List.getElem?_drop,Nat.add_sub_cancel' l]
 refine be hm [] (fun i:Nat=>[(8,.val (.int .i64 (bt 0 (t.take (i-a)):Nat))),(9,.val (.int .i64 i))]) (fun _=>[]) (fun i=>a<=i/\i<=a+6/\i<=s.length/\(t.take (i-a)).all d7=true/\i+vP (6-(i-a)) (t.drop (i-a))=a+vP 6 t) (fun i=>a+6-i) a ⟨by omega,by omega,by omega,by simp,by simp⟩ ?_ ?_
 ·have I:bt 0 ([]:Str)=0:=rfl;simp[I];exact bp
 rintro i ⟨y,M,N,D,z⟩;have O:=val_bd D (d:=6) (by rw[List.length_take];omega);simp;by_cases h:i<s.length/\i<a+6/\(∀h:i<s.length,d7 s[i]=true)
 ·obtain⟨b,n,j⟩:=h;have j:=j b;obtain⟨x,f⟩:∃x,s[i]=x:=⟨_,rfl⟩;rw[f]at j;have l:i-a<t.length:=by omega
  have q:t[i-a]=x:=by
   have:=w i y;rw[List.getElem?_eq_getElem b,f,List.getElem?_eq_getElem l]at this;simpa using this
  have A:=YX x j;have P:=wQ j;have hT:t.take (i+1-a)=t.take (i-a)++[x]:=by rw[show i+1-a=i-a+1 by omega,List.take_succ_eq_append_getElem l,q]
  simp(disch:=omega)[wl,f,A];refine ai (i+1) ⟨by omega,by omega,by omega,?_,?_⟩ (by omega) ?_
  ·rw[hT,List.all_append,D];simp[j]
  ·rw[<-z,DU l (by omega),q,if_pos j,show 6-(i+1-a)=6-(i-a)-1 by omega,show i+1-a=i-a+1 by omega];omega
  simp[hT,tG,Int.mul_comm _ (10:Int)];exact bp
 ·have E:i=a+vP 6 t:=by
   rw[<-z];by_cases n:i<a+6
   ·by_cases b:i<s.length
    ·have l:i-a<t.length:=by omega
     have:d7 t[i-a]=false:=by
      cases B:d7 t[i-a]with
      |false=>rfl
      |true=>
       refine absurd ⟨b,n,fun _=>?_⟩ h;have g:=w i y;rw[List.getElem?_eq_getElem b,List.getElem?_eq_getElem l]at g;rw[<-O_ g];exact B
     rw[DU l (by omega),this];simp
    ·rw[List.drop_eq_nil_of_le (by clear h;omega)];cases 6-(i-a)<;>rfl
   ·rw[show 6-(i-a)=0 by omega];rfl
  have F:t[vP 6 t]?=s[i]?:=by rw[<-w i y,show i-a=vP 6 t by omega]
  have H:SX s a c=if i=a\/s[i]?≠some c then (0,-1)else (bt 0 (t.take (i-a)),((i+1:Nat):Int)):=by
   unfold SX fI;rw[v,F];have e:i-a=vP 6 t:=by omega
   by_cases g:i=a\/s[i]?≠some c
   ·rw[if_pos g,if_pos (by rcases g with g|g;exact .inl (by omega);exact .inr g)]
   ·rw[if_neg g,if_neg (fun o=>g (by rcases o with o|o;exact .inl (by omega);exact .inr o)),e,E]
  rw[H];clear H F E z;by_cases b:i<s.length
  ·obtain⟨x,f⟩:∃x,s[i]=x:=⟨_,rfl⟩;by_cases n:i<a+6
   ·have j:d7 x=false:=by
     cases B:d7 x with
     |false=>rfl
     |true=>exact absurd ⟨b,n,fun _=>by rw[f];exact B⟩ h
    have p:x.toNat<48\/57<x.toNat:=by simp[d7]at j;omega
    rcases p with p|p
    ·have g:¬48<=x.toNat:=by omega
     simp(disch:=omega)[wl,b,f,n,g];by_cases e:i=a
     ·simp(disch:=omega)[wl,e]
     ·by_cases e2:x=c
      ·simp(disch:=omega)[wl,b,f,e,e2]
      ·have k:¬x.toNat=c.toNat:=fun h=>e2 (UInt8.toNat_inj.1 h)
       simp(disch:=omega)[wl,b,f,e,e2,k]
    ·have g:48<=x.toNat:=by omega
     have o:¬x.toNat<=57:=by omega
     simp(disch:=omega)[wl,b,f,n,g,o];by_cases e:i=a
     ·simp(disch:=omega)[wl,e]
     ·by_cases e2:x=c
      ·simp(disch:=omega)[wl,b,f,e,e2]
      ·have k:¬x.toNat=c.toNat:=fun h=>e2 (UInt8.toNat_inj.1 h)
       simp(disch:=omega)[wl,b,f,e,e2,k]
   ·have C:¬(i:Int)-a<6:=by omega
    by_cases j:48<=x.toNat
    ·by_cases p:x.toNat<=57
     ·simp(disch:=omega)[wl,b,f,C,j,p];by_cases e:i=a
      ·exact absurd e (by clear h;omega)
      ·by_cases e2:x=c
       ·simp(disch:=omega)[wl,b,f,e,e2]
       ·have k:¬x.toNat=c.toNat:=fun h=>e2 (UInt8.toNat_inj.1 h)
        simp(disch:=omega)[wl,b,f,e,e2,k]
     ·simp(disch:=omega)[wl,b,f,C,j,p];by_cases e:i=a
      ·exact absurd e (by clear h;omega)
      ·by_cases e2:x=c
       ·simp(disch:=omega)[wl,b,f,e,e2]
       ·have k:¬x.toNat=c.toNat:=fun h=>e2 (UInt8.toNat_inj.1 h)
        simp(disch:=omega)[wl,b,f,e,e2,k]
    ·simp(disch:=omega)[wl,b,f,C,j];by_cases e:i=a
     ·exact absurd e (by clear h;omega)
     ·by_cases e2:x=c
      ·simp(disch:=omega)[wl,b,f,e,e2]
      ·have k:¬x.toNat=c.toNat:=fun h=>e2 (UInt8.toNat_inj.1 h)
       simp(disch:=omega)[wl,b,f,e,e2,k]
  ·by_cases e:i=a
   ·simp(disch:=omega)[wl,b,e]
   ·simp(disch:=omega)[wl,b,e]
def tkP(s:Str)(c:UInt8)(u:Nat)(p:Nat×Nat):Nat×Nat:=match fI (s.drop p.1) c with
 |some (n,r)=>(p.1+vP 6 (s.drop p.1)+1,p.2+n*u)
 |none=>p
def SY(s:Str)(a:Nat):Int:=if s[a]?≠some 84\/a+1=s.length then -1 else
 let p:=tkP s 83 1 (tkP s 77 60 (tkP s 72 3600 (a+1,0)))
 if p.1=s.length then p.2 else -1
theorem EO{s:Str}{c:UInt8}{u:Nat}{a m:Nat}(h:a<=s.length):(tkP s c u (a,m)).1<=s.length/\(tkP s c u (a,m)).2<=m+1000000*u:=by
 unfold tkP;cases b:fI (s.drop a) c with
 |none=>simp;omega
 |some p=>
  have e:=yp b;have f:p.1*u<=1000000*u:=Nat.mul_le_mul (by omega) (by omega)
  have g:vP 6 (s.drop a)+1<=s.length-a:=by
   unfold fI at b;split at b
   ·cases b
   ·next d=>
    simp only[not_or,Decidable.not_not]at d;have:=(List.getElem?_eq_some_iff.1 d.2).1;rw[List.length_drop]at this;omega
  dsimp only;omega
theorem adi{s:Str}{c:UInt8}{u a m:Nat} : tkP s c u (a,m)=if (SX s a c).2<0 then (a,m)else ((SX s a c).2.toNat,m+(SX s a c).1*u):=by
 unfold tkP SX;cases fI (s.drop a) c with
 |none=>simp
 |some p=>
  dsimp only;rw[if_neg (by omega),Int.toNat_natCast]
def pk(s:Str)(a:Nat):Nat->Nat×Nat
 |0=>(a,0)
 |1=>tkP s 72 3600 (a,0)
 |2=>tkP s 77 60 (tkP s 72 3600 (a,0))
 |_=>tkP s 83 1 (tkP s 77 60 (tkP s 72 3600 (a,0)))
theorem R3(s:Str)(a:Nat)(x:s.length<1000000)(U:a<=s.length):Fn G2 T_ 295 [.str s,.int .i64 a] (.int .i64 (SY s a)):=by
 refine ae hm Lk (by simp) ?_;simp[DS];by_cases h:s[a]?=some 84
 ·have g:a<s.length:=(List.getElem?_eq_some_iff.1 h).1;have l:s[a]=84:=by rw[List.getElem?_eq_getElem g]at h;simpa using h
  by_cases E:a+1=s.length
  ·have hT:SY s a = -1:=by unfold SY;rw[if_pos (.inr E)]
   have i:(a:Int)+1=s.length:=by omega
   rw[hT];simp(disch:=omega)[wl,g,l,i]
  ·have i:¬(a:Int)+1=s.length:=by omega
   have hT:SY s a=if (pk s (a+1) 3).1=s.length then ((pk s (a+1) 3).2:Int)else -1:=by unfold SY;rw[if_neg (by simp[h,E])];rfl
   rw[hT];simp(disch:=omega)[wl,g,l,i];have q:=EO (s:=s) (c:=72) (u:=3600) (a:=a+1) (m:=0) (by omega);obtain⟨⟨j,y⟩,e1⟩:∃p,tkP s 72 3600 (a+1,0)=p:=⟨_,rfl⟩;have v:=EO (s:=s) (c:=77) (u:=60) (a:=j) (m:=y) (by rw[e1]at q;exact q.1);obtain⟨⟨k,z⟩,e2⟩:∃p,tkP s 77 60 (j,y)=p:=⟨_,rfl⟩;have F:=EO (s:=s) (c:=83) (u:=1) (a:=k) (m:=z) (by rw[e2]at v;exact v.1);obtain⟨⟨w,O⟩,d⟩:∃p,tkP s 83 1 (k,z)=p:=⟨_,rfl⟩;have H:pk s (a+1) 0=(a+1,0):=rfl;have A:pk s (a+1) 1=(j,y):=e1;have B:pk s (a+1) 2=(k,z):=by rw[<-e2,<-e1];rfl
   have n:pk s (a+1) 3=(w,O):=by rw[<-d,<-e2,<-e1];rfl
   rw[e1]at q;rw[e2]at v;rw[d]at F;dsimp only at q v F;have I:=fn_dnumber s (a+1) 72 x (by omega);have J:=fn_dnumber s j 77 x (by omega);have K:=fn_dnumber s k 83 x (by omega);rw[adi]at e1 e2 d;obtain⟨⟨V,L⟩,P⟩:∃p,SX s (a+1) 72=p:=⟨_,rfl⟩;obtain⟨⟨W,M⟩,Q⟩:∃p,SX s j 77=p:=⟨_,rfl⟩;obtain⟨⟨X,N⟩,R⟩:∃p,SX s k 83=p:=⟨_,rfl⟩;rw[P]at e1 I;rw[Q]at e2 J;rw[R]at d K;refine be hm [] (fun r:Nat=>[(8,.val (.int .i64 r)),(5,.val (.int .i64 (pk s (a+1) r).2)),(1,.val (.int .i64 (pk s (a+1) r).1))]) (fun _=>[(7,.box [.val (.int .i64 3600),.val (.int .i64 60),.val (.int .i64 1)]),(6,.box [.val (.int .u8 72),.val (.int .u8 77),.val (.int .u8 83)])]) (fun r=>r<=3) (fun r=>3-r) 0 (by omega) ?_ ?_
   ·simp[H];exact bp
   intro r Y;have C:r=0\/r=1\/r=2\/r=3:=by omega
   rcases C with rfl|rfl|rfl|rfl
   ·simp[H];refine aa I ?_;by_cases b:L<0
    ·rw[if_pos b]at e1;obtain⟨rfl,rfl⟩:=Prod.mk.inj e1;simp(disch:=omega)[wl,b];refine ai 1 (by omega) (by omega) ?_;simp[A];exact bp
    ·rw[if_neg b]at e1;obtain⟨o,f⟩:=Prod.mk.inj e1;dsimp only at o f;simp(disch:=omega)[wl,b];refine ai 1 (by omega) (by omega) ?_;simp[A,<-f,show L=(j:Int) by omega];exact bp
   ·simp[A];refine aa J ?_;by_cases b:M<0
    ·rw[if_pos b]at e2;obtain⟨rfl,rfl⟩:=Prod.mk.inj e2;simp(disch:=omega)[wl,b];refine ai 2 (by omega) (by omega) ?_;simp[B];exact bp
    ·rw[if_neg b]at e2;obtain⟨o,f⟩:=Prod.mk.inj e2;dsimp only at o f;simp(disch:=omega)[wl,b];refine ai 2 (by omega) (by omega) ?_;simp[B,<-f,show M=(k:Int) by omega];exact bp
   ·simp[B];refine aa K ?_;by_cases b:N<0
    ·rw[if_pos b]at d;obtain⟨rfl,rfl⟩:=Prod.mk.inj d;simp(disch:=omega)[wl,b];refine ai 3 (by omega) (by omega) ?_;simp[n];exact bp
    ·rw[if_neg b]at d;obtain⟨o,f⟩:=Prod.mk.inj d;dsimp only at o f;simp(disch:=omega)[wl,b];refine ai 3 (by omega) (by omega) ?_;simp[n,<-f,show N=(w:Int) by omega];exact bp
   ·simp[n];by_cases e:w=s.length
    ·simp(disch:=omega)[wl,e,n]
    ·have S:¬(w:Int)=s.length:=by omega
     simp(disch:=omega)[wl,e,S,n]
 ·have hT:SY s a = -1:=by unfold SY;rw[if_pos (.inl h)]
  rw[hT];by_cases g:a<s.length
  ·have l:¬s[a]=84:=fun e=>h (by rw[List.getElem?_eq_getElem g,e])
   have D:¬s[a].toNat=84:=fun e=>l (UInt8.toNat_inj.1 e)
   simp(disch:=omega)[wl,g,l,D]
  ·simp(disch:=omega)[wl,g]
theorem R4{s:Str}{c:UInt8}{n:Nat}{r:Str}(h:fI s c=some (n,r)):r=s.drop (vP 6 s+1):=by
 unfold fI at h;split at h
 ·cases h
 ·have:=O_ h;exact(Prod.mk.inj this).2.symm
theorem Ue{s:Str}{c:UInt8}{n:Nat}{r:Str}(h:fI s c=some (n,r)):vP 6 s+1<=s.length/\n=bt 0 (s.take (vP 6 s)):=by
 unfold fI at h;split at h
 ·cases h
 ·next a=>
  simp only[not_or,Decidable.not_not]at a;have:=(List.getElem?_eq_some_iff.1 a.2).1;exact⟨by omega,(Prod.mk.inj (O_ h)).1.symm⟩
theorem SZ(s:Str)(c:UInt8)(u a m k x:Nat):∃d t e,tk c u (s.drop a,m,k)=(s.drop (a+d),m+t,k+e)/\tkP s c u (a,x)=(a+d,x+t)/\(e=0->d=0)/\(e≠0->a+d<=s.length/\d≠0):=by
 cases h:fI (s.drop a) c with
 |none=>
  refine⟨0,0,0,?_,?_,fun _=>rfl,fun h=>absurd rfl h⟩
  ·rw[xS h];rfl
  ·unfold tkP;rw[h];rfl
 |some p=>
  obtain⟨n,r⟩:=p;refine⟨vP 6 (s.drop a)+1,n*u,1,?_,?_,fun h=>(by omega),fun _=>⟨?_,by omega⟩⟩
  ·rw[yt h,R4 h,List.drop_drop]
  ·unfold tkP;rw[h];rfl
  ·have b:=(Ue h).1;rw[List.length_drop]at b;omega
theorem Uf(s:Str)(a m:Nat):MQ (s.drop a) m=if 0<=SY s a then some (m+(SY s a).toNat)else none:=by
 unfold MQ SY MP;rw[List.getElem?_drop,List.drop_drop,Nat.add_zero];by_cases h:s[a]?=some 84
 ·obtain⟨d1,b,e1,d,e,o,p⟩:=SZ s 72 3600 (a+1) m 0 0;obtain⟨f,g,e2,i,j,q,u⟩:=SZ s 77 60 (a+1+d1) (m+b) (0+e1) (0+b);obtain⟨d3,v,w,k,l,x,y⟩:=SZ s 83 1 (a+1+d1+f) (m+b+g) (0+e1+e2) (0+b+g);rw[d,i,k,e,j,l];have z:a<s.length:=(List.getElem?_eq_some_iff.1 h).1;simp only[List.drop_eq_nil_iff];clear d i k e j l;by_cases n:a+1=s.length
  ·rw[if_neg (fun c=>by omega)];simp[n]
  ·simp only[h,n,ne_eq,not_true,or_self,if_false,true_and];by_cases c:a+1+d1+f+d3=s.length
   ·rw[if_pos (by omega),if_pos c,if_pos (by omega)];congr 1;omega
   ·rw[if_neg (by omega),if_neg c,if_neg (by omega)]
 ·simp[h]
def Ug(s:Str):Int:=match G0 s with
 |some n=>n
 |none=>-1
theorem Uh{s:Str}{c:UInt8}{n:Nat}{r:Str}(h:fI s c=some (n,r)):∃k:Nat,SX s 0 c=(n,(k:Int))/\k<=s.length/\(r=[]↔k=s.length)/\r=s.drop k/\n<1000000:=by
 have d:=(Ue h).1;have b:=R4 h;refine⟨vP 6 s+1,?_,d,?_,b,(yp h).2⟩
 ·unfold SX;rw[List.drop_zero,h,Nat.zero_add]
 ·rw[b,List.drop_eq_nil_iff];omega
theorem Z6(s:Str)(a:Nat)(l:a<=s.length):-1<=SY s a/\SY s a<=4000000000:=by
 unfold SY;by_cases h:s[a]?≠some 84\/a+1=s.length
 ·rw[if_pos h];omega
 ·rw[if_neg h];simp only[not_or,Decidable.not_not,ne_eq]at h;have n:=(List.getElem?_eq_some_iff.1 h.1).1;have b:=EO (s:=s) (c:=72) (u:=3600) (a:=a+1) (m:=0) (by omega);obtain⟨⟨d,e⟩,e1⟩:∃p,tkP s 72 3600 (a+1,0)=p:=⟨_,rfl⟩;rw[e1]at b |-;have f:=EO (s:=s) (c:=77) (u:=60) (a:=d) (m:=e) b.1;obtain⟨⟨g,i⟩,e2⟩:∃p,tkP s 77 60 (d,e)=p:=⟨_,rfl⟩;rw[e2]at f |-;have j:=EO (s:=s) (c:=83) (u:=1) (a:=g) (m:=i) f.1;obtain⟨⟨o,q⟩,k⟩:∃p,tkP s 83 1 (g,i)=p:=⟨_,rfl⟩;rw[k]at j |-;dsimp only at *;split<;>omega
theorem tU(s:Str)(c:s.length<1000000):Fn G2 T_ 230 [.str s] (.int .i64 (Ug s)):=by
 refine ae hm Lj (by simp) ?_;simp[DQ];refine aa (fn_dnumber s 0 87 c (by omega)) ?_;unfold Ug G0;have i:=Uf s 0 0;rw[List.drop_zero]at i;cases j:fI s 87 with
 |some p=>
  obtain⟨n,r⟩:=p;obtain⟨k,e,d,e2,l,v⟩:=Uh j;rw[e];by_cases h:k=s.length
  ·simp(disch:=omega)[wl,h,e2.2 h]
  ·have b:¬(k:Int)=s.length:=by omega
   simp(disch:=omega)[wl,h,b,e2]
 |none=>
  rw[ab7 (a:=0) j];simp;refine aa (fn_dnumber s 0 68 c (by omega)) ?_;cases m:fI s 68 with
  |none=>
   rw[ab7 (a:=0) m];simp;refine aa (R3 s 0 c (by omega)) ?_;have o:=Z6 s 0 (by omega);rw[i];by_cases h:0<=SY s 0
   ·simp(disch:=omega)[wl,h];omega
   ·simp(disch:=omega)[wl,h];omega
  |some p=>
   obtain⟨n,r⟩:=p;obtain⟨k,e,d,e2,l,v⟩:=Uh m;rw[e];by_cases h:k=s.length
   ·simp(disch:=omega)[wl,h,e2.2 h]
   ·have b:¬(k:Int)=s.length:=by omega
    have hT:=Uf s k (n*86400);have o:=Z6 s k d;have q:=R3 s k c d;rw[<-l]at hT;simp(disch:=omega)[wl,h,b,e2];obtain⟨T,f⟩:∃T,SY s k=T:=⟨_,rfl⟩;rw[f]at o hT q;refine aa q ?_;by_cases u:T<0
    ·have g:¬0<=T:=by omega
     simp(disch:=omega)[wl,u,g,hT];rw[if_neg (fun h=>b (by have:=e2.1 h;omega))]
    ·have g:0<=T:=by omega
     have w:max T 0=T:=by omega
     simp(disch:=omega)[wl,u,g,w,hT];rw[if_neg (fun h=>b (by have:=e2.1 h;omega))];simp;omega
theorem T0(s:Str):-1<=Ug s/\Ug s<1000000000000:=by
 unfold Ug;have h:=R1 s;have a:=R2 s;rw[h];cases (oe s).2 with
 |true=>simp;omega
 |false=>simp
theorem R5(s:Str)(j:s.length<1000000):Fn G2 T_ 164 [.str s] (.tuple [.int .i64 (fM s).1,.int .i64 (fM s).2]):=by
 refine ae hm Jw (by simp) ?_;simp[AD];cases s with
 |nil=>simp(disch:=omega)[wl,fM,kq]
 |cons c q=>
  simp at j;by_cases l:c=43
  ·subst l;cases q with
   |nil=>simp(disch:=omega)[wl,fM,kq]
   |cons d r=>
    have g:=tU r (by simp at j;omega);have b:=T0 r;have e0:((r.length:Int)+1+1).toNat=r.length+2:=by omega
    have e1:((r.length:Int)+1).toNat=r.length+1:=by omega
    by_cases e:d=80
    ·subst e;simp(disch:=omega)[wl,e0,e1];refine⟨by omega,by omega,?_⟩;refine aa g ?_;clear g;unfold Ug at b |-;cases a:G0 r with
     |none=>simp(disch:=omega)[wl,fM,kq,a]
     |some n=>
      rw[a]at b;dsimp only at b;have k:¬(n:Int)<0:=by omega
      simp(disch:=omega)[wl,e0,e1,k];refine⟨by omega,?_⟩;refine aa (tU r (by simp at j;omega)) ?_;by_cases i:86399913600<n
      ·simp(disch:=omega)[wl,fM,kq,a,i,Ug]
      ·simp(disch:=omega)[wl,fM,kq,a,i,Ug]
    ·have f:¬d.toNat=80:=fun h=>e (UInt8.toNat_inj.1 h)
     simp(disch:=omega)[wl,e,f,fM,kq];omega
  ·have m:¬c.toNat=43:=fun h=>l (UInt8.toNat_inj.1 h)
   by_cases o:c=45
   ·subst o;cases q with
    |nil=>simp(disch:=omega)[wl,fM,kq]
    |cons d r=>
     have g:=tU r (by simp at j;omega);have b:=T0 r;have e0:((r.length:Int)+1+1).toNat=r.length+2:=by omega
     have e1:((r.length:Int)+1).toNat=r.length+1:=by omega
     by_cases e:d=80
     ·subst e;simp(disch:=omega)[wl,e0,e1];refine⟨by omega,by omega,?_⟩;refine aa g ?_;clear g;unfold Ug at b |-;cases a:G0 r with
      |none=>simp(disch:=omega)[wl,fM,kq,a]
      |some n=>
       rw[a]at b;dsimp only at b;have k:¬(n:Int)<0:=by omega
       simp(disch:=omega)[wl,e0,e1,k];refine⟨by omega,?_⟩;refine aa (tU r (by simp at j;omega)) ?_;by_cases i:86399913600<n
       ·simp(disch:=omega)[wl,fM,kq,a,i,Ug]
       ·simp(disch:=omega)[wl,fM,kq,a,i,Ug]
     ·have f:¬d.toNat=80:=fun h=>e (UInt8.toNat_inj.1 h)
      simp(disch:=omega)[wl,e,f,fM,kq];omega
   ·have p:¬c.toNat=45:=fun h=>o (UInt8.toNat_inj.1 h)
    have e1:((q.length:Int)+1).toNat=q.length+1:=by omega
    by_cases e:c=80
    ·subst e;have g:=tU q (by omega);have b:=T0 q;simp(disch:=omega)[wl,e1];refine⟨by omega,?_⟩;refine aa g ?_;clear g;unfold Ug at b |-;cases a:G0 q with
     |none=>simp(disch:=omega)[wl,fM,kq,a]
     |some n=>
      rw[a]at b;dsimp only at b;have k:¬(n:Int)<0:=by omega
      simp(disch:=omega)[wl,e1,k];refine⟨by omega,?_⟩;refine aa (tU q (by omega)) ?_;by_cases i:86399913600<n
      ·simp(disch:=omega)[wl,fM,kq,a,i,Ug]
      ·simp(disch:=omega)[wl,fM,kq,a,i,Ug]
    ·have f:¬c.toNat=80:=fun h=>e (UInt8.toNat_inj.1 h)
     simp(disch:=omega)[wl,l,o,e,m,p,f,fM,kq]
theorem VT(a n:Int):Fn G2 T_ 111 [.int .i64 a,.int .i64 n] (.tuple [.int .i64 (addS a n).1,.int .i64 (addS a n).2]):=by
 refine ae hm OB (by simp) ?_;simp[Gl];have c:0<=a->a<=315537897599->-86399913600<=n->n<=86399913600->IntKind.i64.wrap (a+n)=a+n:=fun _ _ _ _=>wrap_i64 (by omega) (by omega)
 obtain⟨w,b⟩:∃w,IntKind.i64.wrap (a+n)=w:=⟨_,rfl⟩;rw[b]at c;unfold addS;simp[fW,b];clear b
 grind
def mnI:Option UInt8->IV
 |some c=>.tuple [.int .u8 c.toNat,.bool true]
 |none=>.tuple [.int .u8 0,.bool false]
theorem u8_is(c:UInt8)(n:Nat)(a:n<256):c.toNat=n↔c=UInt8.ofNat n:=by
 rw[<-UInt8.toNat_inj];simp[Nat.mod_eq_of_lt a]
theorem Z7(c:UInt8):Fn G2 T_ 281 [.int .u8 c.toNat] (mnI (oB c)):=by
 refine ae hm GN (by simp) ?_;simp[xK];have a:∀n:Nat,n<256->¬c=UInt8.ofNat n->¬c.toNat=n:=fun n l h e=>h ((u8_is c n l).1 e)
 by_cases b:c=78
 ·subst b;simp(disch:=omega)[wl,oB,mnI]
 ·have m:=a 78 (by omega) b;by_cases f:c=110
  ·subst f;simp(disch:=omega)[wl,oB,mnI]
  ·have o:=a 110 (by omega) f;by_cases g:c=92
   ·subst g;simp(disch:=omega)[wl,oB,mnI]
   ·have p:=a 92 (by omega) g;by_cases i:c=59
    ·subst i;simp(disch:=omega)[wl,oB,mnI]
    ·have q:=a 59 (by omega) i;by_cases j:c=44
     ·subst j;simp(disch:=omega)[wl,oB,mnI]
     ·have s:=a 44 (by omega) j;simp(disch:=omega)[wl,oB,mnI,m,o,p,q,s,b,f,g,i,j]
def ptI:PtX->IV
 |.bad p=>.tuple [.str [],.int .i64 0,.int .i64 p]
 |.ok t n=>.tuple [.str t,.int .i64 n,.int .i64 (-1)]
theorem qH(i:Nat)(a:Str):i6 [] i a=.ok a i:=by rw[i6]
theorem ni(c:UInt8)(r:Str)(i:Nat)(a:Str):i6 (c::r) i a=if c=44 then .ok a i else if c=59 then .bad i else if c=92 then (match r with
  |[]=>.bad i
  |d::q=>match oB d with
   |some m=>i6 q (i+2) (a++[m])
   |none=>.bad i)else i6 r (i+1) (a++[c]):=by
 rw[i6.eq_def];cases r<;>rfl
theorem abj(s:Str)(F:s.length<100000):Fn G2 T_ 215 [.str s] (ptI (i6 s 0 [])):=by
 refine ae hm JB (by simp) ?_;simp[AN];refine be hm [] (fun p:Nat×Str=>[(6,.val (.int .i64 p.1))]) (fun p=>[(5,.box [.selfN 5 309 false,.ownT 1 p.2.length 5]),(1,.arr p.2.length 1 (an p.2))]) (fun p=>p.1<=s.length/\p.2.length<=p.1/\i6 s 0 []=i6 (s.drop p.1) p.1 p.2) (fun p=>s.length-p.1) (0,[]) ⟨by simp,by simp,rfl⟩ ?_ ?_
 ·exact cH.trans (PW (k:=5) (d:=5) (t:=309) 1 5 (by simp) (by simp) (by simp[ap,ac]) (by simp[ac]) (by simp)) (ag rfl rfl (by simp[St.bld,aI,ap,ac,put,cS,SV.erase]) (by simp[St.bld,bD,ac,put,ck,fh,Ob.erase,SV.erase,an]) (by simp[St.bld,bB]))
 rintro⟨i,a⟩ ⟨x,y,o⟩;dsimp only at x y o;rw[o];clear o;simp;by_cases h:i<s.length
 ·obtain⟨c,b⟩:∃c,s[i]=c:=⟨_,rfl⟩;rw[List.drop_eq_getElem_cons h,b,ni];have q:∀n:Nat,n<256->¬c=UInt8.ofNat n->¬c.toNat=n:=fun n z h e=>h ((u8_is c n z).1 e)
  have v:=fun d:UInt8=>upM (yW a.length a d (by omega))
  by_cases j:c=44
  ·rw[if_pos j];subst j;simp(disch:=omega)[wl,b];refine callM [(1000,5),(1001,1)] [] (upM (B7 a.length a (by omega))) rfl rfl (by simp[yP,gO,Vs.ren,ac,Ob.ren,SV.ren]) ⟨rfl,rfl⟩ rfl ?_;simp(disch:=omega)[wl,ptI]
  ·have A:=q 44 (by omega) j;rw[if_neg j];by_cases l:c=59
   ·rw[if_pos l];subst l;simp(disch:=omega)[wl,b,ptI]
   ·have B:=q 59 (by omega) l;rw[if_neg l];by_cases f:c=92
    ·rw[if_pos f];by_cases w:i+1<s.length
     ·obtain⟨d,u⟩:∃d,s[i+1]=d:=⟨_,rfl⟩;rw[List.drop_eq_getElem_cons w,u];have C:=Z7 d;have D:s[i+1]?=some d:=by rw[List.getElem?_eq_getElem w,u]
      have e4:¬(i:Int)+1=s.length:=by omega
      subst f;have e5:(0:Int)<=(i:Int)+1:=by omega
      simp(disch:=omega)[wl,b,u,e4,e5];refine aa C ?_;cases g:oB d with
      |none=>simp(disch:=omega)[wl,mnI,ptI,g]
      |some m=>
       simp(disch:=omega)[wl,mnI];refine callM [(1000,5),(1001,1)] [] (v m) rfl rfl ⟨rfl,rfl,trivial⟩ ⟨rfl,_,_,rfl,rfl,rfl⟩ rfl ?_;simp[gO];simp(disch:=omega)[wl];refine ai (i+2,a++[m]) ⟨by omega,by simp;omega,by simp[g]⟩ (by omega) ?_;have e7:(i:Int)+1+1=i+2:=by omega
       simp[e7];exact bp
     ·have e4:(i:Int)+1=s.length:=by omega
      rw[List.drop_eq_nil_of_le (by omega)];subst f;simp(disch:=omega)[wl,b,e4,ptI]
    ·have E:=q 92 (by omega) f;rw[if_neg f];simp(disch:=omega)[wl,b,A,B,E];refine callM [(1000,5),(1001,1)] [] (v c) rfl rfl ⟨rfl,rfl,trivial⟩ ⟨rfl,_,_,rfl,rfl,rfl⟩ rfl ?_;simp[gO];simp(disch:=omega)[wl];refine ai (i+1,a++[c]) ⟨by omega,by simp;omega,rfl⟩ (by omega) ?_;simp;exact bp
 ·obtain rfl:i=s.length:=by omega
  rw[List.drop_length,qH];simp(disch:=omega)[wl];refine callM [(1000,5),(1001,1)] [] (upM (B7 a.length a (by omega))) rfl rfl (by simp[yP,gO,Vs.ren,ac,Ob.ren,SV.ren]) ⟨rfl,rfl⟩ rfl ?_;simp(disch:=omega)[wl,ptI]
theorem abk(s:Str):match i6 s 0 []with
  |.bad p=>p<s.length
  |.ok t n=>n<=s.length/\t.length<=s.length:=by
 suffices H:∀(k:Nat) (r:Str) (i:Nat) (a:Str),r.length<=k->match i6 r i a with
   |.bad p=>p<i+r.length
   |.ok t n=>n<=i+r.length/\t.length<=a.length+r.length by
  have:=H s.length s 0 [] (by omega);simpa using this
 intro k
 induction k with
 |zero=>
  intro r i a b;obtain rfl:r=[]:=List.eq_nil_of_length_eq_zero (by omega);rw[qH];simp
 |succ k e=>
  intro r i a b;cases r with
  |nil=>rw[qH];simp
  |cons c q=>
   simp only[List.length_cons]at b |-;rw[ni];by_cases f:c=44
   ·rw[if_pos f];simp
   rw[if_neg f];by_cases g:c=59
   ·rw[if_pos g];simp
   rw[if_neg g];by_cases h:c=92
   ·rw[if_pos h];cases q with
    |nil=>simp
    |cons d q=>
     simp only[List.length_cons]at b |-;cases hm:oB d with
     |none=>simp[hm]
     |some m=>
      have:=e q (i+2) (a++[m]) (by omega);simp only[hm];revert this;cases i6 q (i+2) (a++[m])<;>simp<;>omega
   ·rw[if_neg h];have:=e q (i+1) (a++[c]) (by omega);revert this;cases i6 q (i+1) (a++[c])<;>simp<;>omega
def unI:UnX->IV
 |.bad p=>.tuple [.str [],dq 4 [(p:Int)]]
 |.ok t=>.tuple [.str t,.nili]
theorem R6(s:Str)(d:s.length<100000):Fn G2 T_ 149 [.str s] (unI (unR s)):=by
 refine ae hm Bj (by simp) ?_;simp[rI];refine aa (abj s d) ?_;have a:=abk s;unfold unR;cases c:i6 s 0 []with
 |bad p=>
  rw[c]at a;dsimp only at a;have b:=up (fP 4 p);simp(disch:=omega)[wl,ptI,unI];refine aa b ?_;simp(disch:=omega)[wl,unI]
 |ok t n=>
  rw[c]at a;dsimp only at a;by_cases h:n<s.length
  ·have b:=up (fP 4 n);simp(disch:=omega)[wl,ptI,unI,h];refine aa b ?_;simp(disch:=omega)[wl,unI,h]
  ·simp(disch:=omega)[wl,ptI,unI,h]
def cm:Str->Nat
 |[]=>0
 |c::r=>if c=92 then (match r with
  |[]=>1
  |_::q=>cm q+2)else if c=44 then 0 else cm r+1
theorem vg:cm []=0:=by rw[cm]
theorem nF(c:UInt8)(r:Str):cm (c::r)=if c=92 then (match r with
  |[]=>1
  |_::q=>cm q+2)else if c=44 then 0 else cm r+1:=by
 rw[cm.eq_def];cases r<;>rfl
theorem aek:∀(k:Nat) (r:Str),r.length<=k->cm r<=r.length:=by
 intro k
 induction k with
 |zero=>intro r a;obtain rfl:r=[]:=List.eq_nil_of_length_eq_zero (by omega);rw[vg];omega
 |succ k b=>
  intro r a;cases r with
  |nil=>rw[vg];omega
  |cons c q=>
   simp only[List.length_cons]at a |-;rw[nF];cases q with
   |nil=>simp only[vg];grind
   |cons d q=>
    have f:=b q (by simp at a;omega);have e:=b (d::q) (by omega);simp only[List.length_cons]at e |-
    grind
theorem Ui:∀(k:Nat) (r:Str),r.length<=k->∀i a,i6 (r.take (cm r)) i a=i6 r i a/\cm (r.take (cm r))=(r.take (cm r)).length/\∀t n,i6 r i a=.ok t n->n=i+cm r:=by
 intro k
 induction k with
 |zero=>intro r e;obtain rfl:r=[]:=List.eq_nil_of_length_eq_zero (by omega);intro i a;rw[vg];simp[qH,vg]
 |succ k f=>
  intro r e i a;cases r with
  |nil=>rw[vg];simp[qH,vg]
  |cons c q=>
   simp only[List.length_cons]at e;by_cases b:c=92
   ·subst b;cases q with
    |nil=>rw[nF,if_pos rfl];simp[ni,nF]
    |cons d q=>
     rw[nF,if_pos rfl];dsimp only;rw[List.take_succ_cons,List.take_succ_cons];simp only[ni,nF,if_true,List.length_cons];simp at e;cases hm:oB d with
     |none=>simp[hm];exact(f q (by omega) 0 []).2.1▸(by simp)
     |some m=>
      obtain⟨g,j,l⟩:=f q (by omega) (i+2) (a++[m]);simp[hm,g,j];exact fun t n h=>by have:=l t n h;omega
   ·by_cases o:c=44
    ·subst o;rw[nF,if_neg b,if_pos rfl];simp[ni,vg,qH]
    ·rw[nF,if_neg b,if_neg o,List.take_succ_cons];obtain⟨g,j,l⟩:=f q (by omega) (i+1) (a++[c]);simp only[ni,nF,if_neg b,if_neg o,List.length_cons];rw[g,j];refine⟨rfl,rfl,fun t n h=>?_⟩;by_cases p:c=59
     ·rw[if_pos p]at h;cases h
     ·rw[if_neg p]at h;have:=l t n h;omega
theorem Z8(s:Str)(q:s.length<100000):Fn G2 T_ 165 [.str s] (.int .i64 (cm s:Nat)):=by
 refine ae hm Jx (by simp) ?_;simp[AF];refine be hm [] (fun i:Nat=>[(3,.val (.int .i64 i))]) (fun _=>[]) (fun i=>(i<=s.length/\i+cm (s.drop i)=cm s)\/(i=s.length+1/\cm s=s.length)) (fun i=>s.length+1-i) 0 (.inl ⟨by omega,by simp⟩) ?_ ?_
 ·exact bp
 rintro i j;simp;by_cases h:i<s.length
 ·rcases j with⟨g,a⟩|⟨g,a⟩
  ·obtain⟨c,b⟩:∃c,s[i]=c:=⟨_,rfl⟩;rw[List.drop_eq_getElem_cons h,b,nF]at a;have k:∀n:Nat,n<256->¬c=UInt8.ofNat n->¬c.toNat=n:=fun n l h e=>h ((u8_is c n l).1 e)
   by_cases d:c=92
   ·rw[if_pos d]at a;subst d;simp(disch:=omega)[wl,b];by_cases m:i+1<s.length
    ·rw[List.drop_eq_getElem_cons m]at a;dsimp only at a;rw[show i+1+1=i+2 from rfl]at a;refine ai (i+2) (.inl ⟨by omega,by omega⟩) (by omega) ?_;have e7:(i:Int)+1+1=i+2:=by omega
     simp[e7];exact bp
    ·rw[List.drop_eq_nil_of_le (by omega)]at a;dsimp only at a;refine ai (i+2) (.inr ⟨by omega,by omega⟩) (by omega) ?_;have e7:(i:Int)+1+1=i+2:=by omega
     simp[e7];exact bp
   ·rw[if_neg d]at a;have o:=k 92 (by omega) d;by_cases f:c=44
    ·rw[if_pos f]at a;subst f;simp(disch:=omega)[wl,b,<-a]
    ·rw[if_neg f]at a;have p:=k 44 (by omega) f;simp(disch:=omega)[wl,b,o,p];refine ai (i+1) (.inl ⟨by omega,by omega⟩) (by omega) ?_;simp;exact bp
  ·omega
 ·have:cm s=s.length:=by
   rcases j with⟨g,a⟩|⟨g,a⟩
   ·obtain rfl:i=s.length:=by omega
    rw[List.drop_length,vg]at a;omega
   ·exact a
  have e:¬(i:Int)<s.length:=by omega
  simp(disch:=omega)[wl,e,this]
theorem brL(a:Str):(an a).length=a.length:=by simp[an]
theorem brA(a:Str)(c:UInt8):an (a++[c])=an a++[[.int .u8 c.toNat]]:=by simp[an]
def spI:PtX->IV
 |.bad p=>.tuple [.slice [],.int .i64 4,.int .i64 p]
 |.ok t n=>.tuple [.slice [[.str t]],.int .i64 0,.int .i64 0]
theorem VU(s:Str)(V:s.length<100000)(N:cm s=s.length):Fn G2 T_ 166 [.str s] (spI (i6 s 0 [])):=by
 refine ae hm Jy (by simp) ?_;simp[AH];refine be hm [] (fun p:Nat×Str=>[(7,.val (.int .i64 p.1)),(6,.own 6 p.2.length)]) (fun p=>[(6,.arr p.2.length 1 (an p.2))]) (fun p=>p.1<=s.length/\p.2.length<=p.1/\cm (s.drop p.1)=(s.drop p.1).length/\i6 s 0 []=i6 (s.drop p.1) p.1 p.2) (fun p=>s.length-p.1) (0,[]) ⟨by simp,by simp,by simpa using N,rfl⟩ ?_ ?_
 ·simp[an];exact cH.trans (ct (k:=6) 6 1 (by simp) (by simp[ap,ac])) (ag rfl rfl (by simp[St.adopt,aI,ap,ac,put,cS,SV.erase]) (by simp[St.adopt,bD,ac,put,ck,Ob.erase]) (by simp[St.adopt,bB]))
 rintro⟨i,a⟩ ⟨O,P,b,K⟩;dsimp only at O P K b;rw[K];clear K;simp;by_cases h:i<s.length
 ·obtain⟨c,g⟩:∃c,s[i]=c:=⟨_,rfl⟩;rw[List.drop_eq_getElem_cons h,g]at b |-;rw[ni];rw[nF]at b;simp only[List.length_cons]at b;have B:∀n:Nat,n<256->¬c=UInt8.ofNat n->¬c.toNat=n:=fun n L h e=>h ((u8_is c n L).1 e)
  have M:¬c=44:=fun e=>by rw[if_neg (by rw[e];decide),if_pos e]at b;omega
  have Q:=B 44 (by omega) M;rw[if_neg M];by_cases C:c=59
  ·rw[if_pos C];subst C;simp(disch:=omega)[wl,g,spI]
  ·have R:=B 59 (by omega) C;rw[if_neg C];by_cases q:c=92
   ·rw[if_pos q]at b |-;by_cases S:i+1<s.length
    ·obtain⟨d,l⟩:∃d,s[i+1]=d:=⟨_,rfl⟩;rw[List.drop_eq_getElem_cons S,l]at b |-;have e4:¬(i:Int)+1=s.length:=by omega
     have e5:(0:Int)<=(i:Int)+1:=by omega
     have e7:(i:Int)+1+1=i+2:=by omega
     have B:∀n:Nat,n<256->¬d=UInt8.ofNat n->¬d.toNat=n:=fun n L h e=>h ((u8_is d n L).1 e)
     subst q;dsimp only at b;rw[show i+1+1=i+2 from rfl]at b |-;have j:d.toNat=110↔d=110:=u8_is d 110 (by omega);have w:d.toNat=78↔d=78:=u8_is d 78 (by omega);have x:d.toNat=92↔d=92:=u8_is d 92 (by omega);have y:d.toNat=59↔d=59:=u8_is d 59 (by omega);have z:d.toNat=44↔d=44:=u8_is d 44 (by omega);have go:∀m,oB d=some m->i+2<=s.length/\(a++[m]).length<=i+2/\cm (s.drop (i+2))=(s.drop (i+2)).length:=fun m _=>⟨by omega,by simp;omega,by simpa using b⟩
     by_cases D:d=110
     ·have f:oB d=some 10:=by simp[oB,D]
      have o:=j.2 D;simp(disch:=omega)[wl,g,l,e4,e5,brL,o];refine⟨by omega,?_⟩;refine ai (i+2,a++[10]) ⟨by omega,by simp;omega,(go 10 f).2.2,by simp[f]⟩ (by omega) ?_;simp[e7,brA];exact bp
     ·have o:¬d.toNat=110:=fun h=>D (j.1 h)
      by_cases E:d=78
      ·have f:oB d=some 10:=by simp[oB,E]
       have u:=w.2 E;simp(disch:=omega)[wl,g,l,e4,e5,brL,o,u];refine⟨by omega,?_⟩;refine ai (i+2,a++[10]) ⟨by omega,by simp;omega,(go 10 f).2.2,by simp[f]⟩ (by omega) ?_;simp[e7,brA];exact bp
      ·have u:¬d.toNat=78:=fun h=>E (w.1 h)
       by_cases F:d=92
       ·have f:oB d=some d:=by simp[oB,F]
        have v:=x.2 F;simp(disch:=omega)[wl,g,l,e4,e5,brL,o,u,v];refine⟨by omega,?_⟩;refine ai (i+2,a++[d]) ⟨by omega,by simp;omega,(go d f).2.2,by simp[f]⟩ (by omega) ?_;simp[e7,brA,v];exact bp
       ·have v:¬d.toNat=92:=fun h=>F (x.1 h)
        by_cases H:d=59
        ·have f:oB d=some d:=by simp[oB,H]
         have A:=y.2 H;simp(disch:=omega)[wl,g,l,e4,e5,brL,o,u,v,A];refine⟨by omega,?_⟩;refine ai (i+2,a++[d]) ⟨by omega,by simp;omega,(go d f).2.2,by simp[f]⟩ (by omega) ?_;simp[e7,brA,A];exact bp
        ·have A:¬d.toNat=59:=fun h=>H (y.1 h)
         by_cases I:d=44
         ·have f:oB d=some d:=by simp[oB,I]
          have J:=z.2 I;simp(disch:=omega)[wl,g,l,e4,e5,brL,o,u,v,A,J];refine⟨by omega,?_⟩;refine ai (i+2,a++[d]) ⟨by omega,by simp;omega,(go d f).2.2,by simp[f]⟩ (by omega) ?_;simp[e7,brA,J];exact bp
         ·have J:¬d.toNat=44:=fun h=>I (z.1 h)
          have f:oB d=none:=by simp[oB,D,E,F,H,I]
          simp(disch:=omega)[wl,g,l,e4,e5,o,u,v,A,J,f,spI]
    ·have e4:(i:Int)+1=s.length:=by omega
     rw[List.drop_eq_nil_of_le (by omega)];subst q;simp(disch:=omega)[wl,g,e4,spI]
   ·have U:=B 92 (by omega) q;rw[if_neg q,if_neg M]at b;rw[if_neg q];simp(disch:=omega)[wl,g,Q,R,U,brL];refine⟨by omega,?_⟩;refine ai (i+1,a++[c]) ⟨by omega,by simp;omega,by simpa using b,rfl⟩ (by omega) ?_;simp[brA];exact bp
 ·obtain rfl:i=s.length:=by omega
  rw[List.drop_length,qH];simp(disch:=omega)[wl,spI,jE]
def unD:UnX->IV
 |.bad p=>.tuple [.str [],.int .i64 4,.int .i64 p]
 |.ok t=>.tuple [.str t,.int .i64 0,.int .i64 0]
theorem adj(s:Str):unR s=match i6 (s.take (cm s)) 0 []with
  |.bad p=>.bad p
  |.ok t n=>if cm s<s.length then .bad (cm s)else .ok t:=by
 obtain⟨a,d,b⟩:=Ui s.length s (by omega) 0 [];unfold unR;rw[a];cases c:i6 s 0 []with
 |bad p=>rfl
 |ok t n=>
  have:=b t n c;simp[show n=cm s by omega]
theorem OG(s:Str)(c:s.length<100000):Fn G2 T_ 106 [.str s] (unD (unR s)):=by
 refine ae hm DB (by simp) ?_;simp[tS];refine aa (Z8 s c) ?_;have a:=aek s.length s (by omega);have d:=(Ui s.length s (by omega) 0 []).2.1;have b:=VU (s.take (cm s)) (by rw[List.length_take];omega) d;rw[adj];obtain⟨k,e⟩:∃k,cm s=k:=⟨_,rfl⟩;rw[e]at b a |-;simp(disch:=omega)[wl];refine⟨a,?_⟩;refine aa b ?_;cases f:i6 (s.take k) 0 []with
 |bad p=>simp(disch:=omega)[wl,spI,unD]
 |ok t n=>
  by_cases h:k<s.length
  ·simp(disch:=omega)[wl,spI,unD,h]
  ·simp(disch:=omega)[wl,spI,unD,h]
open Go.Vs.Mo Go.Vs.YtcjeehebikeghaaGreatDoor.Rc
def ms(l:List Mom):List (List IV):=l.map (fun v=>[.int .u8 v.k,.int .i64 v.s])
theorem cJ(l:List Mom):(ms l).length=l.length:=by simp[ms]
theorem OH{l:List Mom}{i:Nat}{v:Mom}(h:i<l.length)(a:l[i]=v):(ms l)[i]?=some [.int .u8 v.k,.int .i64 v.s]:=by
 simp[ms,List.getElem?_eq_getElem h,a]
theorem JF(k:Int)(v:Mom)(r:List Mom):ip k (v::r)=if jI v≠0 then jI v else if v.k≠k then 11 else ip k r:=rfl
theorem MV(k:Int):ip k []=0:=rfl
theorem R7(l:List Mom)(k:Int)(j:l.length<100000)(f:∀v∈l,0<=v.k):Fn G2 T_ 190 [.slice (ms l),.int .u8 k] (.int .i64 (ip k l)):=by
 refine ae hm Li (by simp) ?_;simp[DO,cJ];refine be hm [6] (fun i:Nat=>[(10,.val (.int .i64 i))]) (fun _=>[]) (fun i=>i<=l.length/\ip k l=ip k (l.drop i)) (fun i=>l.length-i) 0 ⟨by omega,rfl⟩ ?_ ?_
 ·exact bp
 rintro i ⟨m,d⟩;rw[d];clear d;simp[cJ];by_cases h:i<l.length
 ·obtain⟨v,b⟩:∃v,l[i]=v:=⟨_,rfl⟩;have g:=OH h b;have e:=tN v (f v (b▸List.getElem_mem h));simp only[eX]at e;rw[List.drop_eq_getElem_cons h,b,JF];simp(disch:=omega)[wl,cJ,g];refine aa e ?_;by_cases a:jI v=0
  ·by_cases c:v.k=k
   ·simp(disch:=omega)[wl,a,c];refine ai (i+1) ⟨by omega,by simp[a,c]⟩ (by omega) ?_;simp;exact bp
   ·simp(disch:=omega)[wl,a,c]
  ·simp(disch:=omega)[wl,a]
 ·obtain rfl:i=l.length:=by omega
  rw[List.drop_length,MV];simp(disch:=omega)[wl,cJ]
theorem MW(l:List Mom)(k:Int)(j:l.length<100000)(g:∀v∈l,0<=v.k):Fn G2 T_ 240 [.slice (ms l),.int .u8 k] (.int .i64 (ip k l)):=by
 refine ae hm JC (by simp) ?_;simp[AP,cJ];refine be hm [] (fun i:Nat=>[(5,.val (.int .i64 i))]) (fun _=>[]) (fun i=>i<=l.length/\ip k l=ip k (l.drop i)) (fun i=>l.length-i) 0 ⟨by omega,rfl⟩ ?_ ?_
 ·exact bp
 rintro i ⟨m,e⟩;rw[e];clear e;simp[cJ];by_cases h:i<l.length
 ·obtain⟨v,b⟩:∃v,l[i]=v:=⟨_,rfl⟩;have c:=OH h b;have f:=EH v (g v (b▸List.getElem_mem h));simp only[eX]at f;rw[List.drop_eq_getElem_cons h,b,JF];simp(disch:=omega)[wl,cJ,c];refine aa f ?_;by_cases a:jI v=0
  ·by_cases d:v.k=k
   ·simp(disch:=omega)[wl,a,d,cJ,c];refine ai (i+1) ⟨by omega,by simp[a,d]⟩ (by omega) ?_;simp;exact bp
   ·simp(disch:=omega)[wl,a,d,cJ,c]
  ·simp(disch:=omega)[wl,a]
 ·obtain rfl:i=l.length:=by omega
  rw[List.drop_length,MV];simp(disch:=omega)[wl,cJ]
def R8(b:Mom)(r:Ru)(i o:List Mom):IV:=.agg ([.int .u8 b.k,.int .i64 b.s]++(cells r++[.slice (ms i),.slice (ms o)]))
structure FitS(b:Mom)(r:Ru)(i o:List Mom):Prop where
 bk:0<=b.k
 uk:0<=r.u.k
 il:i.length<100000
 ol:o.length<100000
 ik:∀v∈i,0<=v.k
 ok:∀v∈o,0<=v.k
 rf:uW r
theorem is_len(l:List Int):(is l).length=l.length:=by simp[is]
theorem R9{b:Mom}{r:Ru}{i o:List Mom}(h:FitS b r i o):Fn G2 T_ 133 [R8 b r i o] (.int .i64 (Je b r i o)):=by
 refine ae hm Ld (by simp) ?_;have w:=tN b h.bk;have x:=EL r h.rf h.uk;have y:=R7 i b.k h.il h.ik;have z:=R7 o b.k h.ol h.ok;have H:=h.il;have I:=h.ol;obtain⟨J,K,L,M,N,O,B,C,D⟩:=h.rf;unfold Ru.iv cells at x;simp only[eX]at w;obtain⟨R,d⟩:∃R,Je b r i o=R:=⟨_,rfl⟩;rw[d];unfold Je at d;unfold R8 cells;simp[DE,is_len,cJ];refine aa w ?_;by_cases p:jI b=0
 ·rw[if_neg (by simp[p])]at d;simp[p];refine aa x ?_;by_cases q:jo r=0
  ·rw[if_neg (by simp[q])]at d;simp[q];by_cases u:r.u.k≠0/\r.u.k≠b.k
   ·rw[if_pos u]at d;refine nu hm ?_;simp(disch:=omega)[wl,u.1,u.2,d]
   ·rw[if_neg u]at d;refine wq hm [] [] (fun _:Unit=>[]) (fun _=>[]) (fun _=>True) ?_ ?_
    ·have E:r.u.k=0\/(¬r.u.k=0/\r.u.k=b.k):=by omega
     rcases E with u1|⟨u1,u2⟩
     ·simp(disch:=omega)[wl,u1];refine bE () trivial ?_;simp;exact ag rfl rfl (by simp[aI,ap,ac,u1]) (by simp[bD,ac,u1]) (by simp[bB])
     ·simp(disch:=omega)[wl,u1,u2];refine bE () trivial ?_;simp;exact ag rfl rfl (by simp[aI,ap,ac,u2]) (by simp[bD,ac,u2]) (by simp[bB])
    ·rintro⟨⟩ -;simp;have F:r.f<3\/(¬r.f<3/\0<r.l6.length)\/(¬r.f<3/\¬0<r.l6.length/\0<r.l5.length)\/(¬r.f<3/\¬0<r.l6.length/\¬0<r.l5.length/\0<r.l4.length)\/(¬r.f<3/\¬0<r.l6.length/\¬0<r.l5.length/\¬0<r.l4.length):=by omega
     obtain⟨t,l⟩:∃t,decide (r.f<3\/0<r.l6.length\/0<r.l5.length\/0<r.l4.length)=t:=⟨_,rfl⟩;refine wq hm [] [] (fun _:Unit=>[(6,.val (.bool t))]) (fun _=>[]) (fun _=>True) ?_ ?_
     ·rcases F with e|⟨e,f⟩|⟨e,f,g⟩|⟨e,f,g,s⟩|⟨e,f,g,s⟩
      ·have:t=true:=by rw[<-l];simp[e]
       subst this;simp(disch:=omega)[wl,e,is_len];refine bE () trivial ?_;simp;exact bp
      ·have:t=true:=by rw[<-l];simp[e,f]
       subst this;simp(disch:=omega)[wl,e,f,is_len];refine bE () trivial ?_;simp;exact bp
      ·have:t=true:=by rw[<-l];simp[e,f,g]
       subst this;simp(disch:=omega)[wl,e,f,g,is_len];refine bE () trivial ?_;simp;exact bp
      ·have:t=true:=by rw[<-l];simp[e,f,g,s]
       subst this;simp(disch:=omega)[wl,e,f,g,s,is_len];refine bE () trivial ?_;simp;exact bp
      ·have:t=false:=by rw[<-l,decide_eq_false_iff_not];omega
       subst this;simp(disch:=omega)[wl,e,f,g,s,is_len];refine bE () trivial ?_;simp;exact bp
     ·rintro⟨⟩ -
      have c:(if b.k=1/\t=true then 9 else if 12<i.length\/12<o.length then 20 else if ip b.k i≠0 then ip b.k i else ip b.k o)=R:=by
       rw[<-d,<-l];simp only[decide_eq_true_eq]
      clear d;simp;by_cases k:b.k=1/\t=true
      ·rw[if_pos k]at c;simp(disch:=omega)[wl,k.1,k.2,c]
      ·rw[if_neg k]at c;have A:t=false\/(t=true/\¬b.k=1):=by cases t<;>simp_all
       by_cases m:12<i.length\/12<o.length
       ·rw[if_pos m]at c;have n:(12:Int)<max (i.length:Int) o.length:=by omega
        rcases A with j|⟨j,v⟩
        ·simp(disch:=omega)[wl,j,cJ,n,c]
        ·simp(disch:=omega)[wl,j,v,cJ,n,c]
       ·rw[if_neg m]at c;have n:¬(12:Int)<max (i.length:Int) o.length:=by omega
        rcases A with j|⟨j,v⟩
        ·simp(disch:=omega)[wl,j,cJ,n];refine aa y ?_;by_cases a:ip b.k i=0
         ·rw[if_neg (by simp[a])]at c;simp(disch:=omega)[wl,a];refine aa z ?_;simp(disch:=omega)[wl,c]
         ·rw[if_pos a]at c;simp(disch:=omega)[wl,a,c]
        ·simp(disch:=omega)[wl,j,v,cJ,n];refine aa y ?_;by_cases a:ip b.k i=0
         ·rw[if_neg (by simp[a])]at c;simp(disch:=omega)[wl,a];refine aa z ?_;simp(disch:=omega)[wl,c]
         ·rw[if_pos a]at c;simp(disch:=omega)[wl,a,c]
  ·rw[if_pos q]at d;simp(disch:=omega)[wl,q,d]
 ·rw[if_pos p]at d;simp(disch:=omega)[wl,p,d]
theorem OI{b:Mom}{r:Ru}{i o:List Mom}(h:FitS b r i o):Fn G2 T_ 172 [R8 b r i o] (.int .i64 (Je b r i o)):=by
 refine ae hm Jz (by simp) ?_;have q:=EH b h.bk;have s:=Jc r h.rf h.uk;have v:=MW i b.k h.il h.ik;have w:=MW o b.k h.ol h.ok;have B:=h.il;have C:=h.ol;obtain⟨D,E,F,H,I,J,x,y,z⟩:=h.rf;unfold Ru.iv cells at s;simp only[eX]at q;obtain⟨R,c⟩:∃R,Je b r i o=R:=⟨_,rfl⟩;rw[c];unfold Je at c;unfold R8 cells;simp[AJ,is_len,cJ];refine aa q ?_;by_cases e:jI b=0
 ·rw[if_neg (by simp[e])]at c;simp[e];refine aa s ?_;by_cases f:jo r=0
  ·rw[if_neg (by simp[f])]at c;simp[f];by_cases u:r.u.k≠0/\r.u.k≠b.k
   ·rw[if_pos u]at c;refine nu hm ?_;simp(disch:=omega)[wl,u.1,u.2,c]
   ·rw[if_neg u]at c;refine wq hm [] [] (fun _:Unit=>[]) (fun _=>[(4,.box ((cells r).map .val))]) (fun _=>True) ?_ ?_
    ·have A:r.u.k=0\/(¬r.u.k=0/\r.u.k=b.k):=by omega
     rcases A with u1|⟨u1,u2⟩
     ·simp(disch:=omega)[wl,u1];refine bE () trivial ?_;simp[cells];exact ag rfl rfl (by simp[aI,ap,ac,u1]) (by simp[bD,ac,u1]) (by simp[bB])
     ·simp(disch:=omega)[wl,u1,u2];refine bE () trivial ?_;simp[cells];exact ag rfl rfl (by simp[aI,ap,ac,u2]) (by simp[bD,ac,u2]) (by simp[bB])
    ·rintro⟨⟩ -;simp[cells];by_cases k:b.k=1/\(r.f<3\/0<r.l6.length\/0<r.l5.length\/0<r.l4.length)
     ·rw[if_pos k]at c;refine nu hm ?_;by_cases g:r.f<3
      ·simp(disch:=omega)[wl,k.1,g,c]
      ·have K:¬(r.l6.length:Int)+r.l5.length+r.l4.length=0:=by have:=k.2;omega
       have l:(0:Int)<(r.l6.length:Int)+r.l5.length+r.l4.length:=by have:=k.2;omega
       simp(disch:=omega)[wl,k.1,g,is_len,l,c]
     ·rw[if_neg k]at c;refine wq hm [] [] (fun _:Unit=>[]) (fun _=>[(4,.box ((cells r).map .val))]) (fun _=>True) ?_ ?_
      ·by_cases d:b.k=1
       ·have g:¬r.f<3:=fun n=>k ⟨d,.inl n⟩
        have l:¬(0:Int)<(r.l6.length:Int)+r.l5.length+r.l4.length:=by
         have:¬(r.f<3\/0<r.l6.length\/0<r.l5.length\/0<r.l4.length):=fun n=>k ⟨d,n⟩
         omega
        simp(disch:=omega)[wl,d,g,is_len,l];refine bE () trivial ?_;simp[cells];exact ag rfl rfl (by simp[aI,ap,ac,d]) (by simp[bD,ac,d]) (by simp[bB])
       ·simp(disch:=omega)[wl,d];refine bE () trivial ?_;simp[cells];exact bp
      ·rintro⟨⟩ -;simp[cells];by_cases m:12<i.length\/12<o.length
       ·rw[if_pos m]at c;by_cases j:12<i.length
        ·simp(disch:=omega)[wl,cJ,j,c]
        ·have p:12<o.length:=by omega
         simp(disch:=omega)[wl,cJ,j,p,c]
       ·rw[if_neg m]at c;have j:¬12<i.length:=by omega
        have p:¬12<o.length:=by omega
        simp(disch:=omega)[wl,cJ,j,p];refine aa v ?_;by_cases a:ip b.k i=0
        ·rw[if_neg (by simp[a])]at c;simp(disch:=omega)[wl,a];refine aa w ?_;simp(disch:=omega)[wl,c]
        ·rw[if_pos a]at c;simp(disch:=omega)[wl,a,c]
  ·rw[if_pos f]at c;simp(disch:=omega)[wl,f,c]
 ·rw[if_pos e]at c;simp(disch:=omega)[wl,e,c]
theorem Ra(c:UInt8):jb c=true↔((65<=c.toNat/\c.toNat<=90)\/(97<=c.toNat/\c.toNat<=122)\/(48<=c.toNat/\c.toNat<=57)\/c.toNat=45\/c.toNat=46\/c.toNat=95\/c.toNat=64):=by simp[jb]
theorem OJ(s:Str)(j:s.length<1000000):Fn G2 T_ 101 [.str s] (.bool (jF s)):=by
 refine ae hm Oz (by simp) ?_;simp[Gh];refine be hm [] (fun i:Nat=>[(3,.val (.int .i64 i))]) (fun _=>[]) (fun i=>i<=s.length/\s.all jb=(s.drop i).all jb) (fun i=>s.length-i) 0 ⟨by omega,by simp⟩ ?_ ?_
 ·exact bp
 rintro i ⟨k,a⟩;simp;by_cases h:i<s.length
 ·obtain⟨c,e⟩:∃c,s[i]=c:=⟨_,rfl⟩;rw[List.drop_eq_getElem_cons h,e,List.all_cons]at a;cases b:jb c with
  |true=>
   rw[b,Bool.true_and]at a;rcases(Ra c).1 b with q|q|q|q|q|q|q
   all_goals
    simp(disch:=omega)[wl,e];refine ai (i+1) ⟨by omega,a⟩ (by omega) ?_;simp;exact bp
  |false=>
   have d:jF s=false:=by unfold jF;rw[a,b];simp
   have g:¬((65<=c.toNat/\c.toNat<=90)\/(97<=c.toNat/\c.toNat<=122)\/(48<=c.toNat/\c.toNat<=57)\/c.toNat=45\/c.toNat=46\/c.toNat=95\/c.toNat=64):=fun f=>by rw[(Ra c).2 f]at b;cases b
   have f:c.toNat<45\/c.toNat=47\/(58<=c.toNat/\c.toNat<=63)\/(91<=c.toNat/\c.toNat<=94)\/c.toNat=96\/123<=c.toNat:=by omega
   clear g;rcases f with q|q|q|q|q|q
   all_goals
    simp(disch:=omega)[wl,e,d]
 ·obtain rfl:i=s.length:=by omega
  rw[List.drop_length]at a;have d:jF s=(decide (1<=s.length)&&decide (s.length<=24)):=by unfold jF;rw[a];simp
  by_cases q:1<=s.length
  ·simp(disch:=omega)[wl,d,q];omega
  ·have:s.length=0:=by omega
   simp(disch:=omega)[wl,d,this]
theorem yu{s:Str}{k:Nat}{c:UInt8}(h:k+1<=s.length)(a:s[k]?=some c):s.take (k+1)=s.take k++[c]:=by
 rw[List.take_add_one,a];rfl
theorem VV{s:Str}{k:Nat}{c:UInt8}(h:k+1<=s.length)(a:s[k]?=some c)(b:d7 c=true):dk (s.take (k+1))=dk (s.take k):=by
 rw[yu h a];exact C2 _ (by simp[b])
theorem VW{s:Str}{k:Nat}{c:UInt8}(h:k+1<=s.length)(a:s[k]?=some c)(b:d7 c=false):dk (s.take (k+1))=s.take (k+1):=by
 rw[yu h a];unfold dk;simp[b]
theorem Z9(s:Str)(D:s.length<1000000):Fn G2 T_ 174 [.str s] (.str (jj s)):=by
 refine ae hm Lh (by simp) ?_;have E:=OJ s D;simp[DM];refine aa E ?_;cases u:jF s with
 |false=>
  have:jj s=s:=by unfold jj;rw[if_neg (by simp[u])]
  simp(disch:=omega)[wl,this]
 |true=>
  simp(disch:=omega)[wl];refine be hm [] (fun k:Nat=>[(3,.val (.int .i64 k))]) (fun _=>[]) (fun k=>k<=s.length/\dk s=dk (s.take k)) (fun k=>k) s.length ⟨by omega,by simp⟩ ?_ ?_
  ·exact bp
  rintro k ⟨m,v⟩;simp;have B:1<=s.length:=((Qg s).1 u).1;by_cases F:k=0
  ·subst F
   have d:jj s=s:=by
    have g:dk s=[]:=by rw[v];rfl
    unfold jj;rw[if_neg];rw[g];simp
   simp(disch:=omega)[wl,d]
  ·obtain⟨j,rfl⟩:∃j,k=j+1:=⟨k-1,by omega⟩;obtain⟨c,f⟩:∃c,s[j]=c:=⟨_,rfl⟩;have b:s[j]?=some c:=by rw[List.getElem?_eq_getElem (by omega),f]
   have e1:((j:Int)+1-1)=j:=by omega
   cases n:d7 c with
   |true=>
    have i:48<=c.toNat/\c.toNat<=57:=by simpa[d7]using n
    simp(disch:=omega)[wl,e1,f];refine ai j ⟨by omega,v.trans (VV m b n)⟩ (by omega) ?_;simp(disch:=omega)[wl,e1];exact bp
   |false=>
    have i:c.toNat<48\/57<c.toNat:=by
     have:¬(48<=c.toNat/\c.toNat<=57):=by simpa[d7]using n
     omega
    have g:dk s=s.take (j+1):=v.trans (VW m b n);have H:(dk s).getLast?=some c:=by rw[g,yu m b];simp
    have Ef:(dk s).dropLast=s.take j:=by rw[g,yu m b];simp
    have w:(dk s).length=j+1:=by rw[g,List.length_take];omega
    have d:jj s=if j+1≠s.length/\c=46/\1<=j then s.take j else s:=by
     unfold jj;rw[H,Ef,w]
     have e:s.take j≠[]↔1<=j:=by
      rw[<-List.length_pos_iff,List.length_take];omega
     have C:(jF s=true/\j+1≠s.length/\some c=some 46/\s.take j≠[])↔(j+1≠s.length/\c=46/\1<=j):=by
      constructor
      ·rintro⟨_,x,y,z⟩;exact⟨x,by simpa using y,e.1 z⟩
      ·rintro⟨x,y,z⟩;exact⟨u,x,by rw[y],e.2 z⟩
     by_cases o:j+1≠s.length/\c=46/\1<=j
     ·rw[if_pos o,if_pos (C.2 o)]
     ·rw[if_neg o,if_neg (fun h=>o (C.1 h))]
    have l:c.toNat=46↔c=46:=u8_is c 46 (by omega);rcases i with q|q
    all_goals
     by_cases I:j+1=s.length
     ·have a:jj s=s:=by rw[d,if_neg (by omega)]
      simp(disch:=omega)[wl,e1,f,a]
     ·by_cases J:1<=j
      ·by_cases p:c=46
       ·have a:jj s=s.take j:=by rw[d,if_pos ⟨I,p,J⟩]
        have A:=l.2 p;simp(disch:=omega)[wl,e1,f,A,a];omega
       ·have a:jj s=s:=by rw[d,if_neg (fun h=>p h.2.1)]
        have A:¬c.toNat=46:=fun h=>p (l.1 h)
        simp(disch:=omega)[wl,e1,f,A,a]
      ·have a:jj s=s:=by rw[d,if_neg (by omega)]
       simp(disch:=omega)[wl,e1,f,a]
theorem Za(k:Nat)(h:k<4):Fn G2 T_ 171 [.int .i64 k] (.str (vF k)):=by
 refine ae hm Lg (by simp) ?_;have:k=0\/k=1\/k=2\/k=3:=by omega
 rcases this with rfl|rfl|rfl|rfl
 all_goals simp[DK,vF]
theorem abl{v:Str}{i:Nat}(h:i<4)(k:(i:Int)<=lV v):upper v=vF i↔lV v=i:=by
 unfold lV at *
 have c:vF i=lc.getD i []:=by
  have:i=0\/i=1\/i=2\/i=3:=by omega
  rcases this with rfl|rfl|rfl|rfl<;>rfl
 rw[c];have b:i<lc.length:=by simpa[lc]using h
 have d:lc.getD i []=lc[i]:=by simp[List.getD,List.getElem?_eq_getElem b]
 rw[d];constructor
 ·intro e;have hm:upper v∈lc:=e▸List.getElem_mem b;have:=List.idxOf_lt_length_iff.2 hm;have f:lc.Nodup:=by decide
  have g:lc[lc.idxOf (upper v)]=lc[i]:=by rw[List.getElem_idxOf this];exact e
  have:=(List.getElem_inj f).1 g;omega
 ·intro e;have j:lc.idxOf (upper v)=i:=by omega
  have a:lc.idxOf (upper v)<lc.length:=by omega
  have:=List.getElem_idxOf a;rw[<-this];simp only[j]
theorem abm(v:Str):0<=lV v/\lV v<=4:=by
 unfold lV;have:=List.idxOf_le_length (a:=upper v) (l:=lc);simp only[lc,List.length_cons,List.length_nil]at this |-;omega
theorem abn(x:Ln)(m:FitX x):Fn G2 T_ 110 [x.iv] (nX (O5 x)):=by
 obtain⟨R,a⟩:∃R,O5 x=R:=⟨_,rfl⟩;rw[a];unfold O5 at a;have c:=up (Io x.p EC (by have:=m.p;omega));have z:=OJ x.v (by have:=m.v;omega);refine ae hm Lc (by simp) ?_;simp[DC,Ln.iv];by_cases g:x.n=SH
 ·have j:x.n=[82,69,76,65,84,69,68,45,84,79]:=g;cases d:gB x.p EC with
  |none=>
   have n:O4 x=0:=by unfold O4;rw[d]
   have b:qR x=if jF x.v=true then 0 else 4:=by unfold qR;rw[if_neg (by simp[g]),d]
   rw[d]at c;simp only[gP,Pm.iv]at c;simp(disch:=omega)[wl,j];refine aa c ?_;simp(disch:=omega)[wl,ts];refine aa z ?_;cases k:jF x.v with
   |true=>
    rw[b,if_pos k,if_pos rfl,n]at a;subst a;simp(disch:=omega)[wl,nX]
   |false=>
    have f:qR x=4:=by rw[b,if_neg (by simp[k])]
    rw[f,if_neg (show ¬((4:Int)=0) by decide)]at a;subst a;simp(disch:=omega)[wl,nX]
  |some p=>
   have o:p∈x.p:=List.mem_of_find?_eq_some d;rw[d]at c;simp only[gP,Pm.iv]at c;by_cases s:p.v.length=1
   ·have b:qR x=if jF x.v=true then 0 else 4:=by unfold qR;rw[if_neg (by simp[g]),d];simp only;rw[if_neg (by simp[s])]
    obtain⟨v,u⟩:∃v,p.v=[v]:=List.length_eq_one_iff.1 s;have n:O4 x=lV v:=by unfold O4;rw[d];simp only[u];rfl
    have w:=up (Mv v (by have:=m.f.t p o v (by rw[u];simp);omega));have e1:ts p.v=[[.str v]]:=by rw[u];rfl
    rw[e1]at c;simp(disch:=omega)[wl,j];refine aa c ?_;simp(disch:=omega)[wl];refine aa z ?_;cases k:jF x.v with
    |true=>
     rw[b,if_pos k,if_pos rfl,n]at a;subst a;simp(disch:=omega)[wl];have B:=abm v;refine be hm [] (fun i:Nat=>[(6,.val (.int .i64 i))]) (fun _=>[(2,.box [.val (.int .u8 0),.val (.str [])]),(4,.box [.val (.str p.n),.val (.slice [[.str v]])])]) (fun i=>(i:Int)<=lV v) (fun i=>4-i) 0 (by omega) ?_ ?_
     ·simp;exact bp
     rintro i C;simp;by_cases h:i<4
     ·have D:=Za i h;have A:=abl h C;simp(disch:=omega)[wl];refine aa w ?_;simp(disch:=omega)[wl];refine aa D ?_;by_cases q:lV v=i
      ·have l:=A.2 q;have y:IntKind.u8.wrap (i:Int)=i:=by rw[IntKind.wrap_u8];omega
       simp(disch:=omega)[wl,l,y,nX,q]
      ·have l:¬upper v=vF i:=fun e=>q (A.1 e)
       simp(disch:=omega)[wl,l];refine ai (i+1) (by omega) (by omega) ?_;simp;exact bp
     ·have l:lV v=4:=by omega
      simp(disch:=omega)[wl,nX,l]
    |false=>
     have f:qR x=4:=by rw[b,if_neg (by simp[k])]
     rw[f,if_neg (show ¬((4:Int)=0) by decide)]at a;subst a;simp(disch:=omega)[wl,nX]
   ·have b:qR x=20:=by unfold qR;rw[if_neg (by simp[g]),d];simp only;rw[if_pos s]
    rw[b,if_neg (by omega)]at a;subst a;simp(disch:=omega)[wl,j];refine aa c ?_;simp(disch:=omega)[wl,aQ,nX]
 ·have j:¬x.n=[82,69,76,65,84,69,68,45,84,79]:=g;have b:qR x=11:=by unfold qR;rw[if_pos g]
  rw[b,if_neg (by omega)]at a;subst a;simp(disch:=omega)[wl,j,nX]
end Go.Vs.YtcjeehebikeghaaGreatDoor.Vt
