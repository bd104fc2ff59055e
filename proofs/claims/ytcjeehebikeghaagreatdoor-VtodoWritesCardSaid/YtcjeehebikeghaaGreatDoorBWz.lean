/- A part of a proof. No conditions. -/
import Derived.Test.YtcjeehebikeghaaGreatDoorNDz
set_option linter.unusedVariables false
set_option linter.unusedSimpArgs false
set_option maxRecDepth 100000
set_option maxHeartbeats 8000000
namespace Go.Vs.YtcjeehebikeghaaGreatDoor
open Go.Proofs Go.Vs.U8 Go.Vs.Pa
theorem adH{c:Type}{a b:List c}{i:Nat}(d:i<a.length)(e:i<b.length)(f:a.take i=b.take i)(g:a[i]=b[i]):a.take (i+1)=b.take (i+1):=by
 rw[List.take_succ_eq_append_getElem d,List.take_succ_eq_append_getElem e,f,g]
theorem ag3(p q:Pm):p=q↔p.n=q.n/\p.v=q.v:=by cases p;cases q;simp
theorem agi(a b:List Pm)(I:a.length<1000000)(J:b.length<1000000)(E:Fit a)(K:Fit b):Fn G T_ 71 [.slice (ps a),.slice (ps b)] (.bool (decide (a=b))):=by
 refine ae hm afR (by simp) ?_;simp[aeu,bW];by_cases n:a.length=b.length
 ·simp(disch:=omega)[wl,bW,n];refine be hm [] (fun i:Nat=>[(5,.val (.int .i64 i))]) (fun i=>[]) (fun i=>i<=a.length/\a.take i=b.take i) (fun i=>a.length-i) 0 ⟨by omega,by simp⟩ ?_ ?_
  ·simp;exact bp
  rintro i ⟨L,p⟩;simp[bW];by_cases h:i<a.length
  ·have A:i<b.length:=by omega
   obtain⟨x,o⟩:∃x,a[i]=x:=⟨_,rfl⟩;obtain⟨y,q⟩:∃y,b[i]=y:=⟨_,rfl⟩;have j:=qf h o;have l:=qf A q;have F:x.v.length<1000000:=by have:=E.v x (o▸List.getElem_mem h);omega
   have f:x≠y->¬a=b:=fun e c=>e (by subst c;rw[<-o,<-q])
   by_cases e1:x.n=y.n
   ·by_cases e2:x.v.length=y.v.length
    ·simp(disch:=omega)[wl,bW,aQ,j,l,e1,e2];refine be hm [] (fun i:Nat=>[(6,.val (.int .i64 i))]) (fun i=>[]) (fun k=>k<=x.v.length/\x.v.take k=y.v.take k) (fun k=>x.v.length-k) 0 ⟨by omega,by simp⟩ ?_ ?_
     ·simp;exact bp
     rintro k ⟨M,g⟩;simp[bW];by_cases B:k<x.v.length
     ·have m:k<y.v.length:=by omega
      obtain⟨u,s⟩:∃u,x.v[k]=u:=⟨_,rfl⟩;obtain⟨w,v⟩:∃w,y.v[k]=w:=⟨_,rfl⟩;have C:=kM B s;have D:=kM m v;by_cases e:u=w
      ·have z:=adH B m g (by rw[s,v,e]);simp(disch:=omega)[wl,bW,aQ,j,l,C,D,e];refine ai (k+1) ⟨by omega,z⟩ (by omega) ?_;simp;exact bp
      ·have d:¬a=b:=f (fun c=>e (by subst c;rw[<-s,<-v]));simp(disch:=omega)[wl,bW,aQ,j,l,C,D,e,d]
     ·obtain rfl:k=x.v.length:=by omega
      have H:x.v=y.v:=by rw[List.take_length,e2,List.take_length]at g;exact g
      have z:=adH h A p (by rw[o,q];exact(ag3 x y).2 ⟨e1,H⟩);simp(disch:=omega)[wl,bW,aQ,j,l];refine ai (i+1) ⟨by omega,z⟩ (by omega) ?_;simp;exact bp
    ·have d:¬a=b:=f (fun c=>e2 (by rw[c]));simp(disch:=omega)[wl,bW,aQ,j,l,e1,e2,d]
   ·have d:¬a=b:=f (fun c=>e1 (by rw[c]));simp(disch:=omega)[wl,bW,j,l,e1,d]
  ·obtain rfl:i=a.length:=by omega
   have:a=b:=by rw[List.take_length,n,List.take_length]at p;exact p
   simp(disch:=omega)[wl,this]
 ·have d:¬a=b:=fun c=>n (by rw[c])
  simp(disch:=omega)[wl,bW,n,d]
def run(p:UInt8->Bool):Str->Nat
 |[]=>0
 |c::r=>if p c then run p r+1 else 0
def aeU(c:UInt8):Bool:=decide (c.toNat≠34)
def plain(c:UInt8):Bool:=!stp c&&aeU c
inductive Got where
 |no (e:Int) (p:Int)
 |ok (v:Str) (n:Nat)
def checked(b:Str)(a f:Nat):Got:=match yB b with
 |some k=>.no 10 (f+k)
 |none=>if 60<(Il b).length then .no 5 a else .ok (Il b) 0
theorem aaN(l:List Pm)(p:Pm):ps (l++[p])=ps l++[[.str p.n,.slice (ts p.v)]]:=by simp[ps]
theorem Iy{P:Program}(hm:P.follows .mixedOrders=true){c:Type}(D:List Nat)(ro:List Nat)(E:c->List (Nat×SV))(O:c->List (Nat×Ob))(A:c->Prop)(m:c->Nat)(g:c){b:VCode}{Q:Exit->St->Prop}{d:St}(h:A g)(j:cH d {d.upd D (E g) (O g)with ro:=ro })
  (a:∀i,A i->pw P b (fun e f=>match e with
    |.normal=>@GW c f (m i) ⟨fun i=>{d.upd D (E i) (O i)with ro:=ro }⟩ ⟨A⟩ ⟨m⟩
    |e=>Q e f) {d.upd D (E i) (O i)with ro:=ro }):@TVW P d ⟨.loop b⟩ ⟨Q⟩:=M9 hm (fun i=>{d.upd D (E i) (O i)with ro:=ro }) A m g h j (fun _=>_root_.id rfl) a
open Go.Vs.Nu Go.Lib
def FF:GotE Int->IV
 |.no e p=>.tuple [.slice [],dq e [(p:Int)]]
 |.ok l=>.tuple [.slice (is l),.nili]
def FG:GotE Dn->IV
 |.no e p=>.tuple [.slice [],dq e [(p:Int)]]
 |.ok l=>.tuple [.slice (sX l),.nili]
theorem NZ(s:Str)(z:Nat)(i:List IV)(one:Str->Int×Int)(C:s.length<1000000)(D:∀x:Str,x.length<=s.length->Fn G T_ z (.str x::i) (ln (one x))):Fn G T_ 330 [.str s,.fn z i] (FF (bK one s)):=by
 obtain⟨R,f⟩:∃R,bK one s=R:=⟨_,rfl⟩;rw[f];unfold bK at f;obtain⟨L,q⟩:∃L,parts 44 s=L:=⟨_,rfl⟩;have u:∀x∈L,x.length<=s.length:=fun x l=>gg (q▸l)
 have E:L.length<=1000001:=by
  have:=kX 44 s;have A:s.count 44<=s.length:=List.count_le_length;rw[q]at this;omega
 have B:=wF s 44 C;rw[q]at B f;refine ae hm sa (by simp) ?_;simp[la];refine aa B ?_;simp[aQ];refine Iy hm [] [6] (fun x:Nat×List Int=>[(15,.val (.int .i64 x.2.length)),(7,.val (.int .i64 x.1)),(6,.own 6 x.2.length)]) (fun x=>[(6,.arr x.2.length 1 (is x.2))]) (fun x=>x.2.length<=L.length/\x.2.length<=12/\x.1<=1000001*x.2.length/\em one (L.drop x.2.length) x.1 x.2=R) (fun x=>L.length-x.2.length) (0,[]) ⟨by simp,by simp,by simp,by simpa using f⟩ ?_ ?_
 ·simp[is];exact cH.trans (ct (k:=6) 6 1 (by simp) (by simp[ap,ac])) (ag rfl rfl (by simp[St.adopt,aI,ap,ac,put,cS,SV.erase]) (by simp[St.adopt,bD,ac,put,ck,Ob.erase]) (by simp[St.adopt,bB]))
 rintro⟨a,c⟩ ⟨F,A,H,b⟩;simp only at F A H b;simp[is_len,aQ];by_cases h:c.length<L.length
 ·obtain⟨x,l⟩:∃x,L[c.length]=x:=⟨_,rfl⟩;have v:=kM h l;have w:=u x (l▸List.getElem_mem h);rw[List.drop_eq_getElem_cons h,l,em]at b;by_cases d:c.length=12
  ·rw[if_pos d]at b;subst b;have j:=fP 20 (a:Int);rw[if_neg (by omega)]at j;rw[d]at v;simp(disch:=omega)[wl,v,is_len,aQ,d];refine aa j ?_;simp[FF]
  ·rw[if_neg d]at b;obtain⟨⟨n,e⟩,I⟩:∃p,one x=p:=⟨_,rfl⟩;have y:=D x w;rw[I]at y b;simp only[ln]at y;simp only at b;simp(disch:=omega)[wl,v,is_len,aQ,d];refine aa y ?_;by_cases m:e=0
   ·subst m;rw[if_neg (by simp)]at b;have o:=vC c n (by omega);by_cases g:n∈c
    ·rw[if_pos g]at b;subst b;rw[decide_eq_true g]at o;have j:=fP 19 (a:Int);rw[if_neg (by omega)]at j;simp(disch:=omega)[wl,is_len];refine aa o ?_;simp(disch:=omega)[wl];refine aa j ?_;simp[FF]
    ·rw[if_neg g]at b;rw[decide_eq_false g]at o;simp(disch:=omega)[wl,is_len];refine aa o ?_;simp(disch:=omega)[wl,is_len];refine⟨by omega,?_⟩;refine ai (a+x.length+1,c++[n]) ⟨by simp;omega,by simp;omega,by simp;omega,by simpa using b⟩ (by simp;omega) ?_;simp[NX];exact ag rfl rfl (by simp[aI,ap,ac];omega) (by simp[bD,ac]) (by simp[bB])
   ·rw[if_pos m]at b;subst b;have j:=fP e (a:Int);rw[if_neg m]at j;simp(disch:=omega)[wl,is_len,m];refine aa j ?_;simp[FF]
 ·have e:L.drop c.length=[]:=List.drop_eq_nil_of_le (by omega);rw[e,em]at b;subst b;have e2:c.length=L.length:=by omega
  simp(disch:=omega)[wl,is_len,aQ];simp[FF]
theorem Qt(s:Str)(z:Nat)(i:List IV)(one:Str->Dn×Int)(C:s.length<1000000)(D:∀x:Str,x.length<=s.length->Fn G T_ z (.str x::i) (wS (one x))):Fn G T_ 328 [.str s,.fn z i] (FG (bK one s)):=by
 obtain⟨R,f⟩:∃R,bK one s=R:=⟨_,rfl⟩;rw[f];unfold bK at f;obtain⟨L,q⟩:∃L,parts 44 s=L:=⟨_,rfl⟩;have u:∀x∈L,x.length<=s.length:=fun x l=>gg (q▸l)
 have E:L.length<=1000001:=by
  have:=kX 44 s;have A:s.count 44<=s.length:=List.count_le_length;rw[q]at this;omega
 have B:=wF s 44 C;rw[q]at B f;refine ae hm pd (by simp) ?_;simp[jk];refine aa B ?_;simp[aQ];refine Iy hm [] [6] (fun x:Nat×List Dn=>[(15,.val (.int .i64 x.2.length)),(7,.val (.int .i64 x.1)),(6,.own 6 x.2.length)]) (fun x=>[(6,.arr x.2.length 2 (sX x.2))]) (fun x=>x.2.length<=L.length/\x.2.length<=12/\x.1<=1000001*x.2.length/\em one (L.drop x.2.length) x.1 x.2=R) (fun x=>L.length-x.2.length) (0,[]) ⟨by simp,by simp,by simp,by simpa using f⟩ ?_ ?_
 ·simp[sX];exact cH.trans (ct (k:=6) 6 2 (by simp) (by simp[ap,ac])) (ag rfl rfl (by simp[St.adopt,aI,ap,ac,put,cS,SV.erase]) (by simp[St.adopt,bD,ac,put,ck,Ob.erase]) (by simp[St.adopt,bB]))
 rintro⟨a,c⟩ ⟨F,A,H,b⟩;simp only at F A H b;simp[aH,aQ];by_cases h:c.length<L.length
 ·obtain⟨x,l⟩:∃x,L[c.length]=x:=⟨_,rfl⟩;have v:=kM h l;have w:=u x (l▸List.getElem_mem h);rw[List.drop_eq_getElem_cons h,l,em]at b;by_cases d:c.length=12
  ·rw[if_pos d]at b;subst b;have j:=fP 20 (a:Int);rw[if_neg (by omega)]at j;rw[d]at v;simp(disch:=omega)[wl,v,aH,aQ,d];refine aa j ?_;simp[FG]
  ·rw[if_neg d]at b;obtain⟨⟨n,e⟩,I⟩:∃p,one x=p:=⟨_,rfl⟩;have y:=D x w;rw[I]at y b;simp only[wS]at y;simp only at b;simp(disch:=omega)[wl,v,aH,aQ,d];refine aa y ?_;by_cases m:e=0
   ·subst m;rw[if_neg (by simp)]at b;have o:=wP c n (by omega);by_cases g:n∈c
    ·rw[if_pos g]at b;subst b;rw[decide_eq_true g]at o;have j:=fP 19 (a:Int);rw[if_neg (by omega)]at j;simp(disch:=omega)[wl,aH];refine aa o ?_;simp(disch:=omega)[wl];refine aa j ?_;simp[FG]
    ·rw[if_neg g]at b;rw[decide_eq_false g]at o;simp(disch:=omega)[wl,aH];refine aa o ?_;simp(disch:=omega)[wl,aH];refine⟨by omega,?_⟩;refine ai (a+x.length+1,c++[n]) ⟨by simp;omega,by simp;omega,by simp;omega,by simpa using b⟩ (by simp;omega) ?_;simp[Iw];exact ag rfl rfl (by simp[aI,ap,ac];omega) (by simp[bD,ac]) (by simp[bB])
   ·rw[if_pos m]at b;subst b;have j:=fP e (a:Int);rw[if_neg m]at j;simp(disch:=omega)[wl,aH,m];refine aa j ?_;simp[FG]
 ·have e:L.drop c.length=[]:=List.drop_eq_nil_of_le (by omega);rw[e,em]at b;subst b;have e2:c.length=L.length:=by omega
  simp(disch:=omega)[wl,aH,aQ];simp[FG]
theorem aaO(a b:Int)(c:Bool)(s:Str)(e:s.length<1000000):Fn G T_ 286 [.str s,.int .i64 a,.int .i64 b,.bool c] (FF (bK (cF 5 a b c) s)):=by
 refine ae hm NT (by simp) ?_;have d:=NZ s 331 [.ref [.int .i64 a],.ref [.int .i64 b],.ref [.bool c]] (cF 5 a b c) e (fun x g=>Vu a b c x (by omega));obtain⟨R,f⟩:∃R,bK (cF 5 a b c) s=R:=⟨_,rfl⟩;rw[f]at d |-;simp[FA];refine aa d ?_;cases R<;>simp[FF]
theorem aaP(s:Str)(b:s.length<1000000):Fn G T_ 285 [.str s] (FG (bK nS s)):=by
 refine ae hm NR (by simp) ?_;have a:=Qt s 329 [] nS b (fun x d=>ac3 x (by omega));obtain⟨R,c⟩:∃R,bK nS s=R:=⟨_,rfl⟩;rw[c]at a |-;simp[Fy];refine aa a ?_;cases R<;>simp[FG]
theorem yf(I y:Int)(n:Bool)(s:Str)(hs:s.length<1000000):Fn G T_ 108 [.str s,.int .i64 I,.int .i64 y,.bool n] (ln (cF 5 I y n s)):=by
 refine ae hm NQ (by simp) ?_;rw[GZ];obtain⟨k,A⟩:∃k,(if Wq n s=true then 1 else 0:Nat)=k:=⟨_,rfl⟩;obtain⟨B,m⟩:∃B,KA n s=B:=⟨_,rfl⟩;obtain⟨z,C⟩:∃z:Int,(if B=true then -1 else 1)=z:=⟨_,rfl⟩
 have U:oJ n s=s.drop k:=by
  rw[<-A];unfold oJ;split<;>simp
 have X:k<=s.length/\k<=1:=by
  rw[<-A];split
  ·next h=>
   cases s with
   |nil=>simp[Wq]at h
   |cons c r=>simp
  ·omega
 rw[U,m];obtain⟨b,p⟩:∃b,s.drop k=b:=⟨_,rfl⟩;have Y:b.length=s.length-k:=by rw[<-p,List.length_drop]
 rw[p];obtain⟨R,d⟩:∃R,(if b=[]\/5<b.length\/b.all d7=false then ((0,4):Int×Int)else if (bt 0 b:Int)<I\/y<(bt 0 b:Int)then (0,8)else (if B=true then -(bt 0 b:Int)else (bt 0 b:Int),0))=R:=⟨_,rfl⟩;rw[d];simp[Fw];refine wq hm [] [] (fun _:Unit=>[(10,.val (.int .i64 z)),(11,.val (.int .i64 k))]) (fun _=>[]) (fun _=>True) ?_ ?_
 ·have plain:Wq n s=false->k=0/\z=1:=fun h=>by
   have K:B=false:=by
    rw[<-m];cases l:KA n s with
    |false=>rfl
    |true=>
     exfalso;simp only[KA,Bool.and_eq_true]at l;simp[Wq,l.1,l.2]at h
   rw[K]at C;rw[h]at A;exact⟨by simpa using A.symm,by simpa using C.symm⟩
  cases n with
  |false=>
   obtain⟨rfl,rfl⟩:=plain rfl;simp(disch:=omega)[wl];refine bE () trivial ?_;simp;exact bp
  |true=>
   cases s with
   |nil=>
    obtain⟨rfl,rfl⟩:=plain rfl;simp(disch:=omega)[wl];refine bE () trivial ?_;simp;exact bp
   |cons c r=>
    by_cases o:c=43
    ·subst o;have e1:k=1:=by rw[<-A];rfl
     have e2:z=1:=by rw[<-C,<-m];rfl
     rw[e1,e2];simp(disch:=omega)[wl];refine bE () trivial ?_;simp;exact bp
    ·by_cases l:c=45
     ·subst l;have e1:k=1:=by rw[<-A];rfl
      have e2:z = -1:=by rw[<-C,<-m];rfl
      rw[e1,e2];simp(disch:=omega)[wl];refine bE () trivial ?_;simp;exact bp
     ·have Q:¬c.toNat=43:=fun e=>o (UInt8.toNat_inj.1 e)
      have S:¬c.toNat=45:=fun e=>l (UInt8.toNat_inj.1 e)
      obtain⟨e1,e2⟩:=plain (by simp[Wq,o,l]);rw[e1,e2];simp(disch:=omega)[wl,Q,S];refine bE () trivial ?_;simp;exact ag rfl rfl (by simp[aI,ap,ac,Q,S]) (by simp[bD,ac]) (by simp[bB])
 ·rintro _ _;simp;by_cases o:b=[]
  ·rw[if_pos (.inl o)]at d;subst d;have:b.length=0:=by rw[o];rfl
   simp(disch:=omega)[wl];simp[ln]
  ·have Z:1<=b.length:=List.length_pos_iff.2 o;by_cases l:5<b.length
   ·rw[if_pos (.inr (.inl l))]at d;subst d;simp(disch:=omega)[wl];simp[ln]
   ·simp(disch:=omega)[wl];have L:∀i,(b.take i).all d7=true->bt 0 (b.take i)<10 ^ 5:=fun i y=>val_bd y (by rw[List.length_take];omega)
    refine wq hm [] [] (fun _:Unit=>[(12,.val (.int .i64 (bt 0 b:Nat)))]) (fun _=>[]) (fun _=>b.all d7=true) ?_ ?_
    ·simp;refine be hm [] (fun j:Nat=>[(13,.val (.int .i64 (k+j:Nat))),(12,.val (.int .i64 (bt 0 (b.take j):Nat)))]) (fun _=>[]) (fun j=>j<=b.length/\(b.take j).all d7=true) (fun j=>b.length-j) 0 ⟨by omega,by simp⟩ ?_ ?_
     ·have e:bt 0 ([]:Str)=0:=rfl;simp[e];exact bp
     rintro j ⟨hj,a⟩;simp;by_cases h:j<b.length
     ·obtain⟨c,M⟩:∃c,b[j]=c:=⟨_,rfl⟩
      have q:s[k+j]'(by omega)=c:=by
       rw[<-M];simp only[<-p,List.getElem_drop]
      have e0:((k:Int)+(j:Int)).toNat=k+j:=by omega
      have e1:(0:Int)<=(k:Int)+(j:Int):=by omega
      have D:b.take (j+1)=b.take j++[c]:=by rw[List.take_succ_eq_append_getElem h,M]
      by_cases J:d7 c=true
      ·obtain⟨d1,d2⟩:=wQ J;have g:(b.take (j+1)).all d7=true:=by rw[D,List.all_append,a,TJ J];rfl
       have ht:bt 0 (b.take (j+1))=10*bt 0 (b.take j)+(c.toNat-48):=by rw[D,tG]
       have N:=L (j+1) g;have O:=L j a;have e:(((bt 0 (b.take j):Nat):Int)*10+((c.toNat:Int)-48):Int)=(bt 0 (b.take (j+1)):Nat):=by omega
       obtain⟨V,E⟩:∃V,bt 0 (b.take j)=V:=⟨_,rfl⟩;obtain⟨W,P⟩:∃W,bt 0 (b.take (j+1))=W:=⟨_,rfl⟩;rw[E,P]at e ht;rw[E]at O |-;rw[P]at N;simp(disch:=omega)[wl,e0,e1,q,e];refine ai (j+1) ⟨by omega,g⟩ (by omega) ?_;simp[P];exact ag rfl rfl (by simp[aI,ap,ac];omega) (by simp[bD,ac]) (by simp[bB])
      ·have x:c.toNat<48\/57<c.toNat:=by
        simp[d7]at J;omega
       have F:b.all d7=false:=by
        cases e:b.all d7 with
        |false=>rfl
        |true=>exact absurd (List.all_eq_true.1 e c (M▸List.getElem_mem h)) J
       rw[if_pos (.inr (.inr F))]at d;subst d;rcases x with x|x
       ·simp(disch:=omega)[wl,e0,e1,q];simp[ln]
       ·simp(disch:=omega)[wl,e0,e1,q];simp[ln]
     ·obtain rfl:j=b.length:=by omega
      rw[List.take_length]at a |-;simp(disch:=omega)[wl];refine bE () a ?_;simp;exact bp
    ·rintro _ a;have H:=L b.length (by rw[List.take_length];exact a);rw[List.take_length]at H;obtain⟨V,E⟩:∃V,bt 0 b=V:=⟨_,rfl⟩;rw[E]at H |-;simp;rw[E,if_neg (by rw[a];simp only[not_or];exact⟨o,l,by simp⟩)]at d;by_cases h4:(V:Int)<I
     ·rw[if_pos (.inl h4)]at d;subst d;simp(disch:=omega)[wl];simp[ln]
     ·by_cases h5:y<(V:Int)
      ·rw[if_pos (.inr h5)]at d;subst d;simp(disch:=omega)[wl];simp[ln]
      ·rw[if_neg (by omega)]at d;subst d;subst C;cases B with
       |true=>
        simp(disch:=omega)[wl];simp[ln]
       |false=>
        simp(disch:=omega)[wl];simp[ln]
theorem TT(l:List Int)(x:Int)(g:l.length<1000000):Fn G T_ 297 [.slice (is l),.int .i64 x] (.bool (decide (x∈l))):=by
 refine ae hm NU (by simp) ?_;simp[FC,is_len];refine be hm [] (fun i:Nat=>[(5,.val (.int .i64 i))]) (fun _=>[]) (fun i=>i<=l.length/\x∉l.take i) (fun i=>l.length-i) 0 ⟨by omega,by simp⟩ ?_ ?_
 ·simp;exact bp
 rintro i ⟨j,b⟩;simp[is_len];by_cases h:i<l.length
 ·obtain⟨y,c⟩:∃y,l[i]=y:=⟨_,rfl⟩;have d:=uG h c;by_cases e:x=y
  ·have a:x∈l:=by rw[e,<-c];exact List.getElem_mem h
   rw[decide_eq_true a];simp(disch:=omega)[wl,is_len,d,e]
  ·have f:¬y=x:=fun h=>e h.symm
   simp(disch:=omega)[wl,is_len,d,e,f];refine ai (i+1) ⟨by omega,take_no h c b e⟩ (by omega) ?_;simp;exact ag rfl rfl (by simp[aI,ap,ac,e,f]) (by simp[bD,ac]) (by simp[bB])
 ·obtain rfl:i=l.length:=by omega
  rw[List.take_length]at b;rw[decide_eq_false b];simp(disch:=omega)[wl,is_len]
theorem Cx{c:Type}{a b:List c}{i:Nat}(h:a.take i=b.take i)(d:i<a.length)(f:i<b.length)(e:a[i]=b[i]):a.take (i+1)=b.take (i+1):=by
 rw[List.take_succ_eq_append_getElem d,List.take_succ_eq_append_getElem f,h,e]
theorem hJ(a b:List Int)(o:a.length<1000000)(p:b.length<1000000):Fn G T_ 113 [.slice (is a),.slice (is b)] (.bool (decide (a=b))):=by
 refine ae hm Cm (by simp) ?_;simp[tB,is_len];by_cases d:a.length=b.length
 ·simp(disch:=omega)[wl,is_len,d];refine be hm [] (fun i:Nat=>[(5,.val (.int .i64 i))]) (fun _=>[]) (fun i=>i<=a.length/\a.take i=b.take i) (fun i=>a.length-i) 0 ⟨by omega,by simp⟩ ?_ ?_
  ·simp;exact bp
  rintro i ⟨q,g⟩;simp[is_len];by_cases h:i<a.length
  ·have m:i<b.length:=by omega
   obtain⟨x,j⟩:∃x,a[i]=x:=⟨_,rfl⟩;obtain⟨y,k⟩:∃y,b[i]=y:=⟨_,rfl⟩;have n:=uG h j;have f:=uG m k;by_cases e:x=y
   ·simp(disch:=omega)[wl,is_len,n,f,e];refine ai (i+1) ⟨by omega,Cx g h m (by rw[j,k,e])⟩ (by omega) ?_;simp;exact bp
   ·have c:¬a=b:=fun l=>e (by subst l;rw[<-j,<-k])
    rw[decide_eq_false c];simp(disch:=omega)[wl,is_len,n,f,e]
  ·obtain rfl:i=a.length:=by omega
   have:a=b:=by
    rw[List.take_length,d,List.take_length]at g;exact g
   rw[decide_eq_true this];simp(disch:=omega)[wl,is_len,d]
 ·have c:¬a=b:=fun l=>d (by rw[l])
  rw[decide_eq_false c];simp(disch:=omega)[wl,is_len,d]
theorem Qu(a b:List Dn)(o:a.length<1000000)(p:b.length<1000000):Fn G T_ 114 [.slice (sX a),.slice (sX b)] (.bool (decide (a=b))):=by
 refine ae hm Cn (by simp) ?_;simp[tD,aH];by_cases f:a.length=b.length
 ·simp(disch:=omega)[wl,aH,f];refine be hm [] (fun i:Nat=>[(5,.val (.int .i64 i))]) (fun _=>[]) (fun i=>i<=a.length/\a.take i=b.take i) (fun i=>a.length-i) 0 ⟨by omega,by simp⟩ ?_ ?_
  ·simp;exact bp
  rintro i ⟨q,l⟩;simp[aH];by_cases h:i<a.length
  ·have n:i<b.length:=by omega
   obtain⟨x,j⟩:∃x,a[i]=x:=⟨_,rfl⟩;obtain⟨y,k⟩:∃y,b[i]=y:=⟨_,rfl⟩;have m:=kC h j;have d:=kC n k;by_cases e1:x.1=y.1
   ·by_cases e2:x.2=y.2
    ·have e:x=y:=Prod.ext e1 e2;simp(disch:=omega)[wl,aH,m,d,e1,e2];refine ai (i+1) ⟨by omega,Cx l h n (by rw[j,k,e])⟩ (by omega) ?_;simp;exact bp
    ·have c:¬a=b:=fun g=>e2 (by subst g;rw[<-j,<-k])
     rw[decide_eq_false c];simp(disch:=omega)[wl,aH,m,d,e1,e2]
   ·have c:¬a=b:=fun g=>e1 (by subst g;rw[<-j,<-k])
    rw[decide_eq_false c];simp(disch:=omega)[wl,aH,m,d,e1]
  ·obtain rfl:i=a.length:=by omega
   have:a=b:=by
    rw[List.take_length,f,List.take_length]at l;exact l
   rw[decide_eq_true this];simp(disch:=omega)[wl,aH,f]
 ·have c:¬a=b:=fun g=>f (by rw[g])
  rw[decide_eq_false c];simp(disch:=omega)[wl,aH,f]
theorem KB{l:List Dn}{i:Nat}{x:Dn}(h:i<l.length)(a:l[i]=x):sX (l.take (i+1))=sX (l.take i)++[[.int .i64 x.1,.int .i64 x.2]]:=by
 rw[List.take_succ_eq_append_getElem h,a,Iw]
theorem Y2(l:List Dn)(d:l.length<100000):Fn G T_ 115 [.slice (sX l)] (.slice (sX l)):=by
 refine ae hm Kx (by simp) ?_;simp[Co,aH];refine be hm [] (fun i:Nat=>[(4,.val (.int .i64 i)),(3,.own 3 i)]) (fun i=>[(3,.arr i 2 (sX (l.take i)))]) (fun i=>i<=l.length) (fun i=>l.length-i) 0 (by omega) ?_ ?_
 ·simp[sX];exact cH.trans (ct (k:=3) 3 2 (by simp) (by simp[ap,ac])) (ag rfl rfl (by simp[St.adopt,aI,ap,ac,put,cS,SV.erase]) (by simp[St.adopt,bD,ac,put,ck,Ob.erase]) (by simp[St.adopt,bB]))
 intro i e;simp[aH];by_cases h:i<l.length
 ·obtain⟨x,a⟩:∃x,l[i]=x:=⟨_,rfl⟩;have b:=kC h a;have c:=KB h a;simp(disch:=omega)[wl,aH,b];refine⟨by omega,?_⟩;refine ai (i+1) (by omega) (by omega) ?_;simp[c];exact bp
 ·obtain rfl:i=l.length:=by omega
  simp(disch:=omega)[wl,aH]
end Go.Vs.YtcjeehebikeghaaGreatDoor
