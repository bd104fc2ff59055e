/- A part of a proof. No conditions. -/
import Derived.Test.YtnhbiolfmeeniaaGreatDoorNDz
set_option linter.all false
set_option maxRecDepth 100000
set_option maxHeartbeats 8000000
namespace Go.Vs.Y
open Go.Proofs Go.Vs.U8 Go.Vs.Pa
def run(p:UInt8->Bool):Str->Nat
 |[]=>0
 |c::r=>if p c then run p r+1 else 0
def akd(c:UInt8):Bool:=decide (c.toNat≠34)
def plain(c:UInt8):Bool:=!stp c&&akd c
inductive Got where
 |no (e:Int) (p:Int)
 |ok (v:Str) (n:Nat)
def checked(b:Str)(a f:Nat):Got:=match Hx b with
 |some k=>.no 10 (f+k)
 |none=>if 60<(aaq b).length then .no 5 a else .ok (aaq b) 0
def Sml(l:List Pm):Prop:=∀p∈l,p.n.length<=24/\p.v.length<=6/\(∀x∈p.v,x.length<=60)
theorem Sml.fit{l:List Pm}(h:Sml l):Fit l:=⟨fun p a=>by have:=(h p a).1;omega,fun p a=>by have:=(h p a).2.1;omega,fun p a x b=>by have:=(h p a).2.2 x b;omega⟩
theorem afl(l:List Pm)(p:Pm):ps (l++[p])=ps l++[[.str p.n,.slice (ts p.v)]]:=by simp[ps]
theorem ach{P:Program}(hm:P.follows .mixedOrders=true){c:Type}(D:List Nat)(ro:List Nat)(E:c->List (Nat×SV))(O:c->List (Nat×Ob))(A:c->Prop)(m:c->Nat)(g:c){b:VCode}{Q:Exit->St->Prop}{d:St}(h:A g)(j:cJ d {d.upd D (E g) (O g)with ro:=ro })
  (a:∀i,A i->pw P b (fun e f=>match e with
    |.normal=>@J6 c f (m i) ⟨fun i=>{d.upd D (E i) (O i)with ro:=ro }⟩ ⟨A⟩ ⟨m⟩
    |e=>Q e f) {d.upd D (E i) (O i)with ro:=ro }):@TVW P d ⟨.loop b⟩ ⟨Q⟩:=Hs hm (fun i=>{d.upd D (E i) (O i)with ro:=ro }) A m g h j (fun _=>_root_.id rfl) a
open Go.Vs.Nu Go.Lib
def HK:GotE Int->IV
 |.no e p=>.tuple [.slice [],dD e [(p:Int)]]
 |.ok l=>.tuple [.slice (is l),.nili]
def HL:GotE Dn->IV
 |.no e p=>.tuple [.slice [],dD e [(p:Int)]]
 |.ok l=>.tuple [.slice (B4 l),.nili]
theorem QO(s:Str)(y:Nat)(i:List IV)(one:Str->Int×Int)(B:s.length<1000000)(C:∀x:Str,x.length<=s.length->Fn G T_ y (.str x::i) (Dd (one x))):Fn G T_ 242 [.str s,.fn y i] (HK (cS one s)):=by
 obtain⟨R,f⟩:=A_ (cS one s);rw[f];unfold cS at f;obtain⟨L,p⟩:=A_ (parts 44 s);have q:∀x∈L,x.length<=s.length:=fun x l=>nJ (p▸l)
 have D:L.length<=1000001:=by
  have:=sC 44 s;have z:s.count 44<=s.length:=List.count_le_length;rw[p]at this;omega
 have A:=zl s 44 B;rw[p]at A f;refine ae hm vu (by simp) ?_;simp[nN];refine aa A ?_;simp[bO];refine ach hm [] [6] (fun x:Nat×List Int=>[(15,.val (.int .i64 x.2.length)),(7,.val (.int .i64 x.1)),(6,.own 6 x.2.length)]) (fun x=>[(6,.arr x.2.length 1 (is x.2))]) (fun x=>x.2.length<=L.length/\x.2.length<=12/\x.1<=1000001*x.2.length/\fL one (L.drop x.2.length) x.1 x.2=R) (fun x=>L.length-x.2.length) (0,[]) ⟨by simp,by simp,by simp,by simpa using f⟩ ?_ ?_
 .simp[is];exact cJ.trans (fu (k:=6) 6 1 (by simp) (by simp[aE,ac])) (an rfl rfl (by simp[St.adopt,bj,aE,ac,put,dB,SV.erase]) (by simp[St.adopt,bZ,ac,put,cp,Ob.erase]) (by simp[St.adopt,bX]))
 rintro⟨a,c⟩ ⟨E,z,F,b⟩;simp only at E z F b;simp[is_len,bO];by_cases h:c.length<L.length
 .obtain⟨x,l⟩:=A_ (L[c.length]);have u:=xt h l;have v:=q x (l▸List.getElem_mem h);rw[List.drop_eq_getElem_cons h,l,fL]at b;by_cases d:c.length=12
  .rw[if_pos d]at b;subst b;have j:=gQ 20 (a:Int);rw[if_neg (by omega)]at j;rw[d]at u;simp(disch:=omega)[wl,u,is_len,bO,d];refine aa j ?_;simp[HK]
  rw[if_neg d]at b;obtain⟨⟨n,e⟩,H⟩:=A_ (one x);have w:=C x v;rw[H]at w b;simp only[Dd]at w;simp only at b;simp(disch:=omega)[wl,u,is_len,bO,d];refine aa w ?_;by_cases m:e=0
  .subst m;rw[if_neg (by simp)]at b;have o:=qW c n (by omega);by_cases g:n∈c
   .rw[if_pos g]at b;subst b;rw[decide_eq_true g]at o;have j:=gQ 19 (a:Int);rw[if_neg (by omega)]at j;simp(disch:=omega)[wl,is_len];refine aa o ?_;simp(disch:=omega)[wl];refine aa j ?_;simp[HK]
   rw[if_neg g]at b;rw[decide_eq_false g]at o;simp(disch:=omega)[wl,is_len];refine aa o ?_;simp(disch:=omega)[wl,is_len];refine⟨by omega,?_⟩;refine aj (a+x.length+1,c++[n]) ⟨by simp;omega,by simp;omega,by simp;omega,by simpa using b⟩ (by simp;omega) ?_;simp[Xq];exact an rfl rfl (by simp[bj,aE,ac];omega) (by simp[bZ,ac]) (by simp[bX])
  rw[if_pos m]at b;subst b;have j:=gQ e (a:Int);rw[if_neg m]at j;simp(disch:=omega)[wl,is_len,m];refine aa j ?_;simp[HK]
 have e:L.drop c.length=[]:=List.drop_eq_nil_of_le (by omega);rw[e,fL]at b;subst b;have e2:c.length=L.length:=by omega
 simp(disch:=omega)[wl,is_len,bO];simp[HK]
theorem Tt(s:Str)(y:Nat)(i:List IV)(one:Str->Dn×Int)(B:s.length<1000000)(C:∀x:Str,x.length<=s.length->Fn G T_ y (.str x::i) (Ts (one x))):Fn G T_ 240 [.str s,.fn y i] (HL (cS one s)):=by
 obtain⟨R,f⟩:=A_ (cS one s);rw[f];unfold cS at f;obtain⟨L,p⟩:=A_ (parts 44 s);have q:∀x∈L,x.length<=s.length:=fun x l=>nJ (p▸l)
 have D:L.length<=1000001:=by
  have:=sC 44 s;have z:s.count 44<=s.length:=List.count_le_length;rw[p]at this;omega
 have A:=zl s 44 B;rw[p]at A f;refine ae hm rV (by simp) ?_;simp[kL];refine aa A ?_;simp[bO];refine ach hm [] [6] (fun x:Nat×List Dn=>[(15,.val (.int .i64 x.2.length)),(7,.val (.int .i64 x.1)),(6,.own 6 x.2.length)]) (fun x=>[(6,.arr x.2.length 2 (B4 x.2))]) (fun x=>x.2.length<=L.length/\x.2.length<=12/\x.1<=1000001*x.2.length/\fL one (L.drop x.2.length) x.1 x.2=R) (fun x=>L.length-x.2.length) (0,[]) ⟨by simp,by simp,by simp,by simpa using f⟩ ?_ ?_
 .simp[B4];exact cJ.trans (fu (k:=6) 6 2 (by simp) (by simp[aE,ac])) (an rfl rfl (by simp[St.adopt,bj,aE,ac,put,dB,SV.erase]) (by simp[St.adopt,bZ,ac,put,cp,Ob.erase]) (by simp[St.adopt,bX]))
 rintro⟨a,c⟩ ⟨E,z,F,b⟩;simp only at E z F b;simp[aJ,bO];by_cases h:c.length<L.length
 .obtain⟨x,l⟩:=A_ (L[c.length]);have u:=xt h l;have v:=q x (l▸List.getElem_mem h);rw[List.drop_eq_getElem_cons h,l,fL]at b;by_cases d:c.length=12
  .rw[if_pos d]at b;subst b;have j:=gQ 20 (a:Int);rw[if_neg (by omega)]at j;rw[d]at u;simp(disch:=omega)[wl,u,aJ,bO,d];refine aa j ?_;simp[HL]
  rw[if_neg d]at b;obtain⟨⟨n,e⟩,H⟩:=A_ (one x);have w:=C x v;rw[H]at w b;simp only[Ts]at w;simp only at b;simp(disch:=omega)[wl,u,aJ,bO,d];refine aa w ?_;by_cases m:e=0
  .subst m;rw[if_neg (by simp)]at b;have o:=zw c n (by omega);by_cases g:n∈c
   .rw[if_pos g]at b;subst b;rw[decide_eq_true g]at o;have j:=gQ 19 (a:Int);rw[if_neg (by omega)]at j;simp(disch:=omega)[wl,aJ];refine aa o ?_;simp(disch:=omega)[wl];refine aa j ?_;simp[HL]
   rw[if_neg g]at b;rw[decide_eq_false g]at o;simp(disch:=omega)[wl,aJ];refine aa o ?_;simp(disch:=omega)[wl,aJ];refine⟨by omega,?_⟩;refine aj (a+x.length+1,c++[n]) ⟨by simp;omega,by simp;omega,by simp;omega,by simpa using b⟩ (by simp;omega) ?_;simp[acf];exact an rfl rfl (by simp[bj,aE,ac];omega) (by simp[bZ,ac]) (by simp[bX])
  rw[if_pos m]at b;subst b;have j:=gQ e (a:Int);rw[if_neg m]at j;simp(disch:=omega)[wl,aJ,m];refine aa j ?_;simp[HL]
 have e:L.drop c.length=[]:=List.drop_eq_nil_of_le (by omega);rw[e,fL]at b;subst b;have e2:c.length=L.length:=by omega
 simp(disch:=omega)[wl,aJ,bO];simp[HL]
theorem afm(a b:Int)(c:Bool)(s:Str)(e:s.length<1000000):Fn G T_ 203 [.str s,.int .i64 a,.int .i64 b,.bool c] (HK (cS (dT 5 a b c) s)):=by
 refine ae hm QJ (by simp) ?_;have d:=QO s 243 [.ref [.int .i64 a],.ref [.int .i64 b],.ref [.bool c]] (dT 5 a b c) e (fun x g=>Zm a b c x (by omega));obtain⟨R,f⟩:=A_ (cS (dT 5 a b c) s);rw[f]at d |-;simp[HI];refine aa d ?_;cases R<;>simp[HK]
theorem afn(s:Str)(b:s.length<1000000):Fn G T_ 202 [.str s] (HL (cS tw s)):=by
 refine ae hm QI (by simp) ?_;have a:=Tt s 241 [] tw b (fun x d=>ah2 x (by omega));obtain⟨R,c⟩:=A_ (cS tw s);rw[c]at a |-;simp[HG];refine aa a ?_;cases R<;>simp[HL]
end Go.Vs.Y
