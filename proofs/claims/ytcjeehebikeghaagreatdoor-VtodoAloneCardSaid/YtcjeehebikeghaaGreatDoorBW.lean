/- A part of a proof. No conditions. -/
import Derived.Test.YtcjeehebikeghaaGreatDoorBN
import Derived.Test.YtcjeehebikeghaaGreatDoorND
set_option linter.unusedVariables false
set_option linter.unusedSimpArgs false
set_option maxRecDepth 100000
set_option maxHeartbeats 8000000
namespace Go.Vs.YtcjeehebikeghaaGreatDoor
open Go.Proofs Go.Vs.U8 Go.Vs.Pa
theorem Ta(l:List Pm)(p:Pm):ps (l++[p])=ps l++[[.str p.n,.slice (ts p.v)]]:=by simp[ps]
theorem QD{P:Program}(hm:P.follows .mixedOrders=true){ι:Type}(D:List Nat)(ro:List Nat)(E:ι->List (Nat×SV))(O:ι->List (Nat×Ob))(A:ι->Prop)(m:ι->Nat)(i0:ι){b:VCode}{Q:Exit->St->Prop}{σ:St}(hA:A i0)(h0:cR σ {σ.upd D (E i0) (O i0)with ro:=ro })
  (round:∀i,A i->pw P b (fun e σ'=>match e with
    |.normal=>@Bv ι σ' (m i) ⟨fun i=>{σ.upd D (E i) (O i)with ro:=ro }⟩ ⟨A⟩ ⟨m⟩
    |e=>Q e σ') {σ.upd D (E i) (O i)with ro:=ro }):@Wo P σ ⟨.loop b⟩ ⟨Q⟩:=J6 hm (fun i=>{σ.upd D (E i) (O i)with ro:=ro }) A m i0 hA h0 (fun _=>_root_.id rfl) round
open Go.Vs.Nu Go.Lib
def AC:GotE Int->IV
 |.no e p=>.tuple [.slice [],cS e [(p:Int)]]
 |.ok l=>.tuple [.slice (is l),.nili]
def AD:GotE Dn->IV
 |.no e p=>.tuple [.slice [],cS e [(p:Int)]]
 |.ok l=>.tuple [.slice (zK l),.nili]
theorem Hw(s:Str)(fk:Nat)(caps:List IV)(one:Str->Int×Int)(hs:s.length<1000000)(hf:∀x:Str,x.length<=s.length->Fn G T_ fk (.str x::caps) (wX (one x))):Fn G T_ 330 [.str s,.fn fk caps] (AC (dC one s)):=by
 obtain⟨R,hRR⟩:∃R,dC one s=R:=⟨_,rfl⟩;rw[hRR];unfold dC at hRR;obtain⟨L,hL⟩:∃L,parts 44 s=L:=⟨_,rfl⟩;have hLs:∀x∈L,x.length<=s.length:=fun x hx=>kc (hL▸hx)
 have hLl:L.length<=1000001:=by
  have:=nN 44 s;have h2:s.count 44<=s.length:=List.count_le_length;rw[hL]at this;omega
 have hS:=sY s 44 hs;rw[hL]at hS hRR;refine ag hm pH (by simp) ?_;simp[kf];refine aa hS ?_;simp[bE];refine QD hm [] [6] (fun x:Nat×List Int=>[(15,.val (.int .i64 x.2.length)),(7,.val (.int .i64 x.1)),(6,.own 6 x.2.length)]) (fun x=>[(6,.arr x.2.length 1 (is x.2))]) (fun x=>x.2.length<=L.length/\x.2.length<=12/\x.1<=1000001*x.2.length/\kH one (L.drop x.2.length) x.1 x.2=R) (fun x=>L.length-x.2.length) (0,[]) ⟨by simp,by simp,by simp,by simpa using hRR⟩ ?_ ?_
 ·simp[is];exact cR.trans (fS (k:=6) 6 1 (by simp) (by simp[aC,ac])) (ap rfl rfl (by simp[St.adopt,bp,aC,ac,put,dT,SV.erase]) (by simp[St.adopt,ch,ac,put,cC,Ob.erase]) (by simp[St.adopt,cg]))
 rintro⟨a,out⟩ ⟨h1,h2,h3,hst⟩;simp only at h1 h2 h3 hst;simp[is_len,bE];by_cases h:out.length<L.length
 ·obtain⟨x,hx⟩:∃x,L[out.length]=x:=⟨_,rfl⟩;have hg:=rg h hx;have hxs:=hLs x (hx▸List.getElem_mem h);rw[List.drop_eq_getElem_cons h,hx,kH]at hst;by_cases h12:out.length=12
  ·rw[if_pos h12]at hst;subst hst;have hE:=fd 20 (a:Int);rw[if_neg (by omega)]at hE;rw[h12]at hg;simp(disch:=omega)[wl,hg,is_len,bE,h12];refine aa hE ?_;simp[AC]
  ·rw[if_neg h12]at hst;obtain⟨⟨n,e⟩,hn⟩:∃p,one x=p:=⟨_,rfl⟩;have hF:=hf x hxs;rw[hn]at hF hst;simp only[wX]at hF;simp only at hst;simp(disch:=omega)[wl,hg,is_len,bE,h12];refine aa hF ?_;by_cases he:e=0
   ·subst he;rw[if_neg (by simp)]at hst;have hC:=rT out n (by omega);by_cases hm':n∈out
    ·rw[if_pos hm']at hst;subst hst;rw[decide_eq_true hm']at hC;have hE:=fd 19 (a:Int);rw[if_neg (by omega)]at hE;simp(disch:=omega)[wl,is_len];refine aa hC ?_;simp(disch:=omega)[wl];refine aa hE ?_;simp[AC]
    ·rw[if_neg hm']at hst;rw[decide_eq_false hm']at hC;simp(disch:=omega)[wl,is_len];refine aa hC ?_;simp(disch:=omega)[wl,is_len];refine⟨by omega,?_⟩;refine au (a+x.length+1,out++[n]) ⟨by simp;omega,by simp;omega,by simp;omega,by simpa using hst⟩ (by simp;omega) ?_;simp[Ml];exact ap rfl rfl (by simp[bp,aC,ac];omega) (by simp[ch,ac]) (by simp[cg])
   ·rw[if_pos he]at hst;subst hst;have hE:=fd e (a:Int);rw[if_neg he]at hE;simp(disch:=omega)[wl,is_len,he];refine aa hE ?_;simp[AC]
 ·have e:L.drop out.length=[]:=List.drop_eq_nil_of_le (by omega);rw[e,kH]at hst;subst hst;have e2:out.length=L.length:=by omega
  simp(disch:=omega)[wl,is_len,bE];simp[AC]
theorem JF(s:Str)(fk:Nat)(caps:List IV)(one:Str->Dn×Int)(hs:s.length<1000000)(hf:∀x:Str,x.length<=s.length->Fn G T_ fk (.str x::caps) (JE (one x))):Fn G T_ 328 [.str s,.fn fk caps] (AD (dC one s)):=by
 obtain⟨R,hRR⟩:∃R,dC one s=R:=⟨_,rfl⟩;rw[hRR];unfold dC at hRR;obtain⟨L,hL⟩:∃L,parts 44 s=L:=⟨_,rfl⟩;have hLs:∀x∈L,x.length<=s.length:=fun x hx=>kc (hL▸hx)
 have hLl:L.length<=1000001:=by
  have:=nN 44 s;have h2:s.count 44<=s.length:=List.count_le_length;rw[hL]at this;omega
 have hS:=sY s 44 hs;rw[hL]at hS hRR;refine ag hm nt (by simp) ?_;simp[iN];refine aa hS ?_;simp[bE];refine QD hm [] [6] (fun x:Nat×List Dn=>[(15,.val (.int .i64 x.2.length)),(7,.val (.int .i64 x.1)),(6,.own 6 x.2.length)]) (fun x=>[(6,.arr x.2.length 2 (zK x.2))]) (fun x=>x.2.length<=L.length/\x.2.length<=12/\x.1<=1000001*x.2.length/\kH one (L.drop x.2.length) x.1 x.2=R) (fun x=>L.length-x.2.length) (0,[]) ⟨by simp,by simp,by simp,by simpa using hRR⟩ ?_ ?_
 ·simp[zK];exact cR.trans (fS (k:=6) 6 2 (by simp) (by simp[aC,ac])) (ap rfl rfl (by simp[St.adopt,bp,aC,ac,put,dT,SV.erase]) (by simp[St.adopt,ch,ac,put,cC,Ob.erase]) (by simp[St.adopt,cg]))
 rintro⟨a,out⟩ ⟨h1,h2,h3,hst⟩;simp only at h1 h2 h3 hst;simp[co,bE];by_cases h:out.length<L.length
 ·obtain⟨x,hx⟩:∃x,L[out.length]=x:=⟨_,rfl⟩;have hg:=rg h hx;have hxs:=hLs x (hx▸List.getElem_mem h);rw[List.drop_eq_getElem_cons h,hx,kH]at hst;by_cases h12:out.length=12
  ·rw[if_pos h12]at hst;subst hst;have hE:=fd 20 (a:Int);rw[if_neg (by omega)]at hE;rw[h12]at hg;simp(disch:=omega)[wl,hg,co,bE,h12];refine aa hE ?_;simp[AD]
  ·rw[if_neg h12]at hst;obtain⟨⟨n,e⟩,hn⟩:∃p,one x=p:=⟨_,rfl⟩;have hF:=hf x hxs;rw[hn]at hF hst;simp only[JE]at hF;simp only at hst;simp(disch:=omega)[wl,hg,co,bE,h12];refine aa hF ?_;by_cases he:e=0
   ·subst he;rw[if_neg (by simp)]at hst;have hC:=tr out n (by omega);by_cases hm':n∈out
    ·rw[if_pos hm']at hst;subst hst;rw[decide_eq_true hm']at hC;have hE:=fd 19 (a:Int);rw[if_neg (by omega)]at hE;simp(disch:=omega)[wl,co];refine aa hC ?_;simp(disch:=omega)[wl];refine aa hE ?_;simp[AD]
    ·rw[if_neg hm']at hst;rw[decide_eq_false hm']at hC;simp(disch:=omega)[wl,co];refine aa hC ?_;simp(disch:=omega)[wl,co];refine⟨by omega,?_⟩;refine au (a+x.length+1,out++[n]) ⟨by simp;omega,by simp;omega,by simp;omega,by simpa using hst⟩ (by simp;omega) ?_;simp[QA];exact ap rfl rfl (by simp[bp,aC,ac];omega) (by simp[ch,ac]) (by simp[cg])
   ·rw[if_pos he]at hst;subst hst;have hE:=fd e (a:Int);rw[if_neg he]at hE;simp(disch:=omega)[wl,co,he];refine aa hE ?_;simp[AD]
 ·have e:L.drop out.length=[]:=List.drop_eq_nil_of_le (by omega);rw[e,kH]at hst;subst hst;have e2:out.length=L.length:=by omega
  simp(disch:=omega)[wl,co,bE];simp[AD]
theorem Tb(lo hi:Int)(sg:Bool)(s:Str)(hs:s.length<1000000):Fn G T_ 286 [.str s,.int .i64 lo,.int .i64 hi,.bool sg] (AC (dC (eH 5 lo hi sg) s)):=by
 refine ag hm Hr (by simp) ?_;have hE:=Hw s 331 [.ref [.int .i64 lo],.ref [.int .i64 hi],.ref [.bool sg]] (eH 5 lo hi sg) hs (fun x hx=>O2 lo hi sg x (by omega));obtain⟨R,hR⟩:∃R,dC (eH 5 lo hi sg) s=R:=⟨_,rfl⟩;rw[hR]at hE |-;simp[AA];refine aa hE ?_;cases R<;>simp[AC]
theorem Tc(s:Str)(hs:s.length<1000000):Fn G T_ 285 [.str s] (AD (dC y6 s)):=by
 refine ag hm Hq (by simp) ?_;have hE:=JF s 329 [] y6 hs (fun x hx=>Vq x (by omega));obtain⟨R,hR⟩:∃R,dC y6 s=R:=⟨_,rfl⟩;rw[hR]at hE |-;simp[Ay];refine aa hE ?_;cases R<;>simp[AD]
end Go.Vs.YtcjeehebikeghaaGreatDoor
