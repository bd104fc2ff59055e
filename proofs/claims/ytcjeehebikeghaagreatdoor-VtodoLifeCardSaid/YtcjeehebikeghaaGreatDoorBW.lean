/- The walk of param, part 15: parameters read. No conditions. -/
import Derived.Test.YtcjeehebikeghaaGreatDoorBN
import Derived.Test.YtcjeehebikeghaaGreatDoorBQ
import Derived.Test.YtcjeehebikeghaaGreatDoorND
set_option linter.unusedVariables false
set_option linter.unusedSimpArgs false
set_option maxRecDepth 100000
set_option maxHeartbeats 8000000
namespace Go.Vs.YtcjeehebikeghaaGreatDoor
open Go.Proofs Go.Vs.U8 Go.Vs.Pa
theorem XI(l:List Pm)(p:Pm):ps (l++[p])=ps l++[[.str p.n,.slice (ts p.v)]]:=by simp[ps]
theorem V6{P:Program}(hm:P.follows .mixedOrders=true){ι:Type}(D:List Nat)(ro:List Nat)(E:ι→List (Nat×SV))(O:ι→List (Nat×Ob))(A:ι→Prop)(m:ι→Nat)(i0:ι){b:VCode}{Q:Exit→St→Prop}{σ:St}(hA:A i0)(h0:d5 σ {σ.upd D (E i0) (O i0)with ro:=ro })
  (round:∀i,A i→pw P b (fun e σ'=>match e with
    |.normal=>@DV ι σ' (m i) ⟨fun i=>{σ.upd D (E i) (O i)with ro:=ro }⟩ ⟨A⟩ ⟨m⟩
    |e=>Q e σ') {σ.upd D (E i) (O i)with ro:=ro }):@TVW P σ ⟨.loop b⟩ ⟨Q⟩:=Na hm (fun i=>{σ.upd D (E i) (O i)with ro:=ro }) A m i0 hA h0 (fun _=>_root_.id rfl) round
open Go.Vs.Nu Go.Lib
def CW:GotE Int→IV
 |.no e p=>.tuple [.slice [],dp e [(p:Int)]]
 |.ok l=>.tuple [.slice (is l),.nili]
def CX:GotE Dn→IV
 |.no e p=>.tuple [.slice [],dp e [(p:Int)]]
 |.ok l=>.tuple [.slice (vu l),.nili]
theorem Lb(s:Str)(fk:Nat)(caps:List IV)(one:Str→Int×Int)(hs:s.length<1000000)(hf:∀x:Str,x.length≤s.length→Fn G Tryz.prog fk (.str x::caps) (yR (one x))):Fn G Tryz.prog gZ [.str s,.fn fk caps] (CW (dW one s)):=by
 obtain⟨R,hRR⟩:∃R,dW one s=R:=⟨_,rfl⟩;rw[hRR];unfold dW at hRR;obtain⟨L,hL⟩:∃L,parts 44 s=L:=⟨_,rfl⟩;have hLs:∀x∈L,x.length≤s.length:=fun x hx=>lh (hL▸hx)
 have hLl:L.length≤1000001:=by
  have:=pd 44 s;have h2:s.count 44≤s.length:=List.count_le_length;rw[hL]at this;omega
 have hS:=v8 s 44 hs;rw[hL]at hS hRR;refine ag hm rj (by simp) ?_;simp[ll,lq];refine aa hS ?_;simp[bI];refine V6 hm [] [6] (fun x:Nat×List Int=>[(15,.val (.int .i64 x.2.length)),(7,.val (.int .i64 x.1)),(6,.own 6 x.2.length)]) (fun x=>[(6,.arr x.2.length 1 (is x.2))]) (fun x=>x.2.length≤L.length∧x.2.length≤12∧x.1≤1000001*x.2.length∧lV one (L.drop x.2.length) x.1 x.2=R) (fun x=>L.length-x.2.length) (0,[]) ⟨by simp,by simp,by simp,by simpa using hRR⟩ ?_ ?_
 ·simp[is];exact d5.trans (dR (k:=6) 6 1 (by simp) (by simp[aC,ac])) (ap rfl rfl (by simp[St.adopt,bv,aC,ac,put,dJ,SV.erase]) (by simp[St.adopt,cC,ac,put,cK,Ob.erase]) (by simp[St.adopt,ct]))
 rintro⟨a,out⟩ ⟨h1,h2,h3,hst⟩;simp only at h1 h2 h3 hst;simp[is_len,bI];by_cases h:out.length<L.length
 ·obtain⟨x,hx⟩:∃x,L[out.length]=x:=⟨_,rfl⟩;have hg:=pC h hx;have hxs:=hLs x (hx▸List.getElem_mem h);rw[List.drop_eq_getElem_cons h,hx,lV]at hst;by_cases h12:out.length=12
  ·rw[if_pos h12]at hst;subst hst;have hE:=fQ 20 (a:Int);rw[if_neg (by omega)]at hE;rw[h12]at hg;simp(disch:=omega)[wl,hg,is_len,bI,h12];refine aa hE ?_;simp[CW]
  ·rw[if_neg h12]at hst;obtain⟨⟨n,e⟩,hn⟩:∃p,one x=p:=⟨_,rfl⟩;have hF:=hf x hxs;rw[hn]at hF hst;simp only[yR]at hF;simp only at hst;simp(disch:=omega)[wl,hg,is_len,bI,h12];refine aa hF ?_;by_cases he:e=0
   ·subst he;rw[if_neg (by simp)]at hst;have hC:=tZ out n (by omega);by_cases hm':n∈out
    ·rw[if_pos hm']at hst;subst hst;rw[decide_eq_true hm']at hC;have hE:=fQ 19 (a:Int);rw[if_neg (by omega)]at hE;simp(disch:=omega)[wl,is_len];refine aa hC ?_;simp(disch:=omega)[wl];refine aa hE ?_;simp[CW]
    ·rw[if_neg hm']at hst;rw[decide_eq_false hm']at hC;simp(disch:=omega)[wl,is_len];refine aa hC ?_;simp(disch:=omega)[wl,is_len];refine⟨by omega,?_⟩;refine aq (a+x.length+1,out++[n]) ⟨by simp;omega,by simp;omega,by simp;omega,by simpa using hst⟩ (by simp;omega) ?_;simp[QC];exact ap rfl rfl (by simp[bv,aC,ac];omega) (by simp[cC,ac]) (by simp[ct])
   ·rw[if_pos he]at hst;subst hst;have hE:=fQ e (a:Int);rw[if_neg he]at hE;simp(disch:=omega)[wl,is_len,he];refine aa hE ?_;simp[CW]
 ·have e:L.drop out.length=[]:=List.drop_eq_nil_of_le (by omega);rw[e,lV]at hst;subst hst;have e2:out.length=L.length:=by omega
  simp(disch:=omega)[wl,is_len,bI];simp[CW]
theorem NO(s:Str)(fk:Nat)(caps:List IV)(one:Str→Dn×Int)(hs:s.length<1000000)(hf:∀x:Str,x.length≤s.length→Fn G Tryz.prog fk (.str x::caps) (NN (one x))):Fn G Tryz.prog fu [.str s,.fn fk caps] (CX (dW one s)):=by
 obtain⟨R,hRR⟩:∃R,dW one s=R:=⟨_,rfl⟩;rw[hRR];unfold dW at hRR;obtain⟨L,hL⟩:∃L,parts 44 s=L:=⟨_,rfl⟩;have hLs:∀x∈L,x.length≤s.length:=fun x hx=>lh (hL▸hx)
 have hLl:L.length≤1000001:=by
  have:=pd 44 s;have h2:s.count 44≤s.length:=List.count_le_length;rw[hL]at this;omega
 have hS:=v8 s 44 hs;rw[hL]at hS hRR;refine ag hm oN (by simp) ?_;simp[js,jt];refine aa hS ?_;simp[bI];refine V6 hm [] [6] (fun x:Nat×List Dn=>[(15,.val (.int .i64 x.2.length)),(7,.val (.int .i64 x.1)),(6,.own 6 x.2.length)]) (fun x=>[(6,.arr x.2.length 2 (vu x.2))]) (fun x=>x.2.length≤L.length∧x.2.length≤12∧x.1≤1000001*x.2.length∧lV one (L.drop x.2.length) x.1 x.2=R) (fun x=>L.length-x.2.length) (0,[]) ⟨by simp,by simp,by simp,by simpa using hRR⟩ ?_ ?_
 ·simp[vu];exact d5.trans (dR (k:=6) 6 2 (by simp) (by simp[aC,ac])) (ap rfl rfl (by simp[St.adopt,bv,aC,ac,put,dJ,SV.erase]) (by simp[St.adopt,cC,ac,put,cK,Ob.erase]) (by simp[St.adopt,ct]))
 rintro⟨a,out⟩ ⟨h1,h2,h3,hst⟩;simp only at h1 h2 h3 hst;simp[bM,bI];by_cases h:out.length<L.length
 ·obtain⟨x,hx⟩:∃x,L[out.length]=x:=⟨_,rfl⟩;have hg:=pC h hx;have hxs:=hLs x (hx▸List.getElem_mem h);rw[List.drop_eq_getElem_cons h,hx,lV]at hst;by_cases h12:out.length=12
  ·rw[if_pos h12]at hst;subst hst;have hE:=fQ 20 (a:Int);rw[if_neg (by omega)]at hE;rw[h12]at hg;simp(disch:=omega)[wl,hg,bM,bI,h12];refine aa hE ?_;simp[CX]
  ·rw[if_neg h12]at hst;obtain⟨⟨n,e⟩,hn⟩:∃p,one x=p:=⟨_,rfl⟩;have hF:=hf x hxs;rw[hn]at hF hst;simp only[NN]at hF;simp only at hst;simp(disch:=omega)[wl,hg,bM,bI,h12];refine aa hF ?_;by_cases he:e=0
   ·subst he;rw[if_neg (by simp)]at hst;have hC:=vv out n (by omega);by_cases hm':n∈out
    ·rw[if_pos hm']at hst;subst hst;rw[decide_eq_true hm']at hC;have hE:=fQ 19 (a:Int);rw[if_neg (by omega)]at hE;simp(disch:=omega)[wl,bM];refine aa hC ?_;simp(disch:=omega)[wl];refine aa hE ?_;simp[CX]
    ·rw[if_neg hm']at hst;rw[decide_eq_false hm']at hC;simp(disch:=omega)[wl,bM];refine aa hC ?_;simp(disch:=omega)[wl,bM];refine⟨by omega,?_⟩;refine aq (a+x.length+1,out++[n]) ⟨by simp;omega,by simp;omega,by simp;omega,by simpa using hst⟩ (by simp;omega) ?_;simp[NL];exact ap rfl rfl (by simp[bv,aC,ac];omega) (by simp[cC,ac]) (by simp[ct])
   ·rw[if_pos he]at hst;subst hst;have hE:=fQ e (a:Int);rw[if_neg he]at hE;simp(disch:=omega)[wl,bM,he];refine aa hE ?_;simp[CX]
 ·have e:L.drop out.length=[]:=List.drop_eq_nil_of_le (by omega);rw[e,lV]at hst;subst hst;have e2:out.length=L.length:=by omega
  simp(disch:=omega)[wl,bM,bI];simp[CX]
theorem XJ(lo hi:Int)(sg:Bool)(s:Str)(hs:s.length<1000000):Fn G Tryz.prog vl [.str s,.int .i64 lo,.int .i64 hi,.bool sg] (CW (dW (dU 5 lo hi sg) s)):=by
 refine ag hm L5 (by simp) ?_;have hE:=Lb s nu [.ref [.int .i64 lo],.ref [.int .i64 hi],.ref [.bool sg]] (dU 5 lo hi sg) hs (fun x hx=>Sq lo hi sg x (by omega));obtain⟨R,hR⟩:∃R,dW (dU 5 lo hi sg) s=R:=⟨_,rfl⟩;rw[hR]at hE ⊢;simp[CU,CV];refine aa hE ?_;cases R<;>simp[CW]
theorem XK(s:Str)(hs:s.length<1000000):Fn G Tryz.prog vh [.str s] (CX (dW Af s)):=by
 refine ag hm L4 (by simp) ?_;have hE:=NO s tj [] Af hs (fun x hx=>aag x (by omega));obtain⟨R,hR⟩:∃R,dW Af s=R:=⟨_,rfl⟩;rw[hR]at hE ⊢;simp[CS,CT];refine aa hE ?_;cases R<;>simp[CX]
theorem Am{α:Type}{a b:List α}{i:Nat}(h:a.take i=b.take i)(ha:i<a.length)(hb:i<b.length)(e:a[i]=b[i]):a.take (i+1)=b.take (i+1):=by
 rw[List.take_succ_eq_append_getElem ha,List.take_succ_eq_append_getElem hb,h,e]
theorem ix(a b:List Int)(ha:a.length<1000000)(hb:b.length<1000000):Fn G Tryz.prog cI [.slice (is a),.slice (is b)] (.bool (decide (a=b))):=by
 refine ag hm Ah (by simp) ?_;simp[sa,sb,is_len];by_cases hl:a.length=b.length
 ·simp(disch:=omega)[wl,is_len,hl];refine bS hm [] (fun i:Nat=>[(5,.val (.int .i64 i))]) (fun _=>[]) (fun i=>i≤a.length∧a.take i=b.take i) (fun i=>a.length-i) 0 ⟨by omega,by simp⟩ ?_ ?_
  ·simp;exact bT
  rintro i ⟨hi,hn⟩;simp[is_len];by_cases h:i<a.length
  ·have h':i<b.length:=by omega
   obtain⟨x,hx⟩:∃x,a[i]=x:=⟨_,rfl⟩;obtain⟨y,hy⟩:∃y,b[i]=y:=⟨_,rfl⟩;have hg:=FE h hx;have hg':=FE h' hy;by_cases e:x=y
   ·simp(disch:=omega)[wl,is_len,hg,hg',e];refine aq (i+1) ⟨by omega,Am hn h h' (by rw[hx,hy,e])⟩ (by omega) ?_;simp;exact bT
   ·have hne:¬a=b:=fun he=>e (by subst he;rw[←hx,←hy])
    rw[decide_eq_false hne];simp(disch:=omega)[wl,is_len,hg,hg',e]
  ·obtain rfl:i=a.length:=by omega
   have:a=b:=by
    rw[List.take_length,hl,List.take_length]at hn;exact hn
   rw[decide_eq_true this];simp(disch:=omega)[wl,is_len,hl]
 ·have hne:¬a=b:=fun he=>hl (by rw[he])
  rw[decide_eq_false hne];simp(disch:=omega)[wl,is_len,hl]
theorem NP(a b:List Dn)(ha:a.length<1000000)(hb:b.length<1000000):Fn G Tryz.prog n5 [.slice (vu a),.slice (vu b)] (.bool (decide (a=b))):=by
 refine ag hm Ai (by simp) ?_;simp[sd,sf,bM];by_cases hl:a.length=b.length
 ·simp(disch:=omega)[wl,bM,hl];refine bS hm [] (fun i:Nat=>[(5,.val (.int .i64 i))]) (fun _=>[]) (fun i=>i≤a.length∧a.take i=b.take i) (fun i=>a.length-i) 0 ⟨by omega,by simp⟩ ?_ ?_
  ·simp;exact bT
  rintro i ⟨hi,hn⟩;simp[bM];by_cases h:i<a.length
  ·have h':i<b.length:=by omega
   obtain⟨x,hx⟩:∃x,a[i]=x:=⟨_,rfl⟩;obtain⟨y,hy⟩:∃y,b[i]=y:=⟨_,rfl⟩;have hg:=tq h hx;have hg':=tq h' hy;by_cases e1:x.1=y.1
   ·by_cases e2:x.2=y.2
    ·have e:x=y:=Prod.ext e1 e2;simp(disch:=omega)[wl,bM,hg,hg',e1,e2];refine aq (i+1) ⟨by omega,Am hn h h' (by rw[hx,hy,e])⟩ (by omega) ?_;simp;exact bT
    ·have hne:¬a=b:=fun he=>e2 (by subst he;rw[←hx,←hy])
     rw[decide_eq_false hne];simp(disch:=omega)[wl,bM,hg,hg',e1,e2]
   ·have hne:¬a=b:=fun he=>e1 (by subst he;rw[←hx,←hy])
    rw[decide_eq_false hne];simp(disch:=omega)[wl,bM,hg,hg',e1]
  ·obtain rfl:i=a.length:=by omega
   have:a=b:=by
    rw[List.take_length,hl,List.take_length]at hn;exact hn
   rw[decide_eq_true this];simp(disch:=omega)[wl,bM,hl]
 ·have hne:¬a=b:=fun he=>hl (by rw[he])
  rw[decide_eq_false hne];simp(disch:=omega)[wl,bM,hl]
theorem HK{l:List Dn}{i:Nat}{x:Dn}(h:i<l.length)(hx:l[i]=x):vu (l.take (i+1))=vu (l.take i)++[[.int .i64 x.1,.int .i64 x.2]]:=by
 rw[List.take_succ_eq_append_getElem h,hx,NL]
theorem V7(l:List Dn)(hl:l.length<100000):Fn G Tryz.prog ti [.slice (vu l)] (.slice (vu l)):=by
 refine ag hm HJ (by simp) ?_;simp[Aj,Ak,bM];refine bS hm [] (fun i:Nat=>[(4,.val (.int .i64 i)),(3,.own 3 i)]) (fun i=>[(3,.arr i 2 (vu (l.take i)))]) (fun i=>i≤l.length) (fun i=>l.length-i) 0 (by omega) ?_ ?_
 ·simp[vu];exact d5.trans (dR (k:=3) 3 2 (by simp) (by simp[aC,ac])) (ap rfl rfl (by simp[St.adopt,bv,aC,ac,put,dJ,SV.erase]) (by simp[St.adopt,cC,ac,put,cK,Ob.erase]) (by simp[St.adopt,ct]))
 intro i hi;simp[bM];by_cases h:i<l.length
 ·obtain⟨x,hx⟩:∃x,l[i]=x:=⟨_,rfl⟩;have hg:=tq h hx;have ht:=HK h hx;simp(disch:=omega)[wl,bM,hg];refine⟨by omega,?_⟩;refine aq (i+1) (by omega) (by omega) ?_;simp[ht];exact bT
 ·obtain rfl:i=l.length:=by omega
  simp(disch:=omega)[wl,bM]
end Go.Vs.YtcjeehebikeghaaGreatDoor
