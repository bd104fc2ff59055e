/- A part of a proof. No conditions. -/
import Derived.Test.YtcjeehebikeghaaGreatDoorRD
import Derived.Test.YtcjeehebikeghaaGreatDoorND
set_option linter.unusedVariables false
set_option linter.unusedSimpArgs false
set_option maxRecDepth 100000
set_option maxHeartbeats 16000000
namespace Go.Vs.YtcjeehebikeghaaGreatDoor.Rc
open Go.Proofs Go.Vs.Cv Go.Vs.Mo Go.Vs.Nu
abbrev Str:=List UInt8
def Mo.Mom.iv(v:Mom):IV:=.agg [.int .u8 v.k,.int .i64 v.s]
def lK(v:Mom):IV:=.agg [.int .u8 v.k,.int .i64 v.s]
def Bf(k s:Int):Int:=if k<1\/3<k then 11 else if s<0\/315537897599<s then 8 else 0
theorem Oe(k s:Int)(hk:0<=k):Fn G2 T_ 132 [.int .u8 k,.int .i64 s] (.int .i64 (Bf k s)):=by
 refine ag hm Bc (by simp) ?_;obtain⟨R,hR⟩:∃R,Bf k s=R:=⟨_,rfl⟩;rw[hR];unfold Bf at hR;simp[tP];by_cases h0:k=0
 ·rw[if_pos (.inl (by omega))]at hR;subst hR;simp(disch:=omega)[Go.Vs.wl,h0]
 ·by_cases h3:3<k
  ·rw[if_pos (.inr h3)]at hR;subst hR;simp(disch:=omega)[Go.Vs.wl,h0]
  ·rw[if_neg (by omega)]at hR;by_cases h4:s<0
   ·rw[if_pos (.inl h4)]at hR;subst hR;simp(disch:=omega)[Go.Vs.wl,h0]
   ·by_cases h5:315537897599<s
    ·rw[if_pos (.inr h5)]at hR;subst hR;simp(disch:=omega)[Go.Vs.wl,h0]
    ·rw[if_neg (by omega)]at hR;subst hR;simp(disch:=omega)[Go.Vs.wl,h0]
def Us(k s:Int):Mom×Int:=if Bf k s≠0 then (⟨0,0⟩,Bf k s)else (⟨k,if k=1 then s-s%86400 else s⟩,0)
theorem Gk{k s:Int}(h:Bf k s=0):1<=k/\k<=3/\0<=s/\s<=315537897599:=by
 unfold Bf at h;split at h
 ·cases h
 ·split at h
  ·cases h
  ·omega
theorem WH(k s:Int)(hk:0<=k):Fn G2 T_ 85 [.int .u8 k,.int .i64 s] (.tuple [lK (Us k s).1,.int .i64 (Us k s).2]):=by
 refine ag hm HJ (by simp) ?_;have hS:=Oe k s hk;obtain⟨R,hR⟩:∃R,Us k s=R:=⟨_,rfl⟩;rw[hR];unfold Us at hR;simp[AM];refine aa hS ?_;by_cases h0:Bf k s=0
 ·rw[if_neg (by simp[h0])]at hR;subst hR;obtain⟨b1,b2,b3,b4⟩:=Gk h0;have e:s.tmod 86400=s%86400:=Int.tmod_eq_emod_of_nonneg b3;by_cases h1:k=1
  ·subst h1;simp(disch:=omega)[Go.Vs.wl,h0,e,lK]
  ·simp(disch:=omega)[Go.Vs.wl,h0,h1,lK]
 ·rw[if_pos h0]at hR;subst hR;simp(disch:=omega)[Go.Vs.wl,h0,lK]
theorem qC(v:Mom)(hk:0<=v.k):Fn G2 T_ 120 [lK v] (.int .i64 (gE v)):=by
 refine ag hm Ba (by simp) ?_;obtain⟨k,s⟩:=v;have hA:=WH k s hk;obtain⟨R,hR⟩:∃R,gE ⟨k,s⟩=R:=⟨_,rfl⟩;rw[hR];unfold gE at hR;simp only at hR hk;simp[tL,lK];refine aa hA ?_;by_cases h0:Bf k s=0
 ·obtain⟨b1,b2,b3,b4⟩:=Gk h0;have hv:Us k s=(⟨k,if k=1 then s-s%86400 else s⟩,0):=by unfold Us;rw[if_neg (by simp[h0])]
  rw[hv];rw[if_neg (by omega),if_neg (by omega)]at hR;by_cases h1:k=1
  ·by_cases h2:s%86400=0
   ·rw[if_neg (by omega)]at hR;subst hR;simp(disch:=omega)[Go.Vs.wl,h1,h2,lK]
   ·rw[if_pos ⟨h1,h2⟩]at hR;subst hR;have e:¬s-s%86400=s:=by omega
    simp(disch:=omega)[Go.Vs.wl,h1,e,lK]
  ·rw[if_neg (fun h=>h1 h.1)]at hR;subst hR;simp(disch:=omega)[Go.Vs.wl,h1,lK]
 ·have hv:Us k s=(⟨0,0⟩,Bf k s):=by unfold Us;rw[if_pos h0]
  rw[hv]
  have hRe:R=Bf k s:=by
   rw[<-hR];unfold Bf at h0 |-;by_cases q1:k<1\/3<k
   ·rw[if_pos q1,if_pos q1]
   ·rw[if_neg q1,if_neg q1];by_cases q2:s<0\/315537897599<s
    ·rw[if_pos q2,if_pos q2]
    ·rw[if_neg q1,if_neg q2]at h0;exact absurd rfl h0
  rw[hRe];simp(disch:=omega)[Go.Vs.wl,h0,lK]
theorem Of(v:Mom)(hk:0<=v.k)(hc:gE v=0):Fn G2 T_ 121 [lK v] (.tuple [.int .i64 (v.s/86400),.int .i64 (v.s%86400)]):=by
 refine ag hm Bb (by simp) ?_;have hC:=qC v hk;rw[hc]at hC;obtain⟨_,_,b3,b4,_⟩:=uH hc;obtain⟨k,s⟩:=v;simp only at b3 b4;simp only[lK]at hC;have e1:s.tmod 86400=s%86400:=Int.tmod_eq_emod_of_nonneg b3;have e2:s.tdiv 86400=s/86400:=Int.tdiv_eq_ediv_of_nonneg b3;simp[tN,lK];refine aa hC ?_;simp(disch:=omega)[Go.Vs.wl,e1,e2]
theorem x5(s:Str):(om s=1/\s.length=8)\/(om s=2/\s.length=15/\s[8]?=some 84)\/(om s=3/\s.length=16/\s[8]?=some 84/\s[15]?=some 90)\/(om s=0/\s.length≠8/\¬(s.length=15/\s[8]?=some 84)/\¬(s.length=16/\s[8]?=some 84/\s[15]?=some 90)):=by
 unfold om;by_cases h1:s.length=8
 ·rw[if_pos h1];exact .inl ⟨rfl,h1⟩
 ·rw[if_neg h1];by_cases h2:s.length=15/\s[8]?=some 84
  ·rw[if_pos h2];exact .inr (.inl ⟨rfl,h2⟩)
  ·rw[if_neg h2];by_cases h3:s.length=16/\s[8]?=some 84/\s[15]?=some 90
   ·rw[if_pos h3];exact .inr (.inr (.inl ⟨rfl,h3⟩))
   ·rw[if_neg h3];exact .inr (.inr (.inr ⟨rfl,h1,h2,h3⟩))
def Mv(s:Str):IV:=if om s=0 then .tuple [.int .u8 0,.str [],.str [],.bool false]else .tuple [.int .u8 (om s),.str (s.take 8),.str (pf s),.bool true]
theorem yn{s:Str}{i:Nat}{c:UInt8}(h:i<s.length):s[i]?=some c↔s[i].toNat=c.toNat:=by
 rw[List.getElem?_eq_getElem h,E_];exact⟨fun e=>by rw[e],fun e=>UInt8.toNat_inj.1 e⟩
theorem To(s:Str)(hs:s.length<1000000):Fn G2 T_ 275 [.str s] (Mv s):=by
 refine ag hm Ds (by simp) ?_;obtain⟨R,hR⟩:∃R,Mv s=R:=⟨_,rfl⟩;rw[hR];unfold Mv pf at hR;simp[vT];rcases x5 s with⟨hk,h8⟩|⟨hk,h15,hT⟩|⟨hk,h16,hT,hZ⟩|⟨hk,n8,n15,n16⟩
 ·rw[hk,if_neg (by omega),if_pos rfl]at hR;subst hR;have:s.take 8=s:=List.take_of_length_le (by omega);simp(disch:=omega)[Go.Vs.wl,h8,this]
 ·rw[hk,if_neg (by omega),if_neg (by omega)]at hR;subst hR;rw[yn (by omega)]at hT;have hT':(s[8]'(by omega)).toNat=84:=hT;have e1:(s.drop 9).take 6=s.drop 9:=List.take_of_length_le (by rw[List.length_drop];omega);have e2:(s.take 15).drop 9=s.drop 9:=by rw[List.take_of_length_le (by omega)]
  simp(disch:=omega)[Go.Vs.wl,h15,hT',e1,e2]
 ·rw[hk,if_neg (by omega),if_neg (by omega)]at hR;subst hR;rw[yn (by omega)]at hT hZ;have hT':(s[8]'(by omega)).toNat=84:=hT;have hZ':(s[15]'(by omega)).toNat=90:=hZ;have e1:(s.drop 9).take 6=(s.take 15).drop 9:=by rw[List.drop_take]
  simp(disch:=omega)[Go.Vs.wl,h16,hT',hZ',e1]
 ·rw[if_pos hk]at hR;subst hR;by_cases h15:s.length=15
  ·have hT:¬(s[8]'(by omega)).toNat=84:=fun e=>n15 ⟨h15,(yn (by omega)).2 e⟩
   simp(disch:=omega)[Go.Vs.wl,n8,h15,hT]
  ·by_cases h16:s.length=16
   ·by_cases hT:(s[8]'(by omega)).toNat=84
    ·have hZ:¬(s[15]'(by omega)).toNat=90:=fun e=>n16 ⟨h16,(yn (by omega)).2 hT,(yn (by omega)).2 e⟩
     simp(disch:=omega)[Go.Vs.wl,n8,h15,h16,hT,hZ]
    ·simp(disch:=omega)[Go.Vs.wl,n8,h15,h16,hT]
   ·simp(disch:=omega)[Go.Vs.wl,n8,h15,h16]
def AS:Str->List Nat->List Int->Option (List Int×Str)
 |s,[],out=>some (out,s)
 |s,w::wl,out=>if w<=s.length/\(s.take w).all dL=true then AS (s.drop w) wl (out++[((bx 0 (s.take w):Nat):Int)])else none
def ES:Option (List Int×Str)->IV
 |none=>.tuple [.slice [],.bool false]
 |some (l,r)=>.tuple [.slice (is l),.bool (decide (r=[]))]
def Wf(wl:List Nat):List Int:=wl.map fun w:Nat=>(w:Int)
theorem Tp{wl:List Nat}{i w:Nat}(h:i<wl.length)(hx:wl[i]=w):(is (Wf wl))[i]?=some [.int .i64 (w:Int)]:=by simp[is,Wf,h,hx]
theorem Mw(wl:List Nat):(is (Wf wl)).length=wl.length:=by simp[is,Wf]
theorem Gl(s:Str)(wl:List Nat)(hw:∀w∈wl,w<=9)(hl:wl.length<=100)(hs:s.length<1000000):Fn G2 T_ 276 [.str s,.slice (is (Wf wl))] (ES (AS s wl [])):=by
 refine ag hm zR (by simp) ?_;obtain⟨R,hR⟩:∃R,AS s wl []=R:=⟨_,rfl⟩;rw[hR];simp[rY,Mw];refine ce hm [] (fun x:Str×List Int=>[(12,.val (.int .i64 x.2.length)),(0,.val (.str x.1)),(6,.own 6 x.2.length)]) (fun x=>[(6,.arr x.2.length 1 (is x.2))]) (fun x=>x.2.length<=wl.length/\x.1.length<=s.length/\AS x.1 (wl.drop x.2.length) x.2=R) (fun x=>wl.length-x.2.length) (s,[]) ⟨by simp,by simp,by simpa using hR⟩ ?_ ?_
 ·simp[is];exact cR.trans (fS (k:=6) 6 1 (by simp) (by simp[aC,ac])) (ap rfl rfl (by simp[St.adopt,bp,aC,ac,put,dT,SV.erase]) (by simp[St.adopt,ch,ac,put,cC,Ob.erase]) (by simp[St.adopt,cg]))
 rintro⟨t,out⟩ ⟨h1,h2,h3⟩;simp only at h1 h2 h3;simp[Mw];by_cases h:out.length<wl.length
 ·obtain⟨w,hwx⟩:∃w,wl[out.length]=w:=⟨_,rfl⟩;have hg:=Tp h hwx;have hw9:=hw w (hwx▸List.getElem_mem h);rw[List.drop_eq_getElem_cons h,hwx,AS]at h3;simp(disch:=omega)[Go.Vs.wl,hg];refine ce hm [] (fun j:Nat=>[(8,.val (.int .i64 ((w-j:Nat):Int))),(9,.val (.int .i64 ((bx 0 (t.take j):Nat):Int))),(0,.val (.str (t.drop j)))]) (fun _=>[]) (fun j=>j<=w/\j<=t.length/\(t.take j).all dL=true) (fun j=>w-j) 0 ⟨by omega,by omega,by simp⟩ ?_ ?_
  ·have e:bx 0 ([]:Str)=0:=rfl;simp[e];exact bQ
  rintro j ⟨j1,j2,j3⟩;simp;by_cases hj:j<w
  ·obtain⟨d,hd⟩:∃d,t.drop j=d:=⟨_,rfl⟩;rw[hd];cases d with
   |nil=>
    have hlen:t.length=j:=by
     have:=congrArg List.length hd;rw[List.length_drop]at this;simp at this;omega
    rw[if_neg (fun h=>by omega)]at h3;subst h3;simp(disch:=omega)[Go.Vs.wl];simp[ES]
   |cons c r=>
    have hjl:j<t.length:=by
     have:=congrArg List.length hd;rw[List.length_drop]at this;simp at this;omega
    have hcj:t[j]=c/\t.drop (j+1)=r:=by
     rw[List.drop_eq_getElem_cons hjl]at hd;exact⟨(List.cons.inj hd).1,(List.cons.inj hd).2⟩
    have hta:t.take (j+1)=t.take j++[c]:=by rw[List.take_succ_eq_append_getElem hjl,hcj.1]
    by_cases hdg:dL c=true
    ·obtain⟨d1,d2⟩:=Hv hdg;have hall':(t.take (j+1)).all dL=true:=by rw[hta,List.all_append,j3,Mf hdg];rfl
     have hv:bx 0 (t.take (j+1))=10*bx 0 (t.take j)+(c.toNat-48):=by rw[hta,D3]
     have hb0:bx 0 (t.take j)<10 ^ 9:=Go.Vs.YtcjeehebikeghaaGreatDoor.val_bd j3 (by rw[List.length_take];omega);obtain⟨V,hV⟩:∃V,bx 0 (t.take j)=V:=⟨_,rfl⟩;obtain⟨W,hW⟩:∃W,bx 0 (t.take (j+1))=W:=⟨_,rfl⟩;rw[hV,hW]at hv;rw[hV]at hb0 |-;have e:((V:Int)*10+((c.toNat:Int)-48))=(W:Int):=by omega
     simp(disch:=omega)[Go.Vs.wl,e];refine⟨by omega,?_⟩;refine au (j+1) ⟨by omega,by omega,hall'⟩ (by omega) ?_;simp[hW,hcj.2];exact ap rfl rfl (by simp[bp,aC,ac];omega) (by simp[ch,ac]) (by simp[cg])
    ·have hbad:¬(w<=t.length/\(t.take w).all dL=true):=fun hh=>by
      have hmem:c∈t.take w:=by
       rw[List.mem_take_iff_getElem];exact⟨j,by omega,hcj.1⟩
      exact hdg (List.all_eq_true.1 hh.2 c hmem)
     rw[if_neg hbad]at h3;subst h3
     have hd2:c.toNat<48\/57<c.toNat:=by
      simp[dL]at hdg;omega
     rcases hd2 with hd2|hd2
     ·simp(disch:=omega)[Go.Vs.wl];simp[ES]
     ·simp(disch:=omega)[Go.Vs.wl];simp[ES]
  ·obtain rfl:j=w:=by omega
   rw[if_pos ⟨j2,j3⟩]at h3;simp(disch:=omega)[Go.Vs.wl,is_len];refine⟨by omega,?_⟩;refine au (t.drop j,out++[((bx 0 (t.take j):Nat):Int)]) ⟨by simp;omega,by simp;omega,by simpa using h3⟩ (by simp;omega) ?_;simp[Ml];exact bQ
 ·have e:wl.drop out.length=[]:=List.drop_eq_nil_of_le (by omega);rw[e,AS]at h3;subst h3;have e2:out.length=wl.length:=by omega
  simp(disch:=omega)[Go.Vs.wl,is_len];simp[ES]
theorem Og{s:Str}{a b c:Nat}(hl:s.length=a+b+c):AS s [a,b,c] []=if s.all dL=true then some ([((bx 0 (s.take a):Nat):Int),((bx 0 ((s.drop a).take b):Nat):Int),((bx 0 (s.drop (a+b)):Nat):Int)],[])else none:=by
 have l1:(s.drop a).length=b+c:=by rw[List.length_drop];omega
 have l2:((s.drop a).drop b).length=c:=by rw[List.length_drop];omega
 have e3:((s.drop a).drop b).take c=s.drop (a+b):=by rw[List.take_of_length_le (by omega),List.drop_drop]
 have e4:((s.drop a).drop b).drop c=[]:=List.drop_eq_nil_of_le (by omega)
 have hs:s=s.take a++((s.drop a).take b++s.drop (a+b)):=by
  rw[<-List.drop_drop,List.take_append_drop,List.take_append_drop]
 have hall:s.all dL=((s.take a).all dL&&(((s.drop a).take b).all dL&&(s.drop (a+b)).all dL)):=by
  conv=>lhs;rw[hs]
  rw[List.all_append,List.all_append]
 simp only[AS,l1,l2,e3,e4,hall];by_cases q1:(s.take a).all dL=true
 ·rw[if_pos ⟨by omega,q1⟩];by_cases q2:((s.drop a).take b).all dL=true
  ·rw[if_pos ⟨by omega,q2⟩];by_cases q3:(s.drop (a+b)).all dL=true
   ·rw[if_pos ⟨by omega,q3⟩,if_pos (by simp[q1,q2,q3])];rfl
   ·rw[if_neg (fun h=>q3 h.2),if_neg (by simp[q3])]
  ·rw[if_neg (fun h=>q2 h.2),if_neg (by simp[q2])]
 ·rw[if_neg (fun h=>q1 h.2),if_neg (by simp[q1])]
theorem Vy{y m d:Nat}(hy:y<=9999):QZ y m d=if mH y m d=true then (rq y m d,0)else (0,8):=by
 unfold QZ mH;by_cases h:1<=y/\1<=m/\m<=12/\1<=d/\d<=sf y m
 ·have hl:qB y m=sf y m:=by unfold qB;rw[if_pos (by omega)]
  rw[if_neg (by omega),if_pos (by simpa using h)]
 ·rw[if_neg (c:=decide _=true) (by simpa using h)];by_cases q:1<=y/\y<=9999/\1<=m/\m<=12
  ·have hl:qB y m=sf y m:=by unfold qB;rw[if_pos q]
   rw[if_pos (by omega)]
  ·have hl:qB y m=0:=by unfold qB;rw[if_neg q]
   rw[if_pos (by omega)]
theorem yo{s:Str}(h:s.all dL=true)(n:Nat):(s.take n).all dL=true:=by
 rw[List.all_eq_true]at h |-;exact fun c hc=>h c (List.mem_of_mem_take hc)
theorem yp{s:Str}(h:s.all dL=true)(n:Nat):(s.drop n).all dL=true:=by
 rw[List.all_eq_true]at h |-;exact fun c hc=>h c (List.mem_of_mem_drop hc)
theorem R2{s:Str}(h:s.all dL=true)(hl:s.length<=2):bx 0 s<100:=by
 have:=Go.Vs.YtcjeehebikeghaaGreatDoor.val_bd h hl;simpa using this
theorem Xn{s:Str}(h:s.all dL=true)(hl:s.length<=4):bx 0 s<10000:=by
 have:=Go.Vs.YtcjeehebikeghaaGreatDoor.val_bd h hl;simpa using this
theorem R3{s:Str}(h:om s≠0):(s.take 8).length=8/\(pf s).length=6/\1<=om s/\om s<=3:=by
 unfold pf;rcases x5 s with⟨hk,h8⟩|⟨hk,h15,_⟩|⟨hk,h16,_⟩|⟨hk,_⟩
 ·rw[hk,if_pos rfl];exact⟨by rw[List.length_take];omega,rfl,by omega,by omega⟩
 ·rw[hk,if_neg (by omega)];exact⟨by rw[List.length_take];omega,by rw[List.length_take,List.length_drop];omega,by omega,by omega⟩
 ·rw[hk,if_neg (by omega)];exact⟨by rw[List.length_take];omega,by rw[List.length_take,List.length_drop];omega,by omega,by omega⟩
 ·exact absurd hk h
theorem uI(s:Str)(hs:s.length<1000000):Fn G2 T_ 211 [.str s] (.tuple [lK (gq s).1,.int .i64 (gq s).2]):=by
 refine ag hm Bd (by simp) ?_;have hF:=To s hs;obtain⟨R,hR⟩:∃R,gq s=R:=⟨_,rfl⟩;rw[hR];unfold gq at hR;unfold Mv at hF;simp[tR];by_cases h0:om s=0
 ·rw[if_pos (.inl h0)]at hR;rw[if_pos h0]at hF;subst hR;refine aa hF ?_;simp(disch:=omega)[Go.Vs.wl,lK]
 ·rw[if_neg h0]at hF;obtain⟨lD,lT,k1,k3⟩:=R3 h0;obtain⟨k,hk⟩:∃k,om s=k:=⟨_,rfl⟩;obtain⟨D,hD⟩:∃D,s.take 8=D:=⟨_,rfl⟩;obtain⟨T,hT⟩:∃T,pf s=T:=⟨_,rfl⟩;rw[hk,hD,hT]at hF hR;rw[hk]at h0 k1 k3;rw[hD]at lD;rw[hT]at lT;have hFd:=Gl D [4,2,2] (by simp) (by simp) (by omega);have hFt:=Gl T [2,2,2] (by simp) (by simp) (by omega);rw[Og (by omega)]at hFd hFt;simp only[Wf,is,List.map_cons,List.map_nil,Int.cast_ofNat_Int,Nat.reduceAdd]at hFd hFt;refine aa hF ?_;simp(disch:=omega)[Go.Vs.wl];refine aa hFd ?_;by_cases q1:D.all dL=true
  ·rw[if_pos q1];obtain⟨y,hy⟩:∃y,bx 0 (D.take 4)=y:=⟨_,rfl⟩;obtain⟨m,hmv⟩:∃m,bx 0 ((D.drop 4).take 2)=m:=⟨_,rfl⟩;obtain⟨d,hdv⟩:∃d,bx 0 (D.drop 6)=d:=⟨_,rfl⟩;have Ij:y<10000:=hy▸Xn (yo q1 4) (by rw[List.length_take];omega);have bm:m<100:=hmv▸R2 (yo (yp q1 4) 2) (by rw[List.length_take];omega);have bd:d<100:=hdv▸R2 (yp q1 6) (by rw[List.length_drop];omega);rw[hy,hmv,hdv];simp(disch:=omega)[Go.Vs.wl,ES,is];refine aa hFt ?_;by_cases q2:T.all dL=true
   ·rw[if_pos q2];rw[if_neg (by simp[h0,q1,q2])]at hR;obtain⟨h,hh⟩:∃h,bx 0 (T.take 2)=h:=⟨_,rfl⟩;obtain⟨mi,hmi⟩:∃mi,bx 0 ((T.drop 2).take 2)=mi:=⟨_,rfl⟩;obtain⟨se,hse⟩:∃se,bx 0 (T.drop 4)=se:=⟨_,rfl⟩;have bh:h<100:=hh▸R2 (yo q2 2) (by rw[List.length_take];omega);have bmi:mi<100:=hmi▸R2 (yo (yp q2 2) 2) (by rw[List.length_take];omega);have bse:se<100:=hse▸R2 (yp q2 4) (by rw[List.length_drop];omega);rw[hh,hmi,hse];have hDy:=Vx y m d (by omega) (by omega) (by omega);have hfine:O9 D T=(mH y m d&&decide (h<=23/\mi<=59/\se<=59)):=by unfold O9;rw[hy,hmv,hdv,hh,hmi,hse]
    have hsec:JN D T=rq y m d*86400+(h*3600+mi*60+se):=by unfold JN;rw[hy,hmv,hdv,hh,hmi,hse]
    rw[hfine]at hR;rw[Vy (by omega)]at hDy;by_cases q3:mH y m d=true
    ·rw[if_pos q3]at hDy
     have KH:rq y m d<=3652058:=by
      have q4:=q3;simp only[mH,decide_eq_true_eq]at q4;exact QS q4.1 (by omega) q4.2.1 q4.2.2.1 q4.2.2.2.1 q4.2.2.2.2
     rw[q3,Bool.true_and]at hR;obtain⟨N,hN⟩:∃N,rq y m d=N:=⟨_,rfl⟩;rw[hN]at hDy hsec KH;simp only[Gj]at hDy;simp(disch:=omega)[Go.Vs.wl,ES,is];refine aa hDy ?_;by_cases a1:23<h
     ·rw[if_pos (by simp;omega)]at hR;subst hR;simp(disch:=omega)[Go.Vs.wl];refine⟨rfl,?_⟩;simp(disch:=omega)[Go.Vs.wl,lK]
     ·by_cases a2:59<mi
      ·rw[if_pos (by simp;omega)]at hR;subst hR;simp(disch:=omega)[Go.Vs.wl];refine⟨rfl,?_⟩;simp(disch:=omega)[Go.Vs.wl,lK]
      ·by_cases a3:59<se
       ·rw[if_pos (by simp;omega)]at hR;subst hR;simp(disch:=omega)[Go.Vs.wl];refine⟨rfl,?_⟩;simp(disch:=omega)[Go.Vs.wl,lK]
       ·rw[if_neg (by simp;omega),hsec]at hR;subst hR;simp(disch:=omega)[Go.Vs.wl];refine⟨rfl,?_⟩;simp(disch:=omega)[Go.Vs.wl,lK];omega
    ·have q3':mH y m d=false:=by simpa using q3
     rw[if_neg q3]at hDy;rw[q3',Bool.false_and,if_pos rfl]at hR;subst hR;simp only[Gj]at hDy;simp(disch:=omega)[Go.Vs.wl,ES,is];refine aa hDy ?_;simp(disch:=omega)[Go.Vs.wl];refine⟨rfl,?_⟩;simp(disch:=omega)[Go.Vs.wl,lK]
   ·have q2':T.all dL=false:=by simpa using q2
    rw[if_neg q2];rw[if_pos (.inr (.inr q2'))]at hR;subst hR;simp(disch:=omega)[Go.Vs.wl,ES,lK]
  ·have q1':D.all dL=false:=by simpa using q1
   rw[if_neg q1];rw[if_pos (.inr (.inl q1'))]at hR;subst hR;simp(disch:=omega)[Go.Vs.wl,ES,lK]
theorem Gm:∀(k n:Nat),wide (k+1) n=UInt8.ofNat (48+n/10 ^ k%10)::wide k n
 |0,n=>by simp[wide]
 |k+1,n=>by
  rw[wide,Gm k (n/10),wide];simp only[List.cons_append,Nat.pow_succ];rw[Nat.div_div_eq_div_mul,Nat.mul_comm 10]
def dv(n k:Nat):Nat:=n/10 ^ k
def zs(k:Nat):Str:=List.replicate k 48
def rA(x:Str)(w n k:Nat):Str:=x++(zs (w-k)++wide k n)
theorem JR(x:Str){w k:Nat}(n:Nat)(h:k<=w):(rA x w n k).length=x.length+w:=by simp[rA,zs,iP];omega
theorem Gn(x:Str)(w n:Nat):rA x w n 0=x++zs w:=by simp[rA,wide]
theorem JS(x:Str)(w n:Nat):rA x w n w=x++wide w n:=by simp[rA,zs]
theorem JT(x:Str){w k:Nat}(n:Nat)(h:k<w):(rA x w n k).set (x.length+w-1-k) (UInt8.ofNat (48+n/10 ^ k%10))=rA x w n (k+1):=by
 obtain⟨j,hj⟩:∃j,w-k=j+1:=⟨w-k-1,by omega⟩;have e1:x.length+w-1-k=x.length+j:=by omega
 have e2:w-(k+1)=j:=by omega
 unfold rA;rw[e1,e2,hj,Gm,zs,List.replicate_succ',List.append_assoc,List.set_append_right _ _ (by omega),Nat.add_sub_cancel_left,List.set_append_right _ _ (by simp)];simp[zs]
theorem yq(v:Nat)(x:Str)(n w:Nat)(hx:x.length<100)(hw:w<=4)(hn:n<1000000):mP G2 T_ 123
  {args:=[.own 1000 v,.val (.int .i64 n),.val (.int .i64 w)],objs:=[(1000,.arr v 1 (ay x))],res:=.own 1000 (v+1),objs':=[(1000,.arr (v+1) 1 (ay (x++wide w n)))],ro':=[] }:=by
 refine bn hm vM (by simp) rfl ?_
 have hz:([48,48,48,48]:Str).take w=zs w:=by
  have:w=0\/w=1\/w=2\/w=3\/w=4:=by omega
  rcases this with rfl|rfl|rfl|rfl|rfl<;>rfl
 have hl:(ay x).length=x.length:=by simp[ay]
 simp[ry,nj,hz,hl];refine p5 hm ?_;simp[hz,hl];refine⟨by omega,by simp[zs];omega,?_⟩;simp(disch:=omega)[Go.Vs.wl,<-B5];refine ce hm [] (fun k:Nat=>[(8,.val (.int .i64 ((x.length:Int)+w-1-k))),(0,.own 1000 (v+1)),(1,.val (.int .i64 ((dv n k:Nat):Int)))]) (fun k=>[(1000,.arr (v+1) 1 (ay (rA x w n k)))]) (fun k=>k<=w) (fun k=>w-k) 0 (by omega) ?_ ?_
 ·simp[Gn,dv];exact bQ
 intro k hk;have hbl:(ay (rA x w n k)).length=x.length+w:=by simp[ay,JR x n hk]
 simp;by_cases h:k<w
 ·have hset:=JT x n h;obtain⟨V,hV⟩:∃V,dv n k=V:=⟨_,rfl⟩;have hV':dv n (k+1)=V/10:=by rw[<-hV,dv,dv,Nat.pow_succ,Nat.div_div_eq_div_mul]
  have hVb:V<=n:=hV▸Nat.div_le_self _ _;rw[show n/10 ^ k=V from hV]at hset;have q1:(V:Int).tdiv 10=((V/10:Nat):Int):=by rw[Int.tdiv_eq_ediv_of_nonneg (by omega)];omega
  have m1:(V:Int).tmod 10=((V%10:Nat):Int):=by rw[Int.tmod_eq_emod_of_nonneg (by omega)];omega
  have hki:(k:Int)<=(x.length:Int)+w-1:=by omega
  have ht:((x.length:Int)+w).toNat=x.length+w:=by omega
  have hu8:(((UInt8.ofNat (48+V%10)).toNat:Nat):Int)=48+(V:Int)%10:=by
   have:(UInt8.ofNat (48+V%10)).toNat=48+V%10:=by simp;omega
   omega
  have hset2:(ay (rA x w n k)).set (x.length+w-1-k) [.int .u8 (48+(V:Int)%10)]=ay (rA x w n (k+1)):=by
   rw[<-hset,<-hu8];simp only[ay,List.map_set]
  have htl:∀hh,((ay (rA x w n k))[x.length+w-1-k]'hh).tail=[]:=fun hh=>by simp[ay]
  simp(disch:=omega)[Go.Vs.wl,hbl,hV,q1,m1,hki,ht];refine⟨by omega,by simp[ay],?_⟩;simp only[htl,hset2];refine au (k+1) (by omega) (by omega) ?_;simp[hV'];exact ap rfl rfl (by simp[bp,aC,ac];omega) (by simp[ch,ac]) (by simp[cg])
 ·obtain rfl:k=w:=by omega
  simp(disch:=omega)[Go.Vs.wl,hbl,JS];simp[cn];exact⟨⟨[(6,.own 1000 (v+1))],[(1000,.arr (v+1) 1 (ay (x++wide k n)))],[],34,G2⟩,ap rfl rfl (by simp[bp,aC,ac]) (by simp[ch,ac]) (by simp[cg]),by simp,[],rfl,rfl,rfl⟩
theorem R4(n w:Nat)(hw:w<=4)(hn:n<1000000):mP G2 T_ 123
  {args:=[.nils,.val (.int .i64 n),.val (.int .i64 w)],objs:=[],res:=.own 5 1,objs':=[(5,.arr 1 1 (ay (wide w n)))],ro':=[] }:=by
 refine bn hm vM (by simp) rfl ?_
 have hz:([48,48,48,48]:Str).take w=zs w:=by
  have:w=0\/w=1\/w=2\/w=3\/w=4:=by omega
  rcases this with rfl|rfl|rfl|rfl|rfl<;>rfl
 simp[ry,nj,hz];refine PW hm (fun _:Unit=>⟨[(0,.own 5 0),(6,.nils),(1,.val (.int .i64 n)),(2,.val (.int .i64 w))],[(5,.arr 0 1 [])],[],34,G2⟩) (fun _=>True) (fun _=>rfl) ?_ ?_
 ·simp;refine dw () trivial ?_;exact cR.trans (fS (k:=0) 5 1 (by simp) (by simp[aC,ac])) (ap rfl rfl (by simp[St.adopt,bp,aC,ac,put,dT,SV.erase]) (by simp[St.adopt,ch,ac,put,cC,Ob.erase]) (by simp[St.adopt,cg]))
 intro _ _;simp[hz];refine⟨by omega,by simp[zs];omega,?_⟩;simp(disch:=omega)[Go.Vs.wl];refine ce hm [] (fun k:Nat=>[(8,.val (.int .i64 ((w:Int)-1-k))),(0,.own 5 1),(1,.val (.int .i64 ((dv n k:Nat):Int)))]) (fun k=>[(5,.arr 1 1 (ay (rA [] w n k)))]) (fun k=>k<=w) (fun k=>w-k) 0 (by omega) ?_ ?_
 ·simp[Gn,dv];exact bQ
 intro k hk;have hbl:(ay (rA [] w n k)).length=w:=by simp[ay,JR [] n hk]
 simp;by_cases h:k<w
 ·have hset:=JT [] n h;obtain⟨V,hV⟩:∃V,dv n k=V:=⟨_,rfl⟩;have hV':dv n (k+1)=V/10:=by rw[<-hV,dv,dv,Nat.pow_succ,Nat.div_div_eq_div_mul]
  have hVb:V<=n:=hV▸Nat.div_le_self _ _;rw[show n/10 ^ k=V from hV,show([]:Str).length+w-1-k=w-1-k by simp]at hset;have q1:(V:Int).tdiv 10=((V/10:Nat):Int):=by rw[Int.tdiv_eq_ediv_of_nonneg (by omega)];omega
  have m1:(V:Int).tmod 10=((V%10:Nat):Int):=by rw[Int.tmod_eq_emod_of_nonneg (by omega)];omega
  have hki:(k:Int)<=(w:Int)-1:=by omega
  have ht:((w:Int)).toNat=w:=by omega
  have hu8:(((UInt8.ofNat (48+V%10)).toNat:Nat):Int)=48+(V:Int)%10:=by
   have:(UInt8.ofNat (48+V%10)).toNat=48+V%10:=by simp;omega
   omega
  have hset2:(ay (rA [] w n k)).set (w-1-k) [.int .u8 (48+(V:Int)%10)]=ay (rA [] w n (k+1)):=by
   rw[<-hset,<-hu8];simp only[ay,List.map_set]
  have htl:∀hh,((ay (rA [] w n k))[w-1-k]'hh).tail=[]:=fun hh=>by simp[ay]
  simp(disch:=omega)[Go.Vs.wl,hbl,hV,q1,m1,hki,ht];refine⟨by omega,by simp[ay],?_⟩;simp only[htl,hset2];refine au (k+1) (by omega) (by omega) ?_;simp[hV'];exact ap rfl rfl (by simp[bp,aC,ac];omega) (by simp[ch,ac]) (by simp[cg])
 ·obtain rfl:k=w:=by omega
  simp(disch:=omega)[Go.Vs.wl,hbl,JS];simp[cn];exact⟨⟨[(6,.own 5 1)],[(5,.arr 1 1 (ay (wide k n)))],[],34,G2⟩,ap rfl rfl (by simp[bp,aC,ac]) (by simp[ch,ac]) (by simp[cg]),by simp,[],rfl,rfl,rfl⟩

def Oh(v:Mom):IV:=.tuple [.str (if gE v=0 then dQ v else []),.int .i64 (gE v)]
theorem uJ(v:Mom)(hk:0<=v.k):Fn G2 T_ 62 [lK v] (Oh v):=by
 refine ag hm B9 (by simp) ?_;have hC:=qC v hk;obtain⟨e,he⟩:∃e,gE v=e:=⟨_,rfl⟩;unfold Oh;rw[he]at hC |-;simp[tJ];by_cases h0:e=0
 ·rw[if_pos h0];subst h0;obtain⟨b1,b2,b3,b4,b5⟩:=uH he;have hS:=Of v hk he;obtain⟨N,hN⟩:∃N,(v.s/86400).toNat=N:=⟨_,rfl⟩;obtain⟨T,hT⟩:∃T,(v.s%86400).toNat=T:=⟨_,rfl⟩;have eN:v.s/86400=(N:Int):=by omega
  have eT:v.s%86400=(T:Int):=by omega
  have hD:=Tn N (by omega);obtain⟨y,m,d,g1,g2,g3,g4,g5,g6,g7,g8⟩:=Dh (n:=N) (by omega)
  have hml:sf y m<=31:=by
   unfold sf qx
   repeat' split
   all_goals omega
  have hM:dQ v=(wide 4 y++wide 2 m++wide 2 d)++(if v.k=1 then []else 84::((wide 2 (T/3600)++(wide 2 (T/60%60)++wide 2 (T%60)))++if v.k=3 then [90]else [])):=by
   unfold dQ Mo.dayT Di;rw[hN,hT,g8];simp only[List.append_assoc]
  rw[eN,eT]at hS;rw[g8]at hD;have l1:=iP 4 y;have l2:=iP 2 m;have l3:=iP 2 d;unfold lK at hC hS |-;simp(disch:=omega)[Go.Vs.wl];refine aa hC ?_;simp(disch:=omega)[Go.Vs.wl];refine aa hS ?_;simp(disch:=omega)[Go.Vs.wl];refine aa hD ?_;simp(disch:=omega)[Go.Vs.wl];refine callM [(5,33)] [] (R4 y 4 (by omega) (by omega)) rfl rfl trivial ⟨rfl,[],[],rfl,⟨[],[],rfl,rfl,rfl⟩,rfl⟩ rfl ?_;simp(disch:=omega)[Go.Vs.wl];refine callM [(1000,33)] [] (yq 1 (wide 4 y) m 2 (by omega) (by omega) (by omega)) rfl rfl ⟨rfl,trivial⟩ ⟨rfl,[],[],rfl,⟨[],[],rfl,rfl,rfl⟩,rfl⟩ rfl ?_;simp(disch:=omega)[Go.Vs.wl];have lp:(wide 4 y++wide 2 m).length=6:=by simp[l1,l2]
  refine callM [(1000,33)] [] (yq 2 (wide 4 y++wide 2 m) d 2 (by omega) (by omega) (by omega)) rfl rfl ⟨rfl,trivial⟩ ⟨rfl,[],[],rfl,⟨[],[],rfl,rfl,rfl⟩,rfl⟩ rfl ?_;obtain⟨P,hP⟩:∃P,wide 4 y++wide 2 m++wide 2 d=P:=⟨_,rfl⟩;have lP:P.length=8:=by rw[<-hP];simp[l1,l2,l3]
  rw[hP]at hM |-;rw[hM];have hbP:(ay P).length=8:=by simp[ay,lP]
  by_cases k1:v.k=1
  ·rw[if_pos k1,List.append_nil];have hstr:lU (ay P)=some P:=rb P;simp(disch:=omega)[Go.Vs.wl,k1,hstr]
  ·rw[if_neg k1];obtain⟨P1,hP1⟩:∃P1,P++[84]=P1:=⟨_,rfl⟩;have h84:ay P++[[.int .u8 84]]=ay P1:=by rw[<-hP1];simp[ay]
   have q1:(T:Int).tdiv 3600=((T/3600:Nat):Int):=by rw[Int.tdiv_eq_ediv_of_nonneg (by omega)];omega
   have q2:(T:Int).tdiv 60=(T:Int)/60:=by rw[Int.tdiv_eq_ediv_of_nonneg (by omega)]
   have q3:((T:Int)/60).tmod 60=((T/60%60:Nat):Int):=by rw[Int.tmod_eq_emod_of_nonneg (by omega)];omega
   have q4:(T:Int).tmod 60=((T%60:Nat):Int):=by rw[Int.tmod_eq_emod_of_nonneg (by omega)];omega
   obtain⟨A,hA⟩:∃A,T/3600=A:=⟨_,rfl⟩;obtain⟨B,hB⟩:∃B,T/60%60=B:=⟨_,rfl⟩;obtain⟨D,hD'⟩:∃D,T%60=D:=⟨_,rfl⟩;rw[hA]at q1;rw[hB]at q3;rw[hD']at q4;rw[hA,hB,hD'];have a2:=iP 2 A;have a3:=iP 2 B;have a4:=iP 2 D;simp(disch:=omega)[Go.Vs.wl,k1,hbP,h84,q1];have l4:P1.length=9:=by rw[<-hP1];simp[lP]
   refine callM [(1000,33)] [] (yq 4 P1 A 2 (by omega) (by omega) (by omega)) rfl rfl ⟨rfl,trivial⟩ ⟨rfl,[],[],rfl,⟨[],[],rfl,rfl,rfl⟩,rfl⟩ rfl ?_;obtain⟨P2,hP2⟩:∃P2,P1++wide 2 A=P2:=⟨_,rfl⟩;have l5:P2.length=11:=by rw[<-hP2];simp[l4,a2]
   rw[hP2];simp(disch:=omega)[Go.Vs.wl,q2,q3];refine callM [(1000,33)] [] (yq 5 P2 B 2 (by omega) (by omega) (by omega)) rfl rfl ⟨rfl,trivial⟩ ⟨rfl,[],[],rfl,⟨[],[],rfl,rfl,rfl⟩,rfl⟩ rfl ?_;obtain⟨P3,hP3⟩:∃P3,P2++wide 2 B=P3:=⟨_,rfl⟩;have l6:P3.length=13:=by rw[<-hP3];simp[l5,a3]
   rw[hP3];simp(disch:=omega)[Go.Vs.wl,q4];refine callM [(1000,33)] [] (yq 6 P3 D 2 (by omega) (by omega) (by omega)) rfl rfl ⟨rfl,trivial⟩ ⟨rfl,[],[],rfl,⟨[],[],rfl,rfl,rfl⟩,rfl⟩ rfl ?_;obtain⟨R,hR⟩:∃R,P3++wide 2 D=R:=⟨_,rfl⟩;have lR:R.length=15:=by rw[<-hR];simp[l6,a4]
   have hT2:P++84::((wide 2 A++(wide 2 B++wide 2 D))++if v.k=3 then [90]else [])=R++if v.k=3 then [90]else []:=by rw[<-hR,<-hP3,<-hP2,<-hP1];simp
   rw[hT2,hR];have hbR:(ay R).length=15:=by simp[ay,lR]
   by_cases k3:v.k=3
   ·have h90:ay R++[[.int .u8 90]]=ay (R++[90]):=by simp[ay]
    have hstr:lU (ay (R++[90]))=some (R++[90]):=rb (R++[90]);simp(disch:=omega)[Go.Vs.wl,k3,hbR,h90,hstr]
   ·have hstr:lU (ay R)=some R:=rb R;simp(disch:=omega)[Go.Vs.wl,k3,hbR,hstr]
 ·rw[if_neg h0];unfold lK at hC |-;simp(disch:=omega)[Go.Vs.wl];refine aa hC ?_;simp(disch:=omega)[Go.Vs.wl,h0]
end Go.Vs.YtcjeehebikeghaaGreatDoor.Rc
