/- The walk of moment, and of the document's: values that may be; forms, fields, digits. No conditions. -/
import Derived.Test.YtcjeehebikeghaaGreatDoorRD
import Derived.Test.YtcjeehebikeghaaGreatDoorND
set_option linter.unusedVariables false
set_option linter.unusedSimpArgs false
set_option maxRecDepth 100000
set_option maxHeartbeats 16000000
namespace Go.Vs.YtcjeehebikeghaaGreatDoor.Rc
open Go.Proofs Go.Vs.Cv Go.Vs.Mo Go.Vs.Nu
abbrev Str:=List UInt8
def Mo.Mom.iv(v:Mom):IV:=.agg [.int .u8 v.k,.int .i64 v.s]
def n9(v:Mom):IV:=.agg [.int .u8 v.k,.int .i64 v.s]
def DF(k s:Int):Int:=if k<1∨3<k then 11 else if s<0∨315537897599<s then 8 else 0
theorem SD(k s:Int)(hk:0≤k):Fn G2 Tryz.prog pP [.int .u8 k,.int .i64 s] (.int .i64 (DF k s)):=by
 refine ag hm DC (by simp) ?_;obtain⟨R,hR⟩:∃R,DF k s=R:=⟨_,rfl⟩;rw[hR];unfold DF at hR;simp[vQ,vR];by_cases h0:k=0
 ·rw[if_pos (.inl (by omega))]at hR;subst hR;simp(disch:=omega)[Go.Vs.wl,h0]
 ·by_cases h3:3<k
  ·rw[if_pos (.inr h3)]at hR;subst hR;simp(disch:=omega)[Go.Vs.wl,h0]
  ·rw[if_neg (by omega)]at hR;by_cases h4:s<0
   ·rw[if_pos (.inl h4)]at hR;subst hR;simp(disch:=omega)[Go.Vs.wl,h0]
   ·by_cases h5:315537897599<s
    ·rw[if_pos (.inr h5)]at hR;subst hR;simp(disch:=omega)[Go.Vs.wl,h0]
    ·rw[if_neg (by omega)]at hR;subst hR;simp(disch:=omega)[Go.Vs.wl,h0]
def YX(k s:Int):Mom×Int:=if DF k s≠0 then (⟨0,0⟩,DF k s)else (⟨k,if k=1 then s-s%86400 else s⟩,0)
theorem JX{k s:Int}(h:DF k s=0):1≤k∧k≤3∧0≤s∧s≤315537897599:=by
 unfold DF at h;split at h
 ·cases h
 ·split at h
  ·cases h
  ·omega
theorem abo(k s:Int)(hk:0≤k):Fn G2 Tryz.prog vH [.int .u8 k,.int .i64 s] (.tuple [n9 (YX k s).1,.int .i64 (YX k s).2]):=by
 refine ag hm Lq (by simp) ?_;have hS:=SD k s hk;obtain⟨R,hR⟩:∃R,YX k s=R:=⟨_,rfl⟩;rw[hR];unfold YX at hR;simp[D9,Da];refine aa hS ?_;by_cases h0:DF k s=0
 ·rw[if_neg (by simp[h0])]at hR;subst hR;obtain⟨b1,b2,b3,b4⟩:=JX h0;have e:s.tmod 86400=s%86400:=Int.tmod_eq_emod_of_nonneg b3;by_cases h1:k=1
  ·subst h1;simp(disch:=omega)[Go.Vs.wl,h0,e,n9]
  ·simp(disch:=omega)[Go.Vs.wl,h0,h1,n9]
 ·rw[if_pos h0]at hR;subst hR;simp(disch:=omega)[Go.Vs.wl,h0,n9]
theorem sw(v:Mom)(hk:0≤v.k):Fn G2 Tryz.prog fw [n9 v] (.int .i64 (i6 v)):=by
 refine ag hm DA (by simp) ?_;obtain⟨k,s⟩:=v;have hA:=abo k s hk;obtain⟨R,hR⟩:∃R,i6 ⟨k,s⟩=R:=⟨_,rfl⟩;rw[hR];unfold i6 at hR;simp only at hR hk;simp[vM,vN,n9];refine aa hA ?_;by_cases h0:DF k s=0
 ·obtain⟨b1,b2,b3,b4⟩:=JX h0;have hv:YX k s=(⟨k,if k=1 then s-s%86400 else s⟩,0):=by unfold YX;rw[if_neg (by simp[h0])]
  rw[hv];rw[if_neg (by omega),if_neg (by omega)]at hR;by_cases h1:k=1
  ·by_cases h2:s%86400=0
   ·rw[if_neg (by omega)]at hR;subst hR;simp(disch:=omega)[Go.Vs.wl,h1,h2,n9]
   ·rw[if_pos ⟨h1,h2⟩]at hR;subst hR;have e:¬s-s%86400=s:=by omega
    simp(disch:=omega)[Go.Vs.wl,h1,e,n9]
  ·rw[if_neg (fun h=>h1 h.1)]at hR;subst hR;simp(disch:=omega)[Go.Vs.wl,h1,n9]
 ·have hv:YX k s=(⟨0,0⟩,DF k s):=by unfold YX;rw[if_pos h0]
  rw[hv]
  have hRe:R=DF k s:=by
   rw[←hR];unfold DF at h0 ⊢;by_cases q1:k<1∨3<k
   ·rw[if_pos q1,if_pos q1]
   ·rw[if_neg q1,if_neg q1];by_cases q2:s<0∨315537897599<s
    ·rw[if_pos q2,if_pos q2]
    ·rw[if_neg q1,if_neg q2]at h0;exact absurd rfl h0
  rw[hRe];simp(disch:=omega)[Go.Vs.wl,h0,n9]
theorem SE(v:Mom)(hk:0≤v.k)(hc:i6 v=0):Fn G2 Tryz.prog pO [n9 v] (.tuple [.int .i64 (v.s/86400),.int .i64 (v.s%86400)]):=by
 refine ag hm DB (by simp) ?_;have hC:=sw v hk;rw[hc]at hC;obtain⟨_,_,b3,b4,_⟩:=wN hc;obtain⟨k,s⟩:=v;simp only at b3 b4;simp only[n9]at hC;have e1:s.tmod 86400=s%86400:=Int.tmod_eq_emod_of_nonneg b3;have e2:s.tdiv 86400=s/86400:=Int.tdiv_eq_ediv_of_nonneg b3;simp[vO,vP,n9];refine aa hC ?_;simp(disch:=omega)[Go.Vs.wl,e1,e2]
theorem yW(s:Str):(pM s=1∧s.length=8)∨(pM s=2∧s.length=15∧s[8]?=some 84)∨(pM s=3∧s.length=16∧s[8]?=some 84∧s[15]?=some 90)∨(pM s=0∧s.length≠8∧¬(s.length=15∧s[8]?=some 84)∧¬(s.length=16∧s[8]?=some 84∧s[15]?=some 90)):=by
 unfold pM;by_cases h1:s.length=8
 ·rw[if_pos h1];exact .inl ⟨rfl,h1⟩
 ·rw[if_neg h1];by_cases h2:s.length=15∧s[8]?=some 84
  ·rw[if_pos h2];exact .inr (.inl ⟨rfl,h2⟩)
  ·rw[if_neg h2];by_cases h3:s.length=16∧s[8]?=some 84∧s[15]?=some 90
   ·rw[if_pos h3];exact .inr (.inr (.inl ⟨rfl,h3⟩))
   ·rw[if_neg h3];exact .inr (.inr (.inr ⟨rfl,h1,h2,h3⟩))
def QL(s:Str):IV:=if pM s=0 then .tuple [.int .u8 0,.str [],.str [],.bool false]else .tuple [.int .u8 (pM s),.str (s.take 8),.str (qI s),.bool true]
theorem AC{s:Str}{i:Nat}{c:UInt8}(h:i<s.length):s[i]?=some c↔s[i].toNat=c.toNat:=by
 rw[List.getElem?_eq_getElem h,E_];exact⟨fun e=>by rw[e],fun e=>UInt8.toNat_inj.1 e⟩
theorem XU(s:Str)(hs:s.length<1000000):Fn G2 Tryz.prog ry [.str s] (QL s):=by
 refine ag hm G4 (by simp) ?_;obtain⟨R,hR⟩:∃R,QL s=R:=⟨_,rfl⟩;rw[hR];unfold QL qI at hR;simp[xW,xX];rcases yW s with⟨hk,h8⟩|⟨hk,h15,hT⟩|⟨hk,h16,hT,hZ⟩|⟨hk,n8,n15,n16⟩
 ·rw[hk,if_neg (by omega),if_pos rfl]at hR;subst hR;have:s.take 8=s:=List.take_of_length_le (by omega);simp(disch:=omega)[Go.Vs.wl,h8,this]
 ·rw[hk,if_neg (by omega),if_neg (by omega)]at hR;subst hR;rw[AC (by omega)]at hT;have hT':(s[8]'(by omega)).toNat=84:=hT;have e1:(s.drop 9).take 6=s.drop 9:=List.take_of_length_le (by rw[List.length_drop];omega);have e2:(s.take 15).drop 9=s.drop 9:=by rw[List.take_of_length_le (by omega)]
  simp(disch:=omega)[Go.Vs.wl,h15,hT',e1,e2]
 ·rw[hk,if_neg (by omega),if_neg (by omega)]at hR;subst hR;rw[AC (by omega)]at hT hZ;have hT':(s[8]'(by omega)).toNat=84:=hT;have hZ':(s[15]'(by omega)).toNat=90:=hZ;have e1:(s.drop 9).take 6=(s.take 15).drop 9:=by rw[List.drop_take]
  simp(disch:=omega)[Go.Vs.wl,h16,hT',hZ',e1]
 ·rw[if_pos hk]at hR;subst hR;by_cases h15:s.length=15
  ·have hT:¬(s[8]'(by omega)).toNat=84:=fun e=>n15 ⟨h15,(AC (by omega)).2 e⟩
   simp(disch:=omega)[Go.Vs.wl,n8,h15,hT]
  ·by_cases h16:s.length=16
   ·by_cases hT:(s[8]'(by omega)).toNat=84
    ·have hZ:¬(s[15]'(by omega)).toNat=90:=fun e=>n16 ⟨h16,(AC (by omega)).2 hT,(AC (by omega)).2 e⟩
     simp(disch:=omega)[Go.Vs.wl,n8,h15,h16,hT,hZ]
    ·simp(disch:=omega)[Go.Vs.wl,n8,h15,h16,hT]
   ·simp(disch:=omega)[Go.Vs.wl,n8,h15,h16]
def Df:Str→List Nat→List Int→Option (List Int×Str)
 |s,[],out=>some (out,s)
 |s,w::wl,out=>if w≤s.length∧(s.take w).all dS=true then Df (s.drop w) wl (out++[((bJ 0 (s.take w):Nat):Int)])else none
def HR:Option (List Int×Str)→IV
 |none=>.tuple [.slice [],.bool false]
 |some (l,r)=>.tuple [.slice (is l),.bool (decide (r=[]))]
def wsI(wl:List Nat):List Int:=wl.map fun w:Nat=>(w:Int)
theorem XV{wl:List Nat}{i w:Nat}(h:i<wl.length)(hx:wl[i]=w):(is (wsI wl))[i]?=some [.int .i64 (w:Int)]:=by simp[is,wsI,h,hx]
theorem QM(wl:List Nat):(is (wsI wl)).length=wl.length:=by simp[is,wsI]
theorem JY(s:Str)(wl:List Nat)(hw:∀w∈wl,w≤9)(hl:wl.length≤100)(hs:s.length<1000000):Fn G2 Tryz.prog kM [.str s,.slice (is (wsI wl))] (HR (Df s wl [])):=by
 refine ag hm C7 (by simp) ?_;obtain⟨R,hR⟩:∃R,Df s wl []=R:=⟨_,rfl⟩;rw[hR];simp[uc,ud,QM];refine bS hm [] (fun x:Str×List Int=>[(12,.val (.int .i64 x.2.length)),(0,.val (.str x.1)),(6,.own 6 x.2.length)]) (fun x=>[(6,.arr x.2.length 1 (is x.2))]) (fun x=>x.2.length≤wl.length∧x.1.length≤s.length∧Df x.1 (wl.drop x.2.length) x.2=R) (fun x=>wl.length-x.2.length) (s,[]) ⟨by simp,by simp,by simpa using hR⟩ ?_ ?_
 ·simp[is];exact d5.trans (dR (k:=6) 6 1 (by simp) (by simp[aC,ac])) (ap rfl rfl (by simp[St.adopt,bv,aC,ac,put,dJ,SV.erase]) (by simp[St.adopt,cC,ac,put,cK,Ob.erase]) (by simp[St.adopt,ct]))
 rintro⟨t,out⟩ ⟨h1,h2,h3⟩;simp only at h1 h2 h3;simp[QM];by_cases h:out.length<wl.length
 ·obtain⟨w,hwx⟩:∃w,wl[out.length]=w:=⟨_,rfl⟩;have hg:=XV h hwx;have hw9:=hw w (hwx▸List.getElem_mem h);rw[List.drop_eq_getElem_cons h,hwx,Df]at h3;simp(disch:=omega)[Go.Vs.wl,hg];refine bS hm [] (fun j:Nat=>[(8,.val (.int .i64 ((w-j:Nat):Int))),(9,.val (.int .i64 ((bJ 0 (t.take j):Nat):Int))),(0,.val (.str (t.drop j)))]) (fun _=>[]) (fun j=>j≤w∧j≤t.length∧(t.take j).all dS=true) (fun j=>w-j) 0 ⟨by omega,by omega,by simp⟩ ?_ ?_
  ·have e:bJ 0 ([]:Str)=0:=rfl;simp[e];exact bT
  rintro j ⟨j1,j2,j3⟩;simp;by_cases hj:j<w
  ·obtain⟨d,hd⟩:∃d,t.drop j=d:=⟨_,rfl⟩;rw[hd];cases d with
   |nil=>
    have hlen:t.length=j:=by
     have:=congrArg List.length hd;rw[List.length_drop]at this;simp at this;omega
    rw[if_neg (fun h=>by omega)]at h3;subst h3;simp(disch:=omega)[Go.Vs.wl];simp[HR]
   |cons c r=>
    have hjl:j<t.length:=by
     have:=congrArg List.length hd;rw[List.length_drop]at this;simp at this;omega
    have hcj:t[j]=c∧t.drop (j+1)=r:=by
     rw[List.drop_eq_getElem_cons hjl]at hd;exact⟨(List.cons.inj hd).1,(List.cons.inj hd).2⟩
    have hta:t.take (j+1)=t.take j++[c]:=by rw[List.take_succ_eq_append_getElem hjl,hcj.1]
    by_cases hdg:dS c=true
    ·obtain⟨d1,d2⟩:=L9 hdg;have hall':(t.take (j+1)).all dS=true:=by rw[hta,List.all_append,j3,DY hdg];rfl
     have hv:bJ 0 (t.take (j+1))=10*bJ 0 (t.take j)+(c.toNat-48):=by rw[hta,FF]
     have hb0:bJ 0 (t.take j)<10 ^ 9:=Go.Vs.YtcjeehebikeghaaGreatDoor.val_bd j3 (by rw[List.length_take];omega);obtain⟨V,hV⟩:∃V,bJ 0 (t.take j)=V:=⟨_,rfl⟩;obtain⟨W,hW⟩:∃W,bJ 0 (t.take (j+1))=W:=⟨_,rfl⟩;rw[hV,hW]at hv;rw[hV]at hb0 ⊢;have e:((V:Int)*10+((c.toNat:Int)-48))=(W:Int):=by omega
     simp(disch:=omega)[Go.Vs.wl,e];refine⟨by omega,?_⟩;refine aq (j+1) ⟨by omega,by omega,hall'⟩ (by omega) ?_;simp[hW,hcj.2];exact ap rfl rfl (by simp[bv,aC,ac];omega) (by simp[cC,ac]) (by simp[ct])
    ·have hbad:¬(w≤t.length∧(t.take w).all dS=true):=fun hh=>by
      have hmem:c∈t.take w:=by
       rw[List.mem_take_iff_getElem];exact⟨j,by omega,hcj.1⟩
      exact hdg (List.all_eq_true.1 hh.2 c hmem)
     rw[if_neg hbad]at h3;subst h3
     have hd2:c.toNat<48∨57<c.toNat:=by
      simp[dS]at hdg;omega
     rcases hd2 with hd2|hd2
     ·simp(disch:=omega)[Go.Vs.wl];simp[HR]
     ·simp(disch:=omega)[Go.Vs.wl];simp[HR]
  ·obtain rfl:j=w:=by omega
   rw[if_pos ⟨j2,j3⟩]at h3;simp(disch:=omega)[Go.Vs.wl,is_len];refine⟨by omega,?_⟩;refine aq (t.drop j,out++[((bJ 0 (t.take j):Nat):Int)]) ⟨by simp;omega,by simp;omega,by simpa using h3⟩ (by simp;omega) ?_;simp[QC];exact bT
 ·have e:wl.drop out.length=[]:=List.drop_eq_nil_of_le (by omega);rw[e,Df]at h3;subst h3;have e2:out.length=wl.length:=by omega
  simp(disch:=omega)[Go.Vs.wl,is_len];simp[HR]
theorem SF{s:Str}{a b c:Nat}(hl:s.length=a+b+c):Df s [a,b,c] []=if s.all dS=true then some ([((bJ 0 (s.take a):Nat):Int),((bJ 0 ((s.drop a).take b):Nat):Int),((bJ 0 (s.drop (a+b)):Nat):Int)],[])else none:=by
 have l1:(s.drop a).length=b+c:=by rw[List.length_drop];omega
 have l2:((s.drop a).drop b).length=c:=by rw[List.length_drop];omega
 have e3:((s.drop a).drop b).take c=s.drop (a+b):=by rw[List.take_of_length_le (by omega),List.drop_drop]
 have e4:((s.drop a).drop b).drop c=[]:=List.drop_eq_nil_of_le (by omega)
 have hs:s=s.take a++((s.drop a).take b++s.drop (a+b)):=by
  rw[←List.drop_drop,List.take_append_drop,List.take_append_drop]
 have hall:s.all dS=((s.take a).all dS&&(((s.drop a).take b).all dS&&(s.drop (a+b)).all dS)):=by
  conv=>lhs;rw[hs]
  rw[List.all_append,List.all_append]
 simp only[Df,l1,l2,e3,e4,hall];by_cases q1:(s.take a).all dS=true
 ·rw[if_pos ⟨by omega,q1⟩];by_cases q2:((s.drop a).take b).all dS=true
  ·rw[if_pos ⟨by omega,q2⟩];by_cases q3:(s.drop (a+b)).all dS=true
   ·rw[if_pos ⟨by omega,q3⟩,if_pos (by simp[q1,q2,q3])];rfl
   ·rw[if_neg (fun h=>q3 h.2),if_neg (by simp[q3])]
  ·rw[if_neg (fun h=>q2 h.2),if_neg (by simp[q2])]
 ·rw[if_neg (fun h=>q1 h.2),if_neg (by simp[q1])]
theorem aam{y m d:Nat}(hy:y≤9999):Vw y m d=if o4 y m d=true then (tw y m d,0)else (0,8):=by
 unfold Vw o4;by_cases h:1≤y∧1≤m∧m≤12∧1≤d∧d≤sq y m
 ·have hl:su y m=sq y m:=by unfold su;rw[if_pos (by omega)]
  rw[if_neg (by omega),if_pos (by simpa using h)]
 ·rw[if_neg (c:=decide _=true) (by simpa using h)];by_cases q:1≤y∧y≤9999∧1≤m∧m≤12
  ·have hl:su y m=sq y m:=by unfold su;rw[if_pos q]
   rw[if_pos (by omega)]
  ·have hl:su y m=0:=by unfold su;rw[if_neg q]
   rw[if_pos (by omega)]
theorem AD{s:Str}(h:s.all dS=true)(n:Nat):(s.take n).all dS=true:=by
 rw[List.all_eq_true]at h ⊢;exact fun c hc=>h c (List.mem_of_mem_take hc)
theorem AE{s:Str}(h:s.all dS=true)(n:Nat):(s.drop n).all dS=true:=by
 rw[List.all_eq_true]at h ⊢;exact fun c hc=>h c (List.mem_of_mem_drop hc)
theorem Vz{s:Str}(h:s.all dS=true)(hl:s.length≤2):bJ 0 s<100:=by
 have:=Go.Vs.YtcjeehebikeghaaGreatDoor.val_bd h hl;simpa using this
theorem ab4{s:Str}(h:s.all dS=true)(hl:s.length≤4):bJ 0 s<10000:=by
 have:=Go.Vs.YtcjeehebikeghaaGreatDoor.val_bd h hl;simpa using this
theorem VA{s:Str}(h:pM s≠0):(s.take 8).length=8∧(qI s).length=6∧1≤pM s∧pM s≤3:=by
 unfold qI;rcases yW s with⟨hk,h8⟩|⟨hk,h15,_⟩|⟨hk,h16,_⟩|⟨hk,_⟩
 ·rw[hk,if_pos rfl];exact⟨by rw[List.length_take];omega,rfl,by omega,by omega⟩
 ·rw[hk,if_neg (by omega)];exact⟨by rw[List.length_take];omega,by rw[List.length_take,List.length_drop];omega,by omega,by omega⟩
 ·rw[hk,if_neg (by omega)];exact⟨by rw[List.length_take];omega,by rw[List.length_take,List.length_drop];omega,by omega,by omega⟩
 ·exact absurd hk h
theorem wP(s:Str)(hs:s.length<1000000):Fn G2 Tryz.prog jv [.str s] (.tuple [n9 (i7 s).1,.int .i64 (i7 s).2]):=by
 refine ag hm DD (by simp) ?_;have hF:=XU s hs;obtain⟨R,hR⟩:∃R,i7 s=R:=⟨_,rfl⟩;rw[hR];unfold i7 at hR;unfold QL at hF;simp[vS,vT];by_cases h0:pM s=0
 ·rw[if_pos (.inl h0)]at hR;rw[if_pos h0]at hF;subst hR;refine aa hF ?_;simp(disch:=omega)[Go.Vs.wl,n9]
 ·rw[if_neg h0]at hF;obtain⟨lD,lT,k1,k3⟩:=VA h0;obtain⟨k,hk⟩:∃k,pM s=k:=⟨_,rfl⟩;obtain⟨D,hD⟩:∃D,s.take 8=D:=⟨_,rfl⟩;obtain⟨T,hT⟩:∃T,qI s=T:=⟨_,rfl⟩;rw[hk,hD,hT]at hF hR;rw[hk]at h0 k1 k3;rw[hD]at lD;rw[hT]at lT;have hFd:=JY D [4,2,2] (by simp) (by simp) (by omega);have hFt:=JY T [2,2,2] (by simp) (by simp) (by omega);rw[SF (by omega)]at hFd hFt;simp only[wsI,is,List.map_cons,List.map_nil,Int.cast_ofNat_Int,Nat.reduceAdd]at hFd hFt;refine aa hF ?_;simp(disch:=omega)[Go.Vs.wl];refine aa hFd ?_;by_cases q1:D.all dS=true
  ·rw[if_pos q1];obtain⟨y,hy⟩:∃y,bJ 0 (D.take 4)=y:=⟨_,rfl⟩;obtain⟨m,hmv⟩:∃m,bJ 0 ((D.drop 4).take 2)=m:=⟨_,rfl⟩;obtain⟨d,hdv⟩:∃d,bJ 0 (D.drop 6)=d:=⟨_,rfl⟩;have Mj:y<10000:=hy▸ab4 (AD q1 4) (by rw[List.length_take];omega);have bm:m<100:=hmv▸Vz (AD (AE q1 4) 2) (by rw[List.length_take];omega);have bd:d<100:=hdv▸Vz (AE q1 6) (by rw[List.length_drop];omega);rw[hy,hmv,hdv];simp(disch:=omega)[Go.Vs.wl,HR,is];refine aa hFt ?_;by_cases q2:T.all dS=true
   ·rw[if_pos q2];rw[if_neg (by simp[h0,q1,q2])]at hR;obtain⟨h,hh⟩:∃h,bJ 0 (T.take 2)=h:=⟨_,rfl⟩;obtain⟨mi,hmi⟩:∃mi,bJ 0 ((T.drop 2).take 2)=mi:=⟨_,rfl⟩;obtain⟨se,hse⟩:∃se,bJ 0 (T.drop 4)=se:=⟨_,rfl⟩;have bh:h<100:=hh▸Vz (AD q2 2) (by rw[List.length_take];omega);have bmi:mi<100:=hmi▸Vz (AD (AE q2 2) 2) (by rw[List.length_take];omega);have bse:se<100:=hse▸Vz (AE q2 4) (by rw[List.length_drop];omega);rw[hh,hmi,hse];have hDy:=aal y m d (by omega) (by omega) (by omega);have hfine:Sz D T=(o4 y m d&&decide (h≤23∧mi≤59∧se≤59)):=by unfold Sz;rw[hy,hmv,hdv,hh,hmi,hse]
    have hsec:NY D T=tw y m d*86400+(h*3600+mi*60+se):=by unfold NY;rw[hy,hmv,hdv,hh,hmi,hse]
    rw[hfine]at hR;rw[aam (by omega)]at hDy;by_cases q3:o4 y m d=true
    ·rw[if_pos q3]at hDy
     have OX:tw y m d≤3652058:=by
      have q4:=q3;simp only[o4,decide_eq_true_eq]at q4;exact Vo q4.1 (by omega) q4.2.1 q4.2.2.1 q4.2.2.2.1 q4.2.2.2.2
     rw[q3,Bool.true_and]at hR;obtain⟨N,hN⟩:∃N,tw y m d=N:=⟨_,rfl⟩;rw[hN]at hDy hsec OX;simp only[JW]at hDy;simp(disch:=omega)[Go.Vs.wl,HR,is];refine aa hDy ?_;by_cases a1:23<h
     ·rw[if_pos (by simp;omega)]at hR;subst hR;simp(disch:=omega)[Go.Vs.wl];refine⟨rfl,?_⟩;simp(disch:=omega)[Go.Vs.wl,n9]
     ·by_cases a2:59<mi
      ·rw[if_pos (by simp;omega)]at hR;subst hR;simp(disch:=omega)[Go.Vs.wl];refine⟨rfl,?_⟩;simp(disch:=omega)[Go.Vs.wl,n9]
      ·by_cases a3:59<se
       ·rw[if_pos (by simp;omega)]at hR;subst hR;simp(disch:=omega)[Go.Vs.wl];refine⟨rfl,?_⟩;simp(disch:=omega)[Go.Vs.wl,n9]
       ·rw[if_neg (by simp;omega),hsec]at hR;subst hR;simp(disch:=omega)[Go.Vs.wl];refine⟨rfl,?_⟩;simp(disch:=omega)[Go.Vs.wl,n9];omega
    ·have q3':o4 y m d=false:=by simpa using q3
     rw[if_neg q3]at hDy;rw[q3',Bool.false_and,if_pos rfl]at hR;subst hR;simp only[JW]at hDy;simp(disch:=omega)[Go.Vs.wl,HR,is];refine aa hDy ?_;simp(disch:=omega)[Go.Vs.wl];refine⟨rfl,?_⟩;simp(disch:=omega)[Go.Vs.wl,n9]
   ·have q2':T.all dS=false:=by simpa using q2
    rw[if_neg q2];rw[if_pos (.inr (.inr q2'))]at hR;subst hR;simp(disch:=omega)[Go.Vs.wl,HR,n9]
  ·have q1':D.all dS=false:=by simpa using q1
   rw[if_neg q1];rw[if_pos (.inr (.inl q1'))]at hR;subst hR;simp(disch:=omega)[Go.Vs.wl,HR,n9]
theorem K0:∀(k n:Nat),wide (k+1) n=UInt8.ofNat (48+n/10 ^ k%10)::wide k n
 |0,n=>by simp[wide]
 |k+1,n=>by
  rw[wide,K0 k (n/10),wide];simp only[List.cons_append,Nat.pow_succ];rw[Nat.div_div_eq_div_mul,Nat.mul_comm 10]
def dv(n k:Nat):Nat:=n/10 ^ k
def zs(k:Nat):Str:=List.replicate k 48
def tD(x:Str)(w n k:Nat):Str:=x++(zs (w-k)++wide k n)
theorem O3(x:Str){w k:Nat}(n:Nat)(h:k≤w):(tD x w n k).length=x.length+w:=by simp[tD,zs,ju];omega
theorem K1(x:Str)(w n:Nat):tD x w n 0=x++zs w:=by simp[tD,wide]
theorem O4(x:Str)(w n:Nat):tD x w n w=x++wide w n:=by simp[tD,zs]
theorem O5(x:Str){w k:Nat}(n:Nat)(h:k<w):(tD x w n k).set (x.length+w-1-k) (UInt8.ofNat (48+n/10 ^ k%10))=tD x w n (k+1):=by
 obtain⟨j,hj⟩:∃j,w-k=j+1:=⟨w-k-1,by omega⟩;have e1:x.length+w-1-k=x.length+j:=by omega
 have e2:w-(k+1)=j:=by omega
 unfold tD;rw[e1,e2,hj,K0,zs,List.replicate_succ',List.append_assoc,List.set_append_right _ _ (by omega),Nat.add_sub_cancel_left,List.set_append_right _ _ (by simp)];simp[zs]
theorem AF(v:Nat)(x:Str)(n w:Nat)(hx:x.length<100)(hw:w≤4)(hn:n<1000000):oe G2 Tryz.prog eY
  {args:=[.own 1000 v,.val (.int .i64 n),.val (.int .i64 w)],objs:=[(1000,.arr v 1 (az x))],res:=.own 1000 (v+1),objs':=[(1000,.arr (v+1) 1 (az (x++wide w n)))],ro':=[] }:=by
 refine bA hm xN (by simp) rfl ?_
 have hz:([48,48,48,48]:Str).take w=zs w:=by
  have:w=0∨w=1∨w=2∨w=3∨w=4:=by omega
  rcases this with rfl|rfl|rfl|rfl|rfl<;>rfl
 have hl:(az x).length=x.length:=by simp[az]
 simp[tB,tC,og,hz,hl];refine qA hm ?_;simp[hz,hl];refine⟨by omega,by simp[zs];omega,?_⟩;simp(disch:=omega)[Go.Vs.wl,←Du];refine bS hm [] (fun k:Nat=>[(8,.val (.int .i64 ((x.length:Int)+w-1-k))),(0,.own 1000 (v+1)),(1,.val (.int .i64 ((dv n k:Nat):Int)))]) (fun k=>[(1000,.arr (v+1) 1 (az (tD x w n k)))]) (fun k=>k≤w) (fun k=>w-k) 0 (by omega) ?_ ?_
 ·simp[K1,dv];exact bT
 intro k hk;have hbl:(az (tD x w n k)).length=x.length+w:=by simp[az,O3 x n hk]
 simp;by_cases h:k<w
 ·have hset:=O5 x n h;obtain⟨V,hV⟩:∃V,dv n k=V:=⟨_,rfl⟩;have hV':dv n (k+1)=V/10:=by rw[←hV,dv,dv,Nat.pow_succ,Nat.div_div_eq_div_mul]
  have hVb:V≤n:=hV▸Nat.div_le_self _ _;rw[show n/10 ^ k=V from hV]at hset;have q1:(V:Int).tdiv 10=((V/10:Nat):Int):=by rw[Int.tdiv_eq_ediv_of_nonneg (by omega)];omega
  have m1:(V:Int).tmod 10=((V%10:Nat):Int):=by rw[Int.tmod_eq_emod_of_nonneg (by omega)];omega
  have hki:(k:Int)≤(x.length:Int)+w-1:=by omega
  have ht:((x.length:Int)+w).toNat=x.length+w:=by omega
  have hu8:(((UInt8.ofNat (48+V%10)).toNat:Nat):Int)=48+(V:Int)%10:=by
   have:(UInt8.ofNat (48+V%10)).toNat=48+V%10:=by simp;omega
   omega
  have hset2:(az (tD x w n k)).set (x.length+w-1-k) [.int .u8 (48+(V:Int)%10)]=az (tD x w n (k+1)):=by
   rw[←hset,←hu8];simp only[az,List.map_set]
  have htl:∀hh,((az (tD x w n k))[x.length+w-1-k]'hh).tail=[]:=fun hh=>by simp[az]
  simp(disch:=omega)[Go.Vs.wl,hbl,hV,q1,m1,hki,ht];refine⟨by omega,by simp[az],?_⟩;simp only[htl,hset2];refine aq (k+1) (by omega) (by omega) ?_;simp[hV'];exact ap rfl rfl (by simp[bv,aC,ac];omega) (by simp[cC,ac]) (by simp[ct])
 ·obtain rfl:k=w:=by omega
  simp(disch:=omega)[Go.Vs.wl,hbl,O4];simp[cQ];exact⟨⟨[(6,.own 1000 (v+1))],[(1000,.arr (v+1) 1 (az (x++wide k n)))],[],34,G2⟩,ap rfl rfl (by simp[bv,aC,ac]) (by simp[cC,ac]) (by simp[ct]),by simp,[],rfl,rfl,rfl⟩
theorem VB(n w:Nat)(hw:w≤4)(hn:n<1000000):oe G2 Tryz.prog eY
  {args:=[.nils,.val (.int .i64 n),.val (.int .i64 w)],objs:=[],res:=.own 5 1,objs':=[(5,.arr 1 1 (az (wide w n)))],ro':=[] }:=by
 refine bA hm xN (by simp) rfl ?_
 have hz:([48,48,48,48]:Str).take w=zs w:=by
  have:w=0∨w=1∨w=2∨w=3∨w=4:=by omega
  rcases this with rfl|rfl|rfl|rfl|rfl<;>rfl
 simp[tB,tC,og,hz];refine Um hm (fun _:Unit=>⟨[(0,.own 5 0),(6,.nils),(1,.val (.int .i64 n)),(2,.val (.int .i64 w))],[(5,.arr 0 1 [])],[],34,G2⟩) (fun _=>True) (fun _=>rfl) ?_ ?_
 ·simp;refine dM () trivial ?_;exact d5.trans (dR (k:=0) 5 1 (by simp) (by simp[aC,ac])) (ap rfl rfl (by simp[St.adopt,bv,aC,ac,put,dJ,SV.erase]) (by simp[St.adopt,cC,ac,put,cK,Ob.erase]) (by simp[St.adopt,ct]))
 intro _ _;simp[hz];refine⟨by omega,by simp[zs];omega,?_⟩;simp(disch:=omega)[Go.Vs.wl];refine bS hm [] (fun k:Nat=>[(8,.val (.int .i64 ((w:Int)-1-k))),(0,.own 5 1),(1,.val (.int .i64 ((dv n k:Nat):Int)))]) (fun k=>[(5,.arr 1 1 (az (tD [] w n k)))]) (fun k=>k≤w) (fun k=>w-k) 0 (by omega) ?_ ?_
 ·simp[K1,dv];exact bT
 intro k hk;have hbl:(az (tD [] w n k)).length=w:=by simp[az,O3 [] n hk]
 simp;by_cases h:k<w
 ·have hset:=O5 [] n h;obtain⟨V,hV⟩:∃V,dv n k=V:=⟨_,rfl⟩;have hV':dv n (k+1)=V/10:=by rw[←hV,dv,dv,Nat.pow_succ,Nat.div_div_eq_div_mul]
  have hVb:V≤n:=hV▸Nat.div_le_self _ _;rw[show n/10 ^ k=V from hV,show([]:Str).length+w-1-k=w-1-k by simp]at hset;have q1:(V:Int).tdiv 10=((V/10:Nat):Int):=by rw[Int.tdiv_eq_ediv_of_nonneg (by omega)];omega
  have m1:(V:Int).tmod 10=((V%10:Nat):Int):=by rw[Int.tmod_eq_emod_of_nonneg (by omega)];omega
  have hki:(k:Int)≤(w:Int)-1:=by omega
  have ht:((w:Int)).toNat=w:=by omega
  have hu8:(((UInt8.ofNat (48+V%10)).toNat:Nat):Int)=48+(V:Int)%10:=by
   have:(UInt8.ofNat (48+V%10)).toNat=48+V%10:=by simp;omega
   omega
  have hset2:(az (tD [] w n k)).set (w-1-k) [.int .u8 (48+(V:Int)%10)]=az (tD [] w n (k+1)):=by
   rw[←hset,←hu8];simp only[az,List.map_set]
  have htl:∀hh,((az (tD [] w n k))[w-1-k]'hh).tail=[]:=fun hh=>by simp[az]
  simp(disch:=omega)[Go.Vs.wl,hbl,hV,q1,m1,hki,ht];refine⟨by omega,by simp[az],?_⟩;simp only[htl,hset2];refine aq (k+1) (by omega) (by omega) ?_;simp[hV'];exact ap rfl rfl (by simp[bv,aC,ac];omega) (by simp[cC,ac]) (by simp[ct])
 ·obtain rfl:k=w:=by omega
  simp(disch:=omega)[Go.Vs.wl,hbl,O4];simp[cQ];exact⟨⟨[(6,.own 5 1)],[(5,.arr 1 1 (az (wide k n)))],[],34,G2⟩,ap rfl rfl (by simp[bv,aC,ac]) (by simp[cC,ac]) (by simp[ct]),by simp,[],rfl,rfl,rfl⟩

def SG(v:Mom):IV:=.tuple [.str (if i6 v=0 then dH v else []),.int .i64 (i6 v)]
theorem wQ(v:Mom)(hk:0≤v.k):Fn G2 Tryz.prog i8 [n9 v] (SG v):=by
 refine ag hm Dz (by simp) ?_;have hC:=sw v hk;obtain⟨e,he⟩:∃e,i6 v=e:=⟨_,rfl⟩;unfold SG;rw[he]at hC ⊢;simp[vK,vL];by_cases h0:e=0
 ·rw[if_pos h0];subst h0;obtain⟨b1,b2,b3,b4,b5⟩:=wN he;have hS:=SE v hk he;obtain⟨N,hN⟩:∃N,(v.s/86400).toNat=N:=⟨_,rfl⟩;obtain⟨T,hT⟩:∃T,(v.s%86400).toNat=T:=⟨_,rfl⟩;have eN:v.s/86400=(N:Int):=by omega
  have eT:v.s%86400=(T:Int):=by omega
  have hD:=XT N (by omega);obtain⟨y,m,d,g1,g2,g3,g4,g5,g6,g7,g8⟩:=FT (n:=N) (by omega)
  have hml:sq y m≤31:=by
   unfold sq sn
   repeat' split
   all_goals omega
  have hM:dH v=(wide 4 y++wide 2 m++wide 2 d)++(if v.k=1 then []else 84::((wide 2 (T/3600)++(wide 2 (T/60%60)++wide 2 (T%60)))++if v.k=3 then [90]else [])):=by
   unfold dH Mo.dayT FU;rw[hN,hT,g8];simp only[List.append_assoc]
  rw[eN,eT]at hS;rw[g8]at hD;have l1:=ju 4 y;have l2:=ju 2 m;have l3:=ju 2 d;unfold n9 at hC hS ⊢;simp(disch:=omega)[Go.Vs.wl];refine aa hC ?_;simp(disch:=omega)[Go.Vs.wl];refine aa hS ?_;simp(disch:=omega)[Go.Vs.wl];refine aa hD ?_;simp(disch:=omega)[Go.Vs.wl];refine callM [(5,33)] [] (VB y 4 (by omega) (by omega)) rfl rfl trivial ⟨rfl,[],[],rfl,⟨[],[],rfl,rfl,rfl⟩,rfl⟩ rfl ?_;simp(disch:=omega)[Go.Vs.wl];refine callM [(1000,33)] [] (AF 1 (wide 4 y) m 2 (by omega) (by omega) (by omega)) rfl rfl ⟨rfl,trivial⟩ ⟨rfl,[],[],rfl,⟨[],[],rfl,rfl,rfl⟩,rfl⟩ rfl ?_;simp(disch:=omega)[Go.Vs.wl];have lp:(wide 4 y++wide 2 m).length=6:=by simp[l1,l2]
  refine callM [(1000,33)] [] (AF 2 (wide 4 y++wide 2 m) d 2 (by omega) (by omega) (by omega)) rfl rfl ⟨rfl,trivial⟩ ⟨rfl,[],[],rfl,⟨[],[],rfl,rfl,rfl⟩,rfl⟩ rfl ?_;obtain⟨P,hP⟩:∃P,wide 4 y++wide 2 m++wide 2 d=P:=⟨_,rfl⟩;have lP:P.length=8:=by rw[←hP];simp[l1,l2,l3]
  rw[hP]at hM ⊢;rw[hM];have hbP:(az P).length=8:=by simp[az,lP]
  by_cases k1:v.k=1
  ·rw[if_pos k1,List.append_nil];have hstr:nj (az P)=some P:=sW P;simp(disch:=omega)[Go.Vs.wl,k1,hstr]
  ·rw[if_neg k1];obtain⟨P1,hP1⟩:∃P1,P++[84]=P1:=⟨_,rfl⟩;have h84:az P++[[.int .u8 84]]=az P1:=by rw[←hP1];simp[az]
   have q1:(T:Int).tdiv 3600=((T/3600:Nat):Int):=by rw[Int.tdiv_eq_ediv_of_nonneg (by omega)];omega
   have q2:(T:Int).tdiv 60=(T:Int)/60:=by rw[Int.tdiv_eq_ediv_of_nonneg (by omega)]
   have q3:((T:Int)/60).tmod 60=((T/60%60:Nat):Int):=by rw[Int.tmod_eq_emod_of_nonneg (by omega)];omega
   have q4:(T:Int).tmod 60=((T%60:Nat):Int):=by rw[Int.tmod_eq_emod_of_nonneg (by omega)];omega
   obtain⟨A,hA⟩:∃A,T/3600=A:=⟨_,rfl⟩;obtain⟨B,hB⟩:∃B,T/60%60=B:=⟨_,rfl⟩;obtain⟨D,hD'⟩:∃D,T%60=D:=⟨_,rfl⟩;rw[hA]at q1;rw[hB]at q3;rw[hD']at q4;rw[hA,hB,hD'];have a2:=ju 2 A;have a3:=ju 2 B;have a4:=ju 2 D;simp(disch:=omega)[Go.Vs.wl,k1,hbP,h84,q1];have l4:P1.length=9:=by rw[←hP1];simp[lP]
   refine callM [(1000,33)] [] (AF 4 P1 A 2 (by omega) (by omega) (by omega)) rfl rfl ⟨rfl,trivial⟩ ⟨rfl,[],[],rfl,⟨[],[],rfl,rfl,rfl⟩,rfl⟩ rfl ?_;obtain⟨P2,hP2⟩:∃P2,P1++wide 2 A=P2:=⟨_,rfl⟩;have l5:P2.length=11:=by rw[←hP2];simp[l4,a2]
   rw[hP2];simp(disch:=omega)[Go.Vs.wl,q2,q3];refine callM [(1000,33)] [] (AF 5 P2 B 2 (by omega) (by omega) (by omega)) rfl rfl ⟨rfl,trivial⟩ ⟨rfl,[],[],rfl,⟨[],[],rfl,rfl,rfl⟩,rfl⟩ rfl ?_;obtain⟨P3,hP3⟩:∃P3,P2++wide 2 B=P3:=⟨_,rfl⟩;have l6:P3.length=13:=by rw[←hP3];simp[l5,a3]
   rw[hP3];simp(disch:=omega)[Go.Vs.wl,q4];refine callM [(1000,33)] [] (AF 6 P3 D 2 (by omega) (by omega) (by omega)) rfl rfl ⟨rfl,trivial⟩ ⟨rfl,[],[],rfl,⟨[],[],rfl,rfl,rfl⟩,rfl⟩ rfl ?_;obtain⟨R,hR⟩:∃R,P3++wide 2 D=R:=⟨_,rfl⟩;have lR:R.length=15:=by rw[←hR];simp[l6,a4]
   have hT2:P++84::((wide 2 A++(wide 2 B++wide 2 D))++if v.k=3 then [90]else [])=R++if v.k=3 then [90]else []:=by rw[←hR,←hP3,←hP2,←hP1];simp
   rw[hT2,hR];have hbR:(az R).length=15:=by simp[az,lR]
   by_cases k3:v.k=3
   ·have h90:az R++[[.int .u8 90]]=az (R++[90]):=by simp[az]
    have hstr:nj (az (R++[90]))=some (R++[90]):=sW (R++[90]);simp(disch:=omega)[Go.Vs.wl,k3,hbR,h90,hstr]
   ·have hstr:nj (az R)=some R:=sW R;simp(disch:=omega)[Go.Vs.wl,k3,hbR,hstr]
 ·rw[if_neg h0];unfold n9 at hC ⊢;simp(disch:=omega)[Go.Vs.wl];refine aa hC ?_;simp(disch:=omega)[Go.Vs.wl,h0]
end Go.Vs.YtcjeehebikeghaaGreatDoor.Rc
