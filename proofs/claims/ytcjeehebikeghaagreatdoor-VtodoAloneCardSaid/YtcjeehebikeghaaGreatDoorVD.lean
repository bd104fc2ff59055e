/- A part of a proof. No conditions. -/
import Derived.Test.YtcjeehebikeghaaGreatDoorVC
set_option linter.unusedVariables false
set_option linter.unusedSimpArgs false
set_option maxRecDepth 100000
set_option maxHeartbeats 16000000
namespace Go.Vs.YtcjeehebikeghaaGreatDoor.Vt
open Go.Proofs Go.Vs.U8 Go.Vs.Pa Go.Vs.Nu Go.Vs.Vt
def ur(s:Str)(m:Nat):Nat×Bool:=if zX s m=true then ((HP (s.drop 1) m).2.1,decide ((HP (s.drop 1) m).1=[]))else (0,false)
def n6(s:Str):Nat×Bool:=match jB s 87 with
 |some (n,r)=>(n*604800,decide (r=[]))
 |none=>match jB s 68 with
  |some (n,r)=>if r=[]then (n*86400,true)else ur r (n*86400)
  |none=>ur s 0
theorem K7(s:Str)(m:Nat):My s m=if (ur s m).2=true then some (ur s m).1 else none:=by
 unfold My ur zX
 grind
theorem Rw(s:Str):Rn s=if (n6 s).2=true then some (n6 s).1 else none:=by
 unfold Rn n6;cases jB s 87 with
 |some p=>simp
 |none=>
  cases jB s 68 with
  |some p=>
   simp only[];split
   ·rfl
   ·exact K7 ..
  |none=>exact K7 ..
theorem I5(s:Str)(m:Nat):(HP s m).2.1<=m+4000000000:=by
 unfold HP;have b0:=Gx 72 3600 s m 0;obtain⟨⟨s0,m0,k0⟩,e0⟩:∃p,tk 72 3600 (s,m,0)=p:=⟨_,rfl⟩;rw[e0]at b0 |-;have b1:=Gx 77 60 s0 m0 k0;obtain⟨⟨s1,m1,k1⟩,e1⟩:∃p,tk 77 60 (s0,m0,k0)=p:=⟨_,rfl⟩;rw[e1]at b1 |-;have b2:=Gx 83 1 s1 m1 k1;dsimp only at *;omega
theorem Ot(s:Str)(hs:s.length<1000000):Fn G2 T_ 214 [.str s] (.tuple [.int .i64 (n6 s).1,.bool (n6 s).2]):=by
 refine ag hm DR (by simp) ?_;simp[wv];have g0:=iZ s 0 0 87 604800 hs (by omega) (by omega) (by omega);cases h0:jB s 87 with
 |some p=>
  obtain⟨n,r⟩:=p;have hL:n6 s=(n*604800,decide (r=[])):=by unfold n6;rw[h0]
  rw[yV h0,h0]at g0;rw[hL];refine callM [(1000,4)] [] g0 rfl rfl ⟨rfl,trivial⟩ ⟨rfl,[],[],rfl,⟨[],[],rfl,rfl,rfl⟩,rfl⟩ rfl ?_;simp(disch:=omega)[wl,ze]
 |none=>
  rw[wz h0,h0]at g0;have gD:=iZ s 0 0 68 86400 hs (by omega) (by omega) (by omega);refine callM [(1000,4)] [] g0 rfl rfl ⟨rfl,trivial⟩ ⟨rfl,[],[],rfl,⟨[],[],rfl,rfl,rfl⟩,rfl⟩ rfl ?_;simp(disch:=omega)[wl,ze];cases h1:jB s 68 with
  |some p=>
   obtain⟨n,r⟩:=p;rw[yV h1,h1]at gD;have hn:=BF h1;refine callM [(1000,4)] [] gD rfl rfl ⟨rfl,trivial⟩ ⟨rfl,[],[],rfl,⟨[],[],rfl,rfl,rfl⟩,rfl⟩ rfl ?_;by_cases e:r=[]
   ·have hL:n6 s=(n*86400,true):=by unfold n6;rw[h0,h1];simp[e]
    rw[hL];simp(disch:=omega)[wl,ze,e]
   ·have hL:n6 s=ur r (n*86400):=by unfold n6;rw[h0,h1];simp[e]
    rw[hL];simp(disch:=omega)[wl,ze,e];have gC:=Gy r (n*86400) 1 (by omega) (by omega) (by omega);have bC:=I5 (r.drop 1) (n*86400);have hS:zX r (n*86400)=true->I4 r (n*86400) 1=HP (r.drop 1) (n*86400):=fun h=>by unfold zX at h;simp at h;unfold I4;rw[if_pos (by simp[h])]
    refine callM [(1000,4)] [] (gC) rfl rfl ⟨by simp[ac,ze,Ob.ren,SV.ren,Vs.ren],trivial⟩ ⟨rfl,rfl⟩ rfl ?_;unfold ur;cases hB:zX r (n*86400)with
    |true=>
     rw[hS hB];simp(disch:=omega)[wl,ze]
    |false=>
     simp(disch:=omega)[wl,ze]
  |none=>
   rw[wz h1,h1]at gD;have hL:n6 s=ur s 0:=by unfold n6;rw[h0,h1]
   rw[hL];refine callM [(1000,4)] [] gD rfl rfl ⟨rfl,trivial⟩ ⟨rfl,[],[],rfl,⟨[],[],rfl,rfl,rfl⟩,rfl⟩ rfl ?_;simp(disch:=omega)[wl,ze];have gC:=Gy s 0 0 hs (by omega) (by omega);have bC:=I5 (s.drop 1) 0;have hS:zX s 0=true->I4 s 0 0=HP (s.drop 1) 0:=fun h=>by unfold zX at h;simp at h;unfold I4;rw[if_pos (by simp[h])]
   refine callM [(1000,4)] [] (gC) rfl rfl ⟨by simp[ac,ze,Ob.ren,SV.ren,Vs.ren],trivial⟩ ⟨rfl,rfl⟩ rfl ?_;unfold ur;cases hB:zX s 0 with
   |true=>
    rw[hS hB];simp(disch:=omega)[wl,ze]
   |false=>
    simp(disch:=omega)[wl,ze]
theorem Rx(s:Str):(n6 s).1<1000000000000:=by
 unfold n6;cases h0:jB s 87 with
 |some p=>have:=BF h0;simp;omega
 |none=>
  cases h1:jB s 68 with
  |some p=>
   have:=BF h1;have:=I5 (p.2.drop 1) (p.1*86400);simp only[];split
   ·dsimp only;omega
   ·unfold ur;split<;>(dsimp only;omega)
  |none=>
   have:=I5 (s.drop 1) 0;simp only[];unfold ur;split<;>(dsimp only;omega)
theorem Lz(s:Str)(hs:s.length<1000000):Fn G2 T_ 148 [.str s] (.tuple [.int .i64 (s9 s).1,.int .i64 (s9 s).2]):=by
 refine ag hm F4 (by simp) ?_;simp[yR];refine aa (I3 s [45] hs (by simp)) ?_;obtain⟨b,hb⟩:∃b,Gs s=b:=⟨_,rfl⟩;have hbl:b.length<1000000:=by rw[<-hb];unfold Gs;split<;>(try rw[List.length_drop])<;>omega
 have hC:=I3 b [80] hbl (by simp);have hL:=Ot (b.drop 1) (by rw[List.length_drop];omega);have hbd:=Rx (b.drop 1);have hR:=Rw (b.drop 1);unfold s9;rw[hb];obtain⟨⟨n,o⟩,ho⟩:∃p,n6 (b.drop 1)=p:=⟨_,rfl⟩;rw[ho]at hL hbd hR;rw[List.drop_one]at hL;rw[hR];clear hR ho;unfold cutP at hC |-;rw[Rv]at hC |-;by_cases h:s[0]?=some 45
 ·have hb:s.drop 1=b:=by rw[<-hb];unfold Gs;rw[if_pos (.inl h)]
  simp[h,hb];refine aa hC ?_;by_cases hP:b[0]?=some 80
  ·simp[hP];refine aa hL ?_;cases o with
   |true=>
    simp at hbd;simp[j9];refine⟨fun h1=>?_,fun h1=>?_⟩
    ·have:86399913600<n:=by omega
     simp[this,hP]
    ·have:¬86399913600<n:=by omega
     simp(disch:=omega)[wl,this,hP,h]
   |false=>simp
  ·simp[hP]
 ·simp[h];refine aa (Rt s [43] hs (by simp)) ?_
  have hb:K6 s [43]=b:=by
   rw[<-hb];unfold Gs K6;rw[Rv];by_cases h2:s[0]?=some 43<;>simp[h,h2]
  simp[hb];refine aa hC ?_;by_cases hP:b[0]?=some 80
  ·simp[hP];refine aa hL ?_;cases o with
   |true=>
    simp at hbd;simp[j9];refine⟨fun h1=>?_,fun h1=>?_⟩
    ·have:86399913600<n:=by omega
     simp[this,hP]
    ·have:¬86399913600<n:=by omega
     simp(disch:=omega)[wl,this,hP,h]
   |false=>simp
  ·simp[hP]
theorem Ry(a n:Int):Fn G2 T_ 154 [.int .i64 a,.int .i64 n] (.tuple [.int .i64 (addS a n).1,.int .i64 (addS a n).2]):=by
 refine ag hm K1 (by simp) ?_;simp[DP];have hw:0<=a->a<=315537897599->-86399913600<=n->n<=86399913600->IntKind.i64.wrap (a+n)=a+n:=fun _ _ _ _=>wrap_i64 (by omega) (by omega)
 obtain⟨w,hw'⟩:∃w,IntKind.i64.wrap (a+n)=w:=⟨_,rfl⟩;rw[hw']at hw;unfold addS;simp[j9,hw'];clear hw'
 grind
def tkP(s:Str)(c:UInt8)(u:Nat)(p:Nat×Nat):Nat×Nat:=match jB (s.drop p.1) c with
 |some (n,r)=>(p.1+BE 6 (s.drop p.1)+1,p.2+n*u)
 |none=>p
def TK:Option UInt8->IV
 |some c=>.tuple [.int .u8 c.toNat,.bool true]
 |none=>.tuple [.int .u8 0,.bool false]
theorem u8_is(c:UInt8)(n:Nat)(hn:n<256):c.toNat=n↔c=UInt8.ofNat n:=by
 rw[<-UInt8.toNat_inj];simp[Nat.mod_eq_of_lt hn]
theorem Rz(c:UInt8):Fn G2 T_ 281 [.int .u8 c.toNat] (TK (Dy c)):=by
 refine ag hm Bn (by simp) ?_;simp[uj];have hc:∀n:Nat,n<256->¬c=UInt8.ofNat n->¬c.toNat=n:=fun n hn h e=>h ((u8_is c n hn).1 e)
 by_cases h1:c=78
 ·subst h1;simp(disch:=omega)[wl,Dy,TK]
 ·have g1:=hc 78 (by omega) h1;by_cases h2:c=110
  ·subst h2;simp(disch:=omega)[wl,Dy,TK]
  ·have g2:=hc 110 (by omega) h2;by_cases h3:c=92
   ·subst h3;simp(disch:=omega)[wl,Dy,TK]
   ·have g3:=hc 92 (by omega) h3;by_cases h4:c=59
    ·subst h4;simp(disch:=omega)[wl,Dy,TK]
    ·have g4:=hc 59 (by omega) h4;by_cases h5:c=44
     ·subst h5;simp(disch:=omega)[wl,Dy,TK]
     ·have g5:=hc 44 (by omega) h5;simp(disch:=omega)[wl,Dy,TK,g1,g2,g3,g4,g5,h1,h2,h3,h4,h5]
def TL:PtX->IV
 |.bad p=>.tuple [.str [],.int .i64 0,.int .i64 p]
 |.ok t n=>.tuple [.str t,.int .i64 n,.int .i64 (-1)]
theorem DU(i:Nat)(a:Str):mq [] i a=.ok a i:=by rw[mq]
theorem Gz(c:UInt8)(r:Str)(i:Nat)(a:Str):mq (c::r) i a=if c=44 then .ok a i else if c=59 then .bad i else if c=92 then (match r with
  |[]=>.bad i
  |d::q=>match Dy d with
   |some m=>mq q (i+2) (a++[m])
   |none=>.bad i)else mq r (i+1) (a++[c]):=by
 rw[mq.eq_def];cases r<;>rfl
theorem TM(s:Str)(hs:s.length<100000):Fn G2 T_ 215 [.str s] (TL (mq s 0 [])):=by
 refine ag hm DS (by simp) ?_;simp[wx];refine ce hm [] (fun p:Nat×Str=>[(6,.val (.int .i64 p.1))]) (fun p=>[(5,.box [.selfN 5 309 false,.ownT 1 p.2.length 5]),(1,.arr p.2.length 1 (ay p.2))]) (fun p=>p.1<=s.length/\p.2.length<=p.1/\mq s 0 []=mq (s.drop p.1) p.1 p.2) (fun p=>s.length-p.1) (0,[]) ⟨by simp,by simp,rfl⟩ ?_ ?_
 ·exact cR.trans (J8 (k:=5) (d:=5) (t:=309) 1 5 (by simp) (by simp) (by simp[aC,ac]) (by simp[ac]) (by simp)) (ap rfl rfl (by simp[St.bld,bp,aC,ac,put,dT,SV.erase]) (by simp[St.bld,ch,ac,put,cC,gN,Ob.erase,SV.erase,ay]) (by simp[St.bld,cg]))
 rintro⟨i,a⟩ ⟨hi,ha,hp⟩;dsimp only at hi ha hp;rw[hp];clear hp;simp;by_cases h:i<s.length
 ·obtain⟨c,hc⟩:∃c,s[i]=c:=⟨_,rfl⟩;rw[List.drop_eq_getElem_cons h,hc,Gz];have hq:∀n:Nat,n<256->¬c=UInt8.ofNat n->¬c.toNat=n:=fun n hn h e=>h ((u8_is c n hn).1 e)
  have hW:=fun d:UInt8=>X6 (vh a.length a d (by omega))
  by_cases h1:c=44
  ·rw[if_pos h1];subst h1;simp(disch:=omega)[wl,hc];refine callM [(1000,5),(1001,1)] [] (X6 (wR a.length a (by omega))) rfl rfl (by simp[uY,gj,Vs.ren,ac,Ob.ren,SV.ren]) ⟨rfl,rfl⟩ rfl ?_;simp(disch:=omega)[wl,TL]
  ·have g1:=hq 44 (by omega) h1;rw[if_neg h1];by_cases h2:c=59
   ·rw[if_pos h2];subst h2;simp(disch:=omega)[wl,hc,TL]
   ·have g2:=hq 59 (by omega) h2;rw[if_neg h2];by_cases h3:c=92
    ·rw[if_pos h3];by_cases h4:i+1<s.length
     ·obtain⟨d,hd⟩:∃d,s[i+1]=d:=⟨_,rfl⟩;rw[List.drop_eq_getElem_cons h4,hd];have hM:=Rz d;have hd':s[i+1]?=some d:=by rw[List.getElem?_eq_getElem h4,hd]
      have e4:¬(i:Int)+1=s.length:=by omega
      subst h3;have e5:(0:Int)<=(i:Int)+1:=by omega
      simp(disch:=omega)[wl,hc,hd,e4,e5];refine aa hM ?_;cases hm':Dy d with
      |none=>simp(disch:=omega)[wl,TK,TL,hm']
      |some m=>
       simp(disch:=omega)[wl,TK];refine callM [(1000,5),(1001,1)] [] (hW m) rfl rfl ⟨rfl,rfl,trivial⟩ ⟨rfl,_,_,rfl,rfl,rfl⟩ rfl ?_;simp[gj];simp(disch:=omega)[wl];refine au (i+2,a++[m]) ⟨by omega,by simp;omega,by simp[hm']⟩ (by omega) ?_;have e7:(i:Int)+1+1=i+2:=by omega
       simp[e7];exact bQ
     ·have e4:(i:Int)+1=s.length:=by omega
      rw[List.drop_eq_nil_of_le (by omega)];subst h3;simp(disch:=omega)[wl,hc,e4,TL]
    ·have g3:=hq 92 (by omega) h3;rw[if_neg h3];simp(disch:=omega)[wl,hc,g1,g2,g3];refine callM [(1000,5),(1001,1)] [] (hW c) rfl rfl ⟨rfl,rfl,trivial⟩ ⟨rfl,_,_,rfl,rfl,rfl⟩ rfl ?_;simp[gj];simp(disch:=omega)[wl];refine au (i+1,a++[c]) ⟨by omega,by simp;omega,rfl⟩ (by omega) ?_;simp;exact bQ
 ·obtain rfl:i=s.length:=by omega
  rw[List.drop_length,DU];simp(disch:=omega)[wl];refine callM [(1000,5),(1001,1)] [] (X6 (wR a.length a (by omega))) rfl rfl (by simp[uY,gj,Vs.ren,ac,Ob.ren,SV.ren]) ⟨rfl,rfl⟩ rfl ?_;simp(disch:=omega)[wl,TL]
theorem TN(s:Str):match mq s 0 []with
  |.bad p=>p<s.length
  |.ok t n=>n<=s.length/\t.length<=s.length:=by
 suffices H:∀(k:Nat) (r:Str) (i:Nat) (a:Str),r.length<=k->match mq r i a with
   |.bad p=>p<i+r.length
   |.ok t n=>n<=i+r.length/\t.length<=a.length+r.length by
  have:=H s.length s 0 [] (by omega);simpa using this
 intro k
 induction k with
 |zero=>
  intro r i a hr;obtain rfl:r=[]:=List.eq_nil_of_length_eq_zero (by omega);rw[DU];simp
 |succ k ih=>
  intro r i a hr;cases r with
  |nil=>rw[DU];simp
  |cons c q=>
   simp only[List.length_cons]at hr |-;rw[Gz];by_cases h1:c=44
   ·rw[if_pos h1];simp
   rw[if_neg h1];by_cases h2:c=59
   ·rw[if_pos h2];simp
   rw[if_neg h2];by_cases h3:c=92
   ·rw[if_pos h3];cases q with
    |nil=>simp
    |cons d q=>
     simp only[List.length_cons]at hr |-;cases hm:Dy d with
     |none=>simp[hm]
     |some m=>
      have:=ih q (i+2) (a++[m]) (by omega);simp only[hm];revert this;cases mq q (i+2) (a++[m])<;>simp<;>omega
   ·rw[if_neg h3];have:=ih q (i+1) (a++[c]) (by omega);revert this;cases mq q (i+1) (a++[c])<;>simp<;>omega
def UA:UnX->IV
 |.bad p=>.tuple [.str [],cS 4 [(p:Int)]]
 |.ok t=>.tuple [.str t,.nili]
theorem K8(s:Str)(hs:s.length<100000):Fn G2 T_ 149 [.str s] (UA (WJ s)):=by
 refine ag hm xa (by simp) ?_;simp[pk];refine aa (TM s hs) ?_;have hb:=TN s;unfold WJ;cases hP:mq s 0 []with
 |bad p=>
  rw[hP]at hb;dsimp only at hb;have hN:=up (fd 4 p);simp(disch:=omega)[wl,TL,UA];refine aa hN ?_;simp(disch:=omega)[wl,UA]
 |ok t n=>
  rw[hP]at hb;dsimp only at hb;by_cases h:n<s.length
  ·have hN:=up (fd 4 n);simp(disch:=omega)[wl,TL,UA,h];refine aa hN ?_;simp(disch:=omega)[wl,UA,h]
  ·simp(disch:=omega)[wl,TL,UA,h]
def cm:Str->Nat
 |[]=>0
 |c::r=>if c=92 then (match r with
  |[]=>1
  |_::q=>cm q+2)else if c=44 then 0 else cm r+1
open Go.Vs.Mo Go.Vs.YtcjeehebikeghaaGreatDoor.Rc
def ms(l:List Mom):List (List IV):=l.map (fun v=>[.int .u8 v.k,.int .i64 v.s])
theorem gU(l:List Mom):(ms l).length=l.length:=by simp[ms]
theorem VG{l:List Mom}{i:Nat}{v:Mom}(h:i<l.length)(hv:l[i]=v):(ms l)[i]?=some [.int .u8 v.k,.int .i64 v.s]:=by
 simp[ms,List.getElem?_eq_getElem h,hv]
theorem LA(k:Int)(v:Mom)(r:List Mom):jW k (v::r)=if gE v≠0 then gE v else if v.k≠k then 11 else jW k r:=rfl
theorem Ou(k:Int):jW k []=0:=rfl
theorem K9(l:List Mom)(k:Int)(hl:l.length<100000)(hk:∀v∈l,0<=v.k):Fn G2 T_ 190 [.slice (ms l),.int .u8 k] (.int .i64 (jW k l)):=by
 refine ag hm F5 (by simp) ?_;simp[yT,gU];refine ce hm [6] (fun i:Nat=>[(10,.val (.int .i64 i))]) (fun _=>[]) (fun i=>i<=l.length/\jW k l=jW k (l.drop i)) (fun i=>l.length-i) 0 ⟨by omega,rfl⟩ ?_ ?_
 ·exact bQ
 rintro i ⟨hi,he⟩;rw[he];clear he;simp[gU];by_cases h:i<l.length
 ·obtain⟨v,hv⟩:∃v,l[i]=v:=⟨_,rfl⟩;have hg:=VG h hv;have hC:=qC v (hk v (hv▸List.getElem_mem h));simp only[lK]at hC;rw[List.drop_eq_getElem_cons h,hv,LA];simp(disch:=omega)[wl,gU,hg];refine aa hC ?_;by_cases h1:gE v=0
  ·by_cases h2:v.k=k
   ·simp(disch:=omega)[wl,h1,h2];refine au (i+1) ⟨by omega,by simp[h1,h2]⟩ (by omega) ?_;simp;exact bQ
   ·simp(disch:=omega)[wl,h1,h2]
  ·simp(disch:=omega)[wl,h1]
 ·obtain rfl:i=l.length:=by omega
  rw[List.drop_length,Ou];simp(disch:=omega)[wl,gU]
def TO(b:Mom)(r:Ru)(i o:List Mom):IV:=.agg ([.int .u8 b.k,.int .i64 b.s]++(cells r++[.slice (ms i),.slice (ms o)]))
structure FitS(b:Mom)(r:Ru)(i o:List Mom):Prop where
 bk:0<=b.k
 uk:0<=r.u.k
 il:i.length<100000
 ol:o.length<100000
 ik:∀v∈i,0<=v.k
 ok:∀v∈o,0<=v.k
 rf:zT r
theorem is_len(l:List Int):(is l).length=l.length:=by simp[is]
theorem Ka{b:Mom}{r:Ru}{i o:List Mom}(h:FitS b r i o):Fn G2 T_ 133 [TO b r i o] (.int .i64 (HS b r i o)):=by
 refine ag hm F2 (by simp) ?_;have hB:=qC b h.bk;have hR:=zU r h.rf h.uk;have hI:=K9 i b.k h.il h.ik;have hO:=K9 o b.k h.ol h.ok;have hi:=h.il;have ho:=h.ol;obtain⟨f4,f5,f6,f7,f8,f9,f10,f11,f12⟩:=h.rf;unfold Ru.iv cells at hR;simp only[lK]at hB;obtain⟨R,hRe⟩:∃R,HS b r i o=R:=⟨_,rfl⟩;rw[hRe];unfold HS at hRe;unfold TO cells;simp[yN,is_len,gU];refine aa hB ?_;by_cases h1:gE b=0
 ·rw[if_neg (by simp[h1])]at hRe;simp[h1];refine aa hR ?_;by_cases h2:mJ r=0
  ·rw[if_neg (by simp[h2])]at hRe;simp[h2];by_cases u:r.u.k≠0/\r.u.k≠b.k
   ·rw[if_pos u]at hRe;refine p5 hm ?_;simp(disch:=omega)[wl,u.1,u.2,hRe]
   ·rw[if_neg u]at hRe;refine PX hm [] [] (fun _:Unit=>[]) (fun _=>[]) (fun _=>True) ?_ ?_
    ·have u':r.u.k=0\/(¬r.u.k=0/\r.u.k=b.k):=by omega
     rcases u' with u1|⟨u1,u2⟩
     ·simp(disch:=omega)[wl,u1];refine dw () trivial ?_;simp;exact ap rfl rfl (by simp[bp,aC,ac,u1]) (by simp[ch,ac,u1]) (by simp[cg])
     ·simp(disch:=omega)[wl,u1,u2];refine dw () trivial ?_;simp;exact ap rfl rfl (by simp[bp,aC,ac,u2]) (by simp[ch,ac,u2]) (by simp[cg])
    ·rintro⟨⟩ -;simp;have q':r.f<3\/(¬r.f<3/\0<r.l6.length)\/(¬r.f<3/\¬0<r.l6.length/\0<r.l5.length)\/(¬r.f<3/\¬0<r.l6.length/\¬0<r.l5.length/\0<r.l4.length)\/(¬r.f<3/\¬0<r.l6.length/\¬0<r.l5.length/\¬0<r.l4.length):=by omega
     obtain⟨t,ht⟩:∃t,decide (r.f<3\/0<r.l6.length\/0<r.l5.length\/0<r.l4.length)=t:=⟨_,rfl⟩;refine PX hm [] [] (fun _:Unit=>[(6,.val (.bool t))]) (fun _=>[]) (fun _=>True) ?_ ?_
     ·rcases q' with q1|⟨q1,q2⟩|⟨q1,q2,q3⟩|⟨q1,q2,q3,q4⟩|⟨q1,q2,q3,q4⟩
      ·have:t=true:=by rw[<-ht];simp[q1]
       subst this;simp(disch:=omega)[wl,q1,is_len];refine dw () trivial ?_;simp;exact bQ
      ·have:t=true:=by rw[<-ht];simp[q1,q2]
       subst this;simp(disch:=omega)[wl,q1,q2,is_len];refine dw () trivial ?_;simp;exact bQ
      ·have:t=true:=by rw[<-ht];simp[q1,q2,q3]
       subst this;simp(disch:=omega)[wl,q1,q2,q3,is_len];refine dw () trivial ?_;simp;exact bQ
      ·have:t=true:=by rw[<-ht];simp[q1,q2,q3,q4]
       subst this;simp(disch:=omega)[wl,q1,q2,q3,q4,is_len];refine dw () trivial ?_;simp;exact bQ
      ·have:t=false:=by rw[<-ht,decide_eq_false_iff_not];omega
       subst this;simp(disch:=omega)[wl,q1,q2,q3,q4,is_len];refine dw () trivial ?_;simp;exact bQ
     ·rintro⟨⟩ -
      have hR2:(if b.k=1/\t=true then 9 else if 12<i.length\/12<o.length then 20 else if jW b.k i≠0 then jW b.k i else jW b.k o)=R:=by
       rw[<-hRe,<-ht];simp only[decide_eq_true_eq]
      clear hRe;simp;by_cases k:b.k=1/\t=true
      ·rw[if_pos k]at hR2;simp(disch:=omega)[wl,k.1,k.2,hR2]
      ·rw[if_neg k]at hR2;have k':t=false\/(t=true/\¬b.k=1):=by cases t<;>simp_all
       by_cases m:12<i.length\/12<o.length
       ·rw[if_pos m]at hR2;have m':(12:Int)<max (i.length:Int) o.length:=by omega
        rcases k' with k1|⟨k1,k2⟩
        ·simp(disch:=omega)[wl,k1,gU,m',hR2]
        ·simp(disch:=omega)[wl,k1,k2,gU,m',hR2]
       ·rw[if_neg m]at hR2;have m':¬(12:Int)<max (i.length:Int) o.length:=by omega
        rcases k' with k1|⟨k1,k2⟩
        ·simp(disch:=omega)[wl,k1,gU,m'];refine aa hI ?_;by_cases a:jW b.k i=0
         ·rw[if_neg (by simp[a])]at hR2;simp(disch:=omega)[wl,a];refine aa hO ?_;simp(disch:=omega)[wl,hR2]
         ·rw[if_pos a]at hR2;simp(disch:=omega)[wl,a,hR2]
        ·simp(disch:=omega)[wl,k1,k2,gU,m'];refine aa hI ?_;by_cases a:jW b.k i=0
         ·rw[if_neg (by simp[a])]at hR2;simp(disch:=omega)[wl,a];refine aa hO ?_;simp(disch:=omega)[wl,hR2]
         ·rw[if_pos a]at hR2;simp(disch:=omega)[wl,a,hR2]
  ·rw[if_pos h2]at hRe;simp(disch:=omega)[wl,h2,hRe]
 ·rw[if_pos h1]at hRe;simp(disch:=omega)[wl,h1,hRe]
end Go.Vs.YtcjeehebikeghaaGreatDoor.Vt
