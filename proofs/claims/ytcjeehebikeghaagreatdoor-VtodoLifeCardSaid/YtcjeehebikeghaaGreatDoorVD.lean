/- The walk of span: a length, Parse, Add. No conditions. -/
import Derived.Test.YtcjeehebikeghaaGreatDoorVC
set_option linter.unusedVariables false
set_option linter.unusedSimpArgs false
set_option maxRecDepth 100000
set_option maxHeartbeats 16000000
namespace Go.Vs.YtcjeehebikeghaaGreatDoor.Vt
open Go.Proofs Go.Vs.U8 Go.Vs.Pa Go.Vs.Nu Go.Vs.Vt
def wv(s:Str)(m:Nat):Nat×Bool:=if Cg s m=true then ((Lw (s.drop 1) m).2.1,decide ((Lw (s.drop 1) m).1=[]))else (0,false)
def oD(s:Str):Nat×Bool:=match kA s 87 with
 |some (n,r)=>(n*604800,decide (r=[]))
 |none=>match kA s 68 with
  |some (n,r)=>if r=[]then (n*86400,true)else wv r (n*86400)
  |none=>wv s 0
theorem Ok(s:Str)(m:Nat):QP s m=if (wv s m).2=true then some (wv s m).1 else none:=by
 unfold QP wv Cg
 grind
theorem W7(s:Str):VT s=if (oD s).2=true then some (oD s).1 else none:=by
 unfold VT oD;cases kA s 87 with
 |some p=>simp
 |none=>
  cases kA s 68 with
  |some p=>
   simp only[];split
   ·rfl
   ·exact Ok ..
  |none=>exact Ok ..
theorem LI(s:Str)(m:Nat):(Lw s m).2.1≤m+4000000000:=by
 unfold Lw;have b0:=K9 72 3600 s m 0;obtain⟨⟨s0,m0,k0⟩,e0⟩:∃p,tk 72 3600 (s,m,0)=p:=⟨_,rfl⟩;rw[e0]at b0 ⊢;have b1:=K9 77 60 s0 m0 k0;obtain⟨⟨s1,m1,k1⟩,e1⟩:∃p,tk 77 60 (s0,m0,k0)=p:=⟨_,rfl⟩;rw[e1]at b1 ⊢;have b2:=K9 83 1 s1 m1 k1;dsimp only at *;omega
theorem SS(s:Str)(hs:s.length<1000000):Fn G2 Tryz.prog rI [.str s] (.tuple [.int .i64 (oD s).1,.bool (oD s).2]):=by
 refine ag hm Gw (by simp) ?_;simp[ym,yn];have g0:=jE s 0 0 87 604800 hs (by omega) (by omega) (by omega);cases h0:kA s 87 with
 |some p=>
  obtain⟨n,r⟩:=p;have hL:oD s=(n*604800,decide (r=[])):=by unfold oD;rw[h0]
  rw[Bh h0,h0]at g0;rw[hL];refine callM [(1000,4)] [] g0 rfl rfl ⟨rfl,trivial⟩ ⟨rfl,[],[],rfl,⟨[],[],rfl,rfl,rfl⟩,rfl⟩ rfl ?_;simp(disch:=omega)[wl,Bu]
 |none=>
  rw[yq h0,h0]at g0;have gD:=jE s 0 0 68 86400 hs (by omega) (by omega) (by omega);refine callM [(1000,4)] [] g0 rfl rfl ⟨rfl,trivial⟩ ⟨rfl,[],[],rfl,⟨[],[],rfl,rfl,rfl⟩,rfl⟩ rfl ?_;simp(disch:=omega)[wl,Bu];cases h1:kA s 68 with
  |some p=>
   obtain⟨n,r⟩:=p;rw[Bh h1,h1]at gD;have hn:=E9 h1;refine callM [(1000,4)] [] gD rfl rfl ⟨rfl,trivial⟩ ⟨rfl,[],[],rfl,⟨[],[],rfl,rfl,rfl⟩,rfl⟩ rfl ?_;by_cases e:r=[]
   ·have hL:oD s=(n*86400,true):=by unfold oD;rw[h0,h1];simp[e]
    rw[hL];simp(disch:=omega)[wl,Bu,e]
   ·have hL:oD s=wv r (n*86400):=by unfold oD;rw[h0,h1];simp[e]
    rw[hL];simp(disch:=omega)[wl,Bu,e];have gC:=Ka r (n*86400) 1 (by omega) (by omega) (by omega);have bC:=LI (r.drop 1) (n*86400);have hS:Cg r (n*86400)=true→LH r (n*86400) 1=Lw (r.drop 1) (n*86400):=fun h=>by unfold Cg at h;simp at h;unfold LH;rw[if_pos (by simp[h])]
    refine callM [(1000,4)] [] (gC) rfl rfl ⟨by simp[ac,Bu,Ob.ren,SV.ren,Vs.ren],trivial⟩ ⟨rfl,rfl⟩ rfl ?_;unfold wv;cases hB:Cg r (n*86400)with
    |true=>
     rw[hS hB];simp(disch:=omega)[wl,Bu]
    |false=>
     simp(disch:=omega)[wl,Bu]
  |none=>
   rw[yq h1,h1]at gD;have hL:oD s=wv s 0:=by unfold oD;rw[h0,h1]
   rw[hL];refine callM [(1000,4)] [] gD rfl rfl ⟨rfl,trivial⟩ ⟨rfl,[],[],rfl,⟨[],[],rfl,rfl,rfl⟩,rfl⟩ rfl ?_;simp(disch:=omega)[wl,Bu];have gC:=Ka s 0 0 hs (by omega) (by omega);have bC:=LI (s.drop 1) 0;have hS:Cg s 0=true→LH s 0 0=Lw (s.drop 1) 0:=fun h=>by unfold Cg at h;simp at h;unfold LH;rw[if_pos (by simp[h])]
   refine callM [(1000,4)] [] (gC) rfl rfl ⟨by simp[ac,Bu,Ob.ren,SV.ren,Vs.ren],trivial⟩ ⟨rfl,rfl⟩ rfl ?_;unfold wv;cases hB:Cg s 0 with
   |true=>
    rw[hS hB];simp(disch:=omega)[wl,Bu]
   |false=>
    simp(disch:=omega)[wl,Bu]
theorem W8(s:Str):(oD s).1<1000000000000:=by
 unfold oD;cases h0:kA s 87 with
 |some p=>have:=E9 h0;simp;omega
 |none=>
  cases h1:kA s 68 with
  |some p=>
   have:=E9 h1;have:=LI (p.2.drop 1) (p.1*86400);simp only[];split
   ·dsimp only;omega
   ·unfold wv;split<;>(dsimp only;omega)
  |none=>
   have:=LI (s.drop 1) 0;simp only[];unfold wv;split<;>(dsimp only;omega)
theorem PU(s:Str)(hs:s.length<1000000):Fn G2 Tryz.prog tN [.str s] (.tuple [.int .i64 (ue s).1,.int .i64 (ue s).2]):=by
 refine ag hm I6 (by simp) ?_;simp[Bd,Be];refine aa (LG s [45] hs (by simp)) ?_;obtain⟨b,hb⟩:∃b,K5 s=b:=⟨_,rfl⟩;have hbl:b.length<1000000:=by rw[←hb];unfold K5;split<;>(try rw[List.length_drop])<;>omega
 have hC:=LG b [80] hbl (by simp);have hL:=SS (b.drop 1) (by rw[List.length_drop];omega);have hbd:=W8 (b.drop 1);have hR:=W7 (b.drop 1);unfold ue;rw[hb];obtain⟨⟨n,o⟩,ho⟩:∃p,oD (b.drop 1)=p:=⟨_,rfl⟩;rw[ho]at hL hbd hR;rw[List.drop_one]at hL;rw[hR];clear hR ho;unfold cutP at hC ⊢;rw[W0]at hC ⊢;by_cases h:s[0]?=some 45
 ·have hb:s.drop 1=b:=by rw[←hb];unfold K5;rw[if_pos (.inl h)]
  simp[h,hb];refine aa hC ?_;by_cases hP:b[0]?=some 80
  ·simp[hP];refine aa hL ?_;cases o with
   |true=>
    simp at hbd;simp[jL];refine⟨fun h1=>?_,fun h1=>?_⟩
    ·have:86399913600<n:=by omega
     simp[this,hP]
    ·have:¬86399913600<n:=by omega
     simp(disch:=omega)[wl,this,hP,h]
   |false=>simp
  ·simp[hP]
 ·simp[h];refine aa (VZ s [43] hs (by simp)) ?_
  have hb:Oj s [43]=b:=by
   rw[←hb];unfold K5 Oj;rw[W0];by_cases h2:s[0]?=some 43<;>simp[h,h2]
  simp[hb];refine aa hC ?_;by_cases hP:b[0]?=some 80
  ·simp[hP];refine aa hL ?_;cases o with
   |true=>
    simp at hbd;simp[jL];refine⟨fun h1=>?_,fun h1=>?_⟩
    ·have:86399913600<n:=by omega
     simp[this,hP]
    ·have:¬86399913600<n:=by omega
     simp(disch:=omega)[wl,this,hP,h]
   |false=>simp
  ·simp[hP]
theorem W9(a n:Int):Fn G2 Tryz.prog zb [.int .i64 a,.int .i64 n] (.tuple [.int .i64 (addS a n).1,.int .i64 (addS a n).2]):=by
 refine ag hm Oe (by simp) ?_;simp[Gu,Gv];have hw:0≤a→a≤315537897599→-86399913600≤n→n≤86399913600→IntKind.i64.wrap (a+n)=a+n:=fun _ _ _ _=>wrap_i64 (by omega) (by omega)
 obtain⟨w,hw'⟩:∃w,IntKind.i64.wrap (a+n)=w:=⟨_,rfl⟩;rw[hw']at hw;unfold addS;simp[jL,hw'];clear hw'
 grind
def tkP(s:Str)(c:UInt8)(u:Nat)(p:Nat×Nat):Nat×Nat:=match kA (s.drop p.1) c with
 |some (n,r)=>(p.1+E8 6 (s.drop p.1)+1,p.2+n*u)
 |none=>p
def Yg:Option UInt8→IV
 |some c=>.tuple [.int .u8 c.toNat,.bool true]
 |none=>.tuple [.int .u8 0,.bool false]
theorem u8_is(c:UInt8)(n:Nat)(hn:n<256):c.toNat=n↔c=UInt8.ofNat n:=by
 rw[←UInt8.toNat_inj];simp[Nat.mod_eq_of_lt hn]
theorem Wa(c:UInt8):Fn G2 Tryz.prog pZ [.int .u8 c.toNat] (Yg (Ga c)):=by
 refine ag hm DN (by simp) ?_;simp[wo,wq];have hc:∀n:Nat,n<256→¬c=UInt8.ofNat n→¬c.toNat=n:=fun n hn h e=>h ((u8_is c n hn).1 e)
 by_cases h1:c=78
 ·subst h1;simp(disch:=omega)[wl,Ga,Yg]
 ·have g1:=hc 78 (by omega) h1;by_cases h2:c=110
  ·subst h2;simp(disch:=omega)[wl,Ga,Yg]
  ·have g2:=hc 110 (by omega) h2;by_cases h3:c=92
   ·subst h3;simp(disch:=omega)[wl,Ga,Yg]
   ·have g3:=hc 92 (by omega) h3;by_cases h4:c=59
    ·subst h4;simp(disch:=omega)[wl,Ga,Yg]
    ·have g4:=hc 59 (by omega) h4;by_cases h5:c=44
     ·subst h5;simp(disch:=omega)[wl,Ga,Yg]
     ·have g5:=hc 44 (by omega) h5;simp(disch:=omega)[wl,Ga,Yg,g1,g2,g3,g4,g5,h1,h2,h3,h4,h5]
def Yh:PtX→IV
 |.bad p=>.tuple [.str [],.int .i64 0,.int .i64 p]
 |.ok t n=>.tuple [.str t,.int .i64 n,.int .i64 (-1)]
theorem Gz(i:Nat)(a:Str):nN [] i a=.ok a i:=by rw[nN]
theorem Kb(c:UInt8)(r:Str)(i:Nat)(a:Str):nN (c::r) i a=if c=44 then .ok a i else if c=59 then .bad i else if c=92 then (match r with
  |[]=>.bad i
  |d::q=>match Ga d with
   |some m=>nN q (i+2) (a++[m])
   |none=>.bad i)else nN r (i+1) (a++[c]):=by
 rw[nN.eq_def];cases r<;>rfl
theorem Yi(s:Str)(hs:s.length<100000):Fn G2 Tryz.prog rJ [.str s] (Yh (nN s 0 [])):=by
 refine ag hm Gx (by simp) ?_;simp[yo,yp];refine bS hm [] (fun p:Nat×Str=>[(6,.val (.int .i64 p.1))]) (fun p=>[(5,.box [.selfN 5 309 false,.ownT 1 p.2.length 5]),(1,.arr p.2.length 1 (az p.2))]) (fun p=>p.1≤s.length∧p.2.length≤p.1∧nN s 0 []=nN (s.drop p.1) p.1 p.2) (fun p=>s.length-p.1) (0,[]) ⟨by simp,by simp,rfl⟩ ?_ ?_
 ·exact d5.trans (Nd (k:=5) (d:=5) (t:=309) 1 5 (by simp) (by simp) (by simp[aC,ac]) (by simp[ac]) (by simp)) (ap rfl rfl (by simp[St.bld,bv,aC,ac,put,dJ,SV.erase]) (by simp[St.bld,cC,ac,put,cK,iB,Ob.erase,SV.erase,az]) (by simp[St.bld,ct]))
 rintro⟨i,a⟩ ⟨hi,ha,hp⟩;dsimp only at hi ha hp;rw[hp];clear hp;simp;by_cases h:i<s.length
 ·obtain⟨c,hc⟩:∃c,s[i]=c:=⟨_,rfl⟩;rw[List.drop_eq_getElem_cons h,hc,Kb];have hq:∀n:Nat,n<256→¬c=UInt8.ofNat n→¬c.toNat=n:=fun n hn h e=>h ((u8_is c n hn).1 e)
  have hW:=fun d:UInt8=>upM (xk a.length a d (by omega))
  by_cases h1:c=44
  ·rw[if_pos h1];subst h1;simp(disch:=omega)[wl,hc];refine callM [(1000,5),(1001,1)] [] (upM (yL a.length a (by omega))) rfl rfl (by simp[xe,gW,Vs.ren,ac,Ob.ren,SV.ren]) ⟨rfl,rfl⟩ rfl ?_;simp(disch:=omega)[wl,Yh]
  ·have g1:=hq 44 (by omega) h1;rw[if_neg h1];by_cases h2:c=59
   ·rw[if_pos h2];subst h2;simp(disch:=omega)[wl,hc,Yh]
   ·have g2:=hq 59 (by omega) h2;rw[if_neg h2];by_cases h3:c=92
    ·rw[if_pos h3];by_cases h4:i+1<s.length
     ·obtain⟨d,hd⟩:∃d,s[i+1]=d:=⟨_,rfl⟩;rw[List.drop_eq_getElem_cons h4,hd];have hM:=Wa d;have hd':s[i+1]?=some d:=by rw[List.getElem?_eq_getElem h4,hd]
      have e4:¬(i:Int)+1=s.length:=by omega
      subst h3;have e5:(0:Int)≤(i:Int)+1:=by omega
      simp(disch:=omega)[wl,hc,hd,e4,e5];refine aa hM ?_;cases hm':Ga d with
      |none=>simp(disch:=omega)[wl,Yg,Yh,hm']
      |some m=>
       simp(disch:=omega)[wl,Yg];refine callM [(1000,5),(1001,1)] [] (hW m) rfl rfl ⟨rfl,rfl,trivial⟩ ⟨rfl,_,_,rfl,rfl,rfl⟩ rfl ?_;simp[gW];simp(disch:=omega)[wl];refine aq (i+2,a++[m]) ⟨by omega,by simp;omega,by simp[hm']⟩ (by omega) ?_;have e7:(i:Int)+1+1=i+2:=by omega
       simp[e7];exact bT
     ·have e4:(i:Int)+1=s.length:=by omega
      rw[List.drop_eq_nil_of_le (by omega)];subst h3;simp(disch:=omega)[wl,hc,e4,Yh]
    ·have g3:=hq 92 (by omega) h3;rw[if_neg h3];simp(disch:=omega)[wl,hc,g1,g2,g3];refine callM [(1000,5),(1001,1)] [] (hW c) rfl rfl ⟨rfl,rfl,trivial⟩ ⟨rfl,_,_,rfl,rfl,rfl⟩ rfl ?_;simp[gW];simp(disch:=omega)[wl];refine aq (i+1,a++[c]) ⟨by omega,by simp;omega,rfl⟩ (by omega) ?_;simp;exact bT
 ·obtain rfl:i=s.length:=by omega
  rw[List.drop_length,Gz];simp(disch:=omega)[wl];refine callM [(1000,5),(1001,1)] [] (upM (yL a.length a (by omega))) rfl rfl (by simp[xe,gW,Vs.ren,ac,Ob.ren,SV.ren]) ⟨rfl,rfl⟩ rfl ?_;simp(disch:=omega)[wl,Yh]
theorem Yj(s:Str):match nN s 0 []with
  |.bad p=>p<s.length
  |.ok t n=>n≤s.length∧t.length≤s.length:=by
 suffices H:∀(k:Nat) (r:Str) (i:Nat) (a:Str),r.length≤k→match nN r i a with
   |.bad p=>p<i+r.length
   |.ok t n=>n≤i+r.length∧t.length≤a.length+r.length by
  have:=H s.length s 0 [] (by omega);simpa using this
 intro k
 induction k with
 |zero=>
  intro r i a hr;obtain rfl:r=[]:=List.eq_nil_of_length_eq_zero (by omega);rw[Gz];simp
 |succ k ih=>
  intro r i a hr;cases r with
  |nil=>rw[Gz];simp
  |cons c q=>
   simp only[List.length_cons]at hr ⊢;rw[Kb];by_cases h1:c=44
   ·rw[if_pos h1];simp
   rw[if_neg h1];by_cases h2:c=59
   ·rw[if_pos h2];simp
   rw[if_neg h2];by_cases h3:c=92
   ·rw[if_pos h3];cases q with
    |nil=>simp
    |cons d q=>
     simp only[List.length_cons]at hr ⊢;cases hm:Ga d with
     |none=>simp[hm]
     |some m=>
      have:=ih q (i+2) (a++[m]) (by omega);simp only[hm];revert this;cases nN q (i+2) (a++[m])<;>simp<;>omega
   ·rw[if_neg h3];have:=ih q (i+1) (a++[c]) (by omega);revert this;cases nN q (i+1) (a++[c])<;>simp<;>omega
def Z9:UnX→IV
 |.bad p=>.tuple [.str [],dp 4 [(p:Int)]]
 |.ok t=>.tuple [.str t,.nili]
theorem Ol(s:Str)(hs:s.length<100000):Fn G2 Tryz.prog mg [.str s] (Z9 (unR s)):=by
 refine ag hm zd (by simp) ?_;simp[qO,qP];refine aa (Yi s hs) ?_;have hb:=Yj s;unfold unR;cases hP:nN s 0 []with
 |bad p=>
  rw[hP]at hb;dsimp only at hb;have hN:=up (fQ 4 p);simp(disch:=omega)[wl,Yh,Z9];refine aa hN ?_;simp(disch:=omega)[wl,Z9]
 |ok t n=>
  rw[hP]at hb;dsimp only at hb;by_cases h:n<s.length
  ·have hN:=up (fQ 4 n);simp(disch:=omega)[wl,Yh,Z9,h];refine aa hN ?_;simp(disch:=omega)[wl,Z9,h]
  ·simp(disch:=omega)[wl,Yh,Z9,h]
def cm:Str→Nat
 |[]=>0
 |c::r=>if c=92 then (match r with
  |[]=>1
  |_::q=>cm q+2)else if c=44 then 0 else cm r+1
open Go.Vs.Mo Go.Vs.YtcjeehebikeghaaGreatDoor.Rc
def ms(l:List Mom):List (List IV):=l.map (fun v=>[.int .u8 v.k,.int .i64 v.s])
theorem fG(l:List Mom):(ms l).length=l.length:=by simp[ms]
theorem PV{l:List Mom}{i:Nat}{v:Mom}(h:i<l.length)(hv:l[i]=v):(ms l)[i]?=some [.int .u8 v.k,.int .i64 v.s]:=by
 simp[ms,List.getElem?_eq_getElem h,hv]
theorem PW(k:Int)(v:Mom)(r:List Mom):kT k (v::r)=if i6 v≠0 then i6 v else if v.k≠k then 11 else kT k r:=rfl
theorem ST(k:Int):kT k []=0:=rfl
theorem Om(l:List Mom)(k:Int)(hl:l.length<100000)(hk:∀v∈l,0≤v.k):Fn G2 Tryz.prog oV [.slice (ms l),.int .u8 k] (.int .i64 (kT k l)):=by
 refine ag hm I7 (by simp) ?_;simp[Bf,Bg,fG];refine bS hm [6] (fun i:Nat=>[(10,.val (.int .i64 i))]) (fun _=>[]) (fun i=>i≤l.length∧kT k l=kT k (l.drop i)) (fun i=>l.length-i) 0 ⟨by omega,rfl⟩ ?_ ?_
 ·exact bT
 rintro i ⟨hi,he⟩;rw[he];clear he;simp[fG];by_cases h:i<l.length
 ·obtain⟨v,hv⟩:∃v,l[i]=v:=⟨_,rfl⟩;have hg:=PV h hv;have hC:=sw v (hk v (hv▸List.getElem_mem h));simp only[n9]at hC;rw[List.drop_eq_getElem_cons h,hv,PW];simp(disch:=omega)[wl,fG,hg];refine aa hC ?_;by_cases h1:i6 v=0
  ·by_cases h2:v.k=k
   ·simp(disch:=omega)[wl,h1,h2];refine aq (i+1) ⟨by omega,by simp[h1,h2]⟩ (by omega) ?_;simp;exact bT
   ·simp(disch:=omega)[wl,h1,h2]
  ·simp(disch:=omega)[wl,h1]
 ·obtain rfl:i=l.length:=by omega
  rw[List.drop_length,ST];simp(disch:=omega)[wl,fG]
def Yk(b:Mom)(r:Ru)(i o:List Mom):IV:=.agg ([.int .u8 b.k,.int .i64 b.s]++(cells r++[.slice (ms i),.slice (ms o)]))
structure FitS(b:Mom)(r:Ru)(i o:List Mom):Prop where
 bk:0≤b.k
 uk:0≤r.u.k
 il:i.length<100000
 ol:o.length<100000
 ik:∀v∈i,0≤v.k
 ok:∀v∈o,0≤v.k
 rf:wa r
theorem is_len(l:List Int):(is l).length=l.length:=by simp[is]
theorem On{b:Mom}{r:Ru}{i o:List Mom}(h:FitS b r i o):Fn G2 Tryz.prog tM [Yk b r i o] (.int .i64 (Ly b r i o)):=by
 refine ag hm I4 (by simp) ?_;have hB:=sw b h.bk;have hR:=C9 r h.rf h.uk;have hI:=Om i b.k h.il h.ik;have hO:=Om o b.k h.ol h.ok;have hi:=h.il;have ho:=h.ol;obtain⟨f4,f5,f6,f7,f8,f9,f10,f11,f12⟩:=h.rf;unfold Ru.iv cells at hR;simp only[n9]at hB;obtain⟨R,hRe⟩:∃R,Ly b r i o=R:=⟨_,rfl⟩;rw[hRe];unfold Ly at hRe;unfold Yk cells;simp[B9,Ba,is_len,fG];refine aa hB ?_;by_cases h1:i6 b=0
 ·rw[if_neg (by simp[h1])]at hRe;simp[h1];refine aa hR ?_;by_cases h2:o5 r=0
  ·rw[if_neg (by simp[h2])]at hRe;simp[h2];by_cases u:r.u.k≠0∧r.u.k≠b.k
   ·rw[if_pos u]at hRe;refine qA hm ?_;simp(disch:=omega)[wl,u.1,u.2,hRe]
   ·rw[if_neg u]at hRe;refine Un hm [] [] (fun _:Unit=>[]) (fun _=>[]) (fun _=>True) ?_ ?_
    ·have u':r.u.k=0∨(¬r.u.k=0∧r.u.k=b.k):=by omega
     rcases u' with u1|⟨u1,u2⟩
     ·simp(disch:=omega)[wl,u1];refine dM () trivial ?_;simp;exact ap rfl rfl (by simp[bv,aC,ac,u1]) (by simp[cC,ac,u1]) (by simp[ct])
     ·simp(disch:=omega)[wl,u1,u2];refine dM () trivial ?_;simp;exact ap rfl rfl (by simp[bv,aC,ac,u2]) (by simp[cC,ac,u2]) (by simp[ct])
    ·rintro⟨⟩ -;simp;have q':r.f<3∨(¬r.f<3∧0<r.l6.length)∨(¬r.f<3∧¬0<r.l6.length∧0<r.l5.length)∨(¬r.f<3∧¬0<r.l6.length∧¬0<r.l5.length∧0<r.l4.length)∨(¬r.f<3∧¬0<r.l6.length∧¬0<r.l5.length∧¬0<r.l4.length):=by omega
     obtain⟨t,ht⟩:∃t,decide (r.f<3∨0<r.l6.length∨0<r.l5.length∨0<r.l4.length)=t:=⟨_,rfl⟩;refine Un hm [] [] (fun _:Unit=>[(6,.val (.bool t))]) (fun _=>[]) (fun _=>True) ?_ ?_
     ·rcases q' with q1|⟨q1,q2⟩|⟨q1,q2,q3⟩|⟨q1,q2,q3,q4⟩|⟨q1,q2,q3,q4⟩
      ·have:t=true:=by rw[←ht];simp[q1]
       subst this;simp(disch:=omega)[wl,q1,is_len];refine dM () trivial ?_;simp;exact bT
      ·have:t=true:=by rw[←ht];simp[q1,q2]
       subst this;simp(disch:=omega)[wl,q1,q2,is_len];refine dM () trivial ?_;simp;exact bT
      ·have:t=true:=by rw[←ht];simp[q1,q2,q3]
       subst this;simp(disch:=omega)[wl,q1,q2,q3,is_len];refine dM () trivial ?_;simp;exact bT
      ·have:t=true:=by rw[←ht];simp[q1,q2,q3,q4]
       subst this;simp(disch:=omega)[wl,q1,q2,q3,q4,is_len];refine dM () trivial ?_;simp;exact bT
      ·have:t=false:=by rw[←ht,decide_eq_false_iff_not];omega
       subst this;simp(disch:=omega)[wl,q1,q2,q3,q4,is_len];refine dM () trivial ?_;simp;exact bT
     ·rintro⟨⟩ -
      have hR2:(if b.k=1∧t=true then 9 else if 12<i.length∨12<o.length then 20 else if kT b.k i≠0 then kT b.k i else kT b.k o)=R:=by
       rw[←hRe,←ht];simp only[decide_eq_true_eq]
      clear hRe;simp;by_cases k:b.k=1∧t=true
      ·rw[if_pos k]at hR2;simp(disch:=omega)[wl,k.1,k.2,hR2]
      ·rw[if_neg k]at hR2;have k':t=false∨(t=true∧¬b.k=1):=by cases t<;>simp_all
       by_cases m:12<i.length∨12<o.length
       ·rw[if_pos m]at hR2;have m':(12:Int)<max (i.length:Int) o.length:=by omega
        rcases k' with k1|⟨k1,k2⟩
        ·simp(disch:=omega)[wl,k1,fG,m',hR2]
        ·simp(disch:=omega)[wl,k1,k2,fG,m',hR2]
       ·rw[if_neg m]at hR2;have m':¬(12:Int)<max (i.length:Int) o.length:=by omega
        rcases k' with k1|⟨k1,k2⟩
        ·simp(disch:=omega)[wl,k1,fG,m'];refine aa hI ?_;by_cases a:kT b.k i=0
         ·rw[if_neg (by simp[a])]at hR2;simp(disch:=omega)[wl,a];refine aa hO ?_;simp(disch:=omega)[wl,hR2]
         ·rw[if_pos a]at hR2;simp(disch:=omega)[wl,a,hR2]
        ·simp(disch:=omega)[wl,k1,k2,fG,m'];refine aa hI ?_;by_cases a:kT b.k i=0
         ·rw[if_neg (by simp[a])]at hR2;simp(disch:=omega)[wl,a];refine aa hO ?_;simp(disch:=omega)[wl,hR2]
         ·rw[if_pos a]at hR2;simp(disch:=omega)[wl,a,hR2]
  ·rw[if_pos h2]at hRe;simp(disch:=omega)[wl,h2,hRe]
 ·rw[if_pos h1]at hRe;simp(disch:=omega)[wl,h1,hRe]
end Go.Vs.YtcjeehebikeghaaGreatDoor.Vt
