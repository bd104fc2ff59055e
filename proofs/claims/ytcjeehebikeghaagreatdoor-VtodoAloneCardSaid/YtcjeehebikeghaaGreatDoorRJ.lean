/- A part of a proof. No conditions. -/
import Derived.Test.YtcjeehebikeghaaGreatDoorRI
import Derived.Test.YtcjeehebikeghaaGreatDoorRF
set_option linter.unusedVariables false
set_option linter.unusedSimpArgs false
set_option maxRecDepth 100000
set_option maxHeartbeats 16000000
namespace Go.Vs.YtcjeehebikeghaaGreatDoor.Rc
open Go.Proofs Go.Vs.U8 Go.Vs.Pa Go.Vs.Cv Go.Vs.Mo Go.Vs.Nu
theorem Tr(n:Int)(h:-1000000000000<=n):Fn G2 T_ 307 [.int .i64 n] (.int .i64 (n.natAbs:Nat)):=by
 refine ag hm EU (by simp) ?_;simp[yv];by_cases h0:n<0
 ·have e:(n.natAbs:Int) = -n:=by omega
  rw[e];simp(disch:=omega)[wl,h0]
 ·have e:(n.natAbs:Int)=n:=by omega
  rw[e];simp(disch:=omega)[wl,h0]
def Xo(k:Nat):IV:=.agg [.int .i64 (JO k),.int .i64 (JP k),.bool (Oc k)]
theorem fn_within(k:Nat)(h:k<14):Fn G2 T_ 250 [.int .i64 k] (Xo k):=by
 refine ag hm Bh (by simp) ?_;simp[tY];rcases XP h with rfl|rfl|rfl|rfl|rfl|rfl|rfl|rfl|rfl|rfl|rfl|rfl|rfl|rfl <;>
 ·simp(disch:=omega)[wl];rfl
theorem k7{k:Nat}(h:k<=6):k=0\/k=1\/k=2\/k=3\/k=4\/k=5\/k=6:=by omega
theorem Ts(k:Nat)(h:k<=6):Fn G2 T_ 201 [.int .u8 k] (.str (AK k)):=by
 refine ag hm ET (by simp) ?_;simp[yt];rcases k7 h with rfl|rfl|rfl|rfl|rfl|rfl|rfl <;>
 ·simp(disch:=omega)[wl];rfl
theorem Lv(l:List Str)(x:Str)(hl:l.length<1000000):Fn G2 T_ 284 [.slice (ts l),.str x] (.int .i64 (Lm l x)):=by
 refine ag hm rB (by simp) ?_;simp[ln,bE];refine ce hm [] (fun i:Nat=>[(8,.val (.int .i64 i))]) (fun _=>[]) (fun i=>i<=l.length/\x∉l.take i) (fun i=>l.length-i) 0 ⟨by omega,by simp⟩ ?_ ?_
 ·simp;exact bQ
 rintro i ⟨hi,hn⟩;simp[bE];by_cases h:i<l.length
 ·obtain⟨y,hy⟩:∃y,l[i]=y:=⟨_,rfl⟩;have hg:=rg h hy;by_cases e:x=y
  ·have hq:=Mm h (hy.trans e.symm) hn;rw[hq];simp(disch:=omega)[wl,bE,hg,e]
  ·simp(disch:=omega)[wl,bE,hg,e];refine au (i+1) ⟨by omega,take_no h hy hn e⟩ (by omega) ?_;simp;exact bQ
 ·obtain rfl:i=l.length:=by omega
  rw[List.take_length]at hn;rw[Mn hn];simp(disch:=omega)[wl]
theorem Gp(x:Str):Fn G2 T_ 218 [.str x] (.int .i64 (Lm rX x)):=by
 refine ag hm Bg (by simp) ?_;have hI:=Lv rX x (by decide);simp[tW];refine aa hI ?_;simp(disch:=omega)[wl]
def R5(s:Str):IV:=if 61∈s then .tuple [.str (s.take (s.idxOf 61)),.str (s.drop (s.idxOf 61+1)),.bool true]else .tuple [.str s,.str [],.bool false]
theorem Vz{s:Str}{c:UInt8}(h:c∉s):mB s c<0:=(CJ s c).2 h
theorem R6{s:Str}{c:UInt8}(h:c∈s):mB s c=(s.idxOf c:Nat):=by
 have hlt:=List.idxOf_lt_length_iff.2 h;refine He (by rw[List.getElem?_eq_getElem hlt,List.getElem_idxOf hlt]) fun hm'=>?_
 rw[List.mem_take_iff_getElem]at hm';obtain⟨j,hj,e⟩:=hm';have:=List.not_of_lt_findIdx (p:=(· == c)) (xs:=s) (i:=j) (by show j<s.idxOf c;omega);simp[e]at this
theorem R7(s:Str)(hs:s.length<1000000):Fn G2 T_ 283 [.str s,.str [61]] (R5 s):=by
 refine ag hm nA (by simp) ?_;have hI:=up (CW s 61);simp[iS];refine aa hI ?_;unfold R5;by_cases h:(61:UInt8)∈s
 ·have hlt:=List.idxOf_lt_length_iff.2 h;have e:mB s 61=(s.idxOf 61:Nat):=R6 h;rw[if_pos h,e];obtain⟨K,hK⟩:∃K,s.idxOf 61=K:=⟨_,rfl⟩;rw[hK]at hlt |-;simp(disch:=omega)[wl];omega
 ·have e:=Vz h;rw[if_neg h];simp(disch:=omega)[wl]
theorem VA(s:Str)(hs:s.length<1000000):Fn G2 T_ 217 [.str s,.str [61]] (R5 s):=by
 refine ag hm Dv (by simp) ?_;simp[vZ];refine aa (R7 s hs) ?_;unfold R5;by_cases h:(61:UInt8)∈s
 ·rw[if_pos h];simp(disch:=omega)[wl]
 ·rw[if_neg h];simp(disch:=omega)[wl]
theorem R8(x:Dn):Fn G2 T_ 309 [.agg [.int .i64 x.1,.int .i64 x.2]] (.bool (decide (x.1≠0))):=by
 refine ag hm mL (by simp) ?_;simp[iC]
def yx(x:Dn):Bool:=decide (x.1≠0)
def Ut(l:List Dn):Int:=if l.findIdx yx<l.length then (l.findIdx yx:Nat)else -1
theorem Tt(l:List Dn):0<=Ut l↔tE l=true:=by
 have he:=List.findIdx_lt_length (p:=yx) (xs:=l);show _↔l.any yx=true;rw[List.any_eq_true];unfold Ut;by_cases h:l.findIdx yx<l.length
 ·rw[if_pos h];exact⟨fun _=>he.1 h,fun _=>by omega⟩
 ·rw[if_neg h];exact⟨fun h'=>by omega,fun h'=>absurd (he.2 h') h⟩
theorem EV(l:List Dn)(hl:l.length<1000000):Fn G2 T_ 339 [.slice (zK l),.fn 309 []] (.int .i64 (Ut l)):=by
 refine ag hm oy (by simp) ?_;have hle:=List.findIdx_le_length (p:=yx) (xs:=l);simp[jk,co];refine ce hm [] (fun i:Nat=>[(8,.val (.int .i64 i))]) (fun _=>[]) (fun i=>i<=l.findIdx yx) (fun i=>l.length-i) 0 (by omega) ?_ ?_
 ·simp;exact bQ
 intro i hi;simp[co];by_cases h:i<l.length
 ·obtain⟨x,hx⟩:∃x,l[i]=x:=⟨_,rfl⟩;have hg:=Bz h hx;have hF:Fn G2 T_ 309 [.agg [.int .i64 x.1,.int .i64 x.2]] (.bool (yx x)):=R8 x;by_cases hp:yx x=true
  ·have e:l.findIdx yx=i:=by
    have:¬i<l.findIdx yx:=fun hlt=>by
     have:=List.not_of_lt_findIdx hlt;rw[hx]at this;simp[hp]at this
    omega
   have hR:Ut l=i:=by unfold Ut;rw[e,if_pos h]
   rw[hR];rw[hp]at hF;simp(disch:=omega)[wl,co,hg];refine aa hF ?_;simp(disch:=omega)[wl]
  ·have e:l.findIdx yx≠i:=fun e=>by
    have:=List.findIdx_getElem (p:=yx) (xs:=l) (w:=by omega);simp only[e,hx]at this;exact hp this
   have hp':yx x=false:=by simpa using hp
   rw[hp']at hF;simp(disch:=omega)[wl,co,hg];refine aa hF ?_;simp(disch:=omega)[wl];refine au (i+1) (by omega) (by omega) ?_;simp;exact bQ
 ·have hR:Ut l = -1:=by unfold Ut;rw[if_neg (by omega)]
  rw[hR];simp(disch:=omega)[wl,co]
theorem zS(l:List Dn)(hl:l.length<1000000):Fn G2 T_ 308 [.slice (zK l),.fn 309 []] (.bool (tE l)):=by
 refine ag hm mo (by simp) ?_;have hI:=EV l hl
 have:tE l=decide (0<=Ut l):=by
  rw[Bool.eq_iff_iff,decide_eq_true_eq];exact(Tt l).symm
 rw[this];simp[ie];refine aa hI ?_;simp
theorem R9{α:Type}{l:List α}{i:Nat}{x:α}(h:i<l.length)(hx:l[i]=x)(hm':x∈l.take i):¬l.Nodup:=fun hn=>by
 have h1:=(List.take_sublist (i+1) l).nodup hn;rw[List.take_succ_eq_append_getElem h,hx]at h1;exact(List.nodup_append.1 h1).2.2 x hm' x (by simp) rfl
theorem Mx{α:Type}{l:List α}{i:Nat}{x:α}(h:i<l.length)(hx:l[i]=x)(hn:(l.take i).Nodup)(hm':x∉l.take i):(l.take (i+1)).Nodup:=by
 rw[List.take_succ_eq_append_getElem h,hx];refine List.nodup_append.2 ⟨hn,by simp,?_⟩;intro a ha b hb;simp at hb;subst hb;exact fun e=>hm' (e▸ha)
theorem Ra{α:Type}{l:List α}{p:α->Bool}{i:Nat}{x:α}(h:i<l.length)(hx:l[i]=x):(l.drop i).any p=(p x||(l.drop (i+1)).any p):=by
 rw[List.drop_eq_getElem_cons h,hx,List.any_cons]
theorem Rb(l:List Int)(i:Nat):(is l).take i=is (l.take i):=by simp[is]
theorem Oi(l:List Dn)(i:Nat):(zK l).take i=zK (l.take i):=by simp[zK]
theorem VB(l:List Int):∀row∈is l,row.length=1:=fun r hr=>by
 simp only[is,List.mem_map]at hr;obtain⟨_,_,rfl⟩:=hr;rfl
theorem Tu(l:List Dn):∀row∈zK l,row.length=2:=fun r hr=>by
 simp only[zK,List.mem_map]at hr;obtain⟨_,_,rfl⟩:=hr;rfl
theorem Rd(l:List Int)(lo hi:Int)(sg:Bool)(hl:l.length<1000000)(h1:0<=lo)(h2:lo<=1)(h3:0<=hi)(h4:hi<=1000):Fn G2 T_ 249 [.slice (is l),.agg [.int .i64 lo,.int .i64 hi,.bool sg]] (.int .i64 (Dj lo hi sg l)):=by
 refine ag hm Dw (by simp) ?_;obtain⟨R,hR⟩:∃R,Dj lo hi sg l=R:=⟨_,rfl⟩;rw[hR];unfold Dj at hR;simp[wa,is_len];by_cases h0:12<l.length
 ·rw[if_pos h0]at hR;subst hR;simp(disch:=omega)[wl,is_len]
 ·rw[if_neg h0]at hR;simp(disch:=omega)[wl,is_len];refine ce hm [] (fun i:Nat=>[(14,.val (.int .i64 i))]) (fun _=>[(3,.box [.val (.int .i64 lo),.val (.int .i64 hi),.val (.bool sg)])]) (fun i=>i<=l.length/\(l.drop i).any (zP lo hi sg)=l.any (zP lo hi sg)) (fun i=>l.length-i) 0 ⟨by omega,by simp⟩ ?_ ?_
  ·simp;exact bQ
  rintro i ⟨hq,hc⟩;simp[is_len];by_cases h:i<l.length
  ·obtain⟨n,hx⟩:∃n,l[i]=n:=⟨_,rfl⟩;have hg:=Ll h hx;rw[Ra h hx]at hc;have next:zP lo hi sg n=false->(l.drop (i+1)).any (zP lo hi sg)=l.any (zP lo hi sg):=fun e=>by rw[<-hc,e,Bool.false_or]
   have bad:zP lo hi sg n=true->R=8:=fun e=>by
    rw[<-hc,e,Bool.true_or,if_pos rfl]at hR;exact hR.symm
   by_cases a1:n < -hi
   ·have:=bad (by simp[zP];omega);subst this;simp(disch:=omega)[wl,is_len,hg];rfl
   ·have hS:=Tr n (by omega);obtain⟨u,hu⟩:∃u,n.natAbs=u:=⟨_,rfl⟩;rw[hu]at hS;simp(disch:=omega)[wl,is_len,hg];refine aa hS ?_;by_cases a2:(u:Int)<lo
    ·have:=bad (by simp[zP,hu];omega);subst this;simp(disch:=omega)[wl];rfl
    ·simp(disch:=omega)[wl];refine aa hS ?_;by_cases a3:hi<(u:Int)
     ·have:=bad (by simp[zP,hu];omega);subst this;simp(disch:=omega)[wl];rfl
     ·by_cases a4:n<0
      ·cases sg with
       |false=>
        have:=bad (by simp[zP,hu];omega);subst this;simp(disch:=omega)[wl,a4];rfl
       |true=>
        have hn:=next (by simp[zP,hu];omega)
        simp(disch:=omega)[wl,a4];refine⟨rfl,?_⟩;refine au (i+1) ⟨by omega,hn⟩ (by omega) ?_;simp;exact bQ
      ·have hn:=next (by simp[zP,hu];omega)
       simp(disch:=omega)[wl,a4];refine⟨rfl,?_⟩;refine au (i+1) ⟨by omega,hn⟩ (by omega) ?_;simp;exact bQ
  ·obtain rfl:i=l.length:=by omega
   rw[List.drop_length]at hc;rw[<-hc,if_neg (by simp)]at hR;simp(disch:=omega)[wl,is_len];refine ce hm [] (fun i:Nat=>[(49,.val (.int .i64 i))]) (fun _=>[]) (fun i=>i<=l.length/\(l.take i).Nodup) (fun i=>l.length-i) 0 ⟨by omega,by simp⟩ ?_ ?_
   ·simp;exact bQ
   rintro i ⟨hq,hc⟩;simp[is_len];by_cases h:i<l.length
   ·obtain⟨n,hx⟩:∃n,l[i]=n:=⟨_,rfl⟩;have hg:=Ll h hx;have hC:=up (rT (l.take i) n (by rw[List.length_take];omega));simp(disch:=omega)[wl,is_len,hg,Rb];refine⟨⟨by omega,VB l⟩,?_⟩;refine aa hC ?_;by_cases hm':n∈l.take i
    ·rw[if_neg (R9 h hx hm')]at hR;subst hR;simp(disch:=omega)[wl,hm']
    ·simp(disch:=omega)[wl,hm'];refine au (i+1) ⟨by omega,Mx h hx hc hm'⟩ (by omega) ?_;simp;exact bQ
   ·obtain rfl:i=l.length:=by omega
    rw[List.take_length]at hc;rw[if_pos hc]at hR;subst hR;simp(disch:=omega)[wl,is_len]
theorem Re(d:Int):NY d=[]↔(d<0\/6<d):=by
 constructor
 ·intro h;by_cases h1:0<=d
  ·by_cases h2:d<=6
   ·have:=(T7 h1 h2).2;rw[h]at this;simp at this
   ·omega
  ·omega
 ·intro h;have h0:¬d=0:=by omega
  have h1:¬d=1:=by omega
  have h2:¬d=2:=by omega
  have h3:¬d=3:=by omega
  have h4:¬d=4:=by omega
  have h5:¬d=5:=by omega
  have h6:¬d=6:=by omega
  simp[NY,h0,h1,h2,h3,h4,h5,h6];intro a b;omega
theorem HM(l:List Dn)(hl:l.length<1000000):Fn G2 T_ 248 [.slice (zK l)] (.int .i64 (Dl l)):=by
 refine ag hm x6 (by simp) ?_;obtain⟨R,hR⟩:∃R,Dl l=R:=⟨_,rfl⟩;rw[hR];unfold Dl at hR;simp[ph,co];by_cases h0:12<l.length
 ·rw[if_pos h0]at hR;subst hR;simp(disch:=omega)[wl,co]
 ·rw[if_neg h0]at hR;simp(disch:=omega)[wl,co];refine ce hm [] (fun i:Nat=>[(12,.val (.int .i64 i))]) (fun _=>[]) (fun i=>i<=l.length/\(l.drop i).any Dk=l.any Dk) (fun i=>l.length-i) 0 ⟨by omega,by simp⟩ ?_ ?_
  ·simp;exact bQ
  rintro i ⟨hq,hc⟩;simp[co];by_cases h:i<l.length
  ·obtain⟨x,hx⟩:∃x,l[i]=x:=⟨_,rfl⟩;have hg:=Bz h hx;rw[Ra h hx]at hc;have next:Dk x=false->(l.drop (i+1)).any Dk=l.any Dk:=fun e=>by rw[<-hc,e,Bool.false_or]
   have bad:Dk x=true->R=8:=fun e=>by
    rw[<-hc,e,Bool.true_or,if_pos rfl]at hR;exact hR.symm
   have hW:=up (tu x.2);have hwn:=Re x.2;obtain⟨t,ht⟩:∃t,NY x.2=t:=⟨_,rfl⟩;rw[ht]at hW hwn;simp(disch:=omega)[wl,co,hg];refine aa hW ?_;by_cases a1:t=[]
   ·have a1':=hwn.1 a1;have:=bad (by simp[Dk];omega);subst this;simp(disch:=omega)[wl,a1]
   ·have a1':¬(x.2<0\/6<x.2):=fun e=>a1 (hwn.2 e)
    by_cases a2:x.1 < -53
    ·have:=bad (by simp[Dk];omega);subst this;simp(disch:=omega)[wl,a1]
    ·by_cases a3:53<x.1
     ·have:=bad (by simp[Dk];omega);subst this;simp(disch:=omega)[wl,a1]
     ·have hn:=next (by simp[Dk];omega)
      simp(disch:=omega)[wl,a1];refine au (i+1) ⟨by omega,hn⟩ (by omega) ?_;simp;exact bQ
  ·obtain rfl:i=l.length:=by omega
   rw[List.drop_length]at hc;rw[<-hc,if_neg (by simp)]at hR;simp(disch:=omega)[wl,co];refine ce hm [] (fun i:Nat=>[(33,.val (.int .i64 i))]) (fun _=>[]) (fun i=>i<=l.length/\(l.take i).Nodup) (fun i=>l.length-i) 0 ⟨by omega,by simp⟩ ?_ ?_
   ·simp;exact bQ
   rintro i ⟨hq,hc⟩;simp[co];by_cases h:i<l.length
   ·obtain⟨x,hx⟩:∃x,l[i]=x:=⟨_,rfl⟩;have hg:=Bz h hx;have hC:=up (tr (l.take i) x (by rw[List.length_take];omega));simp(disch:=omega)[wl,co,hg,Oi];refine⟨⟨by omega,Tu l⟩,?_⟩;refine aa hC ?_;by_cases hm':x∈l.take i
    ·rw[if_neg (R9 h hx hm')]at hR;subst hR;simp(disch:=omega)[wl,hm'];rfl
    ·simp(disch:=omega)[wl,hm'];refine⟨rfl,?_⟩;refine au (i+1) ⟨by omega,Mx h hx hc hm'⟩ (by omega) ?_;simp;exact bQ
   ·obtain rfl:i=l.length:=by omega
    rw[List.take_length]at hc;rw[if_pos hc]at hR;subst hR;simp(disch:=omega)[wl,co]
def cells(r:Ru):List IV:=[.int .u8 r.f,.int .i64 r.i,.int .i64 r.c,.int .u8 r.u.k,.int .i64 r.u.s,.slice (is r.l4),.slice (is r.l5),.slice (is r.l6),.slice (zK r.l7),.slice (is r.l8),.slice (is r.l9),.slice (is r.l10),.slice (is r.l11),.slice (is r.l12),.int .i64 r.w]
def Ru.iv(r:Ru):IV:=.agg (cells r)
theorem Tv(r:Ru)(hk:0<=r.u.k):Fn G2 T_ 247 [.ref (cells r)] (.int .i64 (Gf r)):=by
 refine ag hm ow (by simp) ?_;have hC:=qC r.u hk;have hW:=up (tu r.w);have hwn:=Re r.w;obtain⟨t,ht⟩:∃t,NY r.w=t:=⟨_,rfl⟩;rw[ht]at hW hwn;obtain⟨R,hR⟩:∃R,Gf r=R:=⟨_,rfl⟩;rw[hR];unfold Gf at hR;unfold cells;simp[jg];by_cases h0:6<r.f
 ·rw[if_pos h0]at hR;subst hR;simp(disch:=omega)[wl,h0]
 ·rw[if_neg h0]at hR;by_cases a1:r.i<1
  ·rw[if_pos (by omega)]at hR;subst hR;simp(disch:=omega)[wl,h0,a1]
  ·by_cases a2:1000<r.i
   ·rw[if_pos (by omega)]at hR;subst hR;simp(disch:=omega)[wl,h0,a1,a2]
   ·by_cases a3:r.c<0
    ·rw[if_pos (by omega)]at hR;subst hR;simp(disch:=omega)[wl,h0,a1,a2,a3]
    ·by_cases a4:1000<r.c
     ·rw[if_pos (by omega)]at hR;subst hR;simp(disch:=omega)[wl,h0,a1,a2,a3,a4]
     ·simp(disch:=omega)[wl,h0,a1,a2,a3,a4];refine aa hW ?_;by_cases a5:t=[]
      ·have:=hwn.1 a5;rw[if_pos (by omega)]at hR;subst hR;simp(disch:=omega)[wl,a5]
      ·have a5':¬(r.w<0\/6<r.w):=fun e=>a5 (hwn.2 e)
       rw[if_neg (by omega)]at hR;simp(disch:=omega)[wl,a5];unfold lK at hC;by_cases b1:r.u.k=0
       ·by_cases b2:r.u.s=0
        ·have hu:r.u=⟨0,0⟩:=by
          cases hru:r.u with
          |mk x y=>
           rw[hru]at b1 b2;simp only at b1 b2;rw[b1,b2]
         rw[if_pos hu]at hR;subst hR;simp(disch:=omega)[wl,b1,b2]
        ·have hu:¬r.u=⟨0,0⟩:=fun e=>b2 (by rw[e])
         rw[if_neg hu,if_pos b1]at hR;subst hR;simp(disch:=omega)[wl,b1,b2]
       ·have hu:¬r.u=⟨0,0⟩:=fun e=>b1 (by rw[e])
        rw[if_neg hu,if_neg b1]at hR;obtain⟨e,he⟩:∃e,gE r.u=e:=⟨_,rfl⟩;rw[he]at hC hR;simp(disch:=omega)[wl,b1];refine aa hC ?_;by_cases h1:e=0
        ·subst h1;rw[if_neg (by simp)]at hR;by_cases h2:0<r.c
         ·rw[if_pos h2]at hR;subst hR;simp(disch:=omega)[wl,h2]
         ·rw[if_neg h2]at hR;subst hR;simp(disch:=omega)[wl,h2]
        ·rw[if_pos h1]at hR;subst hR;simp(disch:=omega)[wl,h1]
theorem k8{k:Nat}(h:k∈dj)(h7:k≠7):k=4\/k=5\/k=6\/k=8\/k=9\/k=10\/k=11\/k=12:=by
 simp only[dj,List.mem_cons,List.not_mem_nil,or_false]at h;omega
theorem JU(r:Ru)(k:Nat)(h:k∈dj)(h7:k≠7):Fn G2 T_ 204 [.ref (cells r),.int .i64 k] (.ref ((cells r).drop (k+1))):=by
 refine ag hm iR (by simp) ?_;unfold cells;simp[fm];rcases k8 h h7 with rfl|rfl|rfl|rfl|rfl|rfl|rfl|rfl <;>
 ·simp(disch:=omega)[wl]
theorem drop_at(r:Ru)(k:Nat)(h:k∈dj)(h7:k≠7):∃l,(cells r).drop (k+1)=.slice (is (Uq r k))::l:=by
 rcases k8 h h7 with rfl|rfl|rfl|rfl|rfl|rfl|rfl|rfl<;>exact⟨_,rfl⟩
def zT(r:Ru):Prop:=r.l4.length<100000/\r.l5.length<100000/\r.l6.length<100000/\r.l7.length<100000/\r.l8.length<100000/\r.l9.length<100000/\r.l10.length<100000/\r.l11.length<100000/\r.l12.length<100000
theorem Rf{r:Ru}(hf:zT r){k:Nat}(h:k∈dj)(h7:k≠7):(Uq r k).length<100000:=by
 obtain⟨h4,h5,h6,_,h8,h9,h10,h11,h12⟩:=hf;rcases k8 h h7 with rfl|rfl|rfl|rfl|rfl|rfl|rfl|rfl<;>assumption
def Dx(r:Ru)(k:Nat):Nat:=r.l7.length+(if 4<k then r.l4.length else 0)+(if 5<k then r.l5.length else 0)+(if 6<k then r.l6.length else 0)+(if 8<k then r.l8.length else 0)+(if 9<k then r.l9.length else 0)+(if 10<k then r.l10.length else 0)+(if 11<k then r.l11.length else 0)
theorem Rg(r:Ru){k:Nat}(h:k∈dj)(h12:k<12):Dx r (k+1)=Dx r k+(if k=7 then 0 else (Uq r k).length):=by
 simp only[dj,List.mem_cons,List.not_mem_nil,or_false]at h;have h:k=4\/k=5\/k=6\/k=7\/k=8\/k=9\/k=10\/k=11:=by omega
 rcases h with rfl|rfl|rfl|rfl|rfl|rfl|rfl|rfl<;>simp[Dx,Uq]<;>omega
theorem VC{r:Ru}(hf:zT r)(k:Nat):Dx r k<1000000:=by
 obtain⟨h4,h5,h6,h7,h8,h9,h10,h11,h12⟩:=hf;unfold Dx
 repeat' split
 all_goals omega
theorem Tw(r:Ru)(hf:zT r):Fn G2 T_ 251 [.ref (cells r)] (.bool (decide (¬HI r))):=by
 refine ag hm ox (by simp) ?_;have hN:=zS r.l7 (by have:=hf.2.2.2.1;omega);obtain⟨N,hNe⟩:∃N,tE r.l7=N:=⟨_,rfl⟩;rw[hNe]at hN;obtain⟨R,hR⟩:∃R,decide (¬HI r)=R:=⟨_,rfl⟩;rw[hR];have hbad:HI r->R=false:=fun h=>by rw[<-hR];simpa using h
 have hgood:¬HI r->R=true:=fun h=>by rw[<-hR];simpa using h
 unfold HI at hbad hgood;rw[hNe]at hbad hgood;have hacc:=VC hf;have hoth:Ls r=Dx r 12:=by simp[Ls,Dx]
 rw[hoth]at hbad hgood;have hfit:=@Rf r hf;simp[ji,cells];refine aa hN ?_;simp(disch:=omega)[wl];refine PW hm (fun _:Unit=>⟨[(0,.val (.ref (cells r)))],[],[],109,G2⟩) (fun _=>¬(N=true/\(r.f<5\/0<r.l10.length))) (fun _=>rfl) ?_ ?_
 ·by_cases c1:N=true/\(r.f<5\/0<r.l10.length)
  ·have:=hbad (.inl c1);subst this;obtain⟨rfl,c2⟩:=c1;by_cases c3:r.f<5
   ·simp(disch:=omega)[wl,c3]
   ·have c4:=c2.resolve_left c3;simp(disch:=omega)[wl,c3,is_len,c4]
  ·cases N with
   |false=>
    simp(disch:=omega)[wl];refine dw () c1 ?_;exact ap rfl rfl (by simp[bp,aC,ac,cells]) (by simp[ch,ac]) (by simp[cg])
   |true=>
    have c3:¬r.f<5:=fun h=>c1 ⟨rfl,.inl h⟩
    have c4:¬0<r.l10.length:=fun h=>c1 ⟨rfl,.inr h⟩
    simp(disch:=omega)[wl,c3,is_len,c4];refine dw () c1 ?_;exact ap rfl rfl (by simp[bp,aC,ac,cells]) (by simp[ch,ac]) (by simp[cg])
 intro _ d1;simp[cells];refine PW hm (fun _:Unit=>⟨[(0,.val (.ref (cells r)))],[],[],109,G2⟩) (fun _=>¬(0<r.l8.length/\r.f=4)/\¬(0<r.l10.length/\r.f≠6)) (fun _=>rfl) ?_ ?_
 ·by_cases c1:0<r.l8.length
  ·by_cases c2:r.f=4
   ·have:=hbad (.inr (.inl ⟨c1,c2⟩));subst this;simp(disch:=omega)[wl,is_len,c1,c2]
   ·by_cases c3:0<r.l10.length
    ·by_cases c4:r.f=6
     ·simp(disch:=omega)[wl,is_len,c1,c2,c3,c4];refine dw () ⟨fun h=>by omega,fun h=>by omega⟩ ?_;exact ap rfl rfl (by simp[bp,aC,ac,cells,c4]) (by simp[ch,ac]) (by simp[cg])
     ·have:=hbad (.inr (.inr (.inl ⟨c3,c4⟩)));subst this;simp(disch:=omega)[wl,is_len,c1,c2,c3,c4]
    ·simp(disch:=omega)[wl,is_len,c1,c2,c3];refine dw () ⟨fun h=>by omega,fun h=>by omega⟩ ?_;exact ap rfl rfl (by simp[bp,aC,ac,cells]) (by simp[ch,ac]) (by simp[cg])
  ·by_cases c3:0<r.l10.length
   ·by_cases c4:r.f=6
    ·simp(disch:=omega)[wl,is_len,c1,c3,c4];refine dw () ⟨fun h=>by omega,fun h=>by omega⟩ ?_;exact ap rfl rfl (by simp[bp,aC,ac,cells,c4]) (by simp[ch,ac]) (by simp[cg])
    ·have:=hbad (.inr (.inr (.inl ⟨c3,c4⟩)));subst this;simp(disch:=omega)[wl,is_len,c1,c3,c4]
   ·simp(disch:=omega)[wl,is_len,c1,c3];refine dw () ⟨fun h=>by omega,fun h=>by omega⟩ ?_;exact ap rfl rfl (by simp[bp,aC,ac,cells]) (by simp[ch,ac]) (by simp[cg])
 rintro _ ⟨d2,d3⟩;simp[cells];refine PW hm (fun _:Unit=>⟨[(0,.val (.ref (cells r)))],[],[],109,G2⟩) (fun _=>¬(0<r.l9.length/\(r.f=3\/r.f=4\/r.f=5))) (fun _=>rfl) ?_ ?_
 ·by_cases c1:0<r.l9.length
  ·by_cases c2:r.f=3
   ·have:=hbad (.inr (.inr (.inr (.inl ⟨c1,.inl c2⟩))));subst this;simp(disch:=omega)[wl,is_len,c1,c2]
   ·by_cases c3:r.f=4
    ·have:=hbad (.inr (.inr (.inr (.inl ⟨c1,.inr (.inl c3)⟩))));subst this;simp(disch:=omega)[wl,is_len,c1,c2,c3]
    ·by_cases c4:r.f=5
     ·have:=hbad (.inr (.inr (.inr (.inl ⟨c1,.inr (.inr c4)⟩))));subst this;simp(disch:=omega)[wl,is_len,c1,c2,c3,c4]
     ·simp(disch:=omega)[wl,is_len,c1,c2,c3,c4];refine dw () (fun h=>by omega) ?_;exact ap rfl rfl (by simp[bp,aC,ac,cells]) (by simp[ch,ac]) (by simp[cg])
  ·simp(disch:=omega)[wl,is_len,c1];refine dw () (fun h=>by omega) ?_;exact ap rfl rfl (by simp[bp,aC,ac,cells]) (by simp[ch,ac]) (by simp[cg])
 intro _ d4;by_cases c1:r.l12.length=0
 ·have:=hgood (fun h=>by rcases h with h|h|h|h|h<;>first|exact d1 h|exact d2 h|exact d3 h|exact d4 h|omega);subst this;have c2:r.l12=[]:=List.eq_nil_of_length_eq_zero c1;simp(disch:=omega)[wl,cells,is_len,c1]
 ·have hgo:R=decide (0<Dx r 12):=by
   by_cases h:Dx r 12=0
   ·rw[hbad (.inr (.inr (.inr (.inr ⟨by omega,h⟩))))];simp[h]
   ·rw[hgood (fun h'=>by rcases h' with h'|h'|h'|h'|h'<;>first|exact d1 h'|exact d2 h'|exact d3 h'|exact d4 h'|omega)];simp;omega
  simp(disch:=omega)[wl,cells,is_len,co,c1];refine ce hm [] (fun k:Nat=>[(5,.val (.int .i64 k)),(4,.val (.int .i64 (Dx r k:Nat))),(0,.val (.ref (cells r)))]) (fun _=>[]) (fun k=>4<=k/\k<=12) (fun k=>12-k) 4 ⟨by omega,by omega⟩ ?_ ?_
  ·simp[Dx,cells];exact bQ
  rintro k ⟨k1,k2⟩;simp;by_cases h:k<12
  ·have hk:k∈dj:=by simp[dj];omega
   have hstep:=Rg r hk h;have ha:=hacc k;by_cases h7:k=7
   ·rw[if_pos h7]at hstep;simp(disch:=omega)[wl,h7];refine au (k+1) ⟨by omega,by omega⟩ (by omega) ?_;simp[hstep];subst h7;exact bQ
   ·rw[if_neg h7]at hstep;obtain⟨rest,hd⟩:=drop_at r k hk h7;have hL:=JU r k hk h7;have hfk:=hfit hk h7;rw[hd]at hL;have ha':=hacc (k+1);simp(disch:=omega)[wl,h7];refine aa hL ?_;simp(disch:=omega)[wl,is_len];refine au (k+1) ⟨by omega,by omega⟩ (by omega) ?_;simp[hstep];exact bQ
  ·obtain rfl:k=12:=by omega
   subst hgo;simp(disch:=omega)[wl]
theorem JV(r:Ru){k:Nat}(h:k∈dj):tD ((dj.drop (k-4)).map (tC r))=if tC r k=0 then tD ((dj.drop (k-3)).map (tC r))else tC r k:=by
 simp only[dj,List.mem_cons,List.not_mem_nil,or_false]at h;rcases h with rfl|rfl|rfl|rfl|rfl|rfl|rfl|rfl|rfl<;>rfl
theorem WI(k:Nat):0<=JO k/\JO k<=1/\JO k<=JP k/\0<=JP k/\JP k<=1000:=by
 unfold JO JP;split<;>split<;>omega
def ef(r:Ru):List SV:=[.val (.int .u8 r.f),.val (.int .i64 r.i),.val (.int .i64 r.c),.val (.int .u8 r.u.k),.val (.int .i64 r.u.s),.val (.slice (is r.l4)),.val (.slice (is r.l5)),.val (.slice (is r.l6)),.val (.slice (zK r.l7)),.val (.slice (is r.l8)),.val (.slice (is r.l9)),.val (.slice (is r.l10)),.val (.slice (is r.l11)),.val (.slice (is r.l12)),.val (.int .i64 r.w)]
theorem zU(r:Ru)(hf:zT r)(hk:0<=r.u.k):Fn G2 T_ 189 [r.iv] (.int .i64 (mJ r)):=by
 refine ag hm Du (by simp) ?_;have hH:=Tv r hk;have hF:=Tw r hf;obtain⟨R,hR⟩:∃R,mJ r=R:=⟨_,rfl⟩;rw[hR];unfold mJ at hR;obtain⟨e,he⟩:∃e,Gf r=e:=⟨_,rfl⟩;rw[he]at hH hR;unfold Ru.iv;unfold cells at hH hF;simp[vX,cells];refine aa hH ?_;by_cases h0:e=0
 ·subst h0;rw[if_neg (by simp)]at hR;simp(disch:=omega)[wl];obtain⟨F,hFe⟩:∃F,tD (dj.map (tC r))=F:=⟨_,rfl⟩;rw[hFe]at hR;have hfit:=@Rf r hf;have f7:=hf.2.2.2.1;refine J6 hm (fun k:Nat=>⟨[(4,.val (.int .i64 k)),(3,.val (.int .i64 0)),(2,.val (.int .i64 0)),(1,.loc 1 0)],[(1,.box (ef r))],[1],31,G2⟩) (fun k=>4<=k/\k<=13/\tD ((dj.drop (k-4)).map (tC r))=F) (fun k=>13-k) 4 ⟨by omega,by omega,by simpa using hFe⟩ ?_ (fun _=>rfl) ?_
  ·simp[ef];exact bQ
  rintro k ⟨k1,k2,hc⟩;simp[ef];by_cases h:k<=12
  ·have hk':k∈dj:=by simp[dj];omega
   rw[JV r hk']at hc;obtain⟨e,he⟩:∃e,tC r k=e:=⟨_,rfl⟩;rw[he]at hc
   have next:e=0->tD ((dj.drop (k+1-4)).map (tC r))=F:=fun h0=>by
    rw[if_pos h0]at hc;rw[show k+1-4=k-3 by omega];exact hc
   have bad:e≠0->R=e:=fun h0=>by
    rw[if_neg h0]at hc;subst hc;rw[if_pos h0]at hR;exact hR.symm
   by_cases h7:k=7
   ·subst h7;have he':Dl r.l7=e:=he;have hS:=HM r.l7 (by omega);rw[he']at hS;simp(disch:=omega)[wl];refine aa hS ?_;by_cases he0:e=0
    ·have hn:=next he0
     subst he0;simp(disch:=omega)[wl];refine au 8 ⟨by omega,by omega,hn⟩ (by omega) ?_;simp[ef];exact bQ
    ·have:=bad he0;subst this;simp(disch:=omega)[wl,he0]
   ·have he':Dj (JO k) (JP k) (Oc k) (Uq r k)=e:=by unfold tC at he;rwa[if_neg h7]at he
    obtain⟨rest,hd⟩:=drop_at r k hk' h7;have hL:=JU r k hk' h7;have hfk:=hfit hk' h7;rw[hd]at hL;unfold cells at hL;obtain⟨w1,w2,w3,w4,w5⟩:=WI k;have hW:=fn_within k (by omega);have hS:=Rd (Uq r k) (JO k) (JP k) (Oc k) (by omega) w1 w2 w4 w5;rw[he']at hS;unfold Xo at hW;simp(disch:=omega)[wl,h7];refine aa hL ?_;simp(disch:=omega)[wl];refine aa hW ?_;simp(disch:=omega)[wl];refine aa hS ?_;by_cases he0:e=0
    ·have hn:=next he0
     subst he0;simp(disch:=omega)[wl];refine⟨rfl,?_⟩;refine au (k+1) ⟨by omega,by omega,hn⟩ (by omega) ?_;simp[ef];exact bQ
    ·have:=bad he0;subst this;simp(disch:=omega)[wl,he0];rfl
  ·obtain rfl:k=13:=by omega
   have hF0:0=F:=hc;subst hF0;rw[if_neg (by simp)]at hR;simp(disch:=omega)[wl];refine aa hF ?_;by_cases hb:HI r
   ·rw[if_pos hb]at hR;subst hR;simp(disch:=omega)[wl,hb]
   ·rw[if_neg hb]at hR;subst hR;simp(disch:=omega)[wl,hb]
 ·rw[if_pos h0]at hR;subst hR;simp(disch:=omega)[wl,h0]
end Go.Vs.YtcjeehebikeghaaGreatDoor.Rc
