/- A part of a proof. No conditions. -/
import Derived.Test.YtcjeehebikeghaaGreatDoorNB
set_option linter.unusedVariables false
set_option linter.unusedSimpArgs false
set_option maxRecDepth 100000
set_option maxHeartbeats 4000000
namespace Go.Vs.YtcjeehebikeghaaGreatDoor
open Go.Proofs Go.Vs.U8 Go.Vs.Pa Go.Vs.Nu Go.Lib
def Uo:Str:=[48,49,50,51,52,53,54,55,56,57]
theorem p8:Uo.length=10:=rfl
theorem Hs:¬Uo=[]:=by simp[Uo]
theorem Vp{i:Nat}(h:i<10):∃c,Uo[i]?=some c/\c.toNat=48+i:=by
 have:i=0\/i=1\/i=2\/i=3\/i=4\/i=5\/i=6\/i=7\/i=8\/i=9:=by omega
 rcases this with rfl|rfl|rfl|rfl|rfl|rfl|rfl|rfl|rfl|rfl<;>exact⟨_,rfl,rfl⟩
theorem y7:Fn G T_ 290 [.str Uo] (.tuple [.agg (zv 10),.bool true]):=by
 refine ag hm qq (by simp) ?_;simp[kF,CP,p8];refine ce hm [] (fun i:Nat=>[(4,.val (.int .i64 i))]) (fun i=>[(2,.box (zs i))]) (fun i=>i<=10) (fun i=>10-i) 0 (by omega) ?_ ?_
 ·simp[sW];exact bQ
 intro i hi;simp[p8,sW];by_cases h:i<10
 ·obtain⟨c,hc,hcn⟩:=Vp h;have hst:=T0 i h;have e0:(48+(i:Int)).toNat=48+i:=by omega
  simp(disch:=omega)[wl,p8,hc,hcn,pA,hst,e0];refine⟨by omega,by omega,?_⟩;refine au (i+1) (by omega) (by omega) ?_;simp[hst];exact bQ
 ·obtain rfl:i=10:=by omega
  simp(disch:=omega)[wl,p8,pA,Hk,Hm,Vk,Lf,Hl,Hn,zC]
theorem qt(c:UInt8):Fn G T_ 332 [.ref (zv 10),.int .u8 c.toNat] (.bool (dL c)):=by
 refine ag hm ml (by simp) ?_;obtain⟨r,hr⟩:=T1 c;have hc:c.toNat<256:=c.toNat_lt;simp[i7,hr];omega
theorem Lk(x:Str)(c:UInt8):dS (x++[c])=if dL c=true then dS x else x++[c]:=by
 unfold dS;rw[List.reverse_append];cases h:dL c<;>simp[h]
theorem p9(s:Str)(hs:s.length<1000000):Fn G T_ 291 [.str s,.ref (zv 10)] (.str (dS s)):=by
 refine ag hm oP (by simp) ?_;simp[jx];refine ce hm [] (fun k:Nat=>[(0,.val (.str (s.take k)))]) (fun _=>[]) (fun k=>k<=s.length/\dS (s.take k)=dS s) (fun k=>k) s.length ⟨by omega,by simp⟩ ?_ ?_
 ·simp;exact bQ
 rintro k ⟨hk,ht⟩;have hl:(s.take k).length=k:=by rw[List.length_take];omega
 simp[hl];cases k with
 |zero=>
  have:dS s=[]:=by rw[<-ht];simp[dS]
  simp(disch:=omega)[wl,this]
 |succ k=>
  have h:k<s.length:=by omega
  obtain⟨c,hc⟩:∃c,s[k]=c:=⟨_,rfl⟩;have hx:s.take (k+1)=s.take k++[c]:=by rw[List.take_succ_eq_append_getElem h,hc]
  have hC:=qt c;have hg:(s.take (k+1))[k]?=some c:=by rw[List.getElem?_take_of_lt (by omega),List.getElem?_eq_getElem h,hc]
  have hkk:(s.take (k+1)).take k=s.take k:=by rw[List.take_take,Nat.min_eq_left (by omega)]
  rw[hx,Lk]at ht;obtain⟨S,hS⟩:∃S,s.take (k+1)=S:=⟨_,rfl⟩;rw[hS]at hg hkk hl hx |-
  have hgc:S[k]'(by omega)=c:=by
   rw[List.getElem?_eq_getElem (by omega)]at hg;simpa using hg
  simp(disch:=omega)[wl,hl,hgc];refine aa hC ?_;cases hd:dL c with
  |true=>
   rw[if_pos hd]at ht;simp(disch:=omega)[wl,hl,hkk];refine⟨by omega,?_⟩;refine au k ⟨by omega,ht⟩ (by omega) ?_;simp;exact bQ
  |false=>
   rw[if_neg (by simp[hd]),<-hx]at ht;simp(disch:=omega)[wl,ht]
theorem zJ(s:Str)(hs:s.length<1000000):Fn G T_ 325 [.str s,.ref (zv 10)] (.str (s.dropWhile dL)):=by
 refine ag hm pG (by simp) ?_;simp[kd];refine ce hm [] (fun k:Nat=>[(0,.val (.str (s.drop k)))]) (fun _=>[]) (fun k=>k<=s.length/\(s.drop k).dropWhile dL=s.dropWhile dL) (fun k=>s.length-k) 0 ⟨by omega,by simp⟩ ?_ ?_
 ·simp;exact bQ
 rintro k ⟨hk,ht⟩;by_cases h:k<s.length
 ·obtain⟨c,hc⟩:∃c,s[k]=c:=⟨_,rfl⟩;have hC:=qt c;have htk:(s.drop (k+1)).take (s.length-(k+1))=s.drop (k+1):=List.take_of_length_le (by rw[List.length_drop];omega);have hd:s.drop k=c::s.drop (k+1):=by rw[<-hc];exact List.drop_eq_getElem_cons h
  rw[hd]at ht |-;simp(disch:=omega)[wl];refine aa hC ?_;cases hdc:dL c with
  |true=>
   rw[List.dropWhile_cons_of_pos hdc]at ht;simp(disch:=omega)[wl,htk];refine⟨by omega,?_⟩;refine au (k+1) ⟨by omega,ht⟩ (by omega) ?_;simp;exact bQ
  |false=>
   rw[List.dropWhile_cons_of_neg (by simp[hdc])]at ht;simp(disch:=omega)[wl,<-ht]
 ·obtain rfl:k=s.length:=by omega
  have:s.dropWhile dL=[]:=by rw[<-ht,List.drop_length];rfl
  simp(disch:=omega)[wl,this]
def vC(s:Str):Str:=(dS s).dropWhile dL
theorem Gb(s:Str):(dS s).length<=s.length:=by
 obtain⟨d,hd,_⟩:=rc s;have:=congrArg List.length hd;rw[List.length_append]at this;omega
theorem Gc(s:Str):vC s=[]↔s.all dL=true:=by
 unfold vC;obtain⟨d,hd,hda⟩:=rc s;constructor
 ·intro h
  have:(dS s).all dL=true:=by
   rw[List.all_eq_true];have h2:=List.takeWhile_append_dropWhile (p:=dL) (l:=dS s);rw[h,List.append_nil]at h2;intro c hc;rw[<-h2]at hc;exact List.all_eq_true.1 (List.all_takeWhile (l:=dS s) (p:=dL)) c hc
  rw[hd,List.all_append,this,hda];rfl
 ·intro h
  have h0:dS s=[]:=by
   have:=Hj [] h;simpa[dS]using this
  rw[h0];rfl
theorem Ht(s:Str)(hs:s.length<1000000):Fn G T_ 223 [.str s,.str Uo] (.str (dS s)):=by
 refine ag hm th (by simp) ?_;simp[mU,CP,p8,Hs];by_cases h:s=[]
 ·have:dS s=[]:=by rw[h];rfl
  simp(disch:=omega)[wl,h,this];simp[dS]
 ·simp(disch:=omega)[wl,h,p8,Hs];refine aa y7 ?_;simp(disch:=omega)[wl,sW,pA,Lf,Hl,Hk,Hm,Hn,zC];refine aa (p9 s hs) ?_;simp(disch:=omega)[wl]
theorem Mk(s:Str)(hs:s.length<1000000):Fn G T_ 282 [.str s,.str Uo] (.str (vC s)):=by
 refine ag hm B6 (by simp) ?_;simp[tj,CP,p8,Hs];by_cases h:s=[]
 ·have:vC s=[]:=by rw[h];rfl
  simp(disch:=omega)[wl,h];simp[vC,dS]
 ·simp(disch:=omega)[wl,h,p8,Hs];refine aa y7 ?_;simp(disch:=omega)[wl,sW,pA,Lf,Hl,Hk,Hm,Hn,zC];refine aa (p9 s hs) ?_;simp(disch:=omega)[wl,sW,Hn];refine aa (zJ (dS s) (by have:=Gb s;omega)) ?_;simp(disch:=omega)[wl,vC]
def is(l:List Int):List (List IV):=l.map fun n=>[.int .i64 n]
def zK(l:List Dn):List (List IV):=l.map fun x=>[.int .i64 x.1,.int .i64 x.2]
theorem is_len(l:List Int):(is l).length=l.length:=by simp[is]
theorem co(l:List Dn):(zK l).length=l.length:=by simp[zK]
theorem Ll{l:List Int}{i:Nat}{n:Int}(h:i<l.length)(hx:l[i]=n):(is l)[i]?=some [.int .i64 n]:=by simp[is,h,hx]
theorem Bz{l:List Dn}{i:Nat}{x:Dn}(h:i<l.length)(hx:l[i]=x):(zK l)[i]?=some [.int .i64 x.1,.int .i64 x.2]:=by simp[zK,h,hx]
theorem Ml(l:List Int)(n:Int):is (l++[n])=is l++[[.int .i64 n]]:=by simp[is]
theorem QA(l:List Dn)(x:Dn):zK (l++[x])=zK l++[[.int .i64 x.1,.int .i64 x.2]]:=by simp[zK]
def Lm{α:Type} [DecidableEq α](l:List α)(x:α):Int:=if x∈l then (l.idxOf x:Int)else -1
theorem Mm{α:Type} [DecidableEq α]{l:List α}{i:Nat}{x:α}(h:i<l.length)(hx:l[i]=x)(hn:x∉l.take i):Lm l x=i:=by
 have hm:x∈l:=hx▸List.getElem_mem h;unfold Lm;rw[if_pos hm];have h1:=List.idxOf_lt_length_iff.2 hm;have h2:=List.getElem_idxOf h1
 have a:¬i<l.idxOf x:=fun hl=>by
  have:=List.not_of_lt_findIdx (p:=(· == x)) (xs:=l) (i:=i) hl;simp[hx]at this
 have b:¬l.idxOf x<i:=fun hl=>hn (by
  rw[List.mem_take_iff_getElem]
  exact⟨l.idxOf x,by omega,h2⟩)
 omega
theorem Mn{α:Type} [DecidableEq α]{l:List α}{x:α}(h:x∉l):Lm l x = -1:=by unfold Lm;rw[if_neg h]
theorem QB{α:Type} [DecidableEq α](l:List α)(x:α):0<=Lm l x↔x∈l:=by
 unfold Lm;split
 ·next h=>exact⟨fun _=>h,fun _=>by omega⟩
 ·next h=>exact⟨fun h=>by omega,fun h'=>absurd h' h⟩
theorem take_no{α:Type}{l:List α}{i:Nat}{x y:α}(h:i<l.length)(hy:l[i]=y)(hn:x∉l.take i)(hxy:¬x=y):x∉l.take (i+1):=by
 rw[List.take_succ_eq_append_getElem h,hy];simp only[List.mem_append,List.mem_singleton,not_or];exact⟨hn,hxy⟩
theorem Hu(l:List Int)(x:Int)(hl:l.length<1000000):Fn G T_ 313 [.slice (is l),.int .i64 x] (.int .i64 (Lm l x)):=by
 refine ag hm uO (by simp) ?_;simp[od,is_len];refine ce hm [] (fun i:Nat=>[(8,.val (.int .i64 i))]) (fun _=>[]) (fun i=>i<=l.length/\x∉l.take i) (fun i=>l.length-i) 0 ⟨by omega,by simp⟩ ?_ ?_
 ·simp;exact bQ
 rintro i ⟨hi,hn⟩;simp[is_len];by_cases h:i<l.length
 ·obtain⟨y,hy⟩:∃y,l[i]=y:=⟨_,rfl⟩;have hg:=Ll h hy;by_cases e:x=y
  ·have hq:=Mm h (hy.trans e.symm) hn;rw[hq];simp(disch:=omega)[wl,is_len,hg,e]
  ·simp(disch:=omega)[wl,is_len,hg,e];refine au (i+1) ⟨by omega,take_no h hy hn e⟩ (by omega) ?_;simp;exact bQ
 ·obtain rfl:i=l.length:=by omega
  rw[List.take_length]at hn;rw[Mn hn];simp(disch:=omega)[wl]
theorem rT(l:List Int)(x:Int)(hl:l.length<1000000):Fn G T_ 264 [.slice (is l),.int .i64 x] (.bool (decide (x∈l))):=by
 refine ag hm rj (by simp) ?_;have:decide (x∈l)=decide (0<=Lm l x):=by rw[decide_eq_decide,QB]
 rw[this];simp[lh];refine aa (Hu l x hl) ?_;simp
theorem JD(l:List Dn)(x:Dn)(hl:l.length<1000000):Fn G T_ 338 [.slice (zK l),.agg [.int .i64 x.1,.int .i64 x.2]] (.int .i64 (Lm l x)):=by
 refine ag hm rl (by simp) ?_;simp[lk,co];refine ce hm [] (fun i:Nat=>[(8,.val (.int .i64 i))]) (fun _=>[]) (fun i=>i<=l.length/\x∉l.take i) (fun i=>l.length-i) 0 ⟨by omega,by simp⟩ ?_ ?_
 ·simp;exact bQ
 rintro i ⟨hi,hn⟩;simp[co];by_cases h:i<l.length
 ·obtain⟨y,hy⟩:∃y,l[i]=y:=⟨_,rfl⟩;have hg:=Bz h hy;by_cases e:x=y
  ·have hq:=Mm h (hy.trans e.symm) hn;rw[hq];simp(disch:=omega)[wl,co,hg,e]
  ·have e2:¬(x.1=y.1/\x.2=y.2):=fun h=>e (Prod.ext h.1 h.2)
   by_cases e3:x.1=y.1
   ·have e4:¬x.2=y.2:=fun h=>e2 ⟨e3,h⟩
    simp(disch:=omega)[wl,co,hg,e3,e4];refine au (i+1) ⟨by omega,take_no h hy hn e⟩ (by omega) ?_;simp;exact ap rfl rfl (by simp[bp,aC,ac,e3]) (by simp[ch,ac,e3]) (by simp[cg])
   ·simp(disch:=omega)[wl,co,hg,e3];refine au (i+1) ⟨by omega,take_no h hy hn e⟩ (by omega) ?_;simp;exact bQ
 ·obtain rfl:i=l.length:=by omega
  rw[List.take_length]at hn;rw[Mn hn];simp(disch:=omega)[wl]
theorem tr(l:List Dn)(x:Dn)(hl:l.length<1000000):Fn G T_ 306 [.slice (zK l),.agg [.int .i64 x.1,.int .i64 x.2]] (.bool (decide (x∈l))):=by
 refine ag hm oQ (by simp) ?_;have:decide (x∈l)=decide (0<=Lm l x):=by rw[decide_eq_decide,QB]
 rw[this];simp[jz];refine aa (JD l x hl) ?_;simp
def wX(p:Int×Int):IV:=.tuple [.int .i64 p.1,.int .i64 p.2]
theorem D3(x:Str)(c:UInt8):bx 0 (x++[c])=10*bx 0 x+(c.toNat-48):=by rw[Js,Mg]
theorem val_bd{s:Str}{d:Nat}(h:s.all dL=true)(hl:s.length<=d):bx 0 s<10 ^ d:=by
 have h1:=Hi s 0 h;have h2:10 ^ s.length<=10 ^ d:=Nat.pow_le_pow_right (by omega) hl;omega
theorem Hv{c:UInt8}(h:dL c=true):48<=c.toNat/\c.toNat<=57:=by simpa[dL]using h
def We(sg:Bool)(s:Str):Bool:=sg&&(decide (s[0]?=some 43)||decide (s[0]?=some 45))
def vD(sg:Bool)(s:Str):Str:=if We sg s then s.drop 1 else s
def O0(sg:Bool)(s:Str):Bool:=sg&&decide (s[0]?=some 45)
theorem T8(digits:Nat)(lo hi:Int)(sg:Bool)(s:Str):eH digits lo hi sg s=if vD sg s=[]\/digits<(vD sg s).length\/(vD sg s).all dL=false then (0,4)
  else if (bx 0 (vD sg s):Int)<lo\/hi<(bx 0 (vD sg s):Int)then (0,8)else (if O0 sg s=true then -(bx 0 (vD sg s):Int)else (bx 0 (vD sg s):Int),0):=by
 have e:(We sg s=true/\s[0]?=some 45)↔O0 sg s=true:=by
  simp only[We,O0,Bool.and_eq_true,Bool.or_eq_true,decide_eq_true_eq];exact⟨fun h=>⟨h.1.1,h.2⟩,fun h=>⟨⟨h.1,.inr h.2⟩,h.2⟩⟩
 unfold eH;simp only[<-e];rfl
theorem T9(c:UInt8):(0<=mB [43,45] c↔(c=43\/c=45))/\-1<=mB [43,45] c:=by
 have h1:=CJ [43,45] c;simp only[List.mem_cons,List.not_mem_nil,or_false,not_or]at h1;constructor
 ·constructor
  ·intro h;by_cases h2:c=43\/c=45
   ·exact h2
   ·have:=h1.2 ⟨fun e=>h2 (.inl e),fun e=>h2 (.inr e)⟩;omega
  ·intro h;by_cases h3:mB [43,45] c<0
   ·have:=h1.1 h3;rcases h with h|h
    ·exact absurd h this.1
    ·exact absurd h this.2
   ·omega
 ·rcases o4 [43,45] c with⟨h,_⟩|⟨j,h,_,_⟩<;>omega
theorem zL(digits:Nat)(lo hi:Int)(sg:Bool)(s:Str)(hd:digits<=9)(hs:s.length<1000000):Fn G T_ 216 [.str s,.int .i64 digits,.int .i64 lo,.int .i64 hi,.bool sg] (wX (eH digits lo hi sg s)):=by
 refine ag hm CZ (by simp) ?_;rw[T8];obtain⟨b,hb⟩:∃b,vD sg s=b:=⟨_,rfl⟩;obtain⟨mn,hmn⟩:∃mn,O0 sg s=mn:=⟨_,rfl⟩
 have hbl:b.length<1000000:=by
  rw[<-hb];unfold vD;split
  ·rw[List.length_drop];omega
  ·exact hs
 rw[hb,hmn];obtain⟨R,hR⟩:∃R,(if b=[]\/digits<b.length\/b.all dL=false then ((0,4):Int×Int)else if (bx 0 b:Int)<lo\/hi<(bx 0 b:Int)then (0,8)else (if mn=true then -(bx 0 b:Int)else (bx 0 b:Int),0))=R:=⟨_,rfl⟩;rw[hR];simp[vw];refine PX hm [] [] (fun _:Unit=>[(0,.val (.str b)),(12,.val (.bool mn))]) (fun _=>[]) (fun _=>True) ?_ ?_
 ·have plain:We sg s=false->b=s/\mn=false:=fun h=>by
   constructor
   ·rw[<-hb,vD,h];rfl
   ·rw[<-hmn];cases h2:O0 sg s with
    |false=>rfl
    |true=>
     exfalso;simp only[O0,Bool.and_eq_true]at h2;simp[We,h2.1,h2.2]at h
  cases sg with
  |false=>
   obtain⟨rfl,rfl⟩:=plain rfl;simp(disch:=omega)[wl];refine dw () trivial ?_;simp;exact bQ
  |true=>
   cases s with
   |nil=>
    obtain⟨rfl,rfl⟩:=plain rfl;simp(disch:=omega)[wl];refine dw () trivial ?_;simp;exact bQ
   |cons c r=>
    obtain⟨Jl,hi2⟩:=T9 c;have hI:=xX [43,45] c;obtain⟨q,hq⟩:∃q,mB [43,45] c=q:=⟨_,rfl⟩;rw[hq]at hI Jl hi2;simp(disch:=omega)[wl];refine aa hI ?_;by_cases hc:c=43\/c=45
    ·have hq0:=Jl.2 hc
     have e1:b=r:=by
      rw[<-hb];rcases hc with rfl|rfl<;>rfl
     have e2:mn=decide (c.toNat=45):=by
      rw[<-hmn];rcases hc with rfl|rfl<;>rfl
     rw[e1,e2];simp(disch:=omega)[wl];refine⟨by omega,?_⟩;refine dw () trivial ?_;simp;exact ap rfl rfl (by simp[bp,aC,ac];omega) (by simp[ch,ac]) (by simp[cg])
    ·have hq0:¬0<=q:=fun h=>hc (Jl.1 h)
     obtain⟨e1,e2⟩:=plain (by
      have h1:¬c=43:=fun e=>hc (.inl e)
      have h2:¬c=45:=fun e=>hc (.inr e)
      simp[We,h1,h2])
     rw[e1,e2];simp(disch:=omega)[wl];refine dw () trivial ?_;simp;exact bQ
 ·rintro _ _;simp;by_cases h1:b=[]
  ·rw[if_pos (.inl h1)]at hR;subst hR;simp(disch:=omega)[wl,h1];simp[wX]
  ·by_cases h2:digits<b.length
   ·rw[if_pos (.inr (.inl h2))]at hR;subst hR;simp(disch:=omega)[wl,h1];simp[wX]
   ·have hT:=Mk b hbl;simp(disch:=omega)[wl,h1];refine aa hT ?_;by_cases h3:b.all dL=true
    ·have hall:=h3;have h3':=(Gc b).2 h3
     have hv:∀i,i<=b.length->bx 0 (b.take i)<10 ^ 9:=fun i hi=>val_bd (by
      rw[List.all_eq_true]at hall |-
      exact fun c hc=>hall c (List.mem_of_mem_take hc)) (by rw[List.length_take];omega)
     simp(disch:=omega)[wl,h3'];refine PX hm [] [] (fun _:Unit=>[(13,.val (.int .i64 (bx 0 b:Nat)))]) (fun _=>[]) (fun _=>True) ?_ ?_
     ·simp;refine ce hm [] (fun i:Nat=>[(14,.val (.int .i64 i)),(13,.val (.int .i64 (bx 0 (b.take i):Nat)))]) (fun _=>[]) (fun i=>i<=b.length) (fun i=>b.length-i) 0 (by omega) ?_ ?_
      ·have e:bx 0 ([]:Str)=0:=rfl;simp[e];exact bQ
      intro i hi;simp;by_cases h:i<b.length
      ·obtain⟨c,hc⟩:∃c,b[i]=c:=⟨_,rfl⟩;obtain⟨d1,d2⟩:=Hv (List.all_eq_true.1 hall c (hc▸List.getElem_mem h))
       have ht:bx 0 (b.take (i+1))=10*bx 0 (b.take i)+(c.toNat-48):=by
        rw[List.take_succ_eq_append_getElem h,hc,D3]
       have hv1:=hv (i+1) (by omega);have hv0:=hv i hi;have e:(10*(bx 0 (b.take i):Nat)+((c.toNat:Int)-48):Int)=(bx 0 (b.take (i+1)):Nat):=by omega
       obtain⟨V,hV⟩:∃V,bx 0 (b.take i)=V:=⟨_,rfl⟩;obtain⟨W,hW⟩:∃W,bx 0 (b.take (i+1))=W:=⟨_,rfl⟩;rw[hV,hW]at e ht;rw[hV]at hv0 |-;rw[hW]at hv1;simp(disch:=omega)[wl,hc,e];refine au (i+1) (by omega) (by omega) ?_;simp[hW];exact bQ
      ·obtain rfl:i=b.length:=by omega
       rw[List.take_length];simp(disch:=omega)[wl];refine dw () trivial ?_;simp;exact bQ
     ·rintro _ _;have hV0:=hv b.length (Nat.le_refl _);rw[List.take_length]at hV0;obtain⟨V,hV⟩:∃V,bx 0 b=V:=⟨_,rfl⟩;rw[hV]at hV0 |-;simp;rw[hV,if_neg (by rw[hall];simp only[not_or];exact⟨h1,h2,by simp⟩)]at hR;by_cases h4:(V:Int)<lo
      ·rw[if_pos (.inl h4)]at hR;subst hR;simp(disch:=omega)[wl];simp[wX]
      ·by_cases h5:hi<(V:Int)
       ·rw[if_pos (.inr h5)]at hR;subst hR;simp(disch:=omega)[wl];simp[wX]
       ·rw[if_neg (by omega)]at hR;subst hR;simp(disch:=omega)[wl];refine p5 hm ?_;cases mn with
        |true=>
         simp(disch:=omega)[wl];simp[wX]
        |false=>
         simp(disch:=omega)[wl];simp[wX]
    ·have h3':¬vC b=[]:=fun h=>h3 ((Gc b).1 h)
     have h3n:b.all dL=false:=by simpa using h3
     rw[if_pos (.inr (.inr h3n))]at hR;subst hR;simp(disch:=omega)[wl,h3'];simp[wX]
theorem D4(s:Str):Fn G T_ 287 [.str s] (.int .i64 (EM s)):=by
 refine ag hm B7 (by simp) ?_;simp[tp];unfold EM;by_cases h0:s=[77,79]
 ·rw[if_pos h0];simp(disch:=omega)[wl,h0]
 rw[if_neg h0];by_cases h1:s=[84,85]
 ·rw[if_pos h1];simp(disch:=omega)[wl,h0,h1]
 rw[if_neg h1];by_cases h2:s=[87,69]
 ·rw[if_pos h2];simp(disch:=omega)[wl,h0,h1,h2]
 rw[if_neg h2];by_cases h3:s=[84,72]
 ·rw[if_pos h3];simp(disch:=omega)[wl,h0,h1,h2,h3]
 rw[if_neg h3];by_cases h4:s=[70,82]
 ·rw[if_pos h4];simp(disch:=omega)[wl,h0,h1,h2,h3,h4]
 rw[if_neg h4];by_cases h5:s=[83,65]
 ·rw[if_pos h5];simp(disch:=omega)[wl,h0,h1,h2,h3,h4,h5]
 rw[if_neg h5];by_cases h6:s=[83,85]
 ·rw[if_pos h6];simp(disch:=omega)[wl,h0,h1,h2,h3,h4,h5,h6]
 rw[if_neg h6];simp(disch:=omega)[wl,h0,h1,h2,h3,h4,h5,h6]
theorem tu(d:Int):Fn G T_ 205 [.int .i64 d] (.str (NY d)):=by
 refine ag hm uN (by simp) ?_;simp[o8];by_cases h0:d<0
 ·have:NY d=[]:=by unfold NY;rw[if_pos (.inl h0)]
  simp(disch:=omega)[wl,this]
 ·by_cases h6:6<d
  ·have:NY d=[]:=by unfold NY;rw[if_pos (.inr h6)]
   simp(disch:=omega)[wl,this]
  ·rcases JA (d:=d) (by omega) (by omega)with rfl|rfl|rfl|rfl|rfl|rfl|rfl <;>
   ·simp(disch:=omega)[wl];rfl
def O1(p:Int×Int):IV:=.tuple [.int .i64 p.1,if p.2=0 then .nili else cS p.2 [0]]
theorem BA(lo hi:Int)(sg:Bool)(s:Str)(hs:s.length<1000000):Fn G T_ 151 [.str s,.int .i64 lo,.int .i64 hi,.bool sg] (O1 (eH 5 lo hi sg s)):=by
 refine ag hm JB (by simp) ?_;obtain⟨⟨n,e⟩,hR⟩:∃p,eH 5 lo hi sg s=p:=⟨_,rfl⟩;have hN:=zL 5 lo hi sg s (by omega) hs;rw[hR]at hN |-;simp only[Int.cast_ofNat_Int,wX]at hN;simp[CX];refine aa hN ?_;simp;refine aa (fd e 0) ?_;simp[O1]
theorem O2(lo hi:Int)(sg:Bool)(s:Str)(hs:s.length<1000000):Fn G T_ 331 [.str s,.ref [.int .i64 lo],.ref [.int .i64 hi],.ref [.bool sg]] (wX (eH 5 lo hi sg s)):=by
 refine ag hm D2 (by simp) ?_;obtain⟨⟨n,e⟩,hR⟩:∃p,eH 5 lo hi sg s=p:=⟨_,rfl⟩;have hN:=zL 5 lo hi sg s (by omega) hs;rw[hR]at hN |-;simp only[Int.cast_ofNat_Int,wX]at hN;simp[vA];refine aa hN ?_;simp[wX]
def JE(p:Dn×Int):IV:=.tuple [.agg [.int .i64 p.1.1,.int .i64 p.1.2],.int .i64 p.2]
theorem QC{s:Str}(k:Nat):(s.drop k).take (s.length-k)=s.drop k:=List.take_of_length_le (by rw[List.length_drop];omega)
theorem Vq(s:Str)(hs:s.length<1000000):Fn G T_ 329 [.str s] (JE (y6 s)):=by
 refine ag hm JC (by simp) ?_;obtain⟨R,hR⟩:∃R,y6 s=R:=⟨_,rfl⟩;rw[hR];unfold y6 at hR;simp[D0];by_cases h1:s.length<2
 ·rw[if_pos h1]at hR;subst hR;simp(disch:=omega)[wl,JE]
 ·rw[if_neg h1]at hR;obtain⟨k,hk⟩:∃k,s.length=k+2:=⟨s.length-2,by omega⟩;have hk2:s.length-2=k:=by omega
  rw[hk2]at hR;have e0:((s.length:Int)-2)=(k:Int):=by omega
  have htk:=QC (s:=s) k;obtain⟨d,hd⟩:∃d,EM (s.drop k)=d:=⟨_,rfl⟩;have hW:=D4 (s.drop k);have hdr:=NZ (s.drop k);rw[hd]at hW hR hdr;simp(disch:=omega)[wl,e0,htk];refine⟨by omega,?_⟩;refine aa hW ?_;by_cases h2:d<0
  ·rw[if_pos h2]at hR;subst hR;simp(disch:=omega)[wl,JE]
  ·rw[if_neg h2]at hR;by_cases h3:k=0
   ·rw[if_pos (by omega)]at hR;subst hR;simp(disch:=omega)[wl,JE,h3]
   ·rw[if_neg (by omega)]at hR;obtain⟨⟨n,e⟩,hN⟩:∃p,eH 2 1 53 true (s.take k)=p:=⟨_,rfl⟩;have hF:=zL 2 1 53 true (s.take k) (by omega) (by rw[List.length_take];omega);rw[hN]at hF hR;simp only[Int.cast_ofNat_Int,wX]at hF;simp only at hR;simp(disch:=omega)[wl,h3];refine⟨by omega,?_⟩;refine aa hF ?_;by_cases h4:e=0
    ·rw[if_neg (by simp[h4])]at hR;subst hR;simp(disch:=omega)[wl,JE,h4]
    ·rw[if_pos h4]at hR;subst hR;simp(disch:=omega)[wl,JE,h4]
end Go.Vs.YtcjeehebikeghaaGreatDoor
