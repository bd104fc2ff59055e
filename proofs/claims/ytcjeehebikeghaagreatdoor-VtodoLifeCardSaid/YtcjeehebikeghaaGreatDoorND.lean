/- The walk of Go's trims of digits. No conditions. -/
import Derived.Test.YtcjeehebikeghaaGreatDoorNB
set_option linter.unusedVariables false
set_option linter.unusedSimpArgs false
set_option maxRecDepth 100000
set_option maxHeartbeats 4000000
namespace Go.Vs.YtcjeehebikeghaaGreatDoor
open Go.Proofs Go.Vs.U8 Go.Vs.Pa Go.Vs.Nu Go.Lib
def YU:Str:=[48,49,50,51,52,53,54,55,56,57]
theorem qE:YU.length=10:=rfl
theorem L6:¬YU=[]:=by simp[YU]
theorem aaf{i:Nat}(h:i<10):∃c,YU[i]?=some c∧c.toNat=48+i:=by
 have:i=0∨i=1∨i=2∨i=3∨i=4∨i=5∨i=6∨i=7∨i=8∨i=9:=by omega
 rcases this with rfl|rfl|rfl|rfl|rfl|rfl|rfl|rfl|rfl|rfl<;>exact⟨_,rfl,rfl⟩
theorem Al:Fn G Tryz.prog eV [.str YU] (.tuple [.agg (zv 10),.bool true]):=by
 refine ag hm rY (by simp) ?_;simp[lS,lU,Fq,qE];refine bS hm [] (fun i:Nat=>[(4,.val (.int .i64 i))]) (fun i=>[(2,.box (zs i))]) (fun i=>i≤10) (fun i=>10-i) 0 (by omega) ?_ ?_
 ·simp[uY];exact bT
 intro i hi;simp[qE,uY];by_cases h:i<10
 ·obtain⟨c,hc,hcn⟩:=aaf h;have hst:=Xx i h;have e0:(48+(i:Int)).toNat=48+i:=by omega
  simp(disch:=omega)[wl,qE,hc,hcn,rb,hst,e0];refine⟨by omega,by omega,?_⟩;refine aq (i+1) (by omega) (by omega) ?_;simp[hst];exact bT
 ·obtain rfl:i=10:=by omega
  simp(disch:=omega)[wl,qE,rb,KY,L0,aaa,Pz,KZ,L1,BU]
theorem sh(c:UInt8):Fn G Tryz.prog dt [.ref (zv 10),.int .u8 c.toNat] (.bool (dS c)):=by
 refine ag hm nK (by simp) ?_;obtain⟨r,hr⟩:=Xy c;have hc:c.toNat<256:=c.toNat_lt;simp[iS,iT,hr];omega
theorem PF(x:Str)(c:UInt8):ez (x++[c])=if dS c=true then ez x else x++[c]:=by
 unfold ez;rw[List.reverse_append];cases h:dS c<;>simp[h]
theorem qF(s:Str)(hs:s.length<1000000):Fn G Tryz.prog ec [.str s,.ref (zv 10)] (.str (ez s)):=by
 refine ag hm qn (by simp) ?_;simp[kq,kt];refine bS hm [] (fun k:Nat=>[(0,.val (.str (s.take k)))]) (fun _=>[]) (fun k=>k≤s.length∧ez (s.take k)=ez s) (fun k=>k) s.length ⟨by omega,by simp⟩ ?_ ?_
 ·simp;exact bT
 rintro k ⟨hk,ht⟩;have hl:(s.take k).length=k:=by rw[List.length_take];omega
 simp[hl];cases k with
 |zero=>
  have:ez s=[]:=by rw[←ht];simp[ez]
  simp(disch:=omega)[wl,this]
 |succ k=>
  have h:k<s.length:=by omega
  obtain⟨c,hc⟩:∃c,s[k]=c:=⟨_,rfl⟩;have hx:s.take (k+1)=s.take k++[c]:=by rw[List.take_succ_eq_append_getElem h,hc]
  have hC:=sh c;have hg:(s.take (k+1))[k]?=some c:=by rw[List.getElem?_take_of_lt (by omega),List.getElem?_eq_getElem h,hc]
  have hkk:(s.take (k+1)).take k=s.take k:=by rw[List.take_take,Nat.min_eq_left (by omega)]
  rw[hx,PF]at ht;obtain⟨S,hS⟩:∃S,s.take (k+1)=S:=⟨_,rfl⟩;rw[hS]at hg hkk hl hx ⊢
  have hgc:S[k]'(by omega)=c:=by
   rw[List.getElem?_eq_getElem (by omega)]at hg;simpa using hg
  simp(disch:=omega)[wl,hl,hgc];refine aa hC ?_;cases hd:dS c with
  |true=>
   rw[if_pos hd]at ht;simp(disch:=omega)[wl,hl,hkk];refine⟨by omega,?_⟩;refine aq k ⟨by omega,ht⟩ (by omega) ?_;simp;exact bT
  |false=>
   rw[if_neg (by simp[hd]),←hx]at ht;simp(disch:=omega)[wl,ht]
theorem C0(s:Str)(hs:s.length<1000000):Fn G Tryz.prog gY [.str s,.ref (zv 10)] (.str (s.dropWhile dS)):=by
 refine ag hm ri (by simp) ?_;simp[lj,lk];refine bS hm [] (fun k:Nat=>[(0,.val (.str (s.drop k)))]) (fun _=>[]) (fun k=>k≤s.length∧(s.drop k).dropWhile dS=s.dropWhile dS) (fun k=>s.length-k) 0 ⟨by omega,by simp⟩ ?_ ?_
 ·simp;exact bT
 rintro k ⟨hk,ht⟩;by_cases h:k<s.length
 ·obtain⟨c,hc⟩:∃c,s[k]=c:=⟨_,rfl⟩;have hC:=sh c;have htk:(s.drop (k+1)).take (s.length-(k+1))=s.drop (k+1):=List.take_of_length_le (by rw[List.length_drop];omega);have hd:s.drop k=c::s.drop (k+1):=by rw[←hc];exact List.drop_eq_getElem_cons h
  rw[hd]at ht ⊢;simp(disch:=omega)[wl];refine aa hC ?_;cases hdc:dS c with
  |true=>
   rw[List.dropWhile_cons_of_pos hdc]at ht;simp(disch:=omega)[wl,htk];refine⟨by omega,?_⟩;refine aq (k+1) ⟨by omega,ht⟩ (by omega) ?_;simp;exact bT
  |false=>
   rw[List.dropWhile_cons_of_neg (by simp[hdc])]at ht;simp(disch:=omega)[wl,←ht]
 ·obtain rfl:k=s.length:=by omega
  have:s.dropWhile dS=[]:=by rw[←ht,List.drop_length];rfl
  simp(disch:=omega)[wl,this]
def xB(s:Str):Str:=(ez s).dropWhile dS
theorem JP(s:Str):(ez s).length≤s.length:=by
 obtain⟨d,hd,_⟩:=sX s;have:=congrArg List.length hd;rw[List.length_append]at this;omega
theorem JQ(s:Str):xB s=[]↔s.all dS=true:=by
 unfold xB;obtain⟨d,hd,hda⟩:=sX s;constructor
 ·intro h
  have:(ez s).all dS=true:=by
   rw[List.all_eq_true];have h2:=List.takeWhile_append_dropWhile (p:=dS) (l:=ez s);rw[h,List.append_nil]at h2;intro c hc;rw[←h2]at hc;exact List.all_eq_true.1 (List.all_takeWhile (l:=ez s) (p:=dS)) c hc
  rw[hd,List.all_append,this,hda];rfl
 ·intro h
  have h0:ez s=[]:=by
   have:=KX [] h;simpa[ez]using this
  rw[h0];rfl
theorem L7(s:Str)(hs:s.length<1000000):Fn G Tryz.prog ke [.str s,.str YU] (.str (ez s)):=by
 refine ag hm vm (by simp) ?_;simp[ot,ou,Fq,qE,L6];by_cases h:s=[]
 ·have:ez s=[]:=by rw[h];rfl
  simp(disch:=omega)[wl,h,this];simp[ez]
 ·simp(disch:=omega)[wl,h,qE,L6];refine aa Al ?_;simp(disch:=omega)[wl,uY,rb,Pz,KZ,KY,L0,L1,BU];refine aa (qF s hs) ?_;simp(disch:=omega)[wl]
theorem QB(s:Str)(hs:s.length<1000000):Fn G Tryz.prog lW [.str s,.str YU] (.str (xB s)):=by
 refine ag hm Dw (by simp) ?_;simp[vp,vq,Fq,qE,L6];by_cases h:s=[]
 ·have:xB s=[]:=by rw[h];rfl
  simp(disch:=omega)[wl,h];simp[xB,ez]
 ·simp(disch:=omega)[wl,h,qE,L6];refine aa Al ?_;simp(disch:=omega)[wl,uY,rb,Pz,KZ,KY,L0,L1,BU];refine aa (qF s hs) ?_;simp(disch:=omega)[wl,uY,L1];refine aa (C0 (ez s) (by have:=JP s;omega)) ?_;simp(disch:=omega)[wl,xB]
def is(l:List Int):List (List IV):=l.map fun n=>[.int .i64 n]
def vu(l:List Dn):List (List IV):=l.map fun x=>[.int .i64 x.1,.int .i64 x.2]
theorem is_len(l:List Int):(is l).length=l.length:=by simp[is]
theorem bM(l:List Dn):(vu l).length=l.length:=by simp[vu]
theorem FE{l:List Int}{i:Nat}{n:Int}(h:i<l.length)(hx:l[i]=n):(is l)[i]?=some [.int .i64 n]:=by simp[is,h,hx]
theorem tq{l:List Dn}{i:Nat}{x:Dn}(h:i<l.length)(hx:l[i]=x):(vu l)[i]?=some [.int .i64 x.1,.int .i64 x.2]:=by simp[vu,h,hx]
theorem QC(l:List Int)(n:Int):is (l++[n])=is l++[[.int .i64 n]]:=by simp[is]
theorem NL(l:List Dn)(x:Dn):vu (l++[x])=vu l++[[.int .i64 x.1,.int .i64 x.2]]:=by simp[vu]
def PG{α:Type} [DecidableEq α](l:List α)(x:α):Int:=if x∈l then (l.idxOf x:Int)else -1
theorem QD{α:Type} [DecidableEq α]{l:List α}{i:Nat}{x:α}(h:i<l.length)(hx:l[i]=x)(hn:x∉l.take i):PG l x=i:=by
 have hm:x∈l:=hx▸List.getElem_mem h;unfold PG;rw[if_pos hm];have h1:=List.idxOf_lt_length_iff.2 hm;have h2:=List.getElem_idxOf h1
 have a:¬i<l.idxOf x:=fun hl=>by
  have:=List.not_of_lt_findIdx (p:=(· == x)) (xs:=l) (i:=i) hl;simp[hx]at this
 have b:¬l.idxOf x<i:=fun hl=>hn (by
  rw[List.mem_take_iff_getElem]
  exact⟨l.idxOf x,by omega,h2⟩)
 omega
theorem QE{α:Type} [DecidableEq α]{l:List α}{x:α}(h:x∉l):PG l x = -1:=by unfold PG;rw[if_neg h]
theorem V2{α:Type} [DecidableEq α](l:List α)(x:α):0≤PG l x↔x∈l:=by
 unfold PG;split
 ·next h=>exact⟨fun _=>h,fun _=>by omega⟩
 ·next h=>exact⟨fun h=>by omega,fun h'=>absurd h' h⟩
theorem take_no{α:Type}{l:List α}{i:Nat}{x y:α}(h:i<l.length)(hy:l[i]=y)(hn:x∉l.take i)(hxy:¬x=y):x∉l.take (i+1):=by
 rw[List.take_succ_eq_append_getElem h,hy];simp only[List.mem_append,List.mem_singleton,not_or];exact⟨hn,hxy⟩
theorem L8(l:List Int)(x:Int)(hl:l.length<1000000):Fn G Tryz.prog kR [.slice (is l),.int .i64 x] (.int .i64 (PG l x)):=by
 refine ag hm wW (by simp) ?_;simp[pH,pI,is_len];refine bS hm [] (fun i:Nat=>[(8,.val (.int .i64 i))]) (fun _=>[]) (fun i=>i≤l.length∧x∉l.take i) (fun i=>l.length-i) 0 ⟨by omega,by simp⟩ ?_ ?_
 ·simp;exact bT
 rintro i ⟨hi,hn⟩;simp[is_len];by_cases h:i<l.length
 ·obtain⟨y,hy⟩:∃y,l[i]=y:=⟨_,rfl⟩;have hg:=FE h hy;by_cases e:x=y
  ·have hq:=QD h (hy.trans e.symm) hn;rw[hq];simp(disch:=omega)[wl,is_len,hg,e]
  ·simp(disch:=omega)[wl,is_len,hg,e];refine aq (i+1) ⟨by omega,take_no h hy hn e⟩ (by omega) ?_;simp;exact bT
 ·obtain rfl:i=l.length:=by omega
  rw[List.take_length]at hn;rw[QE hn];simp(disch:=omega)[wl]
theorem tZ(l:List Int)(x:Int)(hl:l.length<1000000):Fn G Tryz.prog fK [.slice (is l),.int .i64 x] (.bool (decide (x∈l))):=by
 refine ag hm tn (by simp) ?_;have:decide (x∈l)=decide (0≤PG l x):=by rw[decide_eq_decide,V2]
 rw[this];simp[mz,mA];refine aa (L8 l x hl) ?_;simp
theorem NM(l:List Dn)(x:Dn)(hl:l.length<1000000):Fn G Tryz.prog jb [.slice (vu l),.agg [.int .i64 x.1,.int .i64 x.2]] (.int .i64 (PG l x)):=by
 refine ag hm tp (by simp) ?_;simp[mB,mC,bM];refine bS hm [] (fun i:Nat=>[(8,.val (.int .i64 i))]) (fun _=>[]) (fun i=>i≤l.length∧x∉l.take i) (fun i=>l.length-i) 0 ⟨by omega,by simp⟩ ?_ ?_
 ·simp;exact bT
 rintro i ⟨hi,hn⟩;simp[bM];by_cases h:i<l.length
 ·obtain⟨y,hy⟩:∃y,l[i]=y:=⟨_,rfl⟩;have hg:=tq h hy;by_cases e:x=y
  ·have hq:=QD h (hy.trans e.symm) hn;rw[hq];simp(disch:=omega)[wl,bM,hg,e]
  ·have e2:¬(x.1=y.1∧x.2=y.2):=fun h=>e (Prod.ext h.1 h.2)
   by_cases e3:x.1=y.1
   ·have e4:¬x.2=y.2:=fun h=>e2 ⟨e3,h⟩
    simp(disch:=omega)[wl,bM,hg,e3,e4];refine aq (i+1) ⟨by omega,take_no h hy hn e⟩ (by omega) ?_;simp;exact ap rfl rfl (by simp[bv,aC,ac,e3]) (by simp[cC,ac,e3]) (by simp[ct])
   ·simp(disch:=omega)[wl,bM,hg,e3];refine aq (i+1) ⟨by omega,take_no h hy hn e⟩ (by omega) ?_;simp;exact bT
 ·obtain rfl:i=l.length:=by omega
  rw[List.take_length]at hn;rw[QE hn];simp(disch:=omega)[wl]
theorem vv(l:List Dn)(x:Dn)(hl:l.length<1000000):Fn G Tryz.prog ed [.slice (vu l),.agg [.int .i64 x.1,.int .i64 x.2]] (.bool (decide (x∈l))):=by
 refine ag hm qo (by simp) ?_;have:decide (x∈l)=decide (0≤PG l x):=by rw[decide_eq_decide,V2]
 rw[this];simp[ku,kv];refine aa (NM l x hl) ?_;simp
def yR(p:Int×Int):IV:=.tuple [.int .i64 p.1,.int .i64 p.2]
theorem FF(x:Str)(c:UInt8):bJ 0 (x++[c])=10*bJ 0 x+(c.toNat-48):=by rw[Fo,DZ]
theorem val_bd{s:Str}{d:Nat}(h:s.all dS=true)(hl:s.length≤d):bJ 0 s<10 ^ d:=by
 have h1:=KW s 0 h;have h2:10 ^ s.length≤10 ^ d:=Nat.pow_le_pow_right (by omega) hl;omega
theorem L9{c:UInt8}(h:dS c=true):48≤c.toNat∧c.toNat≤57:=by simpa[dS]using h
def sgO(sg:Bool)(s:Str):Bool:=sg&&(decide (s[0]?=some 43)||decide (s[0]?=some 45))
def xC(sg:Bool)(s:Str):Str:=if sgO sg s then s.drop 1 else s
def So(sg:Bool)(s:Str):Bool:=sg&&decide (s[0]?=some 45)
theorem XF(digits:Nat)(lo hi:Int)(sg:Bool)(s:Str):dU digits lo hi sg s=if xC sg s=[]∨digits<(xC sg s).length∨(xC sg s).all dS=false then (0,4)
  else if (bJ 0 (xC sg s):Int)<lo∨hi<(bJ 0 (xC sg s):Int)then (0,8)else (if So sg s=true then -(bJ 0 (xC sg s):Int)else (bJ 0 (xC sg s):Int),0):=by
 have e:(sgO sg s=true∧s[0]?=some 45)↔So sg s=true:=by
  simp only[sgO,So,Bool.and_eq_true,Bool.or_eq_true,decide_eq_true_eq];exact⟨fun h=>⟨h.1.1,h.2⟩,fun h=>⟨⟨h.1,.inr h.2⟩,h.2⟩⟩
 unfold dU;simp only[←e];rfl
theorem XG(c:UInt8):(0≤nW [43,45] c↔(c=43∨c=45))∧-1≤nW [43,45] c:=by
 have h1:=Fi [43,45] c;simp only[List.mem_cons,List.not_mem_nil,or_false,not_or]at h1;constructor
 ·constructor
  ·intro h;by_cases h2:c=43∨c=45
   ·exact h2
   ·have:=h1.2 ⟨fun e=>h2 (.inl e),fun e=>h2 (.inr e)⟩;omega
  ·intro h;by_cases h3:nW [43,45] c<0
   ·have:=h1.1 h3;rcases h with h|h
    ·exact absurd h this.1
    ·exact absurd h this.2
   ·omega
 ·rcases pz [43,45] c with⟨h,_⟩|⟨j,h,_,_⟩<;>omega
theorem C1(digits:Nat)(lo hi:Int)(sg:Bool)(s:Str)(hd:digits≤9)(hs:s.length<1000000):Fn G Tryz.prog ko [.str s,.int .i64 digits,.int .i64 lo,.int .i64 hi,.bool sg] (yR (dU digits lo hi sg s)):=by
 refine ag hm FA (by simp) ?_;rw[XF];obtain⟨b,hb⟩:∃b,xC sg s=b:=⟨_,rfl⟩;obtain⟨mn,hmn⟩:∃mn,So sg s=mn:=⟨_,rfl⟩
 have hbl:b.length<1000000:=by
  rw[←hb];unfold xC;split
  ·rw[List.length_drop];omega
  ·exact hs
 rw[hb,hmn];obtain⟨R,hR⟩:∃R,(if b=[]∨digits<b.length∨b.all dS=false then ((0,4):Int×Int)else if (bJ 0 b:Int)<lo∨hi<(bJ 0 b:Int)then (0,8)else (if mn=true then -(bJ 0 b:Int)else (bJ 0 b:Int),0))=R:=⟨_,rfl⟩;rw[hR];simp[xx,xy];refine Un hm [] [] (fun _:Unit=>[(0,.val (.str b)),(12,.val (.bool mn))]) (fun _=>[]) (fun _=>True) ?_ ?_
 ·have plain:sgO sg s=false→b=s∧mn=false:=fun h=>by
   constructor
   ·rw[←hb,xC,h];rfl
   ·rw[←hmn];cases h2:So sg s with
    |false=>rfl
    |true=>
     exfalso;simp only[So,Bool.and_eq_true]at h2;simp[sgO,h2.1,h2.2]at h
  cases sg with
  |false=>
   obtain⟨rfl,rfl⟩:=plain rfl;simp(disch:=omega)[wl];refine dM () trivial ?_;simp;exact bT
  |true=>
   cases s with
   |nil=>
    obtain⟨rfl,rfl⟩:=plain rfl;simp(disch:=omega)[wl];refine dM () trivial ?_;simp;exact bT
   |cons c r=>
    obtain⟨Nr,hi2⟩:=XG c;have hI:=A3 [43,45] c;obtain⟨q,hq⟩:∃q,nW [43,45] c=q:=⟨_,rfl⟩;rw[hq]at hI Nr hi2;simp(disch:=omega)[wl];refine aa hI ?_;by_cases hc:c=43∨c=45
    ·have hq0:=Nr.2 hc
     have e1:b=r:=by
      rw[←hb];rcases hc with rfl|rfl<;>rfl
     have e2:mn=decide (c.toNat=45):=by
      rw[←hmn];rcases hc with rfl|rfl<;>rfl
     rw[e1,e2];simp(disch:=omega)[wl];refine⟨by omega,?_⟩;refine dM () trivial ?_;simp;exact ap rfl rfl (by simp[bv,aC,ac];omega) (by simp[cC,ac]) (by simp[ct])
    ·have hq0:¬0≤q:=fun h=>hc (Nr.1 h)
     obtain⟨e1,e2⟩:=plain (by
      have h1:¬c=43:=fun e=>hc (.inl e)
      have h2:¬c=45:=fun e=>hc (.inr e)
      simp[sgO,h1,h2])
     rw[e1,e2];simp(disch:=omega)[wl];refine dM () trivial ?_;simp;exact bT
 ·rintro _ _;simp;by_cases h1:b=[]
  ·rw[if_pos (.inl h1)]at hR;subst hR;simp(disch:=omega)[wl,h1];simp[yR]
  ·by_cases h2:digits<b.length
   ·rw[if_pos (.inr (.inl h2))]at hR;subst hR;simp(disch:=omega)[wl,h1];simp[yR]
   ·have hT:=QB b hbl;simp(disch:=omega)[wl,h1];refine aa hT ?_;by_cases h3:b.all dS=true
    ·have hall:=h3;have h3':=(JQ b).2 h3
     have hv:∀i,i≤b.length→bJ 0 (b.take i)<10 ^ 9:=fun i hi=>val_bd (by
      rw[List.all_eq_true]at hall ⊢
      exact fun c hc=>hall c (List.mem_of_mem_take hc)) (by rw[List.length_take];omega)
     simp(disch:=omega)[wl,h3'];refine Un hm [] [] (fun _:Unit=>[(13,.val (.int .i64 (bJ 0 b:Nat)))]) (fun _=>[]) (fun _=>True) ?_ ?_
     ·simp;refine bS hm [] (fun i:Nat=>[(14,.val (.int .i64 i)),(13,.val (.int .i64 (bJ 0 (b.take i):Nat)))]) (fun _=>[]) (fun i=>i≤b.length) (fun i=>b.length-i) 0 (by omega) ?_ ?_
      ·have e:bJ 0 ([]:Str)=0:=rfl;simp[e];exact bT
      intro i hi;simp;by_cases h:i<b.length
      ·obtain⟨c,hc⟩:∃c,b[i]=c:=⟨_,rfl⟩;obtain⟨d1,d2⟩:=L9 (List.all_eq_true.1 hall c (hc▸List.getElem_mem h))
       have ht:bJ 0 (b.take (i+1))=10*bJ 0 (b.take i)+(c.toNat-48):=by
        rw[List.take_succ_eq_append_getElem h,hc,FF]
       have hv1:=hv (i+1) (by omega);have hv0:=hv i hi;have e:(10*(bJ 0 (b.take i):Nat)+((c.toNat:Int)-48):Int)=(bJ 0 (b.take (i+1)):Nat):=by omega
       obtain⟨V,hV⟩:∃V,bJ 0 (b.take i)=V:=⟨_,rfl⟩;obtain⟨W,hW⟩:∃W,bJ 0 (b.take (i+1))=W:=⟨_,rfl⟩;rw[hV,hW]at e ht;rw[hV]at hv0 ⊢;rw[hW]at hv1;simp(disch:=omega)[wl,hc,e];refine aq (i+1) (by omega) (by omega) ?_;simp[hW];exact bT
      ·obtain rfl:i=b.length:=by omega
       rw[List.take_length];simp(disch:=omega)[wl];refine dM () trivial ?_;simp;exact bT
     ·rintro _ _;have hV0:=hv b.length (Nat.le_refl _);rw[List.take_length]at hV0;obtain⟨V,hV⟩:∃V,bJ 0 b=V:=⟨_,rfl⟩;rw[hV]at hV0 ⊢;simp;rw[hV,if_neg (by rw[hall];simp only[not_or];exact⟨h1,h2,by simp⟩)]at hR;by_cases h4:(V:Int)<lo
      ·rw[if_pos (.inl h4)]at hR;subst hR;simp(disch:=omega)[wl];simp[yR]
      ·by_cases h5:hi<(V:Int)
       ·rw[if_pos (.inr h5)]at hR;subst hR;simp(disch:=omega)[wl];simp[yR]
       ·rw[if_neg (by omega)]at hR;subst hR;simp(disch:=omega)[wl];refine qA hm ?_;cases mn with
        |true=>
         simp(disch:=omega)[wl];simp[yR]
        |false=>
         simp(disch:=omega)[wl];simp[yR]
    ·have h3':¬xB b=[]:=fun h=>h3 ((JQ b).1 h)
     have h3n:b.all dS=false:=by simpa using h3
     rw[if_pos (.inr (.inr h3n))]at hR;subst hR;simp(disch:=omega)[wl,h3'];simp[yR]
theorem FG(s:Str):Fn G Tryz.prog lX [.str s] (.int .i64 (HI s)):=by
 refine ag hm Dx (by simp) ?_;simp[vr,vt];unfold HI;by_cases h0:s=[77,79]
 ·rw[if_pos h0];simp(disch:=omega)[wl,h0]
 rw[if_neg h0];by_cases h1:s=[84,85]
 ·rw[if_pos h1];simp(disch:=omega)[wl,h0,h1]
 rw[if_neg h1];by_cases h2:s=[87,69]
 ·rw[if_pos h2];simp(disch:=omega)[wl,h0,h1,h2]
 rw[if_neg h2];by_cases h3:s=[84,72]
 ·rw[if_pos h3];simp(disch:=omega)[wl,h0,h1,h2,h3]
 rw[if_neg h3];by_cases h4:s=[70,82]
 ·rw[if_pos h4];simp(disch:=omega)[wl,h0,h1,h2,h3,h4]
 rw[if_neg h4];by_cases h5:s=[83,65]
 ·rw[if_pos h5];simp(disch:=omega)[wl,h0,h1,h2,h3,h4,h5]
 rw[if_neg h5];by_cases h6:s=[83,85]
 ·rw[if_pos h6];simp(disch:=omega)[wl,h0,h1,h2,h3,h4,h5,h6]
 rw[if_neg h6];simp(disch:=omega)[wl,h0,h1,h2,h3,h4,h5,h6]
theorem vw(d:Int):Fn G Tryz.prog iH [.int .i64 d] (.str (Sm d)):=by
 refine ag hm wV (by simp) ?_;simp[pF,pG];by_cases h0:d<0
 ·have:Sm d=[]:=by unfold Sm;rw[if_pos (.inl h0)]
  simp(disch:=omega)[wl,this]
 ·by_cases h6:6<d
  ·have:Sm d=[]:=by unfold Sm;rw[if_pos (.inr h6)]
   simp(disch:=omega)[wl,this]
  ·rcases NI (d:=d) (by omega) (by omega)with rfl|rfl|rfl|rfl|rfl|rfl|rfl <;>
   ·simp(disch:=omega)[wl];rfl
def Sp(p:Int×Int):IV:=.tuple [.int .i64 p.1,if p.2=0 then .nili else dp p.2 [0]]
theorem E4(lo hi:Int)(sg:Bool)(s:Str)(hs:s.length<1000000):Fn G Tryz.prog n6 [.str s,.int .i64 lo,.int .i64 hi,.bool sg] (Sp (dU 5 lo hi sg s)):=by
 refine ag hm NJ (by simp) ?_;obtain⟨⟨n,e⟩,hR⟩:∃p,dU 5 lo hi sg s=p:=⟨_,rfl⟩;have hN:=C1 5 lo hi sg s (by omega) hs;rw[hR]at hN ⊢;simp only[Int.cast_ofNat_Int,yR]at hN;simp[Fy,Fz];refine aa hN ?_;simp;refine aa (fQ e 0) ?_;simp[Sp]
theorem Sq(lo hi:Int)(sg:Bool)(s:Str)(hs:s.length<1000000):Fn G Tryz.prog nu [.str s,.ref [.int .i64 lo],.ref [.int .i64 hi],.ref [.bool sg]] (yR (dU 5 lo hi sg s)):=by
 refine ag hm FD (by simp) ?_;obtain⟨⟨n,e⟩,hR⟩:∃p,dU 5 lo hi sg s=p:=⟨_,rfl⟩;have hN:=C1 5 lo hi sg s (by omega) hs;rw[hR]at hN ⊢;simp only[Int.cast_ofNat_Int,yR]at hN;simp[xz,xA];refine aa hN ?_;simp[yR]
def NN(p:Dn×Int):IV:=.tuple [.agg [.int .i64 p.1.1,.int .i64 p.1.2],.int .i64 p.2]
theorem V3{s:Str}(k:Nat):(s.drop k).take (s.length-k)=s.drop k:=List.take_of_length_le (by rw[List.length_drop];omega)
theorem aag(s:Str)(hs:s.length<1000000):Fn G Tryz.prog tj [.str s] (NN (Af s)):=by
 refine ag hm NK (by simp) ?_;obtain⟨R,hR⟩:∃R,Af s=R:=⟨_,rfl⟩;rw[hR];unfold Af at hR;simp[FB,FC];by_cases h1:s.length<2
 ·rw[if_pos h1]at hR;subst hR;simp(disch:=omega)[wl,NN]
 ·rw[if_neg h1]at hR;obtain⟨k,hk⟩:∃k,s.length=k+2:=⟨s.length-2,by omega⟩;have hk2:s.length-2=k:=by omega
  rw[hk2]at hR;have e0:((s.length:Int)-2)=(k:Int):=by omega
  have htk:=V3 (s:=s) k;obtain⟨d,hd⟩:∃d,HI (s.drop k)=d:=⟨_,rfl⟩;have hW:=FG (s.drop k);have hdr:=Sn (s.drop k);rw[hd]at hW hR hdr;simp(disch:=omega)[wl,e0,htk];refine⟨by omega,?_⟩;refine aa hW ?_;by_cases h2:d<0
  ·rw[if_pos h2]at hR;subst hR;simp(disch:=omega)[wl,NN]
  ·rw[if_neg h2]at hR;by_cases h3:k=0
   ·rw[if_pos (by omega)]at hR;subst hR;simp(disch:=omega)[wl,NN,h3]
   ·rw[if_neg (by omega)]at hR;obtain⟨⟨n,e⟩,hN⟩:∃p,dU 2 1 53 true (s.take k)=p:=⟨_,rfl⟩;have hF:=C1 2 1 53 true (s.take k) (by omega) (by rw[List.length_take];omega);rw[hN]at hF hR;simp only[Int.cast_ofNat_Int,yR]at hF;simp only at hR;simp(disch:=omega)[wl,h3];refine⟨by omega,?_⟩;refine aa hF ?_;by_cases h4:e=0
    ·rw[if_neg (by simp[h4])]at hR;subst hR;simp(disch:=omega)[wl,NN,h4]
    ·rw[if_pos h4]at hR;subst hR;simp(disch:=omega)[wl,NN,h4]
end Go.Vs.YtcjeehebikeghaaGreatDoor
