/- A part of a proof. No conditions. -/
import Derived.Test.YtcjeehebikeghaaGreatDoorRIz
import Derived.Test.YtcjeehebikeghaaGreatDoorRFz
set_option linter.unusedVariables false
set_option linter.unusedSimpArgs false
set_option maxRecDepth 100000
set_option maxHeartbeats 16000000
namespace Go.Vs.YtcjeehebikeghaaGreatDoor.Rc
open Go.Proofs Go.Vs.U8 Go.Vs.Pa Go.Vs.Cv Go.Vs.Mo Go.Vs.Nu
theorem aa2(n:Int)(h:-1000000000000<=n):Fn G2 T_ 307 [.int .i64 n] (.int .i64 (n.natAbs:Nat)):=by
 refine ae hm KU (by simp) ?_;simp[D6];by_cases a:n<0
 ·have e:(n.natAbs:Int) = -n:=by omega
  rw[e];simp(disch:=omega)[wl,a]
 ·have e:(n.natAbs:Int)=n:=by omega
  rw[e];simp(disch:=omega)[wl,a]
def wiI(k:Nat):IV:=.agg [.int .i64 (MD k),.int .i64 (ME k),.bool (RC k)]
theorem fn_within(k:Nat)(h:k<14):Fn G2 T_ 250 [.int .i64 k] (wiI k):=by
 refine ae hm GF (by simp) ?_;simp[xo];rcases k14 h with rfl|rfl|rfl|rfl|rfl|rfl|rfl|rfl|rfl|rfl|rfl|rfl|rfl|rfl <;>
 ·simp(disch:=omega)[wl];rfl
theorem k7{k:Nat}(h:k<=6):k=0\/k=1\/k=2\/k=3\/k=4\/k=5\/k=6:=by omega
theorem aa3(k:Nat)(h:k<=6):Fn G2 T_ 201 [.int .u8 k] (.str (tL k)):=by
 refine ae hm KQ (by simp) ?_;simp[CX];rcases k7 h with rfl|rfl|rfl|rfl|rfl|rfl|rfl <;>
 ·simp(disch:=omega)[wl];rfl
theorem aa4(k:Nat)(h:k<=6):Fn G2 T_ 231 [.int .i64 k] (.str (tL k)):=by
 refine ae hm KR (by simp) ?_;simp[CZ];rcases k7 h with rfl|rfl|rfl|rfl|rfl|rfl|rfl <;>
 ·simp(disch:=omega)[wl];rfl
theorem SN(l:List Str)(x:Str)(f:l.length<1000000):Fn G2 T_ 284 [.slice (ts l),.str x] (.int .i64 (SD l x)):=by
 refine ae hm uU (by simp) ?_;simp[mF,aQ];refine be hm [] (fun i:Nat=>[(8,.val (.int .i64 i))]) (fun _=>[]) (fun i=>i<=l.length/\x∉l.take i) (fun i=>l.length-i) 0 ⟨by omega,by simp⟩ ?_ ?_
 ·simp;exact bp
 rintro i ⟨g,a⟩;simp[aQ];by_cases h:i<l.length
 ·obtain⟨y,b⟩:∃y,l[i]=y:=⟨_,rfl⟩;have c:=kM h b;by_cases e:x=y
  ·have d:=TQ h (b.trans e.symm) a;rw[d];simp(disch:=omega)[wl,aQ,c,e]
  ·simp(disch:=omega)[wl,aQ,c,e];refine ai (i+1) ⟨by omega,take_no h b a e⟩ (by omega) ?_;simp;exact bp
 ·obtain rfl:i=l.length:=by omega
  rw[List.take_length]at a;rw[TS a];simp(disch:=omega)[wl]
theorem MM(x:Str):Fn G2 T_ 218 [.str x] (.int .i64 (SD iH x)):=by
 refine ae hm GE (by simp) ?_;have a:=SN iH x (by decide);simp[xm];refine aa a ?_;simp(disch:=omega)[wl]
theorem Yv:Fn G2 T_ 168 [] (.slice (ts iH)):=by
 refine ae hm J3 (by simp) ?_;simp[zW];rfl
def Yw(s:Str):IV:=if 61∈s then .tuple [.str (s.take (s.idxOf 61)),.str (s.drop (s.idxOf 61+1)),.bool true]else .tuple [.str s,.str [],.bool false]
theorem ac9{s:Str}{c:UInt8}(h:c∉s):oq s c<0:=(I7 s c).2 h
theorem Yx{s:Str}{c:UInt8}(h:c∈s):oq s c=(s.idxOf c:Nat):=by
 have a:=List.idxOf_lt_length_iff.2 h;refine NA (by rw[List.getElem?_eq_getElem a,List.getElem_idxOf a]) fun b=>?_
 rw[List.mem_take_iff_getElem]at b;obtain⟨j,d,e⟩:=b;have:=List.not_of_lt_findIdx (p:=(· == c)) (xs:=s) (i:=j) (by show j<s.idxOf c;omega);simp[e]at this
theorem Yy(s:Str)(d:s.length<1000000):Fn G2 T_ 283 [.str s,.str [61]] (Yw s):=by
 refine ae hm pm (by simp) ?_;have b:=up (In s 61);simp[jr];refine aa b ?_;unfold Yw;by_cases h:(61:UInt8)∈s
 ·have a:=List.idxOf_lt_length_iff.2 h;have e:oq s 61=(s.idxOf 61:Nat):=Yx h;rw[if_pos h,e];obtain⟨K,c⟩:∃K,s.idxOf 61=K:=⟨_,rfl⟩;rw[c]at a |-;simp(disch:=omega)[wl];omega
 ·have e:=ac9 h;rw[if_neg h];simp(disch:=omega)[wl]
theorem ada(s:Str)(a:s.length<1000000):Fn G2 T_ 217 [.str s,.str [61]] (Yw s):=by
 refine ae hm J6 (by simp) ?_;simp[A3];refine aa (Yy s a) ?_;unfold Yw;by_cases h:(61:UInt8)∈s
 ·rw[if_pos h];simp(disch:=omega)[wl]
 ·rw[if_neg h];simp(disch:=omega)[wl]
theorem U4(s:Str)(a:Nat)(c:UInt8)(m:a<=s.length)(n:s.length<1000000):Fn G2 T_ 167 [.str s,.int .i64 a,.int .u8 c.toNat] (.int .i64 ((a+(s.drop a).idxOf c:Nat):Nat)):=by
 refine ae hm KO (by simp) ?_;obtain⟨R,j⟩:∃R,a+(s.drop a).idxOf c=R:=⟨_,rfl⟩;rw[j];simp[CT];refine be hm [] (fun i:Nat=>[(1,.val (.int .i64 i))]) (fun _=>[]) (fun i=>i<=s.length/\i+(s.drop i).idxOf c=R) (fun i=>s.length-i) a ⟨by omega,j⟩ ?_ ?_
 ·simp;exact bp
 rintro i ⟨o,f⟩;simp;by_cases h:i<s.length
 ·obtain⟨x,g⟩:∃x,s[i]=x:=⟨_,rfl⟩;have l:s.drop i=x::s.drop (i+1):=by rw[<-g];exact List.drop_eq_getElem_cons h
  rw[l]at f;by_cases e:x=c
  ·subst e;rw[List.idxOf_cons_self]at f;have b:i=R:=f;subst b;simp(disch:=omega)[wl,g]
  ·have e2:¬x.toNat=c.toNat:=fun h=>e (UInt8.toNat_inj.1 h)
   rw[List.idxOf_cons,show(x==c)=false from by simpa using e,cond_false]at f;simp(disch:=omega)[wl,g,e2,e];refine ai (i+1) ⟨by omega,by omega⟩ (by omega) ?_;simp;exact bp
 ·obtain rfl:i=s.length:=by omega
  rw[List.drop_length]at f;have b:s.length=R:=f;subst b;simp(disch:=omega)[wl]
theorem Yz(x:Dn):Fn G2 T_ 309 [.agg [.int .i64 x.1,.int .i64 x.2]] (.bool (decide (x.1≠0))):=by
 refine ae hm oz (by simp) ?_;simp[iY]
def uV(x:Dn):Bool:=decide (x.1≠0)
theorem QM{l:List Dn}{i:Nat}{x:Dn}(h:i<l.length)(a:l[i]=x):jn (l.drop i)=(uV x||jn (l.drop (i+1))):=by
 rw[List.drop_eq_getElem_cons h,a];rfl
def ixD(l:List Dn):Int:=if l.findIdx uV<l.length then (l.findIdx uV:Nat)else -1
theorem aa5(l:List Dn):0<=ixD l↔jn l=true:=by
 have a:=List.findIdx_lt_length (p:=uV) (xs:=l);show _↔l.any uV=true;rw[List.any_eq_true];unfold ixD;by_cases h:l.findIdx uV<l.length
 ·rw[if_pos h];exact⟨fun _=>a.1 h,fun _=>by omega⟩
 ·rw[if_neg h];exact⟨fun b=>by omega,fun b=>absurd (a.2 b) h⟩
theorem KV(l:List Dn)(m:l.length<1000000):Fn G2 T_ 339 [.slice (sX l),.fn 309 []] (.int .i64 (ixD l)):=by
 refine ae hm qv (by simp) ?_;have k:=List.findIdx_le_length (p:=uV) (xs:=l);simp[jS,aH];refine be hm [] (fun i:Nat=>[(8,.val (.int .i64 i))]) (fun _=>[]) (fun i=>i<=l.findIdx uV) (fun i=>l.length-i) 0 (by omega) ?_ ?_
 ·simp;exact bp
 intro i n;simp[aH];by_cases h:i<l.length
 ·obtain⟨x,c⟩:∃x,l[i]=x:=⟨_,rfl⟩;have j:=kC h c;have a:Fn G2 T_ 309 [.agg [.int .i64 x.1,.int .i64 x.2]] (.bool (uV x)):=Yz x;by_cases b:uV x=true
  ·have e:l.findIdx uV=i:=by
    have:¬i<l.findIdx uV:=fun d=>by
     have:=List.not_of_lt_findIdx d;rw[c]at this;simp[b]at this
    omega
   have f:ixD l=i:=by unfold ixD;rw[e,if_pos h]
   rw[f];rw[b]at a;simp(disch:=omega)[wl,aH,j];refine aa a ?_;simp(disch:=omega)[wl]
  ·have e:l.findIdx uV≠i:=fun e=>by
    have:=List.findIdx_getElem (p:=uV) (xs:=l) (w:=by omega);simp only[e,c]at this;exact b this
   have g:uV x=false:=by simpa using b
   rw[g]at a;simp(disch:=omega)[wl,aH,j];refine aa a ?_;simp(disch:=omega)[wl];refine ai (i+1) (by omega) (by omega) ?_;simp;exact bp
 ·have f:ixD l = -1:=by unfold ixD;rw[if_neg (by omega)]
  rw[f];simp(disch:=omega)[wl,aH]
theorem EK(l:List Dn)(a:l.length<1000000):Fn G2 T_ 308 [.slice (sX l),.fn 309 []] (.bool (jn l)):=by
 refine ae hm o4 (by simp) ?_;have b:=KV l a
 have:jn l=decide (0<=ixD l):=by
  rw[Bool.eq_iff_iff,decide_eq_true_eq];exact(aa5 l).symm
 rw[this];simp[iI];refine aa b ?_;simp
theorem Oi(l:List Dn)(j:l.length<1000000):Fn G2 T_ 239 [.slice (sX l)] (.bool (jn l)):=by
 refine ae hm D5 (by simp) ?_;obtain⟨R,d⟩:∃R,jn l=R:=⟨_,rfl⟩;rw[d];simp[tO,aH];refine be hm [] (fun i:Nat=>[(3,.val (.int .i64 i))]) (fun _=>[]) (fun i=>i<=l.length/\jn (l.drop i)=R) (fun i=>l.length-i) 0 ⟨by omega,by simpa using d⟩ ?_ ?_
 ·simp;exact bp
 rintro i ⟨k,a⟩;simp[aH];by_cases h:i<l.length
 ·obtain⟨x,f⟩:∃x,l[i]=x:=⟨_,rfl⟩;have g:=kC h f;rw[QM h f]at a;by_cases e:x.1=0
  ·have b:uV x=false:=by simp[uV,e]
   rw[b,Bool.false_or]at a;simp(disch:=omega)[wl,aH,g,e];refine ai (i+1) ⟨by omega,a⟩ (by omega) ?_;simp;exact bp
  ·have b:uV x=true:=by simp[uV,e]
   rw[b,Bool.true_or]at a;subst a;simp(disch:=omega)[wl,aH,g,e]
 ·obtain rfl:i=l.length:=by omega
  rw[List.drop_length]at a;have c:false=R:=a;subst c;simp(disch:=omega)[wl,aH]
theorem YA(l:List Int)(g:l.length<1000000):Fn G2 T_ 236 [.slice (is l)] (.int .i64 (n7 l)):=by
 refine ae hm J8 (by simp) ?_;obtain⟨R,c⟩:∃R,n7 l=R:=⟨_,rfl⟩;rw[c];simp[A7,is_len];refine be hm [] (fun i:Nat=>[(3,.val (.int .i64 i))]) (fun _=>[]) (fun i=>i<=l.length/\n7 (l.drop i)=R) (fun i=>l.length-i) 0 ⟨by omega,by simpa using c⟩ ?_ ?_
 ·simp;exact bp
 rintro i ⟨j,a⟩;simp[is_len];by_cases h:i<l.length
 ·obtain⟨x,d⟩:∃x,l[i]=x:=⟨_,rfl⟩;have f:=uG h d;rw[List.drop_eq_getElem_cons h,d,n7]at a;by_cases e:x=0
  ·rw[if_pos e]at a;simp(disch:=omega)[wl,is_len,f,e];refine ai (i+1) ⟨by omega,a⟩ (by omega) ?_;simp;exact bp
  ·rw[if_neg e]at a;subst a;simp(disch:=omega)[wl,is_len,f,e]
 ·obtain rfl:i=l.length:=by omega
  rw[List.drop_length]at a;have b:0=R:=a;subst b;simp(disch:=omega)[wl,is_len]
theorem Oj{b:Type}{l:List b}{i:Nat}{x:b}(h:i<l.length)(d:l[i]=x)(a:x∈l.take i):¬l.Nodup:=fun e=>by
 have c:=(List.take_sublist (i+1) l).nodup e;rw[List.take_succ_eq_append_getElem h,d]at c;exact(List.nodup_append.1 c).2.2 x a x (by simp) rfl
theorem H1{d:Type}{l:List d}{i:Nat}{x:d}(h:i<l.length)(g:l[i]=x)(j:(l.take i).Nodup)(c:x∉l.take i):(l.take (i+1)).Nodup:=by
 rw[List.take_succ_eq_append_getElem h,g];refine List.nodup_append.2 ⟨j,by simp,?_⟩;intro a k b f;simp at f;subst f;exact fun e=>c (e▸k)
theorem Ok{a:Type}{l:List a}{p:a->Bool}{i:Nat}{x:a}(h:i<l.length)(b:l[i]=x):(l.drop i).any p=(p x||(l.drop (i+1)).any p):=by
 rw[List.drop_eq_getElem_cons h,b,List.any_cons]
theorem QN(l:List Int)(i:Nat):(is l).take i=is (l.take i):=by simp[is]
theorem VF(l:List Dn)(i:Nat):(sX l).take i=sX (l.take i):=by simp[sX]
theorem YB(l:List Int):∀a∈is l,a.length=1:=fun r b=>by
 simp only[is,List.mem_map]at b;obtain⟨_,_,rfl⟩:=b;rfl
theorem aa6(l:List Dn):∀a∈sX l,a.length=2:=fun r b=>by
 simp only[sX,List.mem_map]at b;obtain⟨_,_,rfl⟩:=b;rfl
theorem YC(l:List Int)(b a:Int)(d:Bool)(y:l.length<1000000)(z:0<=b)(A:b<=1)(B:0<=a)(C:a<=1000):Fn G2 T_ 249 [.slice (is l),.agg [.int .i64 b,.int .i64 a,.bool d]] (.int .i64 (eR b a d l)):=by
 refine ae hm J9 (by simp) ?_;obtain⟨R,c⟩:∃R,eR b a d l=R:=⟨_,rfl⟩;rw[c];unfold eR at c;simp[A9,is_len];by_cases v:12<l.length
 ·rw[if_pos v]at c;subst c;simp(disch:=omega)[wl,is_len]
 ·rw[if_neg v]at c;simp(disch:=omega)[wl,is_len];refine be hm [] (fun i:Nat=>[(14,.val (.int .i64 i))]) (fun _=>[(3,.box [.val (.int .i64 b),.val (.int .i64 a),.val (.bool d)])]) (fun i=>i<=l.length/\(l.drop i).any (qm b a d)=l.any (qm b a d)) (fun i=>l.length-i) 0 ⟨by omega,by simp⟩ ?_ ?_
  ·simp;exact bp
  rintro i ⟨w,f⟩;simp[is_len];by_cases h:i<l.length
  ·obtain⟨n,k⟩:∃n,l[i]=n:=⟨_,rfl⟩;have o:=uG h k;rw[Ok h k]at f;have next:qm b a d n=false->(l.drop (i+1)).any (qm b a d)=l.any (qm b a d):=fun e=>by rw[<-f,e,Bool.false_or]
   have g:qm b a d n=true->R=8:=fun e=>by
    rw[<-f,e,Bool.true_or,if_pos rfl]at c;exact c.symm
   by_cases D:n < -a
   ·have:=g (by simp[qm];omega);subst this;simp(disch:=omega)[wl,is_len,o];rfl
   ·have p:=aa2 n (by omega);obtain⟨u,m⟩:∃u,n.natAbs=u:=⟨_,rfl⟩;rw[m]at p;simp(disch:=omega)[wl,is_len,o];refine aa p ?_;by_cases E:(u:Int)<b
    ·have:=g (by simp[qm,m];omega);subst this;simp(disch:=omega)[wl];rfl
    ·simp(disch:=omega)[wl];refine aa p ?_;by_cases F:a<(u:Int)
     ·have:=g (by simp[qm,m];omega);subst this;simp(disch:=omega)[wl];rfl
     ·by_cases q:n<0
      ·cases d with
       |false=>
        have:=g (by simp[qm,m];omega);subst this;simp(disch:=omega)[wl,q];rfl
       |true=>
        have s:=next (by simp[qm,m];omega)
        simp(disch:=omega)[wl,q];refine⟨rfl,?_⟩;refine ai (i+1) ⟨by omega,s⟩ (by omega) ?_;simp;exact bp
      ·have s:=next (by simp[qm,m];omega)
       simp(disch:=omega)[wl,q];refine⟨rfl,?_⟩;refine ai (i+1) ⟨by omega,s⟩ (by omega) ?_;simp;exact bp
  ·obtain rfl:i=l.length:=by omega
   rw[List.drop_length]at f;rw[<-f,if_neg (by simp)]at c;simp(disch:=omega)[wl,is_len];refine be hm [] (fun i:Nat=>[(49,.val (.int .i64 i))]) (fun _=>[]) (fun i=>i<=l.length/\(l.take i).Nodup) (fun i=>l.length-i) 0 ⟨by omega,by simp⟩ ?_ ?_
   ·simp;exact bp
   rintro i ⟨w,f⟩;simp[is_len];by_cases h:i<l.length
   ·obtain⟨n,k⟩:∃n,l[i]=n:=⟨_,rfl⟩;have o:=uG h k;have x:=up (vC (l.take i) n (by rw[List.length_take];omega));simp(disch:=omega)[wl,is_len,o,QN];refine⟨⟨by omega,YB l⟩,?_⟩;refine aa x ?_;by_cases j:n∈l.take i
    ·rw[if_neg (Oj h k j)]at c;subst c;simp(disch:=omega)[wl,j]
    ·simp(disch:=omega)[wl,j];refine ai (i+1) ⟨by omega,H1 h k f j⟩ (by omega) ?_;simp;exact bp
   ·obtain rfl:i=l.length:=by omega
    rw[List.take_length]at f;rw[if_pos f]at c;subst c;simp(disch:=omega)[wl,is_len]
theorem YD(d:Int):Vq d=[]↔(d<0\/6<d):=by
 constructor
 ·intro h;by_cases c:0<=d
  ·by_cases e:d<=6
   ·have:=(aaL c e).2;rw[h]at this;simp at this
   ·omega
  ·omega
 ·intro h;have f:¬d=0:=by omega
  have c:¬d=1:=by omega
  have e:¬d=2:=by omega
  have g:¬d=3:=by omega
  have i:¬d=4:=by omega
  have j:¬d=5:=by omega
  have k:¬d=6:=by omega
  simp[Vq,f,c,e,g,i,j,k];intro a b;omega
theorem Ol(l:List Dn)(v:l.length<1000000):Fn G2 T_ 248 [.slice (sX l)] (.int .i64 (sn l)):=by
 refine ae hm Bf (by simp) ?_;obtain⟨R,a⟩:∃R,sn l=R:=⟨_,rfl⟩;rw[a];unfold sn at a;simp[rx,aH];by_cases n:12<l.length
 ·rw[if_pos n]at a;subst a;simp(disch:=omega)[wl,aH]
 ·rw[if_neg n]at a;simp(disch:=omega)[wl,aH];refine be hm [] (fun i:Nat=>[(12,.val (.int .i64 i))]) (fun _=>[]) (fun i=>i<=l.length/\(l.drop i).any qS=l.any qS) (fun i=>l.length-i) 0 ⟨by omega,by simp⟩ ?_ ?_
  ·simp;exact bp
  rintro i ⟨p,b⟩;simp[aH];by_cases h:i<l.length
  ·obtain⟨x,g⟩:∃x,l[i]=x:=⟨_,rfl⟩;have k:=kC h g;rw[Ok h g]at b;have next:qS x=false->(l.drop (i+1)).any qS=l.any qS:=fun e=>by rw[<-b,e,Bool.false_or]
   have d:qS x=true->R=8:=fun e=>by
    rw[<-b,e,Bool.true_or,if_pos rfl]at a;exact a.symm
   have o:=up (wR x.2);have f:=YD x.2;obtain⟨t,q⟩:∃t,Vq x.2=t:=⟨_,rfl⟩;rw[q]at o f;simp(disch:=omega)[wl,aH,k];refine aa o ?_;by_cases j:t=[]
   ·have m:=f.1 j;have:=d (by simp[qS];omega);subst this;simp(disch:=omega)[wl,j]
   ·have m:¬(x.2<0\/6<x.2):=fun e=>j (f.2 e)
    by_cases w:x.1 < -53
    ·have:=d (by simp[qS];omega);subst this;simp(disch:=omega)[wl,j]
    ·by_cases y:53<x.1
     ·have:=d (by simp[qS];omega);subst this;simp(disch:=omega)[wl,j]
     ·have s:=next (by simp[qS];omega)
      simp(disch:=omega)[wl,j];refine ai (i+1) ⟨by omega,s⟩ (by omega) ?_;simp;exact bp
  ·obtain rfl:i=l.length:=by omega
   rw[List.drop_length]at b;rw[<-b,if_neg (by simp)]at a;simp(disch:=omega)[wl,aH];refine be hm [] (fun i:Nat=>[(33,.val (.int .i64 i))]) (fun _=>[]) (fun i=>i<=l.length/\(l.take i).Nodup) (fun i=>l.length-i) 0 ⟨by omega,by simp⟩ ?_ ?_
   ·simp;exact bp
   rintro i ⟨p,b⟩;simp[aH];by_cases h:i<l.length
   ·obtain⟨x,g⟩:∃x,l[i]=x:=⟨_,rfl⟩;have k:=kC h g;have u:=up (wP (l.take i) x (by rw[List.length_take];omega));simp(disch:=omega)[wl,aH,k,VF];refine⟨⟨by omega,aa6 l⟩,?_⟩;refine aa u ?_;by_cases c:x∈l.take i
    ·rw[if_neg (Oj h g c)]at a;subst a;simp(disch:=omega)[wl,c];rfl
    ·simp(disch:=omega)[wl,c];refine⟨rfl,?_⟩;refine ai (i+1) ⟨by omega,H1 h g b c⟩ (by omega) ?_;simp;exact bp
   ·obtain rfl:i=l.length:=by omega
    rw[List.take_length]at b;rw[if_pos b]at a;subst a;simp(disch:=omega)[wl,aH]
theorem rz(l:List Int)(a b:Int)(f:Bool)(C:l.length<1000000)(D:0<=a)(E:a<=1)(F:a<=b)(H:b<=1000):Fn G2 T_ 237 [.slice (is l),.int .i64 a,.int .i64 b,.bool f] (.int .i64 (eR a b f l)):=by
 refine ae hm KS (by simp) ?_;obtain⟨R,d⟩:∃R,eR a b f l=R:=⟨_,rfl⟩;rw[d];unfold eR at d;simp[D1,is_len];by_cases w:12<l.length
 ·rw[if_pos w]at d;subst d;simp(disch:=omega)[wl,is_len]
 ·rw[if_neg w]at d;simp(disch:=omega)[wl,is_len];refine be hm [] (fun i:Nat=>[(9,.val (.int .i64 i))]) (fun _=>[]) (fun i=>i<=l.length/\(l.drop i).any (qm a b f)=l.any (qm a b f)) (fun i=>l.length-i) 0 ⟨by omega,by simp⟩ ?_ ?_
  ·simp;exact bp
  rintro i ⟨y,k⟩;simp[is_len];by_cases h:i<l.length
  ·obtain⟨n,o⟩:∃n,l[i]=n:=⟨_,rfl⟩;have g:=uG h o;have c:∀x,(is l)[i]'x=[.int .i64 n]:=fun x=>by simp[is,o]
   rw[Ok h o]at k;have next:qm a b f n=false->(l.drop (i+1)).any (qm a b f)=l.any (qm a b f):=fun e=>by rw[<-k,e,Bool.false_or]
   have q:qm a b f n=true->R=8:=fun e=>by
    rw[<-k,e,Bool.true_or,if_pos rfl]at d;exact d.symm
   by_cases z:a<=n/\n<=b
   ·have v:=next (by simp[qm];omega)
    obtain⟨j,s⟩:=z;simp(disch:=omega)[wl,is_len,g];refine ai (i+1) ⟨by omega,v⟩ (by omega) ?_;simp;exact bp
   ·cases f with
    |false=>
     have:=q (by simp[qm];omega);subst this;by_cases j:n<a
     ·simp(disch:=omega)[wl,is_len,g,c,j]
     ·have s:b<n:=by omega
      simp(disch:=omega)[wl,is_len,g,c,j,s]
    |true=>
     by_cases A:-b<=n/\n<=-a
     ·have v:=next (by simp[qm];omega)
      obtain⟨p,u⟩:=A;by_cases j:n<a
      ·simp(disch:=omega)[wl,is_len,g,c,j];refine ai (i+1) ⟨by omega,v⟩ (by omega) ?_;simp;exact bp
      ·exfalso;omega
     ·have:=q (by simp[qm];omega);subst this;by_cases j:n<a
      ·by_cases p:n < -b
       ·simp(disch:=omega)[wl,is_len,g,c,j,p]
       ·have u:-a<n:=by omega
        simp(disch:=omega)[wl,is_len,g,c,j,p,u]
      ·have s:b<n:=by omega
       by_cases p:n < -b
       ·simp(disch:=omega)[wl,is_len,g,c,j,s,p]
       ·have u:-a<n:=by omega
        simp(disch:=omega)[wl,is_len,g,c,j,s,p,u]
  ·obtain rfl:i=l.length:=by omega
   rw[List.drop_length]at k;rw[<-k,if_neg (by simp)]at d;simp(disch:=omega)[wl,is_len];refine be hm [] (fun i:Nat=>[(10,.val (.int .i64 i))]) (fun _=>[]) (fun i=>i<=l.length/\(l.take i).Nodup) (fun i=>l.length-i) 0 ⟨by omega,by simp⟩ ?_ ?_
   ·simp;exact bp
   rintro i ⟨y,k⟩;simp[is_len];by_cases h:i<l.length
   ·obtain⟨n,o⟩:∃n,l[i]=n:=⟨_,rfl⟩;have g:=uG h o;have B:=up (TT (l.take i) n (by rw[List.length_take];omega));simp(disch:=omega)[wl,is_len,g,QN];refine⟨⟨by omega,YB l⟩,?_⟩;refine aa B ?_;by_cases m:n∈l.take i
    ·rw[if_neg (Oj h o m)]at d;subst d;simp(disch:=omega)[wl,m]
     try rfl
    ·simp(disch:=omega)[wl,m];refine⟨rfl,?_⟩;refine ai (i+1) ⟨by omega,H1 h o k m⟩ (by omega) ?_;simp;exact bp
   ·obtain rfl:i=l.length:=by omega
    rw[List.take_length]at k;rw[if_pos k]at d;subst d;simp(disch:=omega)[wl,is_len]
theorem YE(l:List Dn)(z:l.length<1000000):Fn G2 T_ 238 [.slice (sX l)] (.int .i64 (sn l)):=by
 refine ae hm KT (by simp) ?_;obtain⟨R,a⟩:∃R,sn l=R:=⟨_,rfl⟩;rw[a];unfold sn at a;simp[D3,aH];by_cases u:12<l.length
 ·rw[if_pos u]at a;subst a;simp(disch:=omega)[wl,aH]
 ·rw[if_neg u]at a;simp(disch:=omega)[wl,aH];refine be hm [] (fun i:Nat=>[(3,.val (.int .i64 i))]) (fun _=>[]) (fun i=>i<=l.length/\(l.drop i).any qS=l.any qS) (fun i=>l.length-i) 0 ⟨by omega,by simp⟩ ?_ ?_
  ·simp;exact bp
  rintro i ⟨w,b⟩;simp[aH];by_cases h:i<l.length
  ·obtain⟨x,k⟩:∃x,l[i]=x:=⟨_,rfl⟩;have c:=kC h k;rw[Ok h k]at b;have next:qS x=false->(l.drop (i+1)).any qS=l.any qS:=fun e=>by rw[<-b,e,Bool.false_or]
   have d:qS x=true->R=8:=fun e=>by
    rw[<-b,e,Bool.true_or,if_pos rfl]at a;exact a.symm
   by_cases m:x.2<0
   ·have:=d (by simp[qS];omega);subst this;simp(disch:=omega)[wl,aH,c,m]
   ·by_cases o:6<x.2
    ·have:=d (by simp[qS];omega);subst this;simp(disch:=omega)[wl,aH,c,m,o]
    ·by_cases q:x.1 < -53
     ·have:=d (by simp[qS];omega);subst this;simp(disch:=omega)[wl,aH,c,m,o,q]
     ·by_cases v:53<x.1
      ·have:=d (by simp[qS];omega);subst this;simp(disch:=omega)[wl,aH,c,m,o,q,v]
      ·have n:=next (by simp[qS];omega)
       simp(disch:=omega)[wl,aH,c,m,o,q,v];refine ai (i+1) ⟨by omega,n⟩ (by omega) ?_;simp;exact bp
  ·obtain rfl:i=l.length:=by omega
   rw[List.drop_length]at b;rw[<-b,if_neg (by simp)]at a;simp(disch:=omega)[wl,aH];refine be hm [] (fun i:Nat=>[(4,.val (.int .i64 i))]) (fun _=>[]) (fun i=>i<=l.length/\(l.take i).Nodup) (fun i=>l.length-i) 0 ⟨by omega,by simp⟩ ?_ ?_
   ·simp;exact bp
   rintro i ⟨w,b⟩;simp[aH];by_cases h:i<l.length
   ·obtain⟨x,k⟩:∃x,l[i]=x:=⟨_,rfl⟩;have c:=kC h k;simp(disch:=omega)[wl,aH];refine be hm [] (fun j:Nat=>[(5,.val (.int .i64 j))]) (fun _=>[]) (fun j=>j<=i/\x∉l.take j) (fun j=>i-j) 0 ⟨by omega,by simp⟩ ?_ ?_
    ·simp;exact bp
    rintro j ⟨A,n⟩;simp;by_cases B:j<i
    ·obtain⟨y,p⟩:∃y,l[j]=y:=⟨_,rfl⟩;have f:=kC (by omega:j<l.length) p;by_cases e1:y.1=x.1
     ·by_cases e2:y.2=x.2
      ·have e:y=x:=Prod.ext e1 e2
       have s:x∈l.take i:=by
        rw[List.mem_take_iff_getElem];exact⟨j,by omega,by rw[p,e]⟩
       rw[if_neg (Oj h k s)]at a;subst a;simp(disch:=omega)[wl,aH,c,f,e1,e2]
      ·have g:¬x=y:=fun e=>e2 (by rw[e])
       simp(disch:=omega)[wl,aH,c,f,e1,e2];refine ai (j+1) ⟨by omega,take_no (by omega) p n g⟩ (by omega) ?_;simp;exact ag rfl rfl (by simp[aI,ap,ac,e1]) (by simp[bD,ac,e1]) (by simp[bB])
     ·have g:¬x=y:=fun e=>e1 (by rw[e])
      simp(disch:=omega)[wl,aH,c,f,e1];refine ai (j+1) ⟨by omega,take_no (by omega) p n g⟩ (by omega) ?_;simp;exact bp
    ·obtain rfl:j=i:=by omega
     simp(disch:=omega)[wl];refine ai (j+1) ⟨by omega,H1 h k b n⟩ (by omega) ?_;simp;exact bp
   ·obtain rfl:i=l.length:=by omega
    rw[List.take_length]at b;rw[if_pos b]at a;subst a;simp(disch:=omega)[wl,aH]
def cells(r:Ru):List IV:=[.int .u8 r.f,.int .i64 r.i,.int .i64 r.c,.int .u8 r.u.k,.int .i64 r.u.s,.slice (is r.l4),.slice (is r.l5),.slice (is r.l6),.slice (sX r.l7),.slice (is r.l8),.slice (is r.l9),.slice (is r.l10),.slice (is r.l11),.slice (is r.l12),.int .i64 r.w]
def Ru.iv(r:Ru):IV:=.agg (cells r)
def VG(r:Ru):Int:=if r.u.k=0 then (if r.u.s≠0 then 2 else 0)else if jI r.u≠0 then jI r.u else if 0<r.c then 9 else 0
theorem VH(r:Ru)(f:0<=r.u.k):Fn G2 T_ 235 [r.iv] (.int .i64 (VG r)):=by
 refine ae hm J7 (by simp) ?_;have c:=EH r.u f;unfold VG Ru.iv cells;simp[A5];by_cases b:r.u.k=0
 ·rw[if_pos b];by_cases a:r.u.s=0
  ·rw[if_pos a];simp(disch:=omega)[wl,b,a]
  ·rw[if_neg a];simp(disch:=omega)[wl,b,a]
 ·rw[if_neg b];obtain⟨e,g⟩:∃e,jI r.u=e:=⟨_,rfl⟩;unfold eX at c;rw[g]at c |-;simp(disch:=omega)[wl,b];refine aa c ?_;by_cases a:e=0
  ·subst a;by_cases d:0<r.c
   ·simp(disch:=omega)[wl,d]
   ·simp(disch:=omega)[wl,d]
  ·simp(disch:=omega)[wl,a]
theorem aa7(r:Ru)(s:0<=r.u.k):Fn G2 T_ 247 [.ref (cells r)] (.int .i64 (FM r)):=by
 refine ae hm qt (by simp) ?_;have l:=tN r.u s;have p:=up (wR r.w);have d:=YD r.w;obtain⟨t,u⟩:∃t,Vq r.w=t:=⟨_,rfl⟩;rw[u]at p d;obtain⟨R,a⟩:∃R,FM r=R:=⟨_,rfl⟩;rw[a];unfold FM at a;unfold cells;simp[jO];by_cases c:6<r.f
 ·rw[if_pos c]at a;subst a;simp(disch:=omega)[wl,c]
 ·rw[if_neg c]at a;by_cases g:r.i<1
  ·rw[if_pos (by omega)]at a;subst a;simp(disch:=omega)[wl,c,g]
  ·by_cases i:1000<r.i
   ·rw[if_pos (by omega)]at a;subst a;simp(disch:=omega)[wl,c,g,i]
   ·by_cases m:r.c<0
    ·rw[if_pos (by omega)]at a;subst a;simp(disch:=omega)[wl,c,g,i,m]
    ·by_cases q:1000<r.c
     ·rw[if_pos (by omega)]at a;subst a;simp(disch:=omega)[wl,c,g,i,m,q]
     ·simp(disch:=omega)[wl,c,g,i,m,q];refine aa p ?_;by_cases j:t=[]
      ·have:=d.1 j;rw[if_pos (by omega)]at a;subst a;simp(disch:=omega)[wl,j]
      ·have v:¬(r.w<0\/6<r.w):=fun e=>j (d.2 e)
       rw[if_neg (by omega)]at a;simp(disch:=omega)[wl,j];unfold eX at l;by_cases b:r.u.k=0
       ·by_cases f:r.u.s=0
        ·have h:r.u=⟨0,0⟩:=by
          cases n:r.u with
          |mk x y=>
           rw[n]at b f;simp only at b f;rw[b,f]
         rw[if_pos h]at a;subst a;simp(disch:=omega)[wl,b,f]
        ·have h:¬r.u=⟨0,0⟩:=fun e=>f (by rw[e])
         rw[if_neg h,if_pos b]at a;subst a;simp(disch:=omega)[wl,b,f]
       ·have h:¬r.u=⟨0,0⟩:=fun e=>b (by rw[e])
        rw[if_neg h,if_neg b]at a;obtain⟨e,w⟩:∃e,jI r.u=e:=⟨_,rfl⟩;rw[w]at l a;simp(disch:=omega)[wl,b];refine aa l ?_;by_cases o:e=0
        ·subst o;rw[if_neg (by simp)]at a;by_cases k:0<r.c
         ·rw[if_pos k]at a;subst a;simp(disch:=omega)[wl,k]
         ·rw[if_neg k]at a;subst a;simp(disch:=omega)[wl,k]
        ·rw[if_pos o]at a;subst a;simp(disch:=omega)[wl,o]
theorem k8{k:Nat}(h:k∈cC)(a:k≠7):k=4\/k=5\/k=6\/k=8\/k=9\/k=10\/k=11\/k=12:=by
 simp only[cC,List.mem_cons,List.not_mem_nil,or_false]at h;omega
theorem QO(r:Ru)(k:Nat)(h:k∈cC)(a:k≠7):Fn G2 T_ 204 [.ref (cells r),.int .i64 k] (.ref ((cells r).drop (k+1))):=by
 refine ae hm jq (by simp) ?_;unfold cells;simp[fU];rcases k8 h a with rfl|rfl|rfl|rfl|rfl|rfl|rfl|rfl <;>
 ·simp(disch:=omega)[wl]
theorem drop_at(r:Ru)(k:Nat)(h:k∈cC)(a:k≠7):∃l,(cells r).drop (k+1)=.slice (is (Zt r k))::l:=by
 rcases k8 h a with rfl|rfl|rfl|rfl|rfl|rfl|rfl|rfl<;>exact⟨_,rfl⟩
def uW(r:Ru):Prop:=r.l4.length<100000/\r.l5.length<100000/\r.l6.length<100000/\r.l7.length<100000/\r.l8.length<100000/\r.l9.length<100000/\r.l10.length<100000/\r.l11.length<100000/\r.l12.length<100000
theorem YF{r:Ru}(a:uW r){k:Nat}(h:k∈cC)(b:k≠7):(Zt r k).length<100000:=by
 obtain⟨f,g,i,_,j,l,c,d,e⟩:=a;rcases k8 h b with rfl|rfl|rfl|rfl|rfl|rfl|rfl|rfl<;>assumption
def Ja(r:Ru)(k:Nat):Nat:=r.l7.length+(if 4<k then r.l4.length else 0)+(if 5<k then r.l5.length else 0)+(if 6<k then r.l6.length else 0)+(if 8<k then r.l8.length else 0)+(if 9<k then r.l9.length else 0)+(if 10<k then r.l10.length else 0)+(if 11<k then r.l11.length else 0)
theorem YG(r:Ru){k:Nat}(h:k∈cC)(a:k<12):Ja r (k+1)=Ja r k+(if k=7 then 0 else (Zt r k).length):=by
 simp only[cC,List.mem_cons,List.not_mem_nil,or_false]at h;have h:k=4\/k=5\/k=6\/k=7\/k=8\/k=9\/k=10\/k=11:=by omega
 rcases h with rfl|rfl|rfl|rfl|rfl|rfl|rfl|rfl<;>simp[Ja,Zt]<;>omega
theorem adb{r:Ru}(a:uW r)(k:Nat):Ja r k<1000000:=by
 obtain⟨e,f,g,h,i,j,b,c,d⟩:=a;unfold Ja
 repeat' split
 all_goals omega
theorem aa8(r:Ru)(q:uW r):Fn G2 T_ 251 [.ref (cells r)] (.bool (decide (¬Gu r))):=by
 refine ae hm qu (by simp) ?_;have v:=EK r.l7 (by have:=q.2.2.2.1;omega);obtain⟨N,m⟩:∃N,jn r.l7=N:=⟨_,rfl⟩;rw[m]at v;obtain⟨R,s⟩:∃R,decide (¬Gu r)=R:=⟨_,rfl⟩;rw[s];have a:Gu r->R=false:=fun h=>by rw[<-s];simpa using h
 have c:¬Gu r->R=true:=fun h=>by rw[<-s];simpa using h
 unfold Gu at a c;rw[m]at a c;have j:=adb q;have n:IP r=Ja r 12:=by simp[IP,Ja]
 rw[n]at a c;have o:=@YF r q;simp[jQ,cells];refine aa v ?_;simp(disch:=omega)[wl];refine Xr hm (fun _:Unit=>⟨[(0,.val (.ref (cells r)))],[],[],109,G2⟩) (fun _=>¬(N=true/\(r.f<5\/0<r.l10.length))) (fun _=>rfl) ?_ ?_
 ·by_cases b:N=true/\(r.f<5\/0<r.l10.length)
  ·have:=a (.inl b);subst this;obtain⟨rfl,g⟩:=b;by_cases d:r.f<5
   ·simp(disch:=omega)[wl,d]
   ·have f:=g.resolve_left d;simp(disch:=omega)[wl,d,is_len,f]
  ·cases N with
   |false=>
    simp(disch:=omega)[wl];refine bE () b ?_;exact ag rfl rfl (by simp[aI,ap,ac,cells]) (by simp[bD,ac]) (by simp[bB])
   |true=>
    have d:¬r.f<5:=fun h=>b ⟨rfl,.inl h⟩
    have f:¬0<r.l10.length:=fun h=>b ⟨rfl,.inr h⟩
    simp(disch:=omega)[wl,d,is_len,f];refine bE () b ?_;exact ag rfl rfl (by simp[aI,ap,ac,cells]) (by simp[bD,ac]) (by simp[bB])
 intro _ d1;simp[cells];refine Xr hm (fun _:Unit=>⟨[(0,.val (.ref (cells r)))],[],[],109,G2⟩) (fun _=>¬(0<r.l8.length/\r.f=4)/\¬(0<r.l10.length/\r.f≠6)) (fun _=>rfl) ?_ ?_
 ·by_cases b:0<r.l8.length
  ·by_cases g:r.f=4
   ·have:=a (.inr (.inl ⟨b,g⟩));subst this;simp(disch:=omega)[wl,is_len,b,g]
   ·by_cases d:0<r.l10.length
    ·by_cases f:r.f=6
     ·simp(disch:=omega)[wl,is_len,b,g,d,f];refine bE () ⟨fun h=>by omega,fun h=>by omega⟩ ?_;exact ag rfl rfl (by simp[aI,ap,ac,cells,f]) (by simp[bD,ac]) (by simp[bB])
     ·have:=a (.inr (.inr (.inl ⟨d,f⟩)));subst this;simp(disch:=omega)[wl,is_len,b,g,d,f]
    ·simp(disch:=omega)[wl,is_len,b,g,d];refine bE () ⟨fun h=>by omega,fun h=>by omega⟩ ?_;exact ag rfl rfl (by simp[aI,ap,ac,cells]) (by simp[bD,ac]) (by simp[bB])
  ·by_cases d:0<r.l10.length
   ·by_cases f:r.f=6
    ·simp(disch:=omega)[wl,is_len,b,d,f];refine bE () ⟨fun h=>by omega,fun h=>by omega⟩ ?_;exact ag rfl rfl (by simp[aI,ap,ac,cells,f]) (by simp[bD,ac]) (by simp[bB])
    ·have:=a (.inr (.inr (.inl ⟨d,f⟩)));subst this;simp(disch:=omega)[wl,is_len,b,d,f]
   ·simp(disch:=omega)[wl,is_len,b,d];refine bE () ⟨fun h=>by omega,fun h=>by omega⟩ ?_;exact ag rfl rfl (by simp[aI,ap,ac,cells]) (by simp[bD,ac]) (by simp[bB])
 rintro _ ⟨w,d3⟩;simp[cells];refine Xr hm (fun _:Unit=>⟨[(0,.val (.ref (cells r)))],[],[],109,G2⟩) (fun _=>¬(0<r.l9.length/\(r.f=3\/r.f=4\/r.f=5))) (fun _=>rfl) ?_ ?_
 ·by_cases b:0<r.l9.length
  ·by_cases g:r.f=3
   ·have:=a (.inr (.inr (.inr (.inl ⟨b,.inl g⟩))));subst this;simp(disch:=omega)[wl,is_len,b,g]
   ·by_cases d:r.f=4
    ·have:=a (.inr (.inr (.inr (.inl ⟨b,.inr (.inl d)⟩))));subst this;simp(disch:=omega)[wl,is_len,b,g,d]
    ·by_cases f:r.f=5
     ·have:=a (.inr (.inr (.inr (.inl ⟨b,.inr (.inr f)⟩))));subst this;simp(disch:=omega)[wl,is_len,b,g,d,f]
     ·simp(disch:=omega)[wl,is_len,b,g,d,f];refine bE () (fun h=>by omega) ?_;exact ag rfl rfl (by simp[aI,ap,ac,cells]) (by simp[bD,ac]) (by simp[bB])
  ·simp(disch:=omega)[wl,is_len,b];refine bE () (fun h=>by omega) ?_;exact ag rfl rfl (by simp[aI,ap,ac,cells]) (by simp[bD,ac]) (by simp[bB])
 intro _ d4;by_cases b:r.l12.length=0
 ·have:=c (fun h=>by rcases h with h|h|h|h|h<;>first|exact d1 h|exact w h|exact d3 h|exact d4 h|omega);subst this;have g:r.l12=[]:=List.eq_nil_of_length_eq_zero b;simp(disch:=omega)[wl,cells,is_len,b]
 ·have u:R=decide (0<Ja r 12):=by
   by_cases h:Ja r 12=0
   ·rw[a (.inr (.inr (.inr (.inr ⟨by omega,h⟩))))];simp[h]
   ·rw[c (fun i=>by rcases i with i|i|i|i|i<;>first|exact d1 i|exact w i|exact d3 i|exact d4 i|omega)];simp;omega
  simp(disch:=omega)[wl,cells,is_len,aH,b];refine be hm [] (fun k:Nat=>[(5,.val (.int .i64 k)),(4,.val (.int .i64 (Ja r k:Nat))),(0,.val (.ref (cells r)))]) (fun _=>[]) (fun k=>4<=k/\k<=12) (fun k=>12-k) 4 ⟨by omega,by omega⟩ ?_ ?_
  ·simp[Ja,cells];exact bp
  rintro k ⟨C,D⟩;simp;by_cases h:k<12
  ·have p:k∈cC:=by simp[cC];omega
   have e:=YG r p h;have E:=j k;by_cases l:k=7
   ·rw[if_pos l]at e;simp(disch:=omega)[wl,l];refine ai (k+1) ⟨by omega,by omega⟩ (by omega) ?_;simp[e];subst l;exact bp
   ·rw[if_neg l]at e;obtain⟨x,z⟩:=drop_at r k p l;have y:=QO r k p l;have A:=o p l;rw[z]at y;have B:=j (k+1);simp(disch:=omega)[wl,l];refine aa y ?_;simp(disch:=omega)[wl,is_len];refine ai (k+1) ⟨by omega,by omega⟩ (by omega) ?_;simp[e];exact bp
  ·obtain rfl:k=12:=by omega
   subst u;simp(disch:=omega)[wl]
theorem QP(r:Ru){k:Nat}(h:k∈cC):n7 ((cC.drop (k-4)).map (rq r))=if rq r k=0 then n7 ((cC.drop (k-3)).map (rq r))else rq r k:=by
 simp only[cC,List.mem_cons,List.not_mem_nil,or_false]at h;rcases h with rfl|rfl|rfl|rfl|rfl|rfl|rfl|rfl|rfl<;>rfl
theorem aeb(k:Nat):0<=MD k/\MD k<=1/\MD k<=ME k/\0<=ME k/\ME k<=1000:=by
 unfold MD ME;split<;>split<;>omega
def dY(r:Ru):List SV:=[.val (.int .u8 r.f),.val (.int .i64 r.i),.val (.int .i64 r.c),.val (.int .u8 r.u.k),.val (.int .i64 r.u.s),.val (.slice (is r.l4)),.val (.slice (is r.l5)),.val (.slice (is r.l6)),.val (.slice (sX r.l7)),.val (.slice (is r.l8)),.val (.slice (is r.l9)),.val (.slice (is r.l10)),.val (.slice (is r.l11)),.val (.slice (is r.l12)),.val (.int .i64 r.w)]
theorem EL(r:Ru)(s:uW r)(B:0<=r.u.k):Fn G2 T_ 189 [r.iv] (.int .i64 (jo r)):=by
 refine ae hm J5 (by simp) ?_;have u:=aa7 r B;have y:=aa8 r s;obtain⟨R,b⟩:∃R,jo r=R:=⟨_,rfl⟩;rw[b];unfold jo at b;obtain⟨e,j⟩:∃e,FM r=e:=⟨_,rfl⟩;rw[j]at u b;unfold Ru.iv;unfold cells at u y;simp[A1,cells];refine aa u ?_;by_cases f:e=0
 ·subst f;rw[if_neg (by simp)]at b;simp(disch:=omega)[wl];obtain⟨F,m⟩:∃F,n7 (cC.map (rq r))=F:=⟨_,rfl⟩;rw[m]at b;have n:=@YF r s;have I:=s.2.2.2.1;refine M9 hm (fun k:Nat=>⟨[(4,.val (.int .i64 k)),(3,.val (.int .i64 0)),(2,.val (.int .i64 0)),(1,.loc 1 0)],[(1,.box (dY r))],[1],31,G2⟩) (fun k=>4<=k/\k<=13/\n7 ((cC.drop (k-4)).map (rq r))=F) (fun k=>13-k) 4 ⟨by omega,by omega,by simpa using m⟩ ?_ (fun _=>rfl) ?_
  ·simp[dY];exact bp
  rintro k ⟨J,K,g⟩;simp[dY];by_cases h:k<=12
  ·have c:k∈cC:=by simp[cC];omega
   rw[QP r c]at g;obtain⟨e,j⟩:∃e,rq r k=e:=⟨_,rfl⟩;rw[j]at g
   have next:e=0->n7 ((cC.drop (k+1-4)).map (rq r))=F:=fun f=>by
    rw[if_pos f]at g;rw[show k+1-4=k-3 by omega];exact g
   have o:e≠0->R=e:=fun f=>by
    rw[if_neg f]at g;subst g;rw[if_pos f]at b;exact b.symm
   by_cases l:k=7
   ·subst l;have i:sn r.l7=e:=j;have p:=Ol r.l7 (by omega);rw[i]at p;simp(disch:=omega)[wl];refine aa p ?_;by_cases a:e=0
    ·have v:=next a
     subst a;simp(disch:=omega)[wl];refine ai 8 ⟨by omega,by omega,v⟩ (by omega) ?_;simp[dY];exact bp
    ·have:=o a;subst this;simp(disch:=omega)[wl,a]
   ·have i:eR (MD k) (ME k) (RC k) (Zt r k)=e:=by unfold rq at j;rwa[if_neg l]at j
    obtain⟨z,C⟩:=drop_at r k c l;have w:=QO r k c l;have D:=n c l;rw[C]at w;unfold cells at w;obtain⟨w1,E,w3,w4,H⟩:=aeb k;have A:=fn_within k (by omega);have p:=YC (Zt r k) (MD k) (ME k) (RC k) (by omega) w1 E w4 H;rw[i]at p;unfold wiI at A;simp(disch:=omega)[wl,l];refine aa w ?_;simp(disch:=omega)[wl];refine aa A ?_;simp(disch:=omega)[wl];refine aa p ?_;by_cases a:e=0
    ·have v:=next a
     subst a;simp(disch:=omega)[wl];refine⟨rfl,?_⟩;refine ai (k+1) ⟨by omega,by omega,v⟩ (by omega) ?_;simp[dY];exact bp
    ·have:=o a;subst this;simp(disch:=omega)[wl,a];rfl
  ·obtain rfl:k=13:=by omega
   have x:0=F:=g;subst x;rw[if_neg (by simp)]at b;simp(disch:=omega)[wl];refine aa y ?_;by_cases q:Gu r
   ·rw[if_pos q]at b;subst b;simp(disch:=omega)[wl,q]
   ·rw[if_neg q]at b;subst b;simp(disch:=omega)[wl,q]
 ·rw[if_pos f]at b;subst b;simp(disch:=omega)[wl,f]
end Go.Vs.YtcjeehebikeghaaGreatDoor.Rc
