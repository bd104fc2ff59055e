/- A part of a proof. No conditions. -/
import Derived.Test.YtcjeehebikeghaaGreatDoorBW
set_option linter.unusedVariables false
set_option linter.unusedSimpArgs false
set_option maxRecDepth 100000
set_option maxHeartbeats 8000000
namespace Go.Vs.Pa
open Go.Vs.U8
def mul(m:Str):Prop:=m≠[]/\(∀b∈m,128<=b.toNat)/\∀r,mg (m++r)=false/\eo (m++r)=m.length
end Go.Vs.Pa
namespace Go.Vs.YtcjeehebikeghaaGreatDoor
open Go.Proofs Go.Vs.U8 Go.Vs.Pa
def Up(v:List Str):Bool:=v.all fun x=>decide (x.length<=80)
def ON(p:Pm):Bool:=decide (p.n.length<=40)&&decide (p.v.length<=10)&&Up p.v
def tv(l:List Pm):Bool:=decide (l.length<=10)&&l.all ON
theorem Lo{α:Type}{f:α->Bool}{l:List α}{i:Nat}{x:α}(h:i<l.length)(hx:l[i]=x):(l.drop i).all f=(f x&&(l.drop (i+1)).all f):=by
 rw[List.drop_eq_getElem_cons h,hx];rfl
theorem QE(l:List Pm):Fn G T_ 34 [.slice (ps l)] (.bool (tv l)):=by
 refine ag hm CR (by simp) ?_;simp[vp,cG];by_cases h0:10<l.length
 ·have:tv l=false:=by simp[tv];omega
  simp(disch:=omega)[wl,this,cG]
 ·have hR:tv l=l.all ON:=by
   have:l.length<=10:=by omega
   simp[tv,this]
  rw[hR];simp(disch:=omega)[wl,cG];refine ce hm [] (fun i:Nat=>[(3,.val (.int .i64 i))]) (fun i=>[]) (fun i=>i<=l.length/\(l.drop i).all ON=l.all ON) (fun i=>l.length-i) 0 ⟨by omega,by simp⟩ ?_ ?_
  ·simp;exact bQ
  rintro i ⟨hi,hc⟩;simp[cG];by_cases h:i<l.length
  ·obtain⟨p,hp⟩:∃p,l[i]=p:=⟨_,rfl⟩;have hg:=zI h hp;rw[Lo h hp]at hc;have bad:ON p=false->l.all ON=false:=fun e=>by rw[<-hc,e];rfl
   by_cases h1:40<p.n.length
   ·have hb:=bad (by simp[ON];omega);simp(disch:=omega)[wl,cG,hg,hb]
   ·by_cases h2:10<p.v.length
    ·have hb:=bad (by simp[ON];omega);simp(disch:=omega)[wl,cG,bE,hg,hb]
    ·have hP:ON p=Up p.v:=by
      have a1:p.n.length<=40:=by omega
      have a2:p.v.length<=10:=by omega
      simp[ON,a1,a2]
     rw[hP]at hc bad;simp(disch:=omega)[wl,cG,bE,hg];refine ce hm [] (fun k:Nat=>[(4,.val (.int .i64 k))]) (fun k=>[]) (fun k=>k<=p.v.length/\Up (p.v.drop k)=Up p.v) (fun k=>p.v.length-k) 0 ⟨by omega,by simp⟩ ?_ ?_
     ·simp;exact bQ
     rintro k ⟨hk,hv⟩;simp[cG];by_cases h3:k<p.v.length
     ·obtain⟨x,hx⟩:∃x,p.v[k]=x:=⟨_,rfl⟩;have hg2:=rg h3 hx;rw[Up,Lo h3 hx]at hv;by_cases h4:80<x.length
      ·have:decide (x.length<=80)=false:=by simp;omega
       rw[this]at hv;have hb:=bad (by rw[<-hv];rfl);simp(disch:=omega)[wl,cG,bE,hg,hg2,hb]
      ·have:decide (x.length<=80)=true:=by simp;omega
       rw[this,Bool.true_and]at hv;simp(disch:=omega)[wl,cG,bE,hg,hg2];refine au (k+1) ⟨by omega,hv⟩ (by omega) ?_;simp;exact bQ
     ·obtain rfl:k=p.v.length:=by omega
      have:Up p.v=true:=by rw[<-hv];simp[Up]
      rw[this,Bool.true_and]at hc;simp(disch:=omega)[wl,cG,bE,hg];refine au (i+1) ⟨by omega,hc⟩ (by omega) ?_;simp;exact bQ
  ·obtain rfl:i=l.length:=by omega
   have:l.all ON=true:=by rw[<-hc];simp
   simp(disch:=omega)[wl,this]
theorem y8{l:List Pm}{i:Nat}{p:Pm}(h:i<l.length)(hp:l[i]=p):ps (l.take (i+1))=ps (l.take i)++[[.str p.n,.slice (ts p.v)]]:=by
 rw[List.take_succ_eq_append_getElem h,hp,Ta]
theorem Vu(l:List Pm)(hl:l.length<100000)(hf:Fit l):Fn G T_ 44 [.slice (ps l)] (.slice (ps l)):=by
 refine ag hm Ho (by simp) ?_;simp[Aw,cG];refine ce hm [] (fun i:Nat=>[(4,.val (.int .i64 i)),(3,.own 3 i)]) (fun i=>[(3,.arr i 2 (ps (l.take i)))]) (fun i=>i<=l.length) (fun i=>l.length-i) 0 (by omega) ?_ ?_
 ·simp[ps];exact cR.trans (fS (k:=3) 3 2 (by simp) (by simp[aC,ac])) (ap rfl rfl (by simp[St.adopt,bp,aC,ac,put,dT,SV.erase]) (by simp[St.adopt,ch,ac,put,cC,Ob.erase]) (by simp[St.adopt,cg]))
 intro i hi;simp[cG];by_cases h:i<l.length
 ·obtain⟨p,hp⟩:∃p,l[i]=p:=⟨_,rfl⟩;have hg:=zI h hp;have ht:=y8 h hp;have hm':p∈l:=hp▸List.getElem_mem h;have hvl:=hf.v p hm';cases hv:p.v with
  |nil=>
   rw[hv]at hg ht;have ht':ps (l.take (i+1))=ps (l.take i)++[[.str p.n,.slice []]]:=ht;simp(disch:=omega)[wl,cG,hg,ts];refine⟨rfl,by omega,?_⟩;refine au (i+1) (by omega) (by omega) ?_;simp[ht'];exact bQ
  |cons x r=>
   have htl:=bE (x::r);rw[hv]at hg ht hvl;simp only[List.length_cons]at htl hvl;have:ts (x::r)=[.str x]::ts r:=rfl;rw[this]at htl hg ht;simp at htl;simp(disch:=omega)[wl,cG,hg,htl];refine⟨⟨by omega,fun a ha=>by simp[ts]at ha;obtain⟨y,_,rfl⟩:=ha;rfl⟩,rfl,by omega,?_⟩;refine au (i+1) (by omega) (by omega) ?_;simp[ht];exact bQ
 ·obtain rfl:i=l.length:=by omega
  simp(disch:=omega)[wl]
theorem JG(p:UInt8->Bool):∀x:Str,(∀i,i<run p x->∃c,x[i]?=some c/\p c=true)/\∀c,x[run p x]?=some c->p c=false
 |[]=>⟨fun i h=>by simp[run]at h,fun c h=>by simp at h⟩
 |d::r=>by
  obtain⟨h1,h2⟩:=JG p r;simp only[run];split
  ·next hd=>
   refine⟨fun i hi=>?_,fun c hc=>h2 c (by simpa using hc)⟩;cases i with
   |zero=>exact⟨d,rfl,hd⟩
   |succ i=>simpa using h1 i (by omega)
  ·next hd=>
   refine⟨fun i hi=>by omega,fun c hc=>?_⟩;simp at hc;subst hc;simpa using hd
theorem QF{p:UInt8->Bool} : ∀ {x:Str} {k:Nat},(∀i,i<k->∃c,x[i]?=some c/\p c=true)->(∀c,x[k]?=some c->p c=false)->run p x=k
 |[],k,h1,_=>by
  cases k with
  |zero=>rfl
  |succ k=>obtain⟨c,hc,_⟩:=h1 0 (by omega);simp at hc
 |d::r,0,_,h2=>by
  have:=h2 d rfl;simp[run,this]
 |d::r,k+1,h1,h2=>by
  obtain⟨c,hc,hp⟩:=h1 0 (by omega);simp at hc;subst hc;have:=QF (x:=r) (k:=k) (fun i hi=>by simpa using h1 (i+1) (by omega)) (fun c hc=>h2 c (by simpa using hc));simp[run,hp,this]
/- WHERE PARSING ENDS -/
structure Ag(n:Nat)(s t:Str):Prop where
 eq:∀i,i<n->t[i]?=s[i]?
 ls:n<=s.length
 lt:n<=t.length
 es:s[n]?=none\/s[n]?=some 58
 et:t[n]?=none\/t[n]?=some 58
theorem Ag.of{n:Nat}{s t:Str}(h:Ag n s t){k:Nat}(hk:k<=n){c:UInt8}(hc:c.toNat≠58):t[k]?=some c↔s[k]?=some c:=by
 rcases Nat.lt_or_ge k n with h1|h1
 ·rw[h.eq k h1]
 ·obtain rfl:k=n:=by omega
  constructor
  ·intro e;rcases h.et with h2|h2
   ·rw[h2]at e;cases e
   ·rw[h2]at e;cases e;exact absurd rfl hc
  ·intro e;rcases h.es with h2|h2
   ·rw[h2]at e;cases e
   ·rw[h2]at e;cases e;exact absurd rfl hc
theorem Ag.run{n:Nat}{s t:Str}(h:Ag n s t){p:UInt8->Bool}(hp:p 58=false){a k:Nat}(hr:run p (s.drop a)=k)(hk:a+k<=n):Vs.YtcjeehebikeghaaGreatDoor.run p (t.drop a)=k:=by
 have:=JG p (s.drop a);rw[hr]at this;refine QF (fun i hi=>?_) (fun c hc=>?_)
 ·obtain⟨c,h1,h2⟩:=this.1 i hi;refine⟨c,?_,h2⟩;rw[List.getElem?_drop]at h1 |-;rw[h.eq _ (by omega)];exact h1
 ·rw[List.getElem?_drop]at hc;rcases Nat.lt_or_ge (a+k) n with h1|h1
  ·rw[h.eq _ h1]at hc;exact this.2 c (by rw[List.getElem?_drop];exact hc)
  ·obtain e:a+k=n:=by omega
   rw[e]at hc;rcases h.et with h2|h2
   ·rw[h2]at hc;cases hc
   ·rw[h2]at hc;cases hc;exact hp
theorem Ag.take{n:Nat}{s t:Str}(h:Ag n s t){a k:Nat}(hk:a+k<=n):(t.drop a).take k=(s.drop a).take k:=by
 apply List.ext_getElem?;intro i;rw[List.getElem?_take,List.getElem?_take];split
 ·rw[List.getElem?_drop,List.getElem?_drop,h.eq _ (by omega)]
 ·rfl
end Go.Vs.YtcjeehebikeghaaGreatDoor
