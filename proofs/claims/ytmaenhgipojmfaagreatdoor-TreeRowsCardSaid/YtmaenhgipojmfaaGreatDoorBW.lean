/- The walk of param, part 15: parameters read. No conditions. -/
import Derived.Test.YtmaenhgipojmfaaGreatDoorBO
set_option linter.unusedVariables false
set_option linter.unusedSimpArgs false
namespace Go.Vs.U8
end Go.Vs.U8
namespace Go.Vs.Pa
end Go.Vs.Pa
namespace Go.Vs.YtmaenhgipojmfaaGreatDoor
set_option linter.unusedSimpArgs false
set_option linter.unusedVariables false
open Go.Proofs Go.Vs.U8 Go.Vs.Pa
set_option maxRecDepth 100000
set_option maxHeartbeats 8000000
theorem sg {raw:Str} {a f:Nat} {v:Str} {n:Nat} (h:checked raw a f=.ok v n):v.length≤60:=by
 simp only[checked] at h
 split at h
 ·cases h
 ·split at h
  ·cases h
  ·cases h;omega
theorem Ka {s:Str} {a:Nat} {v:Str} {n:Nat} (h:bE s a=.ok v n):v.length≤60:=by
 simp only[bE] at h
 split at h
 ·split at h
  ·cases h
  ·split at h
   ·cases h
   ·next hc=>
    split at h
    ·cases h;exact sg hc
    ·cases h
 ·split at h
  ·cases h
  ·split at h
   ·cases h
   ·next hc=>cases h;exact sg hc
theorem Ec (s:Str):∀ (m a:Nat) (vs:List Str) (v:List Str) (n:Nat),a≤s.length→(∀ x∈vs,x.length≤60)→cp s m a vs=.ok v n→n≤s.length∧v.length≤vs.length+m∧(∀ x∈v,x.length≤60)
 | 0,a,vs,v,n,_,_,h=>by simp[cp] at h
 | m+1,a,vs,v,n,ha,hvs,h=>by
  simp only[cp] at h
  cases hg:bE s a with
  | no e p=>rw[hg] at h;cases h
  | ok x j=>
   rw[hg] at h
   have hj:=mi ha hg
   have hx:=Ka hg
   have hvs':∀ y∈vs++[x],y.length≤60:=by
    intro y hy
    rcases List.mem_append.1 hy with hy | hy
    ·exact hvs y hy
    ·rw[List.mem_singleton.1 hy];exact hx
   simp only at h
   split at h
   ·next h44=>
    obtain ⟨h1,_⟩:=List.getElem?_eq_some_iff.1 h44
    have:=Ec s m (j+1) (vs++[x]) v n (by omega) hvs' h
    simp at this
    exact ⟨this.1,by omega,this.2.2⟩
   ·cases h
    refine ⟨hj,by simp,hvs'⟩
theorem tN {s:Str} {a:Nat} {l:List Pm} {p:Pm} {n:Nat} (h:fm s a l=.ok p n):n≤s.length∧p.n.length≤24∧p.v.length≤6∧(∀ x∈p.v,x.length≤60):=by
 simp only[fm] at h
 split at h
 ·cases h
 ·next hk=>
  split at h
  ·cases h
  ·split at h
   ·next h61=>
    obtain ⟨h1,_⟩:=List.getElem?_eq_some_iff.1 h61
    cases hv:cp s 6 (a+named (s.drop a)+1) [] with
    | no e p=>rw[hv] at h;cases h
    | ok v j=>
     rw[hv] at h
     cases h
     have:=Ec s 6 _ [] v n (by omega) (by simp) hv
     refine ⟨this.1,?_,by simpa using this.2.1,this.2.2⟩
     show (upper _).length≤24
     rw[gy,List.length_take]
     omega
   ·cases h
inductive GotL where
 | no (e:Int) (p:Int)
 | ok (l:List Pm) (n:Nat)
def br (s:Str):Nat→Nat→List Pm→GotL
 | 0,a,out=>if s[a]?=some 59 then .no 20 a else .ok out a
 | m+1,a,out=>if s[a]?=some 59 then (match fm s (a+1) out with
  | .no e p=>.no e p
  | .ok p n=>br s m n (out++[p])) else .ok out a
def lI:GotL→IV
 | .no e p=>.tuple [.slice (ps []),.int .i64 0,cl e [p]]
 | .ok l n=>.tuple [.slice (ps l),.int .i64 n,.nili]
def eQ:GotL→IV
 | .no e p=>.tuple [.slice (ps []),.int .i64 p,.int .i64 e]
 | .ok l n=>.tuple [.slice (ps l),.int .i64 n,.int .i64 0]
def KO (l:List Pm):Prop:=∀ p∈l,p.n.length≤24∧p.v.length≤6∧(∀ x∈p.v,x.length≤60)
theorem KO.fit {l:List Pm} (h:KO l):Fit l:=⟨fun p hp=>by have:=(h p hp).1;omega,fun p hp=>by have:=(h p hp).2.1;omega,fun p hp x hx=>by have:=(h p hp).2.2 x hx;omega⟩
theorem KO.snoc {l:List Pm} {p:Pm} (h:KO l) (hp:p.n.length≤24∧p.v.length≤6∧(∀ x∈p.v,x.length≤60)):KO (l++[p]):=by
 intro q hq
 rcases List.mem_append.1 hq with hq | hq
 ·exact h q hq
 ·rw[List.mem_singleton.1 hq];exact hp
theorem Cw (l:List Pm) (p:Pm):ps (l++[p])=ps l++[[.str p.n,.slice (ts p.v)]]:=by simp[ps]
theorem Cx {P:Program} (hm:P.follows .mixedOrders=true) {ι:Type} (D:List Nat) (ro:List Nat) (E:ι→List (Nat×SV)) (O:ι→List (Nat×Ob)) (A:ι→Prop) (m:ι→Nat) (i0:ι) {b:VCode} {Q:Exit→St→Prop} {σ:St} (hA:A i0) (h0:aS σ {σ.upd D (E i0) (O i0) with ro:=ro })
  (round:∀ i,A i→pw P b (fun e σ'=>match e with
    | .normal=>@wT ι σ' (m i) ⟨fun i=>{σ.upd D (E i) (O i) with ro:=ro }⟩ ⟨A⟩ ⟨m⟩
    | e=>Q e σ') {σ.upd D (E i) (O i) with ro:=ro }):@MP P σ ⟨.loop b⟩ ⟨Q⟩:=DO hm (fun i=>{σ.upd D (E i) (O i) with ro:=ro }) A m i0 hA h0 (fun _=>_root_.id rfl) round
theorem Kb (s:Str) (hs:s.length < 100000):Fn G Tryz.prog ly [.str s] (lI (br s 6 0 [])):=by
 obtain ⟨R,hRR⟩:∃ R,br s 6 0 []=R:=⟨_,rfl⟩
 rw[hRR]
 refine ac hm yf (by simp) ?_
 simp[qF,qG]
 refine Cx hm [] [5] (fun x:Nat×List Pm=>[(6,.val (.int .i64 x.1)),(5,.own 5 x.2.length)]) (fun x=>[(5,.arr x.2.length 2 (ps x.2))]) (fun x=>x.1≤s.length∧x.2.length≤6∧KO x.2∧br s (6-x.2.length) x.1 x.2=R) (fun x=>6-x.2.length) (0,[]) ⟨by simp,by simp,by intro p hp;simp at hp,by simpa using hRR⟩ ?_ ?_
 ·simp[ps]
  exact aS.trans (ce (k:=5) 5 2 (by simp) (by simp[ap,a8])) (an rfl rfl (by simp[St.adopt,aR,ap,a8,put,ba,SV.erase]) (by simp[St.adopt,bM,a8,put,aE,Ob.erase]) (by simp[St.adopt,bQ]))
 rintro ⟨t,out⟩ ⟨ht,hol,hsm,hst⟩
 simp at ht hol hst
 have ht1:(0:Int)≤(t:Int)+1:=by omega
 simp[aw]
 by_cases h59:s[t]?=some 59
 ·obtain ⟨htl,hce⟩:=List.getElem?_eq_some_iff.1 h59
  by_cases h6:out.length=6
  ·have hE:=dF 20 (t:Int)
   rw[if_neg (by omega)] at hE
   have hno:br s (6-out.length) t out=.no 20 t:=by rw[h6];simp[br,h59]
   rw[←hst,hno]
   simp (disch:=omega) [wl,hce,aw,h6]
   refine a7 hE ?_
   simp[lI,ps]
  ·obtain ⟨m,hm6⟩:∃ m,6-out.length=m+1:=⟨5-out.length,by omega⟩
   obtain ⟨r,hr1,hr2⟩:=Nh s (t+1) out hs (by omega) (by omega) hsm.fit
   rw[show ((t+1:Nat):Int)=(t:Int)+1 by omega] at hr1
   rw[hm6] at hst
   rw[br,if_pos h59] at hst
   cases hg:fm s (t+1) out with
   | no e p=>
    rw[hg] at hst hr2
    simp only[pe] at hr2
    have hst':GotL.no e p=R:=hst
    rw[←hst']
    subst hr2
    obtain ⟨et,ev,he⟩:=aV e [p]
    rw[he] at hr1
    have hPI:lI (.no e p)=.tuple [.slice (ps []),.int .i64 0,.iface et ev]:=by rw[←he];rfl
    rw[hPI]
    simp (disch:=omega) [wl,hce,aw,Pm.iv]
    refine a7 hr1 ?_
    simp (disch:=omega) [wl,Pm.iv]
    try rfl
   | ok p n=>
    rw[hg] at hst hr2
    have hst2:br s m n (out++[p])=R:=hst
    simp only[pe] at hr2
    subst hr2
    have hok:=tN hg
    simp (disch:=omega) [wl,hce,aw,Pm.iv]
    refine a7 hr1 ?_
    simp (disch:=omega) [wl,Pm.iv]
    refine ⟨by rw[aw];omega,?_⟩
    refine ae (n,out++[p]) ⟨hok.1,by simp;omega,hsm.snoc hok.2,by rw[show 6-(out++[p]).length=m by simp;omega];exact hst2⟩ (by simp;omega) ?_
    simp[Cw]
    exact aQ
 ·have hok:br s (6-out.length) t out=.ok out t:=by
   cases 6-out.length <;> simp[br,h59]
  rw[←hst,hok]
  by_cases htl:t < s.length
  ·obtain ⟨c,hc⟩:∃ c,s[t]=c:=⟨_,rfl⟩
   have hcn:c.toNat≠59:=fun e=>h59 (by rw[List.getElem?_eq_getElem htl,hc,UInt8.toNat_inj.1 (show c.toNat=(59:UInt8).toNat from e)])
   simp (disch:=omega) [wl,hc,lI]
  ·simp (disch:=omega) [wl,lI]
end Go.Vs.YtmaenhgipojmfaaGreatDoor
