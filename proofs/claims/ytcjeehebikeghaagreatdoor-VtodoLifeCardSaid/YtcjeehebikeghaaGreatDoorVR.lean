/- Lines with another life: the plain law of VtodoLife. No conditions. -/
import Derived.Test.YtcjeehebikeghaaGreatDoorVQ
set_option linter.unusedVariables false
set_option linter.unusedSimpArgs false
set_option maxRecDepth 100000
set_option maxHeartbeats 16000000
namespace Go.Vs.YtcjeehebikeghaaGreatDoor.Vt
open Go.Lib Go.Vs.U8 Go.Vs.Pa Go.Vs.Nu Go.Vs.Mo Go.Vs.Vt Go.Vs.YtcjeehebikeghaaGreatDoor.Rc
theorem Bn{n v:Str}{p:List Pm}(hn:oq n=true)(hp:gX p=0)(hl:v.length≤200)(hc:∀c∈v,32≤c.toNat∧c.toNat<127):gI ⟨n,p,v⟩=0:=by
 unfold gI;rw[if_pos hn,if_pos hp,if_neg (by simp only;omega),JS v.length v (Nat.le_refl _) hc];rfl
theorem Wr{s:Int}(h0:0≤s)(h4:s≤4)(hs:s≠0){p:List Pm}(hp:gX p=0):dK ⟨bF,p,jd s⟩=0∧(Ca (jd s)).1=s:=by
 have:s=1∨s=2∨s=3∨s=4:=by omega
 have al:∀t:Int,(Ca (jd t)).2=0→(jd t).length≤200→(∀c∈jd t,32≤c.toNat∧c.toNat<127)→dK ⟨bF,p,jd t⟩=0:=by
  intro t h1 h2 h3;unfold dK;rw[Bn (by decide) hp h2 h3,if_neg (by decide),if_neg (by simp[bF,Cb,Cc])];have:bG ⟨bF,p,jd t⟩=(Ca (jd t)).2:=by simp[bG,dc,bn,bj,aO,dd,gc,bW,bt,de,eO,bF]
  rw[this,h1]
 rcases this with rfl|rfl|rfl|rfl<;>exact⟨al _ (by decide) (by decide) (by decide),by decide⟩
theorem Ki{l:Str}(h:l.all dS=true):∀c∈l,32≤c.toNat∧c.toNat<127:=fun c hc=>by
 have:=List.all_eq_true.1 h c hc;simp[dS]at this;omega
theorem Ws{n:Int}(h0:0≤n)(h1:n≤100){p:List Pm}(hp:gX p=0):dK ⟨dg,p,itoa n⟩=0∧(dU 5 0 100 false (itoa n)).1=n:=by
 have hb:=SB (digits:=5) (lo:=0) (hi:=100) (n:=n) (sg:=false) (fun _=>h0) (by omega) (by omega) (wO (by omega));have hi:itoa n=decDigits n.toNat:=by unfold itoa;rw[if_neg (by omega)]
 have hd:(decDigits n.toNat).all dS=true:=KV _ _ (Nat.le_refl _)
 have hl:(decDigits n.toNat).length≤5:=by
  have:=wO (n:=n) (by omega)
  rwa[show n.natAbs=n.toNat by omega]at this
 refine⟨?_,by rw[hb]⟩;unfold dK;rw[Bn (by decide) hp (by rw[hi];omega) (by rw[hi];exact Ki hd),if_neg (by decide),if_neg (by simp[dg,Cb,Cc])];have:bG ⟨dg,p,itoa n⟩=(dU 5 0 100 false (itoa n)).2:=by simp[bG,dc,bn,bj,aO,dd,gc,bW,bt,de,eO,bF,dg]
 rw[this,hb]
theorem GI(v:Mom):∀c∈dH v,32≤c.toNat∧c.toNat<127:=by
 have hw:∀w n,∀c∈wide w n,32≤c.toNat∧c.toNat<127:=fun w n=>Ki (m5 w n)
 intro c hc;unfold dH Mo.dayT FU at hc;simp only[List.mem_append,List.mem_cons]at hc;rcases hc with(h|h|h)|h
 ·exact hw _ _ c h
 ·exact hw _ _ c h
 ·exact hw _ _ c h
 ·split at h
  ·cases h
  ·simp only[List.mem_append,List.mem_cons]at h;rcases h with rfl|(h|h|h)|h
   ·decide
   ·exact hw _ _ c h
   ·exact hw _ _ c h
   ·exact hw _ _ c h
   ·split at h
    ·simp at h;rw[h];decide
    ·cases h
theorem R4{d:Int}(h0:0≤d)(h1:d≤315537897599){p:List Pm}(hp:gX p=0):dK ⟨bj,p,dH ⟨3,d⟩⟩=0∧(ox ⟨bj,p,dH ⟨3,d⟩⟩).2.s=d:=by
 have hb:=NZ (v:=⟨3,d⟩) (by unfold i6;rw[if_neg (by simp),if_neg (by simp only;omega),if_neg (by simp)]);have hz:ox ⟨bj,p,dH ⟨3,d⟩⟩=(0,⟨3,d⟩):=by simp[ox,hb]
 refine⟨?_,by rw[hz]⟩;unfold dK;rw[Bn (by decide) hp (by have:=pN ⟨3,d⟩;omega) (GI _),if_neg (by decide),if_neg (by simp[bj,Cb,Cc])];have:bG ⟨bj,p,dH ⟨3,d⟩⟩=(ox ⟨bj,p,dH ⟨3,d⟩⟩).1:=by simp[bG,dc,bn,bj]
 rw[this,hz]
theorem R5{x:Lif}(h:sx x=0):-1≤x.p∧x.p≤100∧-1≤x.d∧x.d≤315537897599∧x.s≤4:=by
 unfold sx at h;split at h
 ·simp at h
 ·split at h
  ·simp at h
  ·omega
theorem lw{α:Type}{g g':Str→Option Ln}{n:Str}{h:Ln→α}{d:α}(e:g n=g' n):fo g n h d=fo g' n h d:=by unfold fo;rw[e]
theorem T6{l:List Ln}{f:Fc}{x:Lif}(h:ig l=.ok f)(hl:l.length≤21)(hs:0≤x.s)(hx:sx x=0):ig (mH l x)=.ok {f with li:=x }:=by
 obtain⟨_,hG,hF,hW⟩:=sy.1 h;obtain⟨b1,b2,b3,b4,b5⟩:=R5 hx
 have hm:mH l x=cU (cU (cU l bF (jd x.s) (decide (x.s≠0))) dg (itoa x.p) (decide (0≤x.p))) bj (k9 x) (decide (0≤x.d)):=by
  unfold mH;rw[if_neg (by simp[hx])]
 have g1:we (cU l bF (jd x.s) (decide (x.s≠0))):=Cd hG (fun hb=>(Wr hs b5 (by simpa using hb) (Gk hG bF)).1);have q1:=ma l bF (jd x.s) (decide (x.s≠0));have k1:∀n,cn (cU l bF (jd x.s) (decide (x.s≠0))) n=_:=fun n=>Gi l bF (jd x.s) n _
 have c1:∀n,n≠bF→aE (cU l bF (jd x.s) (decide (x.s≠0))) n=aE l n:=fun n hn=>Gj l bF _ n _ hn
 have f1:∀n,n≠bF→(cU l bF (jd x.s) (decide (x.s≠0))).filter (ck n)=l.filter (ck n):=fun n hn=>pg (fun y e=>za hn y e) l _ _
 obtain⟨m1,e1⟩:∃m,cU l bF (jd x.s) (decide (x.s≠0))=m:=⟨_,rfl⟩;rw[e1]at hm g1 q1 k1 c1 f1;have g2:we (cU m1 dg (itoa x.p) (decide (0≤x.p))):=Cd g1 (fun hb=>(Ws (by simpa using hb) b2 (Gk g1 dg)).1);have q2:=ma m1 dg (itoa x.p) (decide (0≤x.p));have k2:∀n,cn (cU m1 dg (itoa x.p) (decide (0≤x.p))) n=_:=fun n=>Gi m1 dg (itoa x.p) n _
 have c2:∀n,n≠dg→aE (cU m1 dg (itoa x.p) (decide (0≤x.p))) n=aE m1 n:=fun n hn=>Gj m1 dg _ n _ hn
 have f2:∀n,n≠dg→(cU m1 dg (itoa x.p) (decide (0≤x.p))).filter (ck n)=m1.filter (ck n):=fun n hn=>pg (fun y e=>za hn y e) m1 _ _
 obtain⟨m2,e2⟩:∃m,cU m1 dg (itoa x.p) (decide (0≤x.p))=m:=⟨_,rfl⟩;rw[e2]at hm g2 q2 k2 c2 f2;have dT:0≤x.d→k9 x=dH ⟨3,x.d⟩:=fun h=>by unfold k9;rw[if_pos h]
 have g3:we (cU m2 bj (k9 x) (decide (0≤x.d))):=Cd g2 (fun hb=>by
  have hb:0≤x.d:=by simpa using hb
  rw[dT hb]
  exact(R4 hb b4 (Gk g2 bj)).1)
 have q3:=ma m2 bj (k9 x) (decide (0≤x.d));have k3:∀n,cn (cU m2 bj (k9 x) (decide (0≤x.d))) n=_:=fun n=>Gi m2 bj (k9 x) n _
 have c3:∀n,n≠bj→aE (cU m2 bj (k9 x) (decide (0≤x.d))) n=aE m2 n:=fun n hn=>Gj m2 bj _ n _ hn
 have f3:∀n,n≠bj→(cU m2 bj (k9 x) (decide (0≤x.d))).filter (ck n)=m2.filter (ck n):=fun n hn=>pg (fun y e=>za hn y e) m2 _ _
 obtain⟨m3,e3⟩:∃m,cU m2 bj (k9 x) (decide (0≤x.d))=m:=⟨_,rfl⟩;rw[e3]at hm g3 q3 k3 c3 f3;rw[hm];have gq:∀n,n≠bF→n≠dg→n≠bj→cn m3 n=cn l n:=fun n a b c=>by rw[k3,if_neg c,k2,if_neg b,k1,if_neg a]
 have cq:∀n,n≠bF→n≠dg→n≠bj→aE m3 n=aE l n:=fun n a b c=>by rw[c3 n c,c2 n b,c1 n a]
 have fq:∀n,n≠bF→n≠dg→n≠bj→m3.filter (ck n)=l.filter (ck n):=fun n a b c=>by rw[f3 n c,f2 n b,f1 n a]
 have s1:fo (cn m3) bF (fun x=>(Ca x.v).1) 0=x.s:=by
  unfold fo;rw[k3,if_neg (by decide),k2,if_neg (by decide),k1,if_pos rfl];by_cases h0:x.s=0
  ·simp[h0]
  ·rw[if_pos (by simpa using h0)];exact(Wr (p:=[]) hs b5 h0 rfl).2
 have s2:fo (cn m3) dg (fun x=>(dU 5 0 100 false x.v).1) (-1)=x.p:=by
  unfold fo;rw[k3,if_neg (by decide),k2,if_pos rfl];by_cases h0:0≤x.p
  ·rw[if_pos (by simpa using h0)];exact(Ws (p:=[]) h0 b2 rfl).2
  ·rw[if_neg (by simpa using h0)];show(-1:Int)=x.p;omega
 have s3:fo (cn m3) bj (fun x=>(ox x).2.s) (-1)=x.d:=by
  unfold fo;rw[k3,if_pos rfl];by_cases h0:0≤x.d
  ·rw[if_pos (by simpa using h0),dT h0];exact(R4 h0 b4 (Gk g2 bj)).2
  ·rw[if_neg (by simpa using h0)];show(-1:Int)=x.d;omega
 have hg:gF m3 = {f with li:=x }:=by
  rw[hF];unfold gF m9;dsimp only;rw[s1,s2,s3,lw (gq dc (by decide) (by decide) (by decide)),lw (gq eO (by decide) (by decide) (by decide)),lw (gq bn (by decide) (by decide) (by decide)),lw (gq aO (by decide) (by decide) (by decide)),lw (gq dd (by decide) (by decide) (by decide)),lw (gq de (by decide) (by decide) (by decide)),lw (gq gt (by decide) (by decide) (by decide)),lw (gq bP (by decide) (by decide) (by decide)),lw (gq bP (by decide) (by decide) (by decide)),lw (gq gc (by decide) (by decide) (by decide)),lw (gq dz (by decide) (by decide) (by decide)),fq bW (by decide) (by decide) (by decide),fq bt (by decide) (by decide) (by decide)]
 refine sy.2 ⟨by omega,g3,hg.symm,?_⟩
 have hr:kg {f with li:=x } m3=kg f l:=by
  unfold kg;rw[cq bW (by decide) (by decide) (by decide)];rfl
 unfold cY at hW ⊢;rw[cq dc (by decide) (by decide) (by decide),cq bn (by decide) (by decide) (by decide),cq bW (by decide) (by decide) (by decide),cq bt (by decide) (by decide) (by decide),cq gc (by decide) (by decide) (by decide),cq dz (by decide) (by decide) (by decide),hr];split at hW
 ·simp at hW
 ·next z1=>
  rw[if_neg z1];split at hW
  ·next z2=>exact absurd hW z2
  ·rw[if_neg (by simp[hx])];exact hW
def D3(l:List Ln):List Ln:=br (br (br l bF) dg) bj
theorem Zh(l:List Ln):D3 l=l.filter fun y=>!ck bj y&&(!ck dg y&&!ck bF y):=by
 unfold D3 br;simp only[List.filter_filter,Bool.and_assoc]
theorem T7(l:List Ln)(x:Lif):D3 (mH l x)=D3 l:=by
 unfold mH;split
 ·rfl
 ·rw[Zh,Zh];rw[pg (fun y e=>by simp[ck,e]),pg (fun y e=>by simp[ck,e]),pg (fun y e=>by simp[ck,e])]
end Go.Vs.YtcjeehebikeghaaGreatDoor.Vt
namespace Go.Vs.YtcjeehebikeghaaGreatDoor.Vt
open Go.Proofs Go.Vs.U8 Go.Vs.Pa Go.Vs.Nu Go.Vs.Mo Go.Vs.Vt Go.Vs.YtcjeehebikeghaaGreatDoor.Rc
theorem Wt{l:List Ln}{x:Lif}(hf:ew l)(hv:j6 1000 l):ew (mH l x)∧j6 1000 (mH l x)∧(mH l x).length≤l.length+3:=by
 unfold mH;split
 ·exact⟨hf,hv,by omega⟩
 ·next hx=>
  obtain⟨b1,b2,b3,b4,b5⟩:=R5 (by simpa using hx);have s1:=GF x.s;have s2:=itoa_len (n:=x.p) ⟨b1,b2⟩;have s3:=Ke x;have q1:=ma l bF (jd x.s) (decide (x.s≠0));have q2:=ma (cU l bF (jd x.s) (decide (x.s≠0))) dg (Lib.itoa x.p) (decide (0≤x.p));have q3:=ma (cU (cU l bF (jd x.s) (decide (x.s≠0))) dg (Lib.itoa x.p) (decide (0≤x.p))) bj (k9 x) (decide (0≤x.d));exact⟨wy (wy (wy hf (by decide) (by omega)) (by decide) (by omega)) (by decide) (by omega),Ck (Ck (Ck hv (by omega)) (by omega)) (by omega),by omega⟩
def dN(l:List Ln):Nat→List Ln
 |0=>l
 |1=>br l bF
 |2=>br (br l bF) dg
 |_=>D3 l
theorem oc{l:List Ln}(hf:ew l):∀i,ew (dN l i)∧(dN l i).length≤l.length
 |0=>⟨hf,Nat.le_refl _⟩
 |1=>⟨fun x hx=>hf x (dX hx),drop_len _ _⟩
 |2=>⟨fun x hx=>hf x (dX (dX hx)),Nat.le_trans (drop_len _ _) (drop_len _ _)⟩
 |_+3=>⟨fun x hx=>hf x (dX (dX (dX hx))),Nat.le_trans (drop_len _ _) (Nat.le_trans (drop_len _ _) (drop_len _ _))⟩
theorem YG(l:List Ln)(x:Lif)(hs:0≤x.s):Fn G2 Tryz.prog mj [.slice (ls l),Lif.iv x] (.bool true):=by
 refine ag hm zj (by simp) ?_;have hS:=up (C2 l);have hK:=Ce x;simp only[Lif.iv]at hK;simp[qR,qS,Lif.iv];refine aa hS ?_;cases h0:nY l with
 |false=>
  simp(disch:=omega)[wl];refine aa fI ?_;simp
 |true=>
  obtain⟨hl,hf⟩:=yT h0;have hv:=zk h0;by_cases h1:21<l.length
  ·simp(disch:=omega)[wl,be,h1];refine aa fI ?_;simp
  have hO:=up (Lh l (by omega) hf);simp(disch:=omega)[wl,be,h1];refine aa hO ?_;simp;have hR1:=jF l hf hv (by omega);refine aa hR1 ?_;cases hr:ig l with
  |no e p=>
   obtain⟨t,v,hv1⟩:=cH e [(p:Int)];simp only[Hn,hv1,Fc.iv,uf,cells,List.cons_append,List.nil_append];simp(disch:=omega)[wl];refine aa fI ?_;simp
  |ok f=>
   have hF:=wA hv hr;simp only[Hn,Fc.iv,uf,cells,List.cons_append,List.nil_append];simp(disch:=omega)[wl];refine aa hK ?_;by_cases hx:sx x=0
   case neg=>
    simp(disch:=omega)[wl,hx];refine aa fI ?_;simp
   obtain⟨mf,mv,sq⟩:=Wt (x:=x) hf hv;have hW:=Dr l x hf (by omega) hs;have hrm:=T6 hr (by omega) hs hx;have hld:=T7 l x;have hR2:=jF (mH l x) mf mv (by omega);rw[hrm]at hR2;obtain⟨m,hm2⟩:∃m,mH l x=m:=⟨_,rfl⟩;rw[hm2]at hW hR2 hld mf mv sq;simp only[Lif.iv]at hW;simp only[Hn,Fc.iv,uf,cells,List.cons_append,List.nil_append]at hR2;simp(disch:=omega)[wl,hx];refine aa hW ?_;simp;refine aa hR2 ?_;simp;refine bS hm [] (fun i:Nat=>[(11,.val (.int .i64 i)),(5,.val (.slice (ls (dN l i)))),(8,.val (.slice (ls (dN m i))))]) (fun _=>[(9,.box (Wj f)),(6,.box (Wj f))]) (fun i=>i≤3) (fun i=>3-i) 0 (by omega) ?_ ?_
   ·simp[dN,Wj,uf,cells];exact bT
   rintro i hi;simp;have hcase:i=0∨i=1∨i=2∨i=3:=by omega
   rcases hcase with rfl|rfl|rfl|rfl
   ·have h5:=up (dF l bF (by omega) hf);have h6:=up (dF m bF (by omega) mf);simp only[bF]at h5 h6;simp[dN];refine aa h5 ?_;simp;refine aa h6 ?_;simp;refine⟨rfl,?_⟩;refine aq 1 (by omega) (by omega) ?_;simp(disch:=omega)[wl,dN,bF];exact bT
   ·have h5:=up (dF (dN l 1) dg (by have:=(oc hf 1).2;omega) (oc hf 1).1);have h6:=up (dF (dN m 1) dg (by have:=(oc mf 1).2;omega) (oc mf 1).1);simp only[dg]at h5 h6;simp;refine aa h5 ?_;simp;refine aa h6 ?_;simp;refine⟨rfl,?_⟩;refine aq 2 (by omega) (by omega) ?_;simp(disch:=omega)[wl,dN,dg];exact bT
   ·have h5:=up (dF (dN l 2) bj (by have:=(oc hf 2).2;omega) (oc hf 2).1);have h6:=up (dF (dN m 2) bj (by have:=(oc mf 2).2;omega) (oc mf 2).1);simp only[bj]at h5 h6;simp;refine aa h5 ?_;simp;refine aa h6 ?_;simp;refine⟨rfl,?_⟩;refine aq 3 (by omega) (by omega) ?_;simp(disch:=omega)[wl,dN,D3,bj];exact bT
   ·have hB:=fn_Back f hF;have hSm:=GG f hF;have hLs:=up (Vb (dN l 3) (dN m 3) (by have:=(oc hf 3).2;omega) (by have:=(oc mf 3).2;omega) (oc hf 3).1 (oc mf 3).1);rw[show decide (dN l 3=dN m 3)=true from decide_eq_true hld.symm]at hLs;simp only[Fc.iv,uf,cells,List.cons_append,List.nil_append]at hB hSm;simp[Wj,uf,cells];refine aa hB ?_;simp;refine aa hB ?_;simp;refine aa hSm ?_;simp;refine aa hLs ?_;simp;refine aa fI ?_;simp;rfl
def scLf:Sc:=.struct [.int .u8,.int .i64,.int .i64]
theorem YH:∀ {row:List IV},Sh scLf row→∃x:Lif,row=[.int .u8 x.s,.int .i64 x.p,.int .i64 x.d]∧0≤x.s
 |r,h=>by
  obtain⟨a,b,rfl,⟨s,rfl,hs⟩,c,d,rfl,⟨p,rfl,_⟩,e,f,rfl,⟨t,rfl,_⟩,hf⟩:=h;have hf:f=[]:=hf;subst hf;exact⟨⟨s,p,t⟩,rfl,(Zg hs).1⟩
theorem VtodoLife_true(args:List IV)(h:S4 [.slice scL,scLf] args):Fn G2 Tryz.prog mj args (.bool true):=by
 obtain⟨v,b,rfl,⟨r0,hr0,_,h0⟩,x,d,rfl,⟨r1,rfl,h1⟩,hd⟩:=h;have hd:d=[]:=hd;subst hd;simp only[List.cons.injEq,and_true]at hr0;subst hr0;obtain⟨l,rfl⟩:=lines_of h0;obtain⟨y,rfl,hy⟩:=YH (row:=r1) h1;exact YG l y hy
end Go.Vs.YtcjeehebikeghaaGreatDoor.Vt
