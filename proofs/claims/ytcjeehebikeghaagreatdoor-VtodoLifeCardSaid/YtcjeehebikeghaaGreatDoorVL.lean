/- The walk of lines put, turned; of another life. No conditions. -/
import Derived.Test.YtcjeehebikeghaaGreatDoorVK
set_option linter.unusedVariables false
set_option linter.unusedSimpArgs false
set_option maxRecDepth 100000
set_option maxHeartbeats 16000000
namespace Go.Vs.YtcjeehebikeghaaGreatDoor.Vt
open Go.Proofs Go.Vs.U8 Go.Vs.Pa Go.Vs.Nu Go.Vs.Mo Go.Vs.Vt Go.Vs.YtcjeehebikeghaaGreatDoor.Rc
theorem Yr{l:List Ln}{n:Str}{x:Ln}(h:cn l n=some x):x∈l:=List.mem_of_find?_eq_some h
theorem QZ{l:List Ln}(hf:ew l){n v:Str}(hn:n.length<100000)(hv:v.length<100000):FitX ⟨n,Mm l n,v⟩:=by
 unfold Mm;cases h:cn l n with
 |none=>exact⟨hn,by simp,⟨by simp,by simp,by simp⟩,hv⟩
 |some x=>
  have:=hf x (Yr h);exact⟨hn,this.p,this.f,hv⟩
theorem tP{l:List Ln}(hf:ew l){n v:Str}(hn:n.length<100000)(hv:v.length<100000):ew (ml l n v):=by
 intro y hy;rcases sA (by rw[←tJ];exact hy)with h|h
 ·rw[h];exact QZ hf hn hv
 ·exact hf y h
theorem Bj{l:List Ln}{n v:Str}{B:Nat}(hf:∀x∈l,x.v.length≤B)(hv:v.length≤B):∀x∈ml l n v,x.v.length≤B:=by
 intro y hy;rcases sA (by rw[←tJ];exact hy)with h|h
 ·rw[h];exact hv
 ·exact hf y h
theorem LS(l:List Ln)(n v:Str):(ml l n v).length≤l.length+1:=by
 have:=ma l n v true;simpa[cU]using this
theorem wy{l:List Ln}(hf:ew l){n v:Str}{b:Bool}(hn:n.length<100000)(hv:v.length<100000):ew (cU l n v b):=by
 unfold cU;split
 ·exact tP hf hn hv
 ·exact fun x hx=>hf x (dX hx)
theorem Ck{l:List Ln}{n v:Str}{B:Nat}{b:Bool}(hf:∀x∈l,x.v.length≤B)(hv:v.length≤B):∀x∈cU l n v b,x.v.length≤B:=by
 unfold cU;split
 ·exact Bj hf hv
 ·exact fun x hx=>hf x (dX hx)
theorem Bk(l:List Ln)(n v:Str)(hf:ew l)(hl:l.length<100000)(hn:n.length<100000)(hv:v.length<100000):Fn G2 Tryz.prog lv [.slice (ls l),.str n,.str v] (.slice (ls (ml l n v))):=by
 refine ag hm LE (by simp) ?_;have hG:=up (QH l n hl hf);have hS:=up (Lf l ⟨n,Mm l n,v⟩ hl hf (QZ hf hn hv));simp only[Ln.iv]at hS;rw[tJ];simp[Dm,Do];refine aa hG ?_;unfold Mm at hS ⊢;cases h:cn l n with
 |none=>
  rw[h]at hS;simp only at hS;simp[Ss,Ln.iv];refine aa hS ?_;simp
 |some x=>
  rw[h]at hS;simp only at hS;simp[Ss,Ln.iv];refine aa hS ?_;simp
theorem LT(l:List Ln)(n v:Str)(b:Bool)(hf:ew l)(hl:l.length<100000)(hn:n.length<100000)(hv:v.length<100000):Fn G2 Tryz.prog me [.slice (ls l),.str n,.str v,.bool b] (.slice (ls (cU l n v b))):=by
 refine ag hm I3 (by simp) ?_;have hP:=Bk l n v hf hl hn hv;have hD:=up (dF l n hl hf);simp[B7,B8];cases b with
 |true=>
  simp;refine aa hP ?_;simp[cU]
 |false=>
  simp;refine aa hD ?_;simp[cU]
theorem fn_Clone(l:List Ln)(hl:l.length<100000):Fn G2 Tryz.prog gM [.slice (ls l)] (.slice (ls l)):=by
 refine ag hm wm (by simp) ?_;simp[oy,oz];cases l with
 |nil=>simp[ls]
 |cons x r=>
  simp[ls];simp at hl;omega
theorem aaB{x:Lif}(h:sx x=0):-1≤x.p∧x.p≤100∧-1≤x.d∧x.d≤315537897599∧x.s≤4:=by
 unfold sx at h;split at h
 ·simp at h
 ·split at h
  ·simp at h
  ·omega
theorem Ys{v:Mom} : dH v≠[]:=by
 intro h;have:=congrArg List.length h;simp[dH,Mo.dayT,ju]at this
theorem Wk(x:Lif):(k9 x≠[])=(0≤x.d):=by
 unfold k9;by_cases h:0≤x.d
 ·simp[h,Ys]
 ·simp[h]
theorem Ke(x:Lif):(k9 x).length≤16:=by
 unfold k9;split
 ·exact pN _
 ·simp
theorem itoa_len{n:Int}(h:-1≤n∧n≤100):(Lib.itoa n).length≤6:=by
 have:=wO (n:=n) (by omega);unfold Lib.itoa;split
 ·simp only[List.length_cons];omega
 ·rw[show n.toNat=n.natAbs by omega];omega
theorem GF(s:Int):(jd s).length≤12:=by
 unfold jd;split
 ·decide
 split
 ·decide
 split
 ·decide
 split<;>decide
theorem Dr(l:List Ln)(x:Lif)(hf:ew l)(hl:l.length<90000)(hs:0≤x.s):Fn G2 Tryz.prog jR [.slice (ls l),Lif.iv x] (.slice (ls (mH l x))):=by
 refine ag hm B4 (by simp) ?_;have hC:=Ce x;have hCl:=fn_Clone l (by omega);simp only[Lif.iv]at hC;by_cases h1:sx x=0
 case neg=>
  have hR:mH l x=l:=by unfold mH;rw[if_pos h1]
  simp[nd,nf,Lif.iv];refine aa hC ?_;simp(disch:=omega)[wl,h1];refine aa hCl ?_;simp[hR]
 obtain⟨b1,b2,b3,b4,b5⟩:=aaB h1;have hN:=Of x.s;have hI:=up (XL x.p (by omega) (by omega));have hP:=wQ ⟨3,x.d⟩ (show(0:Int)≤3 by decide);obtain⟨R,hR⟩:∃R,mH l x=R:=⟨_,rfl⟩;rw[hR];unfold mH at hR;rw[if_neg (by simp[h1])]at hR;have q1:=ma l bF (jd x.s) (decide (x.s≠0));have f1:ew (cU l bF (jd x.s) (decide (x.s≠0))):=wy hf (by decide) (by have:=GF x.s;omega);have hT1:=LT l bF (jd x.s) (decide (x.s≠0)) hf (by omega) (by decide) (by have:=GF x.s;omega);obtain⟨l1,e1⟩:∃l1,cU l bF (jd x.s) (decide (x.s≠0))=l1:=⟨_,rfl⟩;rw[e1]at hT1 f1 q1 hR;have q2:=ma l1 dg (Lib.itoa x.p) (decide (0≤x.p));have f2:ew (cU l1 dg (Lib.itoa x.p) (decide (0≤x.p))):=wy f1 (by decide) (by have:=itoa_len ⟨b1,b2⟩;omega);have hT2:=LT l1 dg (Lib.itoa x.p) (decide (0≤x.p)) f1 (by omega) (by decide) (by have:=itoa_len ⟨b1,b2⟩;omega);obtain⟨l2,e2⟩:∃l2,cU l1 dg (Lib.itoa x.p) (decide (0≤x.p))=l2:=⟨_,rfl⟩;rw[e2]at hT2 f2 q2 hR;have hT3:=LT l2 bj (k9 x) (decide (0≤x.d)) f2 (by omega) (by decide) (by have:=Ke x;omega);rw[hR]at hT3;simp only[bF,dg,bj,ne_eq,decide_not]at hT1 hT2 hT3;have hmo:0≤x.d→i6 ⟨3,x.d⟩=0:=fun h=>by unfold i6;rw[if_neg (by simp),if_neg (by simp only;omega),if_neg (by simp)]
 simp[nd,nf,Lif.iv];refine aa hC ?_;by_cases h2:0≤x.d
 ·have hd:k9 x=dH ⟨3,x.d⟩:=by unfold k9;rw[if_pos h2]
  unfold SG at hP;rw[hmo h2,if_pos rfl,←hd]at hP;rw[decide_eq_true h2]at hT3;have hne:k9 x≠[]:=by rw[Wk];exact h2
  simp(disch:=omega)[wl,h1,h2];refine aa hP ?_;simp;refine aa hN ?_;simp;refine aa hT1 ?_;simp;refine⟨rfl,?_⟩;refine aa hI ?_;simp;refine aa hT2 ?_;simp;refine⟨rfl,?_⟩;simp[hne];refine aa hT3 ?_;simp
 ·rw[decide_eq_false h2]at hT3;have hd:k9 x=[]:=by unfold k9;rw[if_neg h2]
  rw[hd]at hT3;simp(disch:=omega)[wl,h1,h2];refine aa hN ?_;simp;refine aa hT1 ?_;simp;refine⟨rfl,?_⟩;refine aa hI ?_;simp;refine aa hT2 ?_;simp;refine⟨rfl,?_⟩;refine aa hT3 ?_;simp
theorem Wl(n:Str):Fn G2 Tryz.prog rG [.str n] (.bool (decide (n∈wc))):=by
 refine ag hm Gr (by simp) ?_;by_cases hn:n∈wc
 ·simp only[wc,List.mem_cons,List.not_mem_nil,or_false]at hn;rcases hn with rfl|rfl|rfl|rfl|rfl|rfl|rfl|rfl|rfl|rfl|rfl|rfl|rfl<;>simp[rK,rL,wc,dc,bn,bF,dg,bj,pV,bP,bW,bt,gc,dz,Cb,Cc]
 ·have hd:decide (n∈wc)=false:=decide_eq_false hn;rw[hd];simp[wc,dc,bn,bF,dg,bj,pV,bP,bW,bt,gc,dz,Cb,Cc]at hn;obtain⟨a1,a2,a3,a4,a5,a6,a7,a8,a9,a10,a11,a12,a13⟩:=hn;simp[rK,rL,a1,a2,a3,a4,a5,a6,a7,a8,a9,a10,a11,a12,a13]
theorem Zc{l:List Ln} : ∀ {r:List Ln} {i:Nat} {f:Fc} {e:Int} {p:Nat},gK l r i f=.no e p→e≠0
 |[],i,f,e,p,h=>by
  unfold gK at h;split at h
  ·cases h
  ·next h1=>cases h;exact h1
 |x::r,i,f,e,p,h=>by
  unfold gK at h;split at h
  ·exact Zc h
  ·next h1=>cases h;exact h1
theorem Yt{l:List Ln}{e:Int}{p:Nat}(h:ig l=.no e p):e≠0:=by
 unfold ig at h;split at h
 ·cases h;decide
 ·exact Zc h
def paI:PaX→IV
 |.no e p=>.tuple [.slice [],dp e [(p:Int)]]
 |.ok l=>.tuple [.slice (ls l),.nili]
def j6(B:Nat)(l:List Ln):Prop:=∀x∈l,x.v.length≤B
theorem zg{l:List Ln}{x:Ln}(hf:ew l)(fx:FitX x):ew (kh l x):=by
 unfold kh;split
 ·exact fun y hy=>hf y (dX hy)
 ·intro y hy;rcases sA hy with h|h
  ·rw[h];exact fx
  ·exact hf y h
theorem wz{l:List Ln}{x:Ln}{B:Nat}(hf:j6 B l)(fx:x.v.length≤B):j6 B (kh l x):=by
 unfold kh;split
 ·exact fun y hy=>hf y (dX hy)
 ·intro y hy;rcases sA hy with h|h
  ·rw[h];exact fx
  ·exact hf y h
theorem zh(l:List Ln)(x:Ln):(kh l x).length≤l.length+1:=by
 unfold kh;split
 ·have:=drop_len l x.n;omega
 ·have:=set_len x l;split at this<;>omega
theorem Wm(l c:List Ln)(hf:ew l)(hv:j6 1000 l)(cf:ew c)(cv:j6 1000 c)(hl:l.length<1000)(hc:c.length<1000):Fn G2 Tryz.prog rE [.slice (ls l),.slice (ls c)] (paI (Lz l c)):=by
 refine ag hm Gm (by simp) ?_;obtain⟨R,hR⟩:∃R,Lz l c=R:=⟨_,rfl⟩;rw[hR];unfold Lz at hR;simp[ya,yb];refine bS hm [] (fun p:Nat×List Ln=>[(13,.val (.int .i64 p.1)),(0,.val (.slice (ls p.2)))]) (fun _=>[]) (fun p=>p.1≤c.length∧ew p.2∧j6 1000 p.2∧p.2.length≤l.length+p.1∧AR c.length (c.drop p.1) p.1 p.2=R) (fun p=>c.length-p.1) (0,l) ⟨by simp,hf,hv,by simp,by simpa using hR⟩ ?_ ?_
 ·simp;exact bT
 rintro⟨i,m⟩ ⟨hi,mf,mv,hml,hg⟩;dsimp only at hi mf mv hml hg;clear hR;simp[be];by_cases h:i<c.length
 ·obtain⟨x,hx⟩:∃x,c[i]=x:=⟨_,rfl⟩;have hm':x∈c:=hx▸List.getElem_mem h;have hgx:=pK h hx;have fx:=cf x hm';have hC:=up (JR x fx);have hF:=Wl x.n;have hD:=up (dF m x.n (by omega) mf);have hS:=up (Lf m x (by omega) mf fx);rw[List.drop_eq_getElem_cons h,hx]at hg;simp only[AR]at hg;simp only[Ln.iv]at hC hS
  have hE:∀e:Int,e≠0→Fn G2 Tryz.prog bH [.int .i64 e,.int .i64 i] (dp e [(i:Int)]):=fun e he=>by
   have:=up (fQ e i)
   rwa[if_neg he]at this
  simp(disch:=omega)[wl,hgx];refine aa hC ?_;by_cases c1:gI x=0
  case neg=>
   have he:wd x=gI x:=by unfold wd;rw[if_pos c1]
   rw[if_neg (by rw[he];exact c1),he]at hg;subst hg;simp(disch:=omega)[wl,c1];refine aa (hE _ c1) ?_;simp[paI]
  simp(disch:=omega)[wl,c1];refine aa hF ?_;by_cases c2:x.n∈wc
  ·have he:wd x=11:=by unfold wd;rw[if_neg (by simp[c1]),if_pos c2]
   rw[if_neg (by rw[he];decide),he]at hg;subst hg;simp(disch:=omega)[wl,c2];refine aa (hE _ (by decide)) ?_;simp[paI]
  have he:wd x=0:=by unfold wd;rw[if_neg (by simp[c1]),if_neg c2]
  rw[if_pos he]at hg;simp(disch:=omega)[wl,c2];by_cases c3:x.v=[]
  ·by_cases c4:x.p=[]
   ·have hp:kh m x=br m x.n:=by unfold kh;rw[if_pos ⟨c3,c4⟩]
    have hps:(ps x.p).length=0:=by simp[c4,ps]
    simp(disch:=omega)[wl,c3,hps];refine aa hD ?_;simp(disch:=omega)[wl,be];refine aq (i+1,kh m x) ⟨by omega,zg mf fx,wz mv (cv x hm'),by have:=zh m x;simp only;omega,hg⟩ (by simp;omega) ?_;simp[hp];exact ap rfl rfl (by simp[bv,aC,ac,be]) (by simp[cC,ac,be]) (by simp[ct])
   ·have hp:kh m x=oP m x:=by unfold kh;rw[if_neg (fun h=>c4 h.2)]
    rw[c3]at hS;have hps:¬(ps x.p).length=0:=by simp[c4,ps]
    simp(disch:=omega)[wl,c3,hps];refine aa hS ?_;simp(disch:=omega)[wl,be];refine aq (i+1,kh m x) ⟨by omega,zg mf fx,wz mv (cv x hm'),by have:=zh m x;simp only;omega,hg⟩ (by simp;omega) ?_;simp[hp];exact ap rfl rfl (by simp[bv,aC,ac,be]) (by simp[cC,ac,be]) (by simp[ct])
  ·have hp:kh m x=oP m x:=by unfold kh;rw[if_neg (fun h=>c3 h.1)]
   simp(disch:=omega)[wl,c3];refine aa hS ?_;simp(disch:=omega)[wl,be];refine aq (i+1,kh m x) ⟨by omega,zg mf fx,wz mv (cv x hm'),by have:=zh m x;simp only;omega,hg⟩ (by simp;omega) ?_;simp[hp];exact ap rfl rfl (by simp[bv,aC,ac,be]) (by simp[cC,ac,be]) (by simp[ct])
 ·obtain rfl:i=c.length:=by omega
  rw[List.drop_length]at hg;simp only[AR]at hg;have hRd:=jF m mf mv (by omega);simp(disch:=omega)[wl];refine aa hRd ?_;cases hr:ig m with
  |no e p=>
   rw[hr]at hg;simp only at hg;subst hg;have hW:=GC e [(p:Int)];have hE:=up (fQ e c.length);rw[if_neg (Yt hr)]at hE;obtain⟨t,v,h'⟩:=cH e [(p:Int)];rw[h']at hW;simp only[Hn,h',Fc.iv,uf,cells,List.cons_append,List.nil_append];simp(disch:=omega)[wl];refine aa hW ?_;simp[be];refine aa hE ?_;simp[paI]
  |ok f=>
   rw[hr]at hg;simp only at hg;subst hg;have hCl:=fn_Clone m (by omega);simp only[Hn,Fc.iv,uf,cells,List.cons_append,List.nil_append];simp(disch:=omega)[wl];refine aa hCl ?_;simp[paI]
theorem Yu{l:List Mom}{i:Nat}{v:Mom}(h:i<l.length)(hv:l[i]=v):ms (l.take i)++[[.int .u8 v.k,.int .i64 v.s]]=ms (l.take (i+1)):=by
 rw[List.take_succ_eq_append_getElem h,hv];simp[ms]
theorem Kf(l:List Mom)(hl:l.length<1000000):Fn G2 Tryz.prog mb [.slice (ms l)] (.slice (ms l)):=by
 refine ag hm DL (by simp) ?_;simp[wj,wk];refine bS hm [] (fun i:Nat=>[(4,.val (.int .i64 i)),(3,.own 3 i)]) (fun i=>[(3,.arr i 2 (ms (l.take i)))]) (fun i=>i≤l.length) (fun i=>l.length-i) 0 (by omega) ?_ ?_
 ·simp[ms];exact d5.trans (dR (k:=3) 3 2 (by simp) (by simp[aC,ac])) (ap rfl rfl (by simp[St.adopt,bv,aC,ac,put,dJ,SV.erase]) (by simp[St.adopt,cC,ac,put,cK,Ob.erase]) (by simp[St.adopt,ct]))
 rintro i hi;simp;by_cases h:i<l.length
 ·obtain⟨v,hv⟩:∃v,l[i]=v:=⟨_,rfl⟩;have hg:=PV h hv;simp(disch:=omega)[wl,fG,hg];refine⟨by omega,?_⟩;refine aq (i+1) (by omega) (by omega) ?_;simp[←Yu h hv];exact bT
 ·obtain rfl:i=l.length:=by omega
  simp(disch:=omega)[wl,fG]
theorem fn_Back(f:Fc)(hF:FitF f):Fn G2 Tryz.prog jP [f.iv] f.iv:=by
 refine ag hm I0 (by simp) ?_;have hB:=VN f.ru hF.rf;have hI:=Kf f.i (by have:=hF.il;omega);have hO:=Kf f.o (by have:=hF.ol;omega);rw[LN]at hB;simp[B0,B1,Fc.iv,uf,cells];refine aa hB ?_;simp;refine aa hI ?_;simp;refine aa hO ?_;simp;rfl
theorem Bl(l:List Mom)(hl:l.length<1000000):Fn G2 Tryz.prog ji [.slice (ms l),.slice (ms l)] (.bool true):=by
 refine ag hm zc (by simp) ?_;simp[qM,qN];refine bS hm [] (fun i:Nat=>[(5,.val (.int .i64 i))]) (fun i=>[]) (fun i=>i≤l.length) (fun i=>l.length-i) 0 (by omega) ?_ ?_
 ·simp;exact bT
 rintro i hi;simp;by_cases h:i<l.length
 ·obtain⟨v,hv⟩:∃v,l[i]=v:=⟨_,rfl⟩;have hg:=PV h hv;simp(disch:=omega)[wl,fG,hg];refine aq (i+1) (by omega) (by omega) ?_;simp;exact bT
 ·obtain rfl:i=l.length:=by omega
  simp(disch:=omega)[wl,fG]
theorem GG(f:Fc)(hF:FitF f):Fn G2 Tryz.prog oT [f.iv,f.iv] (.bool true):=by
 refine ag hm HZ (by simp) ?_;have hB:=SI f.ru f.ru hF.rf hF.rf;have hI:=Bl f.i (by have:=hF.il;omega);have hO:=Bl f.o (by have:=hF.ol;omega);rw[LN]at hB;simp at hB;simp[AY,AZ,Fc.iv,uf,cells];refine aa hB ?_;simp;refine aa hI ?_;simp;refine aa hO ?_;simp
end Go.Vs.YtcjeehebikeghaaGreatDoor.Vt
