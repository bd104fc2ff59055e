/- Facts that lines tell fit; which ub are single. No conditions. -/
import Derived.Test.YtcjeehebikeghaaGreatDoorVJ
set_option linter.unusedVariables false
set_option linter.unusedSimpArgs false
set_option maxRecDepth 100000
set_option maxHeartbeats 16000000
namespace Go.Vs.YtcjeehebikeghaaGreatDoor.Vt
open Go.Proofs Go.Vs.U8 Go.Vs.Pa Go.Vs.Nu Go.Vs.Mo Go.Vs.Vt Go.Vs.YtcjeehebikeghaaGreatDoor.Rc
theorem Kd(q:Option Pm):∀(l:List Str) (a:List Mom),(∀v∈a,Bi v)→∀v∈(jO q l a).2,Bi v
 |[],a,h=>by rw[ng];exact h
 |s::r,a,h=>by
  rw[kV];split
  ·simp
  ·split
   ·simp
   ·refine Kd q r _ fun v hv=>?_
    rcases List.mem_append.1 hv with hv|hv
    ·exact h v hv
    ·rw[List.mem_singleton.1 hv];exact Ed s
theorem GD(x:Ln):∀v∈(cR x).2,Bi v:=by
 unfold cR;split
 ·simp
 ·exact Kd _ _ _ (by simp)
theorem mh:Bi AP:=⟨by decide,by decide,by decide⟩
theorem Cj(x:Ln):Bi (cP x).2:=by
 unfold cP;split
 ·exact mh
 ·split
  ·next h=>
   have:=GD x;cases hl:(cR x).2 with
   |nil=>exact mh
   |cons a r=>exact this a (by rw[hl];simp)
  ·exact mh
theorem T1(x:Ln):Bi (ox x).2:=by
 unfold ox;split<;>exact Ed x.v
theorem Wg(s:Str):-86399913600≤(ue s).1∧(ue s).1≤86399913600:=by
 unfold ue;split
 ·split
  ·split
   ·simp
   ·split<;>(simp only;omega)
  ·simp
 ·simp
theorem Yn(x:Ln):-86399913600≤(Lx x).2∧(Lx x).2≤86399913600:=by
 unfold Lx;split<;>exact Wg x.v
theorem Wh(s:Str):0≤(Ca s).1:=by
 by_cases h:∃t:Int,1≤t∧t≤4∧jd t=s
 ·obtain⟨t,h1,h2,h3⟩:=h;rw[Og ⟨h1,h2⟩ h3];exact(by omega:(0:Int)≤t)
 ·rw[Z7 (fun t h1 h2 e=>h ⟨t,h1,by omega,e⟩)];decide
theorem Yo{hi:Int}(s:Str)(h0:0≤hi):0≤(dU 5 0 hi false s).1∧(dU 5 0 hi false s).1≤hi:=by
 unfold dU;simp only[Bool.false_and,Bool.false_eq_true,if_false,false_and];split
 ·simp[h0]
 ·split
  ·simp[h0]
  ·next h=>exact⟨by simp,by simp only;omega⟩
theorem Yp(s:Str):Fin (ruV s):=by
 unfold ruV;cases h:qJ s with
 |no e p=>exact⟨by simp[wa,OF],by simp[OF],by simp[OF]⟩
 |ok r=>exact(O9 h).1
def Wi(n:Nat)(f:Fc):Prop:=FitF f∧f.i.length≤1001*n∧f.o.length≤1001*n
theorem GE{n:Nat}{f:Fc}{x:Ln}(h:Wi n f)(hn:n<50)(hv:x.v.length≤1000):Wi (n+1) (cg f x):=by
 obtain⟨hF,hi,ho⟩:=h;have hd:=zf x;have hdf:=GD x;unfold cg;by_cases c1:x.n=dc
 ·rw[if_pos c1];exact⟨{hF with ul:=by show x.v.length<100000;omega },by show f.i.length≤_;omega,by show f.o.length≤_;omega⟩
 rw[if_neg c1];by_cases c2:x.n=bn
 ·rw[if_pos c2];exact⟨{hF with st:=T1 x },by show f.i.length≤_;omega,by show f.o.length≤_;omega⟩
 rw[if_neg c2];by_cases c3:x.n=bj
 ·rw[if_pos c3];exact⟨{hF with ls:=hF.ls },by show f.i.length≤_;omega,by show f.o.length≤_;omega⟩
 rw[if_neg c3];by_cases c4:x.n=aO
 ·rw[if_pos c4];exact⟨{hF with b:=Cj x },by show f.i.length≤_;omega,by show f.o.length≤_;omega⟩
 rw[if_neg c4];by_cases c5:x.n=dd
 ·rw[if_pos c5];exact⟨{hF with e:=Cj x },by show f.i.length≤_;omega,by show f.o.length≤_;omega⟩
 rw[if_neg c5];by_cases c6:x.n=gc
 ·rw[if_pos c6];exact⟨{hF with t:=Cj x },by show f.i.length≤_;omega,by show f.o.length≤_;omega⟩
 rw[if_neg c6];by_cases c7:x.n=bW
 ·rw[if_pos c7];refine⟨{hF with il:=?_,ik:=?_ },?_,by show f.o.length≤_;omega⟩
  ·show(f.i++(cR x).2).length<_;rw[List.length_append];omega
  ·intro v hv';rcases List.mem_append.1 hv' with hv'|hv'
   ·exact hF.ik v hv'
   ·exact(hdf v hv').1
  ·show(f.i++(cR x).2).length≤_;rw[List.length_append];omega
 rw[if_neg c7];by_cases c8:x.n=bt
 ·rw[if_pos c8];refine⟨{hF with ol:=?_,ok:=?_ },by show f.i.length≤_;omega,?_⟩
  ·show(f.o++(cR x).2).length<_;rw[List.length_append];omega
  ·intro v hv';rcases List.mem_append.1 hv' with hv'|hv'
   ·exact hF.ok v hv'
   ·exact(hdf v hv').1
  ·show(f.o++(cR x).2).length≤_;rw[List.length_append];omega
 rw[if_neg c8];by_cases c9:x.n=de
 ·rw[if_pos c9];exact⟨{hF with sp:=Yn x },by show f.i.length≤_;omega,by show f.o.length≤_;omega⟩
 rw[if_neg c9];by_cases c10:x.n=eO
 ·rw[if_pos c10];exact⟨{hF with ls:=hF.ls },by show f.i.length≤_;omega,by show f.o.length≤_;omega⟩
 rw[if_neg c10];by_cases c11:x.n=bF
 ·rw[if_pos c11];exact⟨{hF with ls:=Wh x.v },by show f.i.length≤_;omega,by show f.o.length≤_;omega⟩
 rw[if_neg c11];by_cases c12:x.n=dg
 ·rw[if_pos c12];exact⟨{hF with ls:=hF.ls },by show f.i.length≤_;omega,by show f.o.length≤_;omega⟩
 rw[if_neg c12];by_cases c13:x.n=gt
 ·rw[if_pos c13];have hb:=Yo (hi:=9) x.v (by decide);exact⟨{hF with pp:=⟨by show -1≤(dU 5 0 9 false x.v).1;omega,by show(dU 5 0 9 false x.v).1≤1000;omega⟩ },by show f.i.length≤_;omega,by show f.o.length≤_;omega⟩
 rw[if_neg c13];by_cases c14:x.n=bP
 ·rw[if_pos c14];obtain⟨r1,r2,r3⟩:=Yp x.v;exact⟨{hF with rf:=r1,uk:=r2,rk:=r3 },by show f.i.length≤_;omega,by show f.o.length≤_;omega⟩
 rw[if_neg c14];by_cases c15:x.n=dz
 ·rw[if_pos c15];exact⟨{hF with ls:=hF.ls },by show f.i.length≤_;omega,by show f.o.length≤_;omega⟩
 rw[if_neg c15];exact⟨hF,by omega,by omega⟩
theorem QY:Wi 0 Ml:=by
 refine⟨⟨mh,mh,mh,mh,?_,?_,?_,?_,?_,?_,?_,?_,?_,?_,?_⟩,?_,?_⟩<;>simp[Ml,Mk,SM,wa,OF,AP]
theorem T2(n:Str):Fn G2 Tryz.prog pX [.str n] (.bool (decide (n∈gu))):=by
 refine ag hm DK (by simp) ?_;by_cases hn:n∈gu
 ·simp only[gu,List.mem_cons,List.not_mem_nil,or_false]at hn;rcases hn with rfl|rfl|rfl|rfl|rfl|rfl|rfl|rfl|rfl|rfl|rfl|rfl|rfl<;>simp[qb,qc,gu,dc,bn,eO,aO,dd,de,bj,bF,dg,gt,bP,gc,dz]
 ·have hd:decide (n∈gu)=false:=decide_eq_false hn;rw[hd];simp[gu,dc,bn,eO,aO,dd,de,bj,bF,dg,gt,bP,gc,dz]at hn;obtain⟨a1,a2,a3,a4,a5,a6,a7,a8,a9,a10,a11,a12,a13⟩:=hn;simp[qb,qc,a1,a2,a3,a4,a5,a6,a7,a8,a9,a10,a11,a12,a13]
theorem Oy{f:Fc}{x:Ln}(h:bG x=0):cF f x=cg f x:=by
 unfold cF;rw[if_neg];rintro⟨h1,h2⟩;apply h2;rw[←h];rcases h1 with h1|h1|h1<;>simp[bG,h1,dc,bn,bj,aO,dd,gc]
def Hn:RdX→IV
 |.no e p=>.tuple [Mk.iv,dp e [(p:Int)]]
 |.ok f=>.tuple [f.iv,.nili]
def bxR(f:Fc)(vi vo:Nat):List SV:=[.val (.str f.uid),.val (.str f.sm),.val (.int .u8 f.st.k),.val (.int .i64 f.st.s),.val (.int .u8 f.b.k),.val (.int .i64 f.b.s),.val (.int .u8 f.e.k),.val (.int .i64 f.e.s),.val (.int .i64 f.sp),.val (.int .u8 f.li.s),.val (.int .i64 f.li.p),.val (.int .i64 f.li.d),.val (.int .i64 f.pr),.val (.bool f.rd)]++(qQ f.ru++[.own 7 vi,.own 8 vo,.val (.int .u8 f.at'.k),.val (.int .i64 f.at'.s),.val (.bool f.af)])
theorem Ee(f:Fc)(vi vo:Nat):rR [(1000,4),(1001,7),(1002,8)] (rN f vi vo)=bxR f vi vo:=rfl
def Wj(f:Fc):List SV:=(uf f).map .val
theorem Yq(f:Fc)(vi vo:Nat):((bxR f vi vo).set 29 (.val (.slice (ms f.i)))).set 30 (.val (.slice (ms f.o)))=Wj f:=rfl
theorem aaz(f:Fc)(vi vo:Nat):(bxR f vi vo)[29]?=some (.own 7 vi):=rfl
theorem aaA(f:Fc)(vi vo:Nat)(s:SV):((bxR f vi vo).set 29 s)[30]?=some (.own 8 vo):=rfl
theorem wx(l:List Ln):∀row∈ls l,row.length=3:=by
 intro r hr;obtain⟨x,_,rfl⟩:=List.mem_map.1 hr;rfl
theorem jF(l:List Ln)(hf:ew l)(hv:∀x∈l,x.v.length≤1000)(hl:l.length<100000):Fn G2 Tryz.prog cz [.slice (ls l)] (Hn (ig l)):=by
 refine ag hm HY (by simp) ?_;obtain⟨R,hR⟩:∃R,ig l=R:=⟨_,rfl⟩;rw[hR];unfold ig at hR;simp[AW,AX];by_cases h0:24<l.length
 ·rw[if_pos h0]at hR;subst hR;have hE:=up (fQ 20 24);rw[if_neg (by decide)]at hE;simp(disch:=omega)[wl,h0,be];refine aa hE ?_;simp[Hn];rfl
 ·rw[if_neg h0]at hR;simp(disch:=omega)[wl,h0,be];refine aa Ye ?_;simp[Lif.iv,SM];have hW:∀f,FitF f→_:=fun f hF=>Wf f l hF hl
  refine Un hm [] [] (fun f:Fc=>[]) (fun f=>[(4,.box (Wj f))]) (fun f=>FitF f∧(if cY f l=0 then RdX.ok f else .no (cY f l) l.length)=R) ?_ ?_
  ·simp(disch:=omega)[wl,be];refine bS hm [] (fun p:Nat×Fc×Nat×Nat=>[(18,.val (.int .i64 p.1))]) (fun p=>[(4,.box (bxR p.2.1 p.2.2.1 p.2.2.2)),(7,.arr p.2.2.1 2 (ms p.2.1.i)),(8,.arr p.2.2.2 2 (ms p.2.1.o))]) (fun p=>p.1≤l.length∧Wi p.1 p.2.1∧gK l (l.drop p.1) p.1 p.2.1=R) (fun p=>l.length-p.1) (0,Ml,0,0) ⟨by simp,QY,by simpa using hR⟩ ?_ ?_
   ·simp;exact d5.trans (Jv false (d:=4) (j:=29) 7 2 (by simp) (by decide) rfl rfl rfl) (d5.trans (Jv false (d:=4) (j:=30) 8 2 (by simp[St.adoptC]) (by decide) rfl rfl rfl) (d5.trans (K4 (d:=4) rfl rfl) (ap rfl rfl (by simp[St.adoptC,bv,aC,ac,dJ,SV.erase]) (by simp[St.adoptC,cC,ac,put,cK,iB,Ob.erase,SV.erase,O8,qB,DW,bxR,Ml,Mk,qQ,SM,OF,AP,is,vu,ms]) (by simp[ct,St.adoptC]))))
   rintro⟨i,f,vi,vo⟩ ⟨hi,hI,hg⟩;dsimp only at hi hI hg;clear hR;simp[be];by_cases h:i<l.length
   ·obtain⟨x,hx⟩:∃x,l[i]=x:=⟨_,rfl⟩;have hm':x∈l:=hx▸List.getElem_mem h;have hgx:=pK h hx;have fx:=hf x hm';have hC:=up (JR x fx);rw[List.drop_eq_getElem_cons h,hx]at hg;obtain⟨E,hEq⟩:∃E,AQ (l.take i) x=E:=⟨_,rfl⟩;simp only[gK,hEq]at hg;unfold AQ at hEq;simp only[Ln.iv]at hC
    have hE:∀e:Int,e≠0→Fn G2 Tryz.prog bH [.int .i64 e,.int .i64 i] (dp e [(i:Int)]):=fun e he=>by
     have:=up (fQ e i)
     rwa[if_neg he]at this
    have hM:=fnM_take f vi vo x fx (by have:=hv x hm';omega) (by have:=hI.2.1;omega) (by have:=hI.2.2;omega);simp only[Ln.iv]at hM;have hS:=T2 x.n;have hN:=up (wL (l.take i) x.n (by rw[List.length_take];omega));have hsub:(ls l).take i=ls (l.take i):=by simp[ls,List.map_take]
    simp(disch:=omega)[wl,hgx];refine aa hC ?_;by_cases c1:gI x=0
    case neg=>
     rw[if_pos c1]at hEq;subst hEq;rw[if_neg c1]at hg;subst hg;simp(disch:=omega)[wl,c1];refine aa (hE _ c1) ?_;simp[Hn];rfl
    rw[if_neg (by simp[c1])]at hEq;by_cases c2:x.n=Cb∨x.n=Cc
    ·rw[if_pos c2]at hEq;subst hEq;rw[if_neg (by decide)]at hg;subst hg;rcases c2 with c2|c2
     ·simp only[Cb]at c2;simp(disch:=omega)[wl,c1,c2];refine aa (hE _ (by decide)) ?_;simp[Hn];rfl
     ·simp only[Cc]at c2;simp(disch:=omega)[wl,c1,c2];refine aa (hE _ (by decide)) ?_;simp[Hn];rfl
    rw[if_neg c2]at hEq;simp only[not_or,Cb,Cc]at c2;obtain⟨c2,c2'⟩:=c2;simp(disch:=omega)[wl,c1,c2,c2'];refine aa hS ?_;by_cases c3:x.n∈gu
    ·simp(disch:=omega)[wl,c3,hsub];refine⟨⟨by rw[be];omega,wx l⟩,?_⟩;refine aa hN ?_;by_cases c4:0<aE (l.take i) x.n
     ·rw[if_pos ⟨c3,c4⟩]at hEq;subst hEq;rw[if_neg (by decide)]at hg;subst hg;simp(disch:=omega)[wl,c4];refine⟨rfl,?_⟩;refine aa (hE _ (by decide)) ?_;simp[Hn];rfl
     rw[if_neg (by simp[c4])]at hEq;simp(disch:=omega)[wl,c4];refine⟨rfl,?_⟩;subst hEq;refine callM [(1000,4),(1001,7),(1002,8)] [] hM rfl rfl ⟨rfl,rfl,rfl,trivial⟩ ⟨rfl,[],[],rfl,rfl,rfl⟩ rfl ?_;by_cases c5:bG x=0
     ·rw[if_pos c5]at hg;rw[Oy c5];simp(disch:=omega)[wl,c5,fH,Ee];refine aq (i+1,cg f x,Ch x vi,Ci x vo) ⟨by omega,GE hI (by omega) (hv x hm'),hg⟩ (by simp;omega) ?_;simp;exact bT
     ·rw[if_neg c5]at hg;subst hg;simp(disch:=omega)[wl,c5,fH,Ee];refine aa (hE _ c5) ?_;simp[Hn];rfl
    ·rw[if_neg (by simp[c3])]at hEq;simp(disch:=omega)[wl,c3];refine⟨rfl,?_⟩;subst hEq;refine callM [(1000,4),(1001,7),(1002,8)] [] hM rfl rfl ⟨rfl,rfl,rfl,trivial⟩ ⟨rfl,[],[],rfl,rfl,rfl⟩ rfl ?_;by_cases c5:bG x=0
     ·rw[if_pos c5]at hg;rw[Oy c5];simp(disch:=omega)[wl,c5,fH,Ee];refine aq (i+1,cg f x,Ch x vi,Ci x vo) ⟨by omega,GE hI (by omega) (hv x hm'),hg⟩ (by simp;omega) ?_;simp;exact bT
     ·rw[if_neg c5]at hg;subst hg;simp(disch:=omega)[wl,c5,fH,Ee];refine aa (hE _ c5) ?_;simp[Hn];rfl
   ·obtain rfl:i=l.length:=by omega
    rw[List.drop_length]at hg;simp only[gK]at hg;simp(disch:=omega)[wl];refine dM f ⟨hI.1,hg⟩ ?_;exact d5.trans (zX (d:=4) (j:=29) (id:=7) rfl (aaz f vi vo) rfl (by decide) rfl) (d5.trans (zX (d:=4) (j:=30) (id:=8) rfl (aaA f vi vo _) rfl (by decide) rfl) (ap rfl rfl (by simp[bv,aC,ac,be]) (by simp[cC,ac,put,Yq]) (by simp[ct])))
  ·rintro f ⟨hF,hg⟩;have hW:=hW f hF;simp only[uf,cells,List.cons_append,List.nil_append]at hW;simp[Wj,uf,cells];refine aa hW ?_;by_cases h1:cY f l=0
   ·rw[if_pos h1]at hg;subst hg;simp(disch:=omega)[wl,h1,Hn];rfl
   ·rw[if_neg h1]at hg;subst hg;have hE:=up (fQ (cY f l) l.length);rw[if_neg h1]at hE;simp(disch:=omega)[wl,h1,be];refine aa hE ?_;simp[Hn];rfl
end Go.Vs.YtcjeehebikeghaaGreatDoor.Vt
