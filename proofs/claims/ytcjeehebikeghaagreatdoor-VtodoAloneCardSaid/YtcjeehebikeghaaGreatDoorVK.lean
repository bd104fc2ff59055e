/- A part of a proof. No conditions. -/
import Derived.Test.YtcjeehebikeghaaGreatDoorVJ
set_option linter.unusedVariables false
set_option linter.unusedSimpArgs false
set_option maxRecDepth 100000
set_option maxHeartbeats 16000000
namespace Go.Vs.YtcjeehebikeghaaGreatDoor.Vt
open Go.Proofs Go.Vs.U8 Go.Vs.Pa Go.Vs.Nu Go.Vs.Mo Go.Vs.Vt Go.Vs.YtcjeehebikeghaaGreatDoor.Rc
theorem GB(q:Option Pm):∀(l:List Str) (a:List Mom),(∀v∈a,yW v)->∀v∈(jc q l a).2,yW v
 |[],a,h=>by rw[lQ];exact h
 |s::r,a,h=>by
  rw[jY];split
  ·simp
  ·split
   ·simp
   ·refine GB q r _ fun v hv=>?_
    rcases List.mem_append.1 hv with hv|hv
    ·exact h v hv
    ·rw[List.mem_singleton.1 hv];exact BI s
theorem DY(x:Ln):∀v∈(cq x).2,yW v:=by
 unfold cq;split
 ·simp
 ·exact GB _ _ _ (by simp)
theorem rJ:yW yy:=⟨by decide,by decide,by decide⟩
theorem A1(x:Ln):yW (ck x).2:=by
 unfold ck;split
 ·exact rJ
 ·split
  ·next h=>
   have:=DY x;cases hl:(cq x).2 with
   |nil=>exact rJ
   |cons a r=>exact this a (by rw[hl];simp)
  ·exact rJ
theorem OB(x:Ln):yW (u6 x).2:=by
 unfold u6;split<;>exact BI x.v
theorem RE(s:Str):-86399913600<=(s9 s).1/\(s9 s).1<=86399913600:=by
 unfold s9;split
 ·split
  ·split
   ·simp
   ·split<;>(simp only;omega)
  ·simp
 ·simp
theorem TS(x:Ln):-86399913600<=(HR x).2/\(HR x).2<=86399913600:=by
 unfold HR;split<;>exact RE x.v
theorem RF(s:Str):0<=(HQ s).1:=by
 by_cases h:∃t:Int,1<=t/\t<=4/\sh t=s
 ·obtain⟨t,h1,h2,h3⟩:=h;rw[K3 ⟨h1,h2⟩ h3];exact(by omega:(0:Int)<=t)
 ·rw[Uy (fun t h1 h2 e=>h ⟨t,h1,by omega,e⟩)];decide
theorem TT{hi:Int}(s:Str)(h0:0<=hi):0<=(eH 5 0 hi false s).1/\(eH 5 0 hi false s).1<=hi:=by
 unfold eH;simp only[Bool.false_and,Bool.false_eq_true,if_false,false_and];split
 ·simp[h0]
 ·split
  ·simp[h0]
  ·next h=>exact⟨by simp,by simp only;omega⟩
theorem TU(s:Str):Fin (Wh s):=by
 unfold Wh;cases h:pg s with
 |no e p=>exact⟨by simp[zT,Oa],by simp[Oa],by simp[Oa]⟩
 |ok r=>exact(JX h).1
def RG(n:Nat)(f:Fc):Prop:=FitF f/\f.i.length<=1001*n/\f.o.length<=1001*n
theorem DZ{n:Nat}{f:Fc}{x:Ln}(h:RG n f)(hn:n<50)(hv:x.v.length<=1000):RG (n+1) (cz f x):=by
 obtain⟨hF,hi,ho⟩:=h;have hd:=xc x;have hdf:=DY x;unfold cz;by_cases c1:x.n=cZ
 ·rw[if_pos c1];exact⟨{hF with ul:=by show x.v.length<100000;omega },by show f.i.length<=_;omega,by show f.o.length<=_;omega⟩
 rw[if_neg c1];by_cases c2:x.n=be
 ·rw[if_pos c2];exact⟨{hF with st:=OB x },by show f.i.length<=_;omega,by show f.o.length<=_;omega⟩
 rw[if_neg c2];by_cases c3:x.n=bP
 ·rw[if_pos c3];exact⟨{hF with ls:=hF.ls },by show f.i.length<=_;omega,by show f.o.length<=_;omega⟩
 rw[if_neg c3];by_cases c4:x.n=aK
 ·rw[if_pos c4];exact⟨{hF with b:=A1 x },by show f.i.length<=_;omega,by show f.o.length<=_;omega⟩
 rw[if_neg c4];by_cases c5:x.n=cW
 ·rw[if_pos c5];exact⟨{hF with e:=A1 x },by show f.i.length<=_;omega,by show f.o.length<=_;omega⟩
 rw[if_neg c5];by_cases c6:x.n=fX
 ·rw[if_pos c6];exact⟨{hF with t:=A1 x },by show f.i.length<=_;omega,by show f.o.length<=_;omega⟩
 rw[if_neg c6];by_cases c7:x.n=bM
 ·rw[if_pos c7];refine⟨{hF with il:=?_,ik:=?_ },?_,by show f.o.length<=_;omega⟩
  ·show(f.i++(cq x).2).length<_;rw[List.length_append];omega
  ·intro v hv';rcases List.mem_append.1 hv' with hv'|hv'
   ·exact hF.ik v hv'
   ·exact(hdf v hv').1
  ·show(f.i++(cq x).2).length<=_;rw[List.length_append];omega
 rw[if_neg c7];by_cases c8:x.n=bj
 ·rw[if_pos c8];refine⟨{hF with ol:=?_,ok:=?_ },by show f.i.length<=_;omega,?_⟩
  ·show(f.o++(cq x).2).length<_;rw[List.length_append];omega
  ·intro v hv';rcases List.mem_append.1 hv' with hv'|hv'
   ·exact hF.ok v hv'
   ·exact(hdf v hv').1
  ·show(f.o++(cq x).2).length<=_;rw[List.length_append];omega
 rw[if_neg c8];by_cases c9:x.n=d5
 ·rw[if_pos c9];exact⟨{hF with sp:=TS x },by show f.i.length<=_;omega,by show f.o.length<=_;omega⟩
 rw[if_neg c9];by_cases c10:x.n=fK
 ·rw[if_pos c10];exact⟨{hF with ls:=hF.ls },by show f.i.length<=_;omega,by show f.o.length<=_;omega⟩
 rw[if_neg c10];by_cases c11:x.n=dq
 ·rw[if_pos c11];exact⟨{hF with ls:=RF x.v },by show f.i.length<=_;omega,by show f.o.length<=_;omega⟩
 rw[if_neg c11];by_cases c12:x.n=ii
 ·rw[if_pos c12];exact⟨{hF with ls:=hF.ls },by show f.i.length<=_;omega,by show f.o.length<=_;omega⟩
 rw[if_neg c12];by_cases c13:x.n=gv
 ·rw[if_pos c13];have hb:=TT (hi:=9) x.v (by decide);exact⟨{hF with pp:=⟨by show -1<=(eH 5 0 9 false x.v).1;omega,by show(eH 5 0 9 false x.v).1<=1000;omega⟩ },by show f.i.length<=_;omega,by show f.o.length<=_;omega⟩
 rw[if_neg c13];by_cases c14:x.n=bH
 ·rw[if_pos c14];obtain⟨r1,r2,r3⟩:=TU x.v;exact⟨{hF with rf:=r1,uk:=r2,rk:=r3 },by show f.i.length<=_;omega,by show f.o.length<=_;omega⟩
 rw[if_neg c14];by_cases c15:x.n=dk
 ·rw[if_pos c15];exact⟨{hF with ls:=hF.ls },by show f.i.length<=_;omega,by show f.o.length<=_;omega⟩
 rw[if_neg c15];exact⟨hF,by omega,by omega⟩
theorem MJ:RG 0 Rp:=by
 refine⟨⟨rJ,rJ,rJ,rJ,?_,?_,?_,?_,?_,?_,?_,?_,?_,?_,?_⟩,?_,?_⟩<;>simp[Rp,X8,Om,zT,Oa,yy]
theorem OC(n:Str):Fn G2 T_ 41 [.str n] (.bool (decide (n∈fL))):=by
 refine ag hm Bl (by simp) ?_;by_cases hn:n∈fL
 ·simp only[fL,List.mem_cons,List.not_mem_nil,or_false]at hn;rcases hn with rfl|rfl|rfl|rfl|rfl|rfl|rfl|rfl|rfl|rfl|rfl|rfl|rfl<;>simp[oG,fL,cZ,be,fK,aK,cW,d5,bP,dq,ii,gv,bH,fX,dk]
 ·have hd:decide (n∈fL)=false:=decide_eq_false hn;rw[hd];simp[fL,cZ,be,fK,aK,cW,d5,bP,dq,ii,gv,bH,fX,dk]at hn;obtain⟨a1,a2,a3,a4,a5,a6,a7,a8,a9,a10,a11,a12,a13⟩:=hn;simp[oG,a1,a2,a3,a4,a5,a6,a7,a8,a9,a10,a11,a12,a13]
theorem Ki{f:Fc}{x:Ln}(h:bB x=0):bZ f x=cz f x:=by
 unfold bZ;rw[if_neg];rintro⟨h1,h2⟩;apply h2;rw[<-h];rcases h1 with h1|h1|h1<;>simp[bB,h1,cZ,be,bP,aK,cW,fX]
def Kj:RdX->IV
 |.no e p=>.tuple [X8.iv,cS e [(p:Int)]]
 |.ok f=>.tuple [f.iv,.nili]
def Wi(f:Fc)(vi vo:Nat):List SV:=[.val (.str f.uid),.val (.str f.sm),.val (.int .u8 f.st.k),.val (.int .i64 f.st.s),.val (.int .u8 f.b.k),.val (.int .i64 f.b.s),.val (.int .u8 f.e.k),.val (.int .i64 f.e.s),.val (.int .i64 f.sp),.val (.int .u8 f.li.s),.val (.int .i64 f.li.p),.val (.int .i64 f.li.d),.val (.int .i64 f.pr),.val (.bool f.rd)]++(pm f.ru++[.own 7 vi,.own 8 vo,.val (.int .u8 f.at'.k),.val (.int .i64 f.at'.s),.val (.bool f.af)])
theorem BJ(f:Fc)(vi vo:Nat):qi [(1000,4),(1001,7),(1002,8)] (qe f vi vo)=Wi f vi vo:=rfl
def VL(f:Fc):List SV:=(zf f).map .val
theorem TW(f:Fc)(vi vo:Nat):((Wi f vi vo).set 29 (.val (.slice (ms f.i)))).set 30 (.val (.slice (ms f.o)))=VL f:=rfl
theorem VM(f:Fc)(vi vo:Nat):(Wi f vi vo)[29]?=some (.own 7 vi):=rfl
theorem VN(f:Fc)(vi vo:Nat)(s:SV):((Wi f vi vo).set 29 s)[30]?=some (.own 8 vo):=rfl
theorem RH(l:List Ln):∀row∈ls l,row.length=3:=by
 intro r hr;obtain⟨x,_,rfl⟩:=List.mem_map.1 hr;rfl
theorem oL(l:List Ln)(hf:fU l)(hv:∀x∈l,x.v.length<=1000)(hl:l.length<100000):Fn G2 T_ 10 [.slice (ls l)] (Kj (kS l)):=by
 refine ag hm EY (by simp) ?_;obtain⟨R,hR⟩:∃R,kS l=R:=⟨_,rfl⟩;rw[hR];unfold kS at hR;simp[yE];by_cases h0:24<l.length
 ·rw[if_pos h0]at hR;subst hR;have hE:=up (fd 20 24);rw[if_neg (by decide)]at hE;simp(disch:=omega)[wl,h0,bt];refine aa hE ?_;simp[Kj];rfl
 ·rw[if_neg h0]at hR;simp(disch:=omega)[wl,h0,bt];refine aa TI ?_;simp[Lif.iv,Om];have hW:∀f,FitF f->_:=fun f hF=>RD f l hF hl
  refine PX hm [] [] (fun f:Fc=>[]) (fun f=>[(4,.box (VL f))]) (fun f=>FitF f/\(if dO f l=0 then RdX.ok f else .no (dO f l) l.length)=R) ?_ ?_
  ·simp(disch:=omega)[wl,bt];refine ce hm [] (fun p:Nat×Fc×Nat×Nat=>[(18,.val (.int .i64 p.1))]) (fun p=>[(4,.box (Wi p.2.1 p.2.2.1 p.2.2.2)),(7,.arr p.2.2.1 2 (ms p.2.1.i)),(8,.arr p.2.2.2 2 (ms p.2.1.o))]) (fun p=>p.1<=l.length/\RG p.1 p.2.1/\iU l (l.drop p.1) p.1 p.2.1=R) (fun p=>l.length-p.1) (0,Rp,0,0) ⟨by simp,MJ,by simpa using hR⟩ ?_ ?_
   ·simp;exact cR.trans (FQ false (d:=4) (j:=29) 7 2 (by simp) (by decide) rfl rfl rfl) (cR.trans (FQ false (d:=4) (j:=30) 8 2 (by simp[St.adoptC]) (by decide) rfl rfl rfl) (cR.trans (Gr (d:=4) rfl rfl) (ap rfl rfl (by simp[St.adoptC,bp,aC,ac,dT,SV.erase]) (by simp[St.adoptC,ch,ac,put,cC,gN,Ob.erase,SV.erase,JW,qS,Bw,Wi,Rp,X8,pm,Om,Oa,yy,is,zK,ms]) (by simp[cg,St.adoptC]))))
   rintro⟨i,f,vi,vo⟩ ⟨hi,hI,hg⟩;dsimp only at hi hI hg;clear hR;simp[bt];by_cases h:i<l.length
   ·obtain⟨x,hx⟩:∃x,l[i]=x:=⟨_,rfl⟩;have hm':x∈l:=hx▸List.getElem_mem h;have hgx:=tz h hx;have fx:=hf x hm';have hC:=up (Gd x fx);rw[List.drop_eq_getElem_cons h,hx]at hg;obtain⟨E,hEq⟩:∃E,DC (l.take i) x=E:=⟨_,rfl⟩;simp only[iU,hEq]at hg;unfold DC at hEq;simp only[Ln.iv]at hC
    have hE:∀e:Int,e≠0->Fn G2 T_ 38 [.int .i64 e,.int .i64 i] (cS e [(i:Int)]):=fun e he=>by
     have:=up (fd e i)
     rwa[if_neg he]at this
    have hM:=fnM_take f vi vo x fx (by have:=hv x hm';omega) (by have:=hI.2.1;omega) (by have:=hI.2.2;omega);simp only[Ln.iv]at hM;have hS:=OC x.n;have hN:=up (zM (l.take i) x.n (by rw[List.length_take];omega));have hsub:(ls l).take i=ls (l.take i):=by simp[ls,List.map_take]
    simp(disch:=omega)[wl,hgx];refine aa hC ?_;by_cases c1:fV x=0
    case neg=>
     rw[if_pos c1]at hEq;subst hEq;rw[if_neg c1]at hg;subst hg;simp(disch:=omega)[wl,c1];refine aa (hE _ c1) ?_;simp[Kj];rfl
    rw[if_neg (by simp[c1])]at hEq;by_cases c2:x.n=EW\/x.n=EX
    ·rw[if_pos c2]at hEq;subst hEq;rw[if_neg (by decide)]at hg;subst hg;rcases c2 with c2|c2
     ·simp only[EW]at c2;simp(disch:=omega)[wl,c1,c2];refine aa (hE _ (by decide)) ?_;simp[Kj];rfl
     ·simp only[EX]at c2;simp(disch:=omega)[wl,c1,c2];refine aa (hE _ (by decide)) ?_;simp[Kj];rfl
    rw[if_neg c2]at hEq;simp only[not_or,EW,EX]at c2;obtain⟨c2,c2'⟩:=c2;simp(disch:=omega)[wl,c1,c2,c2'];refine aa hS ?_;by_cases c3:x.n∈fL
    ·simp(disch:=omega)[wl,c3,hsub];refine⟨⟨by rw[bt];omega,RH l⟩,?_⟩;refine aa hN ?_;by_cases c4:0<aV (l.take i) x.n
     ·rw[if_pos ⟨c3,c4⟩]at hEq;subst hEq;rw[if_neg (by decide)]at hg;subst hg;simp(disch:=omega)[wl,c4];refine⟨rfl,?_⟩;refine aa (hE _ (by decide)) ?_;simp[Kj];rfl
     rw[if_neg (by simp[c4])]at hEq;simp(disch:=omega)[wl,c4];refine⟨rfl,?_⟩;subst hEq;refine callM [(1000,4),(1001,7),(1002,8)] [] hM rfl rfl ⟨rfl,rfl,rfl,trivial⟩ ⟨rfl,[],[],rfl,rfl,rfl⟩ rfl ?_;by_cases c5:bB x=0
     ·rw[if_pos c5]at hg;rw[Ki c5];simp(disch:=omega)[wl,c5,eX,BJ];refine au (i+1,cz f x,zY x vi,zZ x vo) ⟨by omega,DZ hI (by omega) (hv x hm'),hg⟩ (by simp;omega) ?_;simp;exact bQ
     ·rw[if_neg c5]at hg;subst hg;simp(disch:=omega)[wl,c5,eX,BJ];refine aa (hE _ c5) ?_;simp[Kj];rfl
    ·rw[if_neg (by simp[c3])]at hEq;simp(disch:=omega)[wl,c3];refine⟨rfl,?_⟩;subst hEq;refine callM [(1000,4),(1001,7),(1002,8)] [] hM rfl rfl ⟨rfl,rfl,rfl,trivial⟩ ⟨rfl,[],[],rfl,rfl,rfl⟩ rfl ?_;by_cases c5:bB x=0
     ·rw[if_pos c5]at hg;rw[Ki c5];simp(disch:=omega)[wl,c5,eX,BJ];refine au (i+1,cz f x,zY x vi,zZ x vo) ⟨by omega,DZ hI (by omega) (hv x hm'),hg⟩ (by simp;omega) ?_;simp;exact bQ
     ·rw[if_neg c5]at hg;subst hg;simp(disch:=omega)[wl,c5,eX,BJ];refine aa (hE _ c5) ?_;simp[Kj];rfl
   ·obtain rfl:i=l.length:=by omega
    rw[List.drop_length]at hg;simp only[iU]at hg;simp(disch:=omega)[wl];refine dw f ⟨hI.1,hg⟩ ?_;exact cR.trans (xQ (d:=4) (j:=29) (id:=7) rfl (VM f vi vo) rfl (by decide) rfl) (cR.trans (xQ (d:=4) (j:=30) (id:=8) rfl (VN f vi vo _) rfl (by decide) rfl) (ap rfl rfl (by simp[bp,aC,ac,bt]) (by simp[ch,ac,put,TW]) (by simp[cg])))
  ·rintro f ⟨hF,hg⟩;have hW:=hW f hF;simp only[zf,cells,List.cons_append,List.nil_append]at hW;simp[VL,zf,cells];refine aa hW ?_;by_cases h1:dO f l=0
   ·rw[if_pos h1]at hg;subst hg;simp(disch:=omega)[wl,h1,Kj];rfl
   ·rw[if_neg h1]at hg;subst hg;have hE:=up (fd (dO f l) l.length);rw[if_neg h1]at hE;simp(disch:=omega)[wl,h1,bt];refine aa hE ?_;simp[Kj];rfl
end Go.Vs.YtcjeehebikeghaaGreatDoor.Vt
