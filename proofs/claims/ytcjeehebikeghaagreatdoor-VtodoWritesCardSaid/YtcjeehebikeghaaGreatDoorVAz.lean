/- A part of a proof. No conditions. -/
import Derived.Test.YtcjeehebikeghaaGreatDoorRWz
set_option linter.unusedVariables false
set_option linter.unusedSimpArgs false
set_option maxHeartbeats 4000000
namespace Go.Vs.Vt
open Go.Vs.U8 Go.Vs.Pa Go.Vs.Nu
def vP:Nat->Str->Nat
 |0,_=>0
 |_,[]=>0
 |d+1,c::r=>if d7 c=true then vP d r+1 else 0
def fI(s:Str)(c:UInt8):Option (Nat×Str):=
 if vP 6 s=0\/s[vP 6 s]?≠some c then none else some (bt 0 (s.take (vP 6 s)),s.drop (vP 6 s+1))
def tk(c:UInt8)(u:Nat)(p:Str×Nat×Nat):Str×Nat×Nat:=match fI p.1 c with
 |some (n,r)=>(r,p.2.1+n*u,p.2.2+1)
 |none=>p
def MP(s:Str)(m:Nat):Str×Nat×Nat:=tk 83 1 (tk 77 60 (tk 72 3600 (s,m,0)))
def MQ(s:Str)(m:Nat):Option Nat:=if s[0]?=some 84/\(MP (s.drop 1) m).2.2≠0/\(MP (s.drop 1) m).1=[]then some (MP (s.drop 1) m).2.1 else none
def G0(s:Str):Option Nat:=match fI s 87 with
 |some (n,r)=>if r=[]then some (n*604800)else none
 |none=>match fI s 68 with
  |some (n,r)=>if r=[]then some (n*86400)else MQ r (n*86400)
  |none=>MQ s 0
def kq(s:Str):Str:=if s[0]?=some 45\/s[0]?=some 43 then s.drop 1 else s
def fM(s:Str):Int×Int:=if (kq s)[0]?=some 80 then (match G0 ((kq s).drop 1)with
  |some n=>if 86399913600<n then (0,8)else (if s[0]?=some 45 then -(n:Int)else (n:Int),0)
  |none=>(0,4))else (0,4)
def addS(a n:Int):Int×Int:=if a<0\/315537897599<a\/n < -86399913600\/86399913600<n\/a+n<0\/315537897599<a+n then (0,8)else (a+n,0)
theorem YT:∀(d:Nat) (s:Str),vP d s<=d/\vP d s<=s.length
 |0,_=>by simp[vP]
 |_+1,[]=>by simp[vP]
 |d+1,c::r=>by
  have:=YT d r;unfold vP;split
  ·simp;omega
  ·simp
theorem U7:∀(d:Nat) (s:Str),(s.take (vP d s)).all d7=true
 |0,_=>by simp[vP]
 |_+1,[]=>by simp[vP]
 |d+1,c::r=>by
  unfold vP;split
  ·next h=>simp[h];simpa using U7 d r
  ·simp
theorem yp{s:Str}{c:UInt8}{n:Nat}{r:Str}(h:fI s c=some (n,r)):r.length<s.length/\n<1000000:=by
 unfold fI at h;split at h
 ·cases h
 ·next a=>
  simp only[not_or,Decidable.not_not]at a;obtain⟨rfl,rfl⟩:bt 0 (s.take (vP 6 s))=n/\s.drop (vP 6 s+1)=r:=by simpa using h
  have b:=YT 6 s;have d:=(List.getElem?_eq_some_iff.1 a.2).1;refine⟨by rw[List.length_drop];omega,?_⟩;have e:=NH (s.take (vP 6 s)) 0 (U7 6 s);have f:10 ^ (s.take (vP 6 s)).length<=10 ^ 6:=Nat.pow_le_pow_right (by omega) (by rw[List.length_take];omega);omega
def oB(c:UInt8):Option UInt8:=if c=110\/c=78 then some 10 else if c=92\/c=59\/c=44 then some c else none
inductive PtX where
 |bad (p:Nat)
 |ok (t:Str) (n:Nat)
def i6:Str->Nat->Str->PtX
 |[],i,a=>.ok a i
 |c::r,i,a=>if c=44 then .ok a i else if c=59 then .bad i else if c=92 then (match r with
  |[]=>.bad i
  |d::q=>match oB d with
   |some m=>i6 q (i+2) (a++[m])
   |none=>.bad i)else i6 r (i+1) (a++[c])
inductive UnX where
 |bad (p:Nat)
 |ok (t:Str)
def unR(s:Str):UnX:=match i6 s 0 []with
 |.bad p=>.bad p
 |.ok t n=>if n<s.length then .bad n else .ok t
structure Lif where
 s:Int
 p:Int
 d:Int
 deriving DecidableEq
def KW:Lif:=⟨0,-1,-1⟩
def G1(s:Int):Int:=if s=2 then 1 else if s=3 then 100 else 0
def nB(s:Int):Int:=if s=2\/s=4 then 99 else if s=3 then 100 else 0
def tQ(l:Lif):Int:=if 4<l.s then 11 else if l.p < -1\/100<l.p\/l.d < -1\/315537897599<l.d then 8
 else if ¬(l.d≠-1↔l.s=3)\/(l.p≠-1/\(l.p<G1 l.s\/nB l.s<l.p))then 9 else 0
def qw(s:Int):Str:=if s=1 then [78,69,69,68,83,45,65,67,84,73,79,78]else if s=2 then [73,78,45,80,82,79,67,69,83,83]else if s=3 then [67,79,77,80,76,69,84,69,68]else if s=4 then [67,65,78,67,69,76,76,69,68]else []
def KX(s:Str):Int×Int:=if s=qw 1 then (1,0)else if s=qw 2 then (2,0)else if s=qw 3 then (3,0)else if s=qw 4 then (4,0)else (0,11)
end Go.Vs.Vt
namespace Go.Vs.YtcjeehebikeghaaGreatDoor.Vt
open Go.Lib Go.Vs.U8 Go.Vs.Pa Go.Vs.Nu Go.Vs.Mo Go.Vs.Vt Go.Vs.YtcjeehebikeghaaGreatDoor.Rc
def cp:Str:=[85,73,68]
def aK:Str:=[68,84,83,84,65,77,80]
def cg:Str:=[83,85,77,77,65,82,89]
def aV:Str:=[68,84,83,84,65,82,84]
def cN:Str:=[68,85,69]
def bM:Str:=[68,85,82,65,84,73,79,78]
def bq:Str:=[67,79,77,80,76,69,84,69,68]
def bN:Str:=[83,84,65,84,85,83]
def cY:Str:=[80,69,82,67,69,78,84,45,67,79,77,80,76,69,84,69]
def cn:Str:=[80,82,73,79,82,73,84,89]
def cc:Str:=[82,82,85,76,69]
def ce:Str:=[82,68,65,84,69]
def bn:Str:=[69,88,68,65,84,69]
def eO:Str:=[82,69,67,85,82,82,69,78,67,69,45,73,68]
def cO:Str:=[88,45,82,69,80,69,65,84]
def dB:Str:=[82,69,76,65,84,69,68,45,84,79]
def yG:Str:=[66,69,71,73,78]
def yH:Str:=[69,78,68]
def nTZ:Str:=[84,90,73,68]
def KY:Str:=[86,65,76,85,69]
def QS:Str:=[68,65,84,69]
def aef:Str:=[68,65,84,69,45,84,73,77,69]
def bF:Str:=[65,70,84,69,82]
def bH:Str:=[83,67,72,69,68,85,76,69]
theorem nm_:type_of%(And.intro cp.eq_1 (And.intro aK.eq_1 (And.intro cg.eq_1 (And.intro aV.eq_1 (And.intro cN.eq_1 (And.intro bM.eq_1 (And.intro bq.eq_1 (And.intro bN.eq_1 (And.intro cY.eq_1 (And.intro cn.eq_1 (And.intro cc.eq_1 (And.intro ce.eq_1 (And.intro bn.eq_1 (And.intro eO.eq_1 (And.intro cO.eq_1 (And.intro dB.eq_1 (And.intro yG.eq_1 (And.intro yH.eq_1 (And.intro nTZ.eq_1 (And.intro KY.eq_1 (And.intro QS.eq_1 (And.intro aef.eq_1 (And.intro bF.eq_1 bH.eq_1))))))))))))))))))))))):=⟨rfl,rfl,rfl,rfl,rfl,rfl,rfl,rfl,rfl,rfl,rfl,rfl,rfl,rfl,rfl,rfl,rfl,rfl,rfl,rfl,rfl,rfl,rfl,rfl⟩
structure Fc where
 uid:Str
 sm:Str
 st:Mom
 b:Mom
 e:Mom
 sp:Int
 li:Lif
 pr:Int
 rd:Bool
 ru:Ru
 i:List Mom
 o:List Mom
 at':Mom
 af:Bool
def SR:Mom:=⟨0,0⟩
def Zv:Fc:=⟨[],[],SR,SR,SR,0,⟨0,0,0⟩,0,false,Ws,[],[],SR,false⟩
def fc1:Fc:={Zv with li:=KW }
def tR(k:Int):Str:=if k=1 then QS else aef
def GG(q:Option Pm)(k:Int):Prop:=match q with
 |some p=>p.v.length≠1\/upper (p.v.headD [])≠tR k
 |none=>k=1
instance (q:Option Pm) (k:Int):Decidable (GG q k):=by unfold GG;split<;>infer_instance
def io(q:Option Pm):List Str->List Mom->Int×List Mom
 |[],a=>(0,a)
 |s::r,a=>if (fu s).2≠0 then ((fu s).2,[])else if GG q (fu s).1.k then (4,[])else io q r (a++[(fu s).1])
def d5(x:Ln):Int×List Mom:=if (gB x.p nTZ).isSome=true then (11,[])else io (gB x.p KY) (parts 44 x.v) []
def gE(x:Ln):Int×Mom:=if (d5 x).1≠0 then ((d5 x).1,SR)else if (d5 x).2.length=1 then (0,(d5 x).2.headD SR)else (4,SR)
def rA(x:Ln):Int×Mom:=if (fu x.v).2=0/\(fu x.v).1.k≠3 then (11,(fu x.v).1)else ((fu x.v).2,(fu x.v).1)
def GH(x:Ln):Int×Int:=if (fM x.v).2=0/\(fM x.v).1<=0 then (8,(fM x.v).1)else ((fM x.v).2,(fM x.v).1)
def unE(s:Str):Int:=match unR s with
 |.bad _=>4
 |.ok _=>0
def unT(s:Str):Str:=match unR s with
 |.bad _=>[]
 |.ok t=>t
def ruE(s:Str):Int:=match kD s with
 |.no e _=>e
 |.ok _=>0
def ruV(s:Str):Ru:=match kD s with
 |.no _ _=>Ws
 |.ok r=>r
def br(x:Ln):Int:=if x.n=cp then (if jF x.v=true then 0 else 4)else if x.n=aK\/x.n=bq then (rA x).1
 else if x.n=aV\/x.n=cN\/x.n=eO then (gE x).1 else if x.n=ce\/x.n=bn then (d5 x).1 else if x.n=bM then (GH x).1
 else if x.n=cg then unE x.v else if x.n=bN then (KX x.v).2 else if x.n=cY then (cF 5 0 100 false x.v).2 else if x.n=cn then (cF 5 0 9 false x.v).2
 else if x.n=cc then ruE x.v else if x.n=cO then (if x.v=bF\/x.v=bH then 0 else 4)else if x.n=dB then (O5 x).2 else 0
def ch(f:Fc)(x:Ln):Fc:=if x.n=cp then {f with uid:=x.v } else if x.n=aK then {f with st:=(rA x).2 } else if x.n=bq then {f with li:={f.li with d:=(rA x).2.s } }
 else if x.n=aV then {f with b:=(gE x).2 } else if x.n=cN then {f with e:=(gE x).2 } else if x.n=eO then {f with at':=(gE x).2 }
 else if x.n=ce then {f with i:=f.i++(d5 x).2 } else if x.n=bn then {f with o:=f.o++(d5 x).2 } else if x.n=bM then {f with sp:=(GH x).2 }
 else if x.n=cg then {f with sm:=unT x.v } else if x.n=bN then {f with li:={f.li with s:=(KX x.v).1 } } else if x.n=cY then {f with li:={f.li with p:=(cF 5 0 100 false x.v).1 } }
 else if x.n=cn then {f with pr:=(cF 5 0 9 false x.v).1 } else if x.n=cc then {f with rd:=true,ru:=ruV x.v } else if x.n=cO then {f with af:=decide (x.v=bF) } else f
def kF:List Str:=[cp,aK,cg,aV,cN,bM,bq,bN,cY,cn,cc,eO,cO]
def MR(l:List Ln)(x:Ln):Int:=if gS x≠0 then gS x else if x.n=yG\/x.n=yH then 11 else if x.n∈kF/\0<bG l x.n then 19 else br x
def ip(k:Int):List Mom->Int
 |[]=>0
 |v::r=>if jI v≠0 then jI v else if v.k≠k then 11 else ip k r
def Je(b:Mom)(r:Ru)(i o:List Mom):Int:=if jI b≠0 then jI b else if jo r≠0 then jo r else if r.u.k≠0/\r.u.k≠b.k then 9
 else if b.k=1/\(r.f<3\/0<r.l6.length\/0<r.l5.length\/0<r.l4.length)then 9 else if 12<i.length\/12<o.length then 20
 else if ip b.k i≠0 then ip b.k i else ip b.k o
def sE(f:Fc):Int:=if f.b.k≠0/\f.e.k≠0 then f.e.s-f.b.s else f.sp
def jt(f:Fc):Int:=if f.at'.k≠0/\f.rd=true then f.at'.s else f.b.s
def nc(f:Fc)(a:Int):Int×Bool:=if a<0\/315537897599<a\/f.b.k=0\/315537897599<a+sE f then (0,false)else (a+sE f,true)
def kQ(f:Fc):Int×Bool:=if f.e.k≠0/\f.rd=false then (f.e.s,true)else nc f (jt f)
def ld(f:Fc):Int:=if 0<f.sp/\(f.e.k≠0\/f.b.k=0)then 9 else if f.b.k≠0/\f.e.k≠0/\f.b.k≠f.e.k then 11 else if f.b.k≠0/\f.e.k≠0/\f.e.s<f.b.s then 8
 else if f.b.k=1/\f.sp%86400≠0 then 9 else if f.b.k≠0 then (addS f.b.s f.sp).2 else 0
def lq(f:Fc)(l:List Ln):Int:=if f.b.k=0 then 9 else if Je f.b f.ru f.i f.o≠0 then Je f.b f.ru f.i f.o else if f.af=true/\0<bG l ce then 9
 else if f.at'.k≠0/\f.at'.k≠f.b.k then 11 else if f.at'.k≠0/\f.at'.s<f.b.s then 8 else if 20<(jj f.uid).length then 5 else if (kQ f).2=false then 8 else 0
def dV(f:Fc)(l:List Ln):Int:=if bG l cp=0\/bG l aK=0 then 6 else if tQ f.li≠0 then tQ f.li else if ld f≠0 then ld f
 else if f.rd=true then lq f l else if 0<bG l ce\/0<bG l bn\/0<bG l eO\/0<bG l cO then 9 else 0
inductive RdX where
 |no (e:Int) (p:Nat)
 |ok (f:Fc)
def ju(l:List Ln):List Ln->Nat->Fc->RdX
 |[],i,f=>if dV f l=0 then .ok f else .no (dV f l) i
 |x::r,i,f=>if MR (l.take i) x=0 then ju l r (i+1) (ch f x)else .no (MR (l.take i) x) i
def mH(l:List Ln):RdX:=if 24<l.length then .no 20 24 else ju l l 0 fc1
def YU(l:List Ln)(n v:Str):List Ln:=tI l ⟨n,(match qQ l n with
 |some x=>x.p
 |none=>[]),v⟩
def rB(l:List Ln)(n v:Str)(b:Bool):List Ln:=if b=true then YU l n v else fL l n
def xt(x:Lif):Str:=if 0<=x.d then KF ⟨3,x.d⟩else []
def Jf(l:List Ln)(x:Lif):List Ln:=if tQ x≠0 then l else rB (rB (rB l bN (qw x.s) (decide (x.s≠0))) cY (itoa x.p) (decide (0<=x.p))) bq (xt x) (decide (0<=x.d))
def xu:List Str:=[cp,aK,bN,cY,bq,dB,cc,ce,bn,eO,cO,yG,yH]
def xv(x:Ln):Int:=if gS x≠0 then gS x else if x.n∈xu then 11 else 0
def ka(l:List Ln)(x:Ln):List Ln:=if x.v=[]/\x.p=[]then fL l x.n else tI l x
inductive PaX where
 |no (e:Int) (p:Nat)
 |ok (l:List Ln)
def D9(N:Nat):List Ln->Nat->List Ln->PaX
 |[],i,l=>match mH l with
  |.no e _=>.no e N
  |.ok _=>.ok l
 |x::r,i,l=>if xv x=0 then D9 N r (i+1) (ka l x)else .no (xv x) i
def Oo(l c:List Ln):PaX:=D9 c.length c 0 l
def upd(g:Str->Option Ln)(x:Ln):Str->Option Ln:=fun n=>if x.n=n then some x else g n
theorem U9(x:Ln):∀l:List Ln,eH x l true=(fL l x.n,true)
 |[]=>rfl
 |y::r=>by
  have a:=U9 x r;cases b:km x.n y<;>simp[eH,b,a,fL]
theorem QT(x y:Ln)(r:List Ln):tI (y::r) x=if km x.n y then x::fL r x.n else y::tI r x:=by
 cases a:km x.n y with
 |true=>simp[tI,eH,a,U9]
 |false=>
  simp only[tI,eH,a];cases b:(eH x r false).2<;>simp[b]
theorem Ua(x:Ln):tI [] x=[x]:=rfl
theorem VM{q:Ln->Bool}{n:Str}(a:∀y,y.n=n->q y=false)(l:List Ln):(fL l n).filter q=l.filter q:=by
 unfold fL;rw[List.filter_filter];refine List.filter_congr fun y _=>?_
 by_cases e:y.n=n
 ·rw[a y e];rfl
 ·simp[km,e]
theorem QU(l:List Ln)(n:Str):qQ l n=(l.filter (km n)).head?:=by
 unfold qQ;rw[List.head?_filter]
theorem adh{m n:Str}(h:m≠n)(y:Ln)(e:y.n=n):km m y=false:=by
 simp only[km,e,decide_eq_false_iff_not];exact fun a=>h a.symm
theorem get_drop(l:List Ln)(n m:Str):qQ (fL l n) m=if m=n then none else qQ l m:=by
 rw[QU];by_cases e:m=n
 ·rw[if_pos e,e]
  have:(fL l n).filter (km n)=[]:=by
   rw[List.filter_eq_nil_iff];intro z a;have:=(List.mem_filter.1 a).2;simpa using this
  rw[this];rfl
 ·rw[if_neg e,VM (adh e),<-QU]
theorem yq{l:List Ln}{n:Str}{y:Ln}(h:y∈fL l n):y∈l:=(List.mem_filter.1 h).1
theorem Da{x y:Ln} : ∀ {l:List Ln},y∈tI l x->y=x\/y∈l
 |[],h=>by rw[Ua]at h;simpa using h
 |z::r,h=>by
  rw[QT]at h;split at h
  ·rcases List.mem_cons.1 h with h|h
   ·exact .inl h
   ·exact .inr (by simp[yq h])
  ·rcases List.mem_cons.1 h with h|h
   ·exact .inr (by simp[h])
   ·rcases Da h with h|h
    ·exact .inl h
    ·exact .inr (by simp[h])
theorem drop_len(l:List Ln)(n:Str):(fL l n).length<=l.length:=List.length_filter_le _ _
theorem set_len(x:Ln):∀l:List Ln,(tI l x).length<=l.length+(if qQ l x.n=none then 1 else 0)
 |[]=>by rw[Ua];simp[qQ]
 |y::r=>by
  rw[QT];by_cases e:y.n=x.n
  ·have e1:km x.n y=true:=by simp[km,e]
   rw[e1,if_pos rfl];have:=drop_len r x.n;simp only[List.length_cons];omega
  ·have e1:km x.n y=false:=by simp[km,e]
   have e2:qQ (y::r) x.n=qQ r x.n:=by unfold qQ;rw[List.find?_cons,e1]
   have:=set_len x r;rw[e1,if_neg (by decide),e2];simp only[List.length_cons];omega
def prm(l:List Ln)(n:Str):List Pm:=match qQ l n with
 |some x=>x.p
 |none=>[]
theorem SS(l:List Ln)(n v:Str):YU l n v=tI l ⟨n,prm l n,v⟩:=rfl
theorem QV(l:List Ln)(n v:Str)(b:Bool):(rB l n v b).length<=l.length+1:=by
 unfold rB;split
 ·rw[SS];have:=set_len ⟨n,prm l n,v⟩ l;split at this<;>omega
 ·have:=drop_len l n;omega
end Go.Vs.YtcjeehebikeghaaGreatDoor.Vt
