/- A part of a proof. No conditions. -/
import Derived.Test.YtcjeehebikeghaaGreatDoorRV
set_option linter.unusedVariables false
set_option linter.unusedSimpArgs false
set_option maxHeartbeats 4000000
namespace Go.Vs.Vt
open Go.Vs.U8 Go.Vs.Pa Go.Vs.Nu
def BE:Nat->Str->Nat
 |0,_=>0
 |_,[]=>0
 |d+1,c::r=>if dL c=true then BE d r+1 else 0
def jB(s:Str)(c:UInt8):Option (Nat×Str):=
 if BE 6 s=0\/s[BE 6 s]?≠some c then none else some (bx 0 (s.take (BE 6 s)),s.drop (BE 6 s+1))
def tk(c:UInt8)(u:Nat)(p:Str×Nat×Nat):Str×Nat×Nat:=match jB p.1 c with
 |some (n,r)=>(r,p.2.1+n*u,p.2.2+1)
 |none=>p
def HP(s:Str)(m:Nat):Str×Nat×Nat:=tk 83 1 (tk 77 60 (tk 72 3600 (s,m,0)))
def My(s:Str)(m:Nat):Option Nat:=if s[0]?=some 84/\(HP (s.drop 1) m).2.2≠0/\(HP (s.drop 1) m).1=[]then some (HP (s.drop 1) m).2.1 else none
def Rn(s:Str):Option Nat:=match jB s 87 with
 |some (n,r)=>if r=[]then some (n*604800)else none
 |none=>match jB s 68 with
  |some (n,r)=>if r=[]then some (n*86400)else My r (n*86400)
  |none=>My s 0
def Gs(s:Str):Str:=if s[0]?=some 45\/s[0]?=some 43 then s.drop 1 else s
def s9(s:Str):Int×Int:=if (Gs s)[0]?=some 80 then (match Rn ((Gs s).drop 1)with
  |some n=>if 86399913600<n then (0,8)else (if s[0]?=some 45 then -(n:Int)else (n:Int),0)
  |none=>(0,4))else (0,4)
def addS(a n:Int):Int×Int:=if a<0\/315537897599<a\/n < -86399913600\/86399913600<n\/a+n<0\/315537897599<a+n then (0,8)else (a+n,0)
theorem Ro:∀(d:Nat) (s:Str),BE d s<=d/\BE d s<=s.length
 |0,_=>by simp[BE]
 |_+1,[]=>by simp[BE]
 |d+1,c::r=>by
  have:=Ro d r;unfold BE;split
  ·simp;omega
  ·simp
theorem Mz:∀(d:Nat) (s:Str),(s.take (BE d s)).all dL=true
 |0,_=>by simp[BE]
 |_+1,[]=>by simp[BE]
 |d+1,c::r=>by
  unfold BE;split
  ·next h=>simp[h];simpa using Mz d r
  ·simp
theorem BF{s:Str}{c:UInt8}{n:Nat}{r:Str}(h:jB s c=some (n,r)):r.length<s.length/\n<1000000:=by
 unfold jB at h;split at h
 ·cases h
 ·next hn=>
  simp only[not_or,Decidable.not_not]at hn;obtain⟨rfl,rfl⟩:bx 0 (s.take (BE 6 s))=n/\s.drop (BE 6 s+1)=r:=by simpa using h
  have h1:=Ro 6 s;have h2:=(List.getElem?_eq_some_iff.1 hn.2).1;refine⟨by rw[List.length_drop];omega,?_⟩;have h3:=Hi (s.take (BE 6 s)) 0 (Mz 6 s);have h4:10 ^ (s.take (BE 6 s)).length<=10 ^ 6:=Nat.pow_le_pow_right (by omega) (by rw[List.length_take];omega);omega

/- Texts within values. -/
def Dy(c:UInt8):Option UInt8:=if c=110\/c=78 then some 10 else if c=92\/c=59\/c=44 then some c else none
inductive PtX where
 |bad (p:Nat)
 |ok (t:Str) (n:Nat)
def mq:Str->Nat->Str->PtX
 |[],i,a=>.ok a i
 |c::r,i,a=>if c=44 then .ok a i else if c=59 then .bad i else if c=92 then (match r with
  |[]=>.bad i
  |d::q=>match Dy d with
   |some m=>mq q (i+2) (a++[m])
   |none=>.bad i)else mq r (i+1) (a++[c])
inductive UnX where
 |bad (p:Nat)
 |ok (t:Str)
def WJ(s:Str):UnX:=match mq s 0 []with
 |.bad p=>.bad p
 |.ok t n=>if n<s.length then .bad n else .ok t

/- Lives. -/
structure Lif where
 s:Int
 p:Int
 d:Int
 deriving DecidableEq
def Om:Lif:=⟨0,-1,-1⟩
def Bi(s:Int):Int:=if s=2 then 1 else if s=3 then 100 else 0
def mM(s:Int):Int:=if s=2\/s=4 then 99 else if s=3 then 100 else 0
def uQ(l:Lif):Int:=if 4<l.s then 11 else if l.p < -1\/100<l.p\/l.d < -1\/315537897599<l.d then 8
 else if ¬(l.d≠-1↔l.s=3)\/(l.p≠-1/\(l.p<Bi l.s\/mM l.s<l.p))then 9 else 0
def sh(s:Int):Str:=if s=1 then [78,69,69,68,83,45,65,67,84,73,79,78]else if s=2 then [73,78,45,80,82,79,67,69,83,83]else if s=3 then [67,79,77,80,76,69,84,69,68]else if s=4 then [67,65,78,67,69,76,76,69,68]else []
def HQ(s:Str):Int×Int:=if s=sh 1 then (1,0)else if s=sh 2 then (2,0)else if s=sh 3 then (3,0)else if s=sh 4 then (4,0)else (0,11)
end Go.Vs.Vt
namespace Go.Vs.YtcjeehebikeghaaGreatDoor.Vt
open Go.Lib Go.Vs.U8 Go.Vs.Pa Go.Vs.Nu Go.Vs.Mo Go.Vs.Vt Go.Vs.YtcjeehebikeghaaGreatDoor.Rc
def cZ:Str:=[85,73,68]
def be:Str:=[68,84,83,84,65,77,80]
def fK:Str:=[83,85,77,77,65,82,89]
def aK:Str:=[68,84,83,84,65,82,84]
def cW:Str:=[68,85,69]
def d5:Str:=[68,85,82,65,84,73,79,78]
def bP:Str:=[67,79,77,80,76,69,84,69,68]
def dq:Str:=[83,84,65,84,85,83]
def ii:Str:=[80,69,82,67,69,78,84,45,67,79,77,80,76,69,84,69]
def gv:Str:=[80,82,73,79,82,73,84,89]
def bH:Str:=[82,82,85,76,69]
def bM:Str:=[82,68,65,84,69]
def bj:Str:=[69,88,68,65,84,69]
def fX:Str:=[82,69,67,85,82,82,69,78,67,69,45,73,68]
def dk:Str:=[88,45,82,69,80,69,65,84]
def oz:Str:=[82,69,76,65,84,69,68,45,84,79]
def EW:Str:=[66,69,71,73,78]
def EX:Str:=[69,78,68]
def Wg:Str:=[84,90,73,68]
def Dz:Str:=[86,65,76,85,69]
def JY:Str:=[68,65,84,69]
def WK:Str:=[68,65,84,69,45,84,73,77,69]
def fq:Str:=[65,70,84,69,82]
def gx:Str:=[83,67,72,69,68,85,76,69]
structure Fc where
 uid:Str
 sm:Str
 st:Mom
 b:Mom
 e:Mom
 sp:Int
 li:Lif
 pr:Int
 rd:Bool
 ru:Ru
 i:List Mom
 o:List Mom
 at':Mom
 af:Bool
def yy:Mom:=⟨0,0⟩
def X8:Fc:=⟨[],[],yy,yy,yy,0,⟨0,0,0⟩,0,false,Oa,[],[],yy,false⟩
def Rp:Fc:={X8 with li:=Om }
def DA(k:Int):Str:=if k=1 then JY else WK
def DB(q:Option Pm)(k:Int):Prop:=match q with
 |some p=>p.v.length≠1\/upper (p.v.headD [])≠DA k
 |none=>k=1
instance (q:Option Pm) (k:Int):Decidable (DB q k):=by unfold DB;split<;>infer_instance
def jc(q:Option Pm):List Str->List Mom->Int×List Mom
 |[],a=>(0,a)
 |s::r,a=>if (gq s).2≠0 then ((gq s).2,[])else if DB q (gq s).1.k then (4,[])else jc q r (a++[(gq s).1])
def cq(x:Ln):Int×List Mom:=if (gK x.p Wg).isSome=true then (11,[])else jc (gK x.p Dz) (parts 44 x.v) []
def ck(x:Ln):Int×Mom:=if (cq x).1≠0 then ((cq x).1,yy)else if (cq x).2.length=1 then (0,(cq x).2.headD yy)else (4,yy)
def u6(x:Ln):Int×Mom:=if (gq x.v).2=0/\(gq x.v).1.k≠3 then (11,(gq x.v).1)else ((gq x.v).2,(gq x.v).1)
def HR(x:Ln):Int×Int:=if (s9 x.v).2=0/\(s9 x.v).1<=0 then (8,(s9 x.v).1)else ((s9 x.v).2,(s9 x.v).1)
def Xp(s:Str):Int:=match WJ s with
 |.bad _=>4
 |.ok _=>0
def X9(s:Str):Str:=match WJ s with
 |.bad _=>[]
 |.ok t=>t
def Xq(s:Str):Int:=match pg s with
 |.no e _=>e
 |.ok _=>0
def Wh(s:Str):Ru:=match pg s with
 |.no _ _=>Oa
 |.ok r=>r
def bB(x:Ln):Int:=if x.n=cZ then (if pz x.v=true then 0 else 4)else if x.n=be\/x.n=bP then (u6 x).1
 else if x.n=aK\/x.n=cW\/x.n=fX then (ck x).1 else if x.n=bM\/x.n=bj then (cq x).1 else if x.n=d5 then (HR x).1
 else if x.n=fK then Xp x.v else if x.n=dq then (HQ x.v).2 else if x.n=ii then (eH 5 0 100 false x.v).2 else if x.n=gv then (eH 5 0 9 false x.v).2
 else if x.n=bH then Xq x.v else if x.n=dk then (if x.v=fq\/x.v=gx then 0 else 4)else if x.n=oz then (QL x).2 else 0
def cz(f:Fc)(x:Ln):Fc:=if x.n=cZ then {f with uid:=x.v } else if x.n=be then {f with st:=(u6 x).2 } else if x.n=bP then {f with li:={f.li with d:=(u6 x).2.s } }
 else if x.n=aK then {f with b:=(ck x).2 } else if x.n=cW then {f with e:=(ck x).2 } else if x.n=fX then {f with at':=(ck x).2 }
 else if x.n=bM then {f with i:=f.i++(cq x).2 } else if x.n=bj then {f with o:=f.o++(cq x).2 } else if x.n=d5 then {f with sp:=(HR x).2 }
 else if x.n=fK then {f with sm:=X9 x.v } else if x.n=dq then {f with li:={f.li with s:=(HQ x.v).1 } } else if x.n=ii then {f with li:={f.li with p:=(eH 5 0 100 false x.v).1 } }
 else if x.n=gv then {f with pr:=(eH 5 0 9 false x.v).1 } else if x.n=bH then {f with rd:=true,ru:=Wh x.v } else if x.n=dk then {f with af:=decide (x.v=fq) } else f
def fL:List Str:=[cZ,be,fK,aK,cW,d5,bP,dq,ii,gv,bH,fX,dk]
def DC(l:List Ln)(x:Ln):Int:=if fV x≠0 then fV x else if x.n=EW\/x.n=EX then 11 else if x.n∈fL/\0<aV l x.n then 19 else bB x
/- Sets. -/
def jW(k:Int):List Mom->Int
 |[]=>0
 |v::r=>if gE v≠0 then gE v else if v.k≠k then 11 else jW k r
def HS(b:Mom)(r:Ru)(i o:List Mom):Int:=if gE b≠0 then gE b else if mJ r≠0 then mJ r else if r.u.k≠0/\r.u.k≠b.k then 9
 else if b.k=1/\(r.f<3\/0<r.l6.length\/0<r.l5.length\/0<r.l4.length)then 9 else if 12<i.length\/12<o.length then 20
 else if jW b.k i≠0 then jW b.k i else jW b.k o
def mN(f:Fc):Int:=if f.b.k≠0/\f.e.k≠0 then f.e.s-f.b.s else f.sp
def bD(f:Fc):Int:=if f.at'.k≠0/\f.rd=true then f.at'.s else f.b.s
def lL(f:Fc)(a:Int):Int×Bool:=if a<0\/315537897599<a\/f.b.k=0\/315537897599<a+mN f then (0,false)else (a+mN f,true)
def dX(f:Fc):Int×Bool:=if f.e.k≠0/\f.rd=false then (f.e.s,true)else lL f (bD f)
def eL(f:Fc):Int:=if 0<f.sp/\(f.e.k≠0\/f.b.k=0)then 9 else if f.b.k≠0/\f.e.k≠0/\f.b.k≠f.e.k then 11 else if f.b.k≠0/\f.e.k≠0/\f.e.s<f.b.s then 8
 else if f.b.k=1/\f.sp%86400≠0 then 9 else if f.b.k≠0 then (addS f.b.s f.sp).2 else 0
def kR(f:Fc)(l:List Ln):Int:=if f.b.k=0 then 9 else if HS f.b f.ru f.i f.o≠0 then HS f.b f.ru f.i f.o else if f.af=true/\0<aV l bM then 9
 else if f.at'.k≠0/\f.at'.k≠f.b.k then 11 else if f.at'.k≠0/\f.at'.s<f.b.s then 8 else if 20<(xY f.uid).length then 5 else if (dX f).2=false then 8 else 0
def dO(f:Fc)(l:List Ln):Int:=if aV l cZ=0\/aV l be=0 then 6 else if uQ f.li≠0 then uQ f.li else if eL f≠0 then eL f
 else if f.rd=true then kR f l else if 0<aV l bM\/0<aV l bj\/0<aV l fX\/0<aV l dk then 9 else 0
inductive RdX where
 |no (e:Int) (p:Nat)
 |ok (f:Fc)
def iU(l:List Ln):List Ln->Nat->Fc->RdX
 |[],i,f=>if dO f l=0 then .ok f else .no (dO f l) i
 |x::r,i,f=>if DC (l.take i) x=0 then iU l r (i+1) (cz f x)else .no (DC (l.take i) x) i
def kS(l:List Ln):RdX:=if 24<l.length then .no 20 24 else iU l l 0 Rp
/- Lines put, and dropped. -/
def kW(l:List Ln)(n v:Str):List Ln:=nv l ⟨n,(match d7 l n with
 |some x=>x.p
 |none=>[]),v⟩
def oB(l:List Ln)(n v:Str)(b:Bool):List Ln:=if b=true then kW l n v else bf l n
def u9(x:Lif):Str:=if 0<=x.d then dQ ⟨3,x.d⟩else []
def DD(l:List Ln)(x:Lif):List Ln:=if uQ x≠0 then l else oB (oB (oB l dq (sh x.s) (decide (x.s≠0))) ii (itoa x.p) (decide (0<=x.p))) bP (u9 x) (decide (0<=x.d))
def ub:List Str:=[cZ,be,dq,ii,bP,oz,bH,bM,bj,fX,dk,EW,EX]
def uc(x:Ln):Int:=if fV x≠0 then fV x else if x.n∈ub then 11 else 0
def js(l:List Ln)(x:Ln):List Ln:=if x.v=[]/\x.p=[]then bf l x.n else nv l x
inductive PaX where
 |no (e:Int) (p:Nat)
 |ok (l:List Ln)
def yz(N:Nat):List Ln->Nat->List Ln->PaX
 |[],i,l=>match kS l with
  |.no e _=>.no e N
  |.ok _=>.ok l
 |x::r,i,l=>if uc x=0 then yz N r (i+1) (js l x)else .no (uc x) i
def HT(l c:List Ln):PaX:=yz c.length c 0 l
def pS(f:Fc)(l:List Ln):List Ln:=
 let m:=kW (if f.e.k≠0 then kW l cW (dQ ⟨f.e.k,(dX f).1⟩)else l) aK (dQ ⟨f.b.k,bD f⟩)
 bf (bf (bf (bf (bf m bH) bM) bj) fX) dk
def fo{α:Type}(g:Str->Option Ln)(n:Str)(h:Ln->α)(d:α):α:=match g n with
 |some x=>h x
 |none=>d
def HU(g:Str->Option Ln):Fc where
 uid:=fo g cZ (fun x=>x.v) []
 sm:=fo g fK (fun x=>X9 x.v) []
 st:=fo g be (fun x=>(u6 x).2) yy
 b:=fo g aK (fun x=>(ck x).2) yy
 e:=fo g cW (fun x=>(ck x).2) yy
 sp:=fo g d5 (fun x=>(HR x).2) 0
 li:=⟨fo g dq (fun x=>(HQ x.v).1) 0,fo g ii (fun x=>(eH 5 0 100 false x.v).1) (-1),fo g bP (fun x=>(u6 x).2.s) (-1)⟩
 pr:=fo g gv (fun x=>(eH 5 0 9 false x.v).1) 0
 rd:=fo g bH (fun _=>true) false
 ru:=fo g bH (fun x=>Wh x.v) Oa
 i:=fo g bM (fun x=>(cq x).2) []
 o:=fo g bj (fun x=>(cq x).2) []
 at':=fo g fX (fun x=>(ck x).2) yy
 af:=fo g dk (fun x=>decide (x.v=fq)) false
def upd(g:Str->Option Ln)(x:Ln):Str->Option Ln:=fun n=>if x.n=n then some x else g n
def pT(x:Ln):Int:=if fV x≠0 then fV x else if x.n=EW\/x.n=EX then 11 else bB x
def dV(x:Ln):List Mom:=(cq x).2
def gF(l:List Ln):Fc:={HU (d7 l)with i:=(l.filter (dr bM)).flatMap dV,o:=(l.filter (dr bj)).flatMap dV }
theorem Rq(l:List Ln)(x:Ln)(n:Str):d7 (l++[x]) n=if x.n=n/\d7 l n=none then some x else d7 l n:=by
 unfold d7;rw[List.find?_append];cases h:l.find? (dr n)with
 |some y=>simp
 |none=>
  by_cases e:x.n=n
  ·simp[dr,e]
  ·simp[dr,e]
theorem TD{α:Type}(l:List Ln)(x:Ln)(n:Str)(h:Ln->α)(d:α):fo (d7 (l++[x])) n h d=if x.n=n/\d7 l n=none then h x else fo (d7 l) n h d:=by
 unfold fo;rw[Rq];by_cases e:x.n=n/\d7 l n=none
 ·rw[if_pos e,if_pos e]
 ·rw[if_neg e,if_neg e]
theorem TE(l:List Ln)(x:Ln)(n:Str):((l++[x]).filter (dr n)).flatMap dV=(l.filter (dr n)).flatMap dV++if x.n=n then dV x else []:=by
 by_cases e:x.n=n
 ·simp[dr,e]
 ·simp[dr,e]
theorem Gt{l:List Ln}{n:Str} : aV l n=0↔d7 l n=none:=by
 unfold aV d7;rw[List.length_eq_zero_iff,List.filter_eq_nil_iff,List.find?_eq_none]
theorem x8(l:List Ln)(x:Ln)(n:Str):aV (l++[x]) n=aV l n+if x.n=n then 1 else 0:=by
 unfold aV;by_cases e:x.n=n
 ·simp[dr,e]
 ·simp[dr,e]
theorem Gu(l r:List Ln)(n:Str):aV (l++r) n=aV l n+aV r n:=by
 unfold aV;rw[List.filter_append,List.length_append]
theorem TF(l:List Ln)(x:Ln)(h:x.n∈fL->d7 l x.n=none):cz (gF l) x=gF (l++[x]):=by
 unfold cz gF;simp only[HU,TD,TE];by_cases h0:x.n=cZ
 ·have hn:=h (by rw[h0];decide);rw[h0]at hn;simp (decide:=true) only [h0,hn,if_true,if_false,and_true,true_and,false_and,List.append_nil]
 by_cases h1:x.n=be
 ·have hn:=h (by rw[h1];decide);rw[h1]at hn;simp (decide:=true) only [h1,hn,if_true,if_false,and_true,true_and,false_and,List.append_nil]
 by_cases h2:x.n=bP
 ·have hn:=h (by rw[h2];decide);rw[h2]at hn;simp (decide:=true) only [h2,hn,if_true,if_false,and_true,true_and,false_and,List.append_nil]
 by_cases h3:x.n=aK
 ·have hn:=h (by rw[h3];decide);rw[h3]at hn;simp (decide:=true) only [h3,hn,if_true,if_false,and_true,true_and,false_and,List.append_nil]
 by_cases h4:x.n=cW
 ·have hn:=h (by rw[h4];decide);rw[h4]at hn;simp (decide:=true) only [h4,hn,if_true,if_false,and_true,true_and,false_and,List.append_nil]
 by_cases h5:x.n=fX
 ·have hn:=h (by rw[h5];decide);rw[h5]at hn;simp (decide:=true) only [h5,hn,if_true,if_false,and_true,true_and,false_and,List.append_nil]
 by_cases h6:x.n=bM
 ·simp (decide:=true) only [h6,if_true,if_false,and_true,true_and,false_and,List.append_nil,dV]
 by_cases h7:x.n=bj
 ·simp (decide:=true) only [h7,if_true,if_false,and_true,true_and,false_and,List.append_nil,dV]
 by_cases h8:x.n=d5
 ·have hn:=h (by rw[h8];decide);rw[h8]at hn;simp (decide:=true) only [h8,hn,if_true,if_false,and_true,true_and,false_and,List.append_nil]
 by_cases h9:x.n=fK
 ·have hn:=h (by rw[h9];decide);rw[h9]at hn;simp (decide:=true) only [h9,hn,if_true,if_false,and_true,true_and,false_and,List.append_nil]
 by_cases h10:x.n=dq
 ·have hn:=h (by rw[h10];decide);rw[h10]at hn;simp (decide:=true) only [h10,hn,if_true,if_false,and_true,true_and,false_and,List.append_nil]
 by_cases h11:x.n=ii
 ·have hn:=h (by rw[h11];decide);rw[h11]at hn;simp (decide:=true) only [h11,hn,if_true,if_false,and_true,true_and,false_and,List.append_nil]
 by_cases h12:x.n=gv
 ·have hn:=h (by rw[h12];decide);rw[h12]at hn;simp (decide:=true) only [h12,hn,if_true,if_false,and_true,true_and,false_and,List.append_nil]
 by_cases h13:x.n=bH
 ·have hn:=h (by rw[h13];decide);rw[h13]at hn;simp (decide:=true) only [h13,hn,if_true,if_false,and_true,true_and,false_and,List.append_nil]
 by_cases h14:x.n=dk
 ·have hn:=h (by rw[h14];decide);rw[h14]at hn;simp (decide:=true) only [h14,hn,if_true,if_false,and_true,true_and,false_and,List.append_nil]
 simp only[h0,h1,h2,h3,h4,h5,h6,h7,h8,h9,h10,h11,h12,h13,h14,if_false,false_and,List.append_nil]
theorem Rr:gF []=Rp:=rfl
def Bj(l:List Ln):Prop:=(∀x∈l,pT x=0)/\∀n∈fL,aV l n<=1
theorem HV:∀(r p:List Ln),(∀n∈fL,aV (p++r) n<=1)->r.foldl cz (gF p)=gF (p++r)
 |[],p,_=>by simp
 |x::r,p,h=>by
  have h1:x.n∈fL->d7 p x.n=none:=fun hs=>by
   have:=h _ hs;have e:p++x::r=(p++[x])++r:=by simp
   rw[e,Gu,x8,if_pos rfl]at this;exact Gt.1 (by omega)
  have e:p++x::r=(p++[x])++r:=by simp
  rw[List.foldl_cons,TF p x h1,e];exact HV r (p++[x]) (by rw[<-e];exact h)
theorem Gv{p:List Ln}{x:Ln} : DC p x=0↔pT x=0/\(x.n∈fL->aV p x.n=0):=by
 unfold DC pT;by_cases h1:fV x=0
 ·have h1':¬fV x≠0:=fun h=>h h1
  rw[if_neg h1',if_neg h1'];by_cases h2:x.n=EW\/x.n=EX
  ·rw[if_pos h2,if_pos h2];simp
  ·rw[if_neg h2,if_neg h2];by_cases h3:x.n∈fL/\0<aV p x.n
   ·rw[if_pos h3];refine⟨fun h=>(by cases h),fun h=>?_⟩;have:=h.2 h3.1;omega
   ·rw[if_neg h3];refine⟨fun h=>⟨h,fun hs=>?_⟩,fun h=>h.1⟩;have:¬0<aV p x.n:=fun hc=>h3 ⟨hs,hc⟩
    omega
 ·rw[if_pos h1,if_pos h1];exact⟨fun h=>absurd h h1,fun h=>absurd h.1 h1⟩
theorem Uw{l:List Ln} : ∀(r p:List Ln) (f g:Fc),l=p++r->(∀n∈fL,aV p n<=1)->iU l r p.length f=.ok g->(∀x∈r,pT x=0)/\(∀n∈fL,aV l n<=1)/\g=r.foldl cz f/\dO g l=0
 |[],p,f,g,hl,hc,h=>by
  unfold iU at h;split at h
  ·next hw=>cases h;exact⟨by simp,by rw[hl];simpa using hc,rfl,hw⟩
  ·cases h
 |x::r,p,f,g,hl,hc,h=>by
  have hp:l.take p.length=p:=by rw[hl];simp
  unfold iU at h;rw[hp]at h;split at h
  ·next h0=>
   obtain⟨h1,h2⟩:=Gv.1 h0;have e:p.length+1=(p++[x]).length:=by simp
   rw[e]at h
   obtain⟨k1,k2,k3,k4⟩:=Uw r (p++[x]) (cz f x) g (by rw[hl];simp) (fun n hn=>by
    rw[x8];by_cases e:x.n=n
    ·rw[if_pos e,<-e,h2 (by rw[e];exact hn)];omega
    ·rw[if_neg e];have:=hc n hn;omega) h
   exact⟨fun y hy=>by
    rcases List.mem_cons.1 hy with rfl|hy
    ·exact h1
    ·exact k1 y hy,k2,k3,k4⟩
  ·cases h
theorem Ux{l:List Ln} : ∀(r p:List Ln) (f:Fc),l=p++r->(∀n∈fL,aV l n<=1)->(∀x∈r,pT x=0)->dO (r.foldl cz f) l=0->iU l r p.length f=.ok (r.foldl cz f)
 |[],p,f,hl,hc,_,hw=>by
  unfold iU;exact if_pos hw
 |x::r,p,f,hl,hc,ha,hw=>by
  have hp:l.take p.length=p:=by rw[hl];simp
  have h0:DC p x=0:=Gv.2 ⟨ha x (by simp),fun hs=>by
   have:=hc _ hs;have e:p++x::r=(p++[x])++r:=by simp
   rw[hl,e,Gu,x8,if_pos rfl]at this
   omega⟩
  unfold iU;rw[hp,if_pos h0];have e:p.length+1=(p++[x]).length:=by simp
  rw[e];exact Ux r (p++[x]) (cz f x) (by rw[hl];simp) hc (fun y hy=>ha y (by simp[hy])) hw
theorem yA{l:List Ln}{f:Fc} : kS l=.ok f↔l.length<=24/\Bj l/\f=gF l/\dO f l=0:=by
 unfold kS;constructor
 ·intro h;split at h
  ·cases h
  ·next hl=>
   obtain⟨k1,k2,k3,k4⟩:=Uw l [] Rp f rfl (by simp[aV]) h;have e:l.foldl cz Rp=gF l:=by rw[<-Rr];simpa using HV l [] (by simpa using k2)
   exact⟨by omega,⟨k1,k2⟩,k3.trans e,k4⟩
 ·rintro⟨hl,⟨k1,k2⟩,rfl,k4⟩;have e:l.foldl cz Rp=gF l:=by rw[<-Rr];simpa using HV l [] (by simpa using k2)
  rw[if_neg (by omega)];have:=Ux (l:=l) l [] Rp rfl k2 k1 (by rw[e];exact k4);rw[e]at this;exact this
/- Lines that are put, and dropped. -/
theorem MA(x:Ln):∀l:List Ln,ec x l true=(bf l x.n,true)
 |[]=>rfl
 |y::r=>by
  have ih:=MA x r;cases hb:dr x.n y<;>simp[ec,hb,ih,bf]
theorem yB(x y:Ln)(r:List Ln):nv (y::r) x=if dr x.n y then x::bf r x.n else y::nv r x:=by
 cases hb:dr x.n y with
 |true=>simp[nv,ec,hb,MA]
 |false=>
  simp only[nv,ec,hb];cases hd:(ec x r false).2<;>simp[hd]
theorem BG(x:Ln):nv [] x=[x]:=rfl
theorem zV{q:Ln->Bool}{n:Str}(hq:∀y,y.n=n->q y=false)(l:List Ln):(bf l n).filter q=l.filter q:=by
 unfold bf;rw[List.filter_filter];refine List.filter_congr fun y _=>?_
 by_cases e:y.n=n
 ·rw[hq y e];rfl
 ·simp[dr,e]
theorem DE{q:Ln->Bool}{x:Ln}(hq:∀y,y.n=x.n->q y=false):∀l:List Ln,(nv l x).filter q=l.filter q
 |[]=>by rw[BG];simp[hq x rfl]
 |y::r=>by
  rw[yB];by_cases e:y.n=x.n
  ·have e1:dr x.n y=true:=by simp[dr,e]
   rw[e1,if_pos rfl,List.filter_cons_of_neg (by rw[hq x rfl];decide),List.filter_cons_of_neg (by rw[hq y e];decide)];exact zV hq r
  ·have e1:dr x.n y=false:=by simp[dr,e]
   rw[e1,if_neg (by decide),List.filter_cons,List.filter_cons,DE hq r]
theorem DF(x:Ln):∀l:List Ln,(nv l x).filter (dr x.n)=[x]
 |[]=>by rw[BG];simp[dr]
 |y::r=>by
  rw[yB];by_cases e:y.n=x.n
  ·have e1:dr x.n y=true:=by simp[dr,e]
   rw[e1,if_pos rfl,List.filter_cons_of_pos (by simp[dr])]
   have:(bf r x.n).filter (dr x.n)=[]:=by
    rw[List.filter_eq_nil_iff];intro z hz;have:=(List.mem_filter.1 hz).2;simpa using this
   rw[this]
  ·have e1:dr x.n y=false:=by simp[dr,e]
   rw[e1,if_neg (by decide),List.filter_cons_of_neg (by rw[e1];decide)];exact DF x r
theorem yC(l:List Ln)(n:Str):d7 l n=(l.filter (dr n)).head?:=by
 unfold d7;rw[List.head?_filter]
theorem HX{m n:Str}(h:m≠n)(y:Ln)(e:y.n=n):dr m y=false:=by
 simp only[dr,e,decide_eq_false_iff_not];exact fun h'=>h h'.symm
theorem TG(l:List Ln)(x:Ln)(m:Str):d7 (nv l x) m=if m=x.n then some x else d7 l m:=by
 rw[yC];by_cases e:m=x.n
 ·rw[if_pos e,e,DF];rfl
 ·rw[if_neg e,DE (HX e),<-yC]
theorem get_drop(l:List Ln)(n m:Str):d7 (bf l n) m=if m=n then none else d7 l m:=by
 rw[yC];by_cases e:m=n
 ·rw[if_pos e,e]
  have:(bf l n).filter (dr n)=[]:=by
   rw[List.filter_eq_nil_iff];intro z hz;have:=(List.mem_filter.1 hz).2;simpa using this
  rw[this];rfl
 ·rw[if_neg e,zV (HX e),<-yC]
theorem MB(l:List Ln)(x:Ln)(m:Str):aV (nv l x) m=if m=x.n then 1 else aV l m:=by
 unfold aV;by_cases e:m=x.n
 ·rw[if_pos e,e,DF];rfl
 ·rw[if_neg e,DE (HX e)]
theorem qD(l:List Ln)(n m:Str):aV (bf l n) m=if m=n then 0 else aV l m:=by
 by_cases e:m=n
 ·rw[if_pos e];exact Gt.2 (by rw[get_drop,if_pos e])
 ·rw[if_neg e];unfold aV;rw[zV (HX e)]
theorem ki{l:List Ln}{n:Str}{y:Ln}(h:y∈bf l n):y∈l:=(List.mem_filter.1 h).1
theorem qE{x y:Ln} : ∀ {l:List Ln},y∈nv l x->y=x\/y∈l
 |[],h=>by rw[BG]at h;simpa using h
 |z::r,h=>by
  rw[yB]at h;split at h
  ·rcases List.mem_cons.1 h with h|h
   ·exact .inl h
   ·exact .inr (by simp[ki h])
  ·rcases List.mem_cons.1 h with h|h
   ·exact .inr (by simp[h])
   ·rcases qE h with h|h
    ·exact .inl h
    ·exact .inr (by simp[h])
theorem drop_len(l:List Ln)(n:Str):(bf l n).length<=l.length:=List.length_filter_le _ _
theorem set_len(x:Ln):∀l:List Ln,(nv l x).length<=l.length+(if d7 l x.n=none then 1 else 0)
 |[]=>by rw[BG];simp[d7]
 |y::r=>by
  rw[yB];by_cases e:y.n=x.n
  ·have e1:dr x.n y=true:=by simp[dr,e]
   rw[e1,if_pos rfl];have:=drop_len r x.n;simp only[List.length_cons];omega
  ·have e1:dr x.n y=false:=by simp[dr,e]
   have e2:d7 (y::r) x.n=d7 r x.n:=by unfold d7;rw[List.find?_cons,e1]
   have:=set_len x r;rw[e1,if_neg (by decide),e2];simp only[List.length_cons];omega
def Ly(l:List Ln)(n:Str):List Pm:=match d7 l n with
 |some x=>x.p
 |none=>[]
theorem ud(l:List Ln)(n v:Str):kW l n v=nv l ⟨n,Ly l n,v⟩:=rfl
theorem K0{l:List Ln}{n v:Str}(h:Bj l)(ha:pT ⟨n,Ly l n,v⟩=0):Bj (kW l n v):=by
 rw[ud];refine⟨fun x hx=>?_,fun m hm=>?_⟩
 ·rcases qE hx with rfl|hx
  ·exact ha
  ·exact h.1 x hx
 ·rw[MB];split
  ·omega
  ·exact h.2 m hm
theorem qF{l:List Ln}(h:Bj l)(n:Str):Bj (bf l n):=
 ⟨fun x hx=>h.1 x (ki hx),fun m hm=>by
  rw[qD];split
  ·omega
  ·exact h.2 m hm⟩
theorem HY(l:List Ln)(n v m:Str):d7 (kW l n v) m=if m=n then some ⟨n,Ly l n,v⟩else d7 l m:=by rw[ud,TG]
theorem MD(l:List Ln)(n v m:Str):aV (kW l n v) m=if m=n then 1 else aV l m:=by rw[ud,MB]
theorem DG(l:List Ln)(n v:Str)(b:Bool):(oB l n v b).length<=l.length+1:=by
 unfold oB;split
 ·rw[ud];have:=set_len ⟨n,Ly l n,v⟩ l;split at this<;>omega
 ·have:=drop_len l n;omega
theorem VE{l:List Ln}(h:Bj l)(n:Str):jv (Ly l n)=0:=by
 unfold Ly;cases hg:d7 l n with
 |none=>rfl
 |some x=>
  have hx:=h.1 x (List.mem_of_find?_eq_some hg);unfold pT at hx;split at hx
  ·next h1=>exact absurd hx h1
  ·next h1=>exact((Lp x).1 (by simpa using h1)).2.1
theorem yD{l:List Ln}{n:Str}{x:Ln}(h:d7 l n=some x):x.n=n:=by
 have:=List.find?_some h;simpa[dr]using this
theorem rE{l:List Ln}(h:Bj l){n:Str}{x:Ln}(hg:d7 l n=some x):bB x=0:=by
 have hx:=h.1 x (List.mem_of_find?_eq_some hg);unfold pT at hx;split at hx
 ·next h1=>exact absurd hx h1
 ·split at hx
  ·cases hx
  ·exact hx
end Go.Vs.YtcjeehebikeghaaGreatDoor.Vt
