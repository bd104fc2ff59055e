/- A part of a proof. No conditions. -/
import Derived.Test.YtnhbiolfmeeniaaGreatDoorRWz
set_option linter.all false
set_option maxHeartbeats 4000000
namespace Go.Vs.Vt
open Go.Vs.U8 Go.Vs.Pa Go.Vs.Nu
def cnt:Nat->Str->Nat
 |0,_=>0
 |_,[]=>0
 |d+1,c::r=>if eI c=true then cnt d r+1 else 0
def nA(s:Str)(c:UInt8):Option (Nat×Str):=
 if cnt 6 s=0\/s[cnt 6 s]?≠some c then none else some (bE 0 (s.take (cnt 6 s)),s.drop (cnt 6 s+1))
def tk(c:UInt8)(u:Nat)(p:Str×Nat×Nat):Str×Nat×Nat:=match nA p.1 c with
 |some (n,r)=>(r,p.2.1+n*u,p.2.2+1)
 |none=>p
def R8(s:Str)(m:Nat):Str×Nat×Nat:=tk 83 1 (tk 77 60 (tk 72 3600 (s,m,0)))
def XG(s:Str)(m:Nat):Option Nat:=if s[0]?=some 84/\(R8 (s.drop 1) m).2.2≠0/\(R8 (s.drop 1) m).1=[]then some (R8 (s.drop 1) m).2.1 else none
def ac4(s:Str):Option Nat:=match nA s 87 with
 |some (n,r)=>if r=[]then some (n*604800)else none
 |none=>match nA s 68 with
  |some (n,r)=>if r=[]then some (n*86400)else XG r (n*86400)
  |none=>XG s 0
def Pv(s:Str):Str:=if s[0]?=some 45\/s[0]?=some 43 then s.drop 1 else s
def wG(s:Str):Int×Int:=if (Pv s)[0]?=some 80 then (match ac4 ((Pv s).drop 1)with
  |some n=>if 86399913600<n then (0,8)else (if s[0]?=some 45 then -(n:Int)else (n:Int),0)
  |none=>(0,4))else (0,4)
def addS(a n:Int):Int×Int:=if a<0\/315537897599<a\/n < -86399913600\/86399913600<n\/a+n<0\/315537897599<a+n then (0,8)else (a+n,0)
theorem ac5:∀(d:Nat) (s:Str),cnt d s<=d/\cnt d s<=s.length
 |0,_=>by simp[cnt]
 |_+1,[]=>by simp[cnt]
 |d+1,c::r=>by
  have:=ac5 d r;unfold cnt;split
  .simp;omega
  simp
theorem XH:∀(d:Nat) (s:Str),(s.take (cnt d s)).all eI=true
 |0,_=>by simp[cnt]
 |_+1,[]=>by simp[cnt]
 |d+1,c::r=>by
  unfold cnt;split
  .next h=>simp[h];simpa using XH d r
  simp
theorem num_len{s:Str}{c:UInt8}{n:Nat}{r:Str}(h:nA s c=some (n,r)):r.length<s.length/\n<1000000:=by
 unfold nA at h;split at h
 .cases h
 next a=>
 simp only[not_or,Decidable.not_not]at a;obtain⟨rfl,rfl⟩:bE 0 (s.take (cnt 6 s))=n/\s.drop (cnt 6 s+1)=r:=by simpa using h
 have b:=ac5 6 s;have d:=(List.getElem?_eq_some_iff.1 a.2).1;refine⟨by rw[List.length_drop];omega,?_⟩;have e:=Gs (s.take (cnt 6 s)) 0 (XH 6 s);have f:10 ^ (s.take (cnt 6 s)).length<=10 ^ 6:=Nat.pow_le_pow_right (by omega) (by rw[List.length_take];omega);omega
def Ly(c:UInt8):Option UInt8:=if c=110\/c=78 then some 10 else if c=92\/c=59\/c=44 then some c else none
inductive PtX where
 |bad (p:Nat)
 |ok (t:Str) (n:Nat)
def qI:Str->Nat->Str->PtX
 |[],i,a=>.ok a i
 |c::r,i,a=>if c=44 then .ok a i else if c=59 then .bad i else if c=92 then (match r with
  |[]=>.bad i
  |d::q=>match Ly d with
   |some m=>qI q (i+2) (a++[m])
   |none=>.bad i)else qI r (i+1) (a++[c])
inductive UnX where
 |bad (p:Nat)
 |ok (t:Str)
def unR(s:Str):UnX:=match qI s 0 []with
 |.bad p=>.bad p
 |.ok t n=>if n<s.length then .bad n else .ok t
structure Lif where
 s:Int
 p:Int
 d:Int
 deriving DecidableEq
def Lz:Lif:=⟨0,-1,-1⟩
def IH(s:Int):Int:=if s=2 then 1 else if s=3 then 100 else 0
def rh(s:Int):Int:=if s=2\/s=4 then 99 else if s=3 then 100 else 0
def yD(l:Lif):Int:=if 4<l.s then 11 else if l.p < -1\/100<l.p\/l.d < -1\/315537897599<l.d then 8
 else if ¬(l.d≠-1↔l.s=3)\/(l.p≠-1/\(l.p<IH l.s\/rh l.s<l.p))then 9 else 0
def yE(s:Int):Str:=if s=1 then [78,69,69,68,83,45,65,67,84,73,79,78]else if s=2 then [73,78,45,80,82,79,67,69,83,83]else if s=3 then [67,79,77,80,76,69,84,69,68]else if s=4 then [67,65,78,67,69,76,76,69,68]else []
def R9(s:Str):Int×Int:=if s=yE 1 then (1,0)else if s=yE 2 then (2,0)else if s=yE 3 then (3,0)else if s=yE 4 then (4,0)else (0,11)
end Go.Vs.Vt
namespace Go.Vs.Y.Vt
open Go.Lib Go.Vs.U8 Go.Vs.Pa Go.Vs.Nu Go.Vs.Mo Go.Vs.Vt Go.Vs.Y.Rc
def bK:Str:=[85,73,68]
def bp:Str:=[68,84,83,84,65,77,80]
def fG:Str:=[83,85,77,77,65,82,89]
def ba:Str:=[68,84,83,84,65,82,84]
def ct:Str:=[68,85,69]
def cR:Str:=[68,85,82,65,84,73,79,78]
def bv:Str:=[67,79,77,80,76,69,84,69,68]
def bW:Str:=[83,84,65,84,85,83]
def eg:Str:=[80,69,82,67,69,78,84,45,67,79,77,80,76,69,84,69]
def gp:Str:=[80,82,73,79,82,73,84,89]
def bN:Str:=[82,82,85,76,69]
def cV:Str:=[82,68,65,84,69]
def cj:Str:=[69,88,68,65,84,69]
def fI:Str:=[82,69,67,85,82,82,69,78,67,69,45,73,68]
def js:Str:=[88,45,82,69,80,69,65,84]
def tO:Str:=[82,69,76,65,84,69,68,45,84,79]
def GO:Str:=[66,69,71,73,78]
def GP:Str:=[69,78,68]
def nTZ:Str:=[84,90,73,68]
def F3:Str:=[86,65,76,85,69]
def LA:Str:=[68,65,84,69]
def ajk:Str:=[68,65,84,69,45,84,73,77,69]
def gZ:Str:=[65,70,84,69,82]
def jj:Str:=[83,67,72,69,68,85,76,69]
theorem nm_:type_of%(And.intro bK.eq_1 (And.intro bp.eq_1 (And.intro fG.eq_1 (And.intro ba.eq_1 (And.intro ct.eq_1 (And.intro cR.eq_1 (And.intro bv.eq_1 (And.intro bW.eq_1 (And.intro eg.eq_1 (And.intro gp.eq_1 (And.intro bN.eq_1 (And.intro cV.eq_1 (And.intro cj.eq_1 (And.intro fI.eq_1 (And.intro js.eq_1 (And.intro tO.eq_1 (And.intro GO.eq_1 (And.intro GP.eq_1 (And.intro nTZ.eq_1 (And.intro F3.eq_1 (And.intro LA.eq_1 (And.intro ajk.eq_1 (And.intro gZ.eq_1 jj.eq_1))))))))))))))))))))))):=⟨rfl,rfl,rfl,rfl,rfl,rfl,rfl,rfl,rfl,rfl,rfl,rfl,rfl,rfl,rfl,rfl,rfl,rfl,rfl,rfl,rfl,rfl,rfl,rfl⟩
structure Fc where
 uid:Str
 sm:Str
 st:Mom
 b:Mom
 e:Mom
 sp:Int
 li:Lif
 pr:Int
 rd:Bool
 ru:Ru
 i:List Mom
 o:List Mom
 at':Mom
 af:Bool
def mj:Mom:=⟨0,0⟩
def fc0:Fc:=⟨[],[],mj,mj,mj,0,⟨0,0,0⟩,0,false,Zv,[],[],mj,false⟩
def fc1:Fc:={fc0 with li:=Lz }
def LB(k:Int):Str:=if k=1 then LA else ajk
def GQ(q:Option Pm)(k:Int):Prop:=match q with
 |some p=>p.v.length≠1\/upper (p.v.headD [])≠LB k
 |none=>k=1
instance (q:Option Pm) (k:Int):Decidable (GQ q k):=by unfold GQ;split<;>infer_instance
def lH(q:Option Pm):List Str->List Mom->Int×List Mom
 |[],a=>(0,a)
 |s::r,a=>if (iw s).2≠0 then ((iw s).2,[])else if GQ q (iw s).1.k then (4,[])else lH q r (a++[(iw s).1])
def cO(x:Ln):Int×List Mom:=if (ij x.p nTZ).isSome=true then (11,[])else lH (ij x.p F3) (parts 44 x.v) []
def bJ(x:Ln):Int×Mom:=if (cO x).1≠0 then ((cO x).1,mj)else if (cO x).2.length=1 then (0,(cO x).2.headD mj)else (4,mj)
def zV(x:Ln):Int×Mom:=if (iw x.v).2=0/\(iw x.v).1.k≠3 then (11,(iw x.v).1)else ((iw x.v).2,(iw x.v).1)
def II(x:Ln):Int×Int:=if (wG x.v).2=0/\(wG x.v).1<=0 then (8,(wG x.v).1)else ((wG x.v).2,(wG x.v).1)
def unE(s:Str):Int:=match unR s with
 |.bad _=>4
 |.ok _=>0
def unT(s:Str):Str:=match unR s with
 |.bad _=>[]
 |.ok t=>t
def ruE(s:Str):Int:=match iY s with
 |.no e _=>e
 |.ok _=>0
def Wo(s:Str):Ru:=match iY s with
 |.no _ _=>Zv
 |.ok r=>r
def bt(x:Ln):Int:=if x.n=bK then (if ti x.v=true then 0 else 4)else if x.n=bp\/x.n=bv then (zV x).1
 else if x.n=ba\/x.n=ct\/x.n=fI then (bJ x).1 else if x.n=cV\/x.n=cj then (cO x).1 else if x.n=cR then (II x).1
 else if x.n=fG then unE x.v else if x.n=bW then (R9 x.v).2 else if x.n=eg then (dT 5 0 100 false x.v).2 else if x.n=gp then (dT 5 0 9 false x.v).2
 else if x.n=bN then ruE x.v else if x.n=js then (if x.v=gZ\/x.v=jj then 0 else 4)else if x.n=tO then (aco x).2 else 0
def dc(f:Fc)(x:Ln):Fc:=if x.n=bK then {f with uid:=x.v } else if x.n=bp then {f with st:=(zV x).2 } else if x.n=bv then {f with li:={f.li with d:=(zV x).2.s } }
 else if x.n=ba then {f with b:=(bJ x).2 } else if x.n=ct then {f with e:=(bJ x).2 } else if x.n=fI then {f with at':=(bJ x).2 }
 else if x.n=cV then {f with i:=f.i++(cO x).2 } else if x.n=cj then {f with o:=f.o++(cO x).2 } else if x.n=cR then {f with sp:=(II x).2 }
 else if x.n=fG then {f with sm:=unT x.v } else if x.n=bW then {f with li:={f.li with s:=(R9 x.v).1 } } else if x.n=eg then {f with li:={f.li with p:=(dT 5 0 100 false x.v).1 } }
 else if x.n=gp then {f with pr:=(dT 5 0 9 false x.v).1 } else if x.n=bN then {f with rd:=true,ru:=Wo x.v } else if x.n=js then {f with af:=decide (x.v=gZ) } else f
def ix:List Str:=[bK,bp,fG,ba,ct,cR,bv,bW,eg,gp,bN,fI,js]
def LC(l:List Ln)(x:Ln):Int:=if gR x≠0 then gR x else if x.n=GO\/x.n=GP then 11 else if x.n∈ix/\0<aO l x.n then 19 else bt x
def jH(k:Int):List Mom->Int
 |[]=>0
 |v::r=>if dm v≠0 then dm v else if v.k≠k then 11 else jH k r
def kC(b:Mom)(r:Ru)(i o:List Mom):Int:=if dm b≠0 then dm b else if cT r≠0 then cT r else if r.u.k≠0/\r.u.k≠b.k then 9
 else if b.k=1/\(r.f<3\/0<r.l6.length\/0<r.l5.length\/0<r.l4.length)then 9 else if 12<i.length\/12<o.length then 20
 else if jH b.k i≠0 then jH b.k i else jH b.k o
def di(f:Fc):Int:=if f.b.k≠0/\f.e.k≠0 then f.e.s-f.b.s else f.sp
def dN(f:Fc):Int:=if f.at'.k≠0/\f.rd=true then f.at'.s else f.b.s
def jk(f:Fc)(a:Int):Int×Bool:=if a<0\/315537897599<a\/f.b.k=0\/315537897599<a+di f then (0,false)else (a+di f,true)
def mg(f:Fc):Int×Bool:=if f.e.k≠0/\f.rd=false then (f.e.s,true)else jk f (dN f)
def qJ(f:Fc):Int:=if 0<f.sp/\(f.e.k≠0\/f.b.k=0)then 9 else if f.b.k≠0/\f.e.k≠0/\f.b.k≠f.e.k then 11 else if f.b.k≠0/\f.e.k≠0/\f.e.s<f.b.s then 8
 else if f.b.k=1/\f.sp%86400≠0 then 9 else if f.b.k≠0 then (addS f.b.s f.sp).2 else 0
def mC(f:Fc)(l:List Ln):Int:=if f.b.k=0 then 9 else if kC f.b f.ru f.i f.o≠0 then kC f.b f.ru f.i f.o else if f.af=true/\0<aO l cV then 9
 else if f.at'.k≠0/\f.at'.k≠f.b.k then 11 else if f.at'.k≠0/\f.at'.s<f.b.s then 8 else if 20<(Em f.uid).length then 5 else if (mg f).2=false then 8 else 0
def eR(f:Fc)(l:List Ln):Int:=if aO l bK=0\/aO l bp=0 then 6 else if yD f.li≠0 then yD f.li else if qJ f≠0 then qJ f
 else if f.rd=true then mC f l else if 0<aO l cV\/0<aO l cj\/0<aO l fI\/0<aO l js then 9 else 0
inductive RdX where
 |no (e:Int) (p:Nat)
 |ok (f:Fc)
def kV(l:List Ln):List Ln->Nat->Fc->RdX
 |[],i,f=>if eR f l=0 then .ok f else .no (eR f l) i
 |x::r,i,f=>if LC (l.take i) x=0 then kV l r (i+1) (dc f x)else .no (LC (l.take i) x) i
def gK(l:List Ln):RdX:=if 24<l.length then .no 20 24 else kV l l 0 fc1
def gb(l:List Ln)(n v:Str):List Ln:=kB l ⟨n,(match bH l n with
 |some x=>x.p
 |none=>[]),v⟩
def tP(l:List Ln)(n v:Str)(b:Bool):List Ln:=if b=true then gb l n v else dh l n
def zW(x:Lif):Str:=if 0<=x.d then dn ⟨3,x.d⟩else []
def LD(l:List Ln)(x:Lif):List Ln:=if yD x≠0 then l else tP (tP (tP l bW (yE x.s) (decide (x.s≠0))) eg (itoa x.p) (decide (0<=x.p))) bv (zW x) (decide (0<=x.d))
def zX:List Str:=[bK,bp,bW,eg,bv,tO,bN,cV,cj,fI,js,GO,GP]
def zY(x:Ln):Int:=if gR x≠0 then gR x else if x.n∈zX then 11 else 0
def mh(l:List Ln)(x:Ln):List Ln:=if x.v=[]/\x.p=[]then dh l x.n else kB l x
inductive PaX where
 |no (e:Int) (p:Nat)
 |ok (l:List Ln)
def F4(N:Nat):List Ln->Nat->List Ln->PaX
 |[],i,l=>match gK l with
  |.no e _=>.no e N
  |.ok _=>.ok l
 |x::r,i,l=>if zY x=0 then F4 N r (i+1) (mh l x)else .no (zY x) i
def Ra(l c:List Ln):PaX:=F4 c.length c 0 l
def fo{a:Type}(g:Str->Option Ln)(n:Str)(h:Ln->a)(d:a):a:=match g n with
 |some x=>h x
 |none=>d
def Jl(g:Str->Option Ln):Fc where
 uid:=fo g bK (fun x=>x.v) []
 sm:=fo g fG (fun x=>unT x.v) []
 st:=fo g bp (fun x=>(zV x).2) mj
 b:=fo g ba (fun x=>(bJ x).2) mj
 e:=fo g ct (fun x=>(bJ x).2) mj
 sp:=fo g cR (fun x=>(II x).2) 0
 li:=⟨fo g bW (fun x=>(R9 x.v).1) 0,fo g eg (fun x=>(dT 5 0 100 false x.v).1) (-1),fo g bv (fun x=>(zV x).2.s) (-1)⟩
 pr:=fo g gp (fun x=>(dT 5 0 9 false x.v).1) 0
 rd:=fo g bN (fun _=>true) false
 ru:=fo g bN (fun x=>Wo x.v) Zv
 i:=fo g cV (fun x=>(cO x).2) []
 o:=fo g cj (fun x=>(cO x).2) []
 at':=fo g fI (fun x=>(bJ x).2) mj
 af:=fo g js (fun x=>decide (x.v=gZ)) false
def upd(g:Str->Option Ln)(x:Ln):Str->Option Ln:=fun n=>if x.n=n then some x else g n
def iP(x:Ln):Int:=if gR x≠0 then gR x else if x.n=GO\/x.n=GP then 11 else bt x
def dV(x:Ln):List Mom:=(cO x).2
def gF(l:List Ln):Fc:={Jl (bH l)with i:=(l.filter (hasL cV)).flatMap dV,o:=(l.filter (hasL cj)).flatMap dV }
theorem ac7(l:List Ln)(x:Ln)(n:Str):bH (l++[x]) n=if x.n=n/\bH l n=none then some x else bH l n:=by
 unfold bH;rw[List.find?_append];cases h:l.find? (hasL n)with
 |some y=>simp
 |none=>
  by_cases e:x.n=n
  .simp[hasL,e]
  simp[hasL,e]
theorem afP{a:Type}(l:List Ln)(x:Ln)(n:Str)(h:Ln->a)(d:a):fo (bH (l++[x])) n h d=if x.n=n/\bH l n=none then h x else fo (bH l) n h d:=by
 unfold fo;rw[ac7];by_cases e:x.n=n/\bH l n=none
 .rw[if_pos e,if_pos e]
 rw[if_neg e,if_neg e]
theorem afQ(l:List Ln)(x:Ln)(n:Str):((l++[x]).filter (hasL n)).flatMap dV=(l.filter (hasL n)).flatMap dV++if x.n=n then dV x else []:=by
 by_cases e:x.n=n
 .simp[hasL,e]
 simp[hasL,e]
theorem GR{l:List Ln}{n:Str} : aO l n=0↔bH l n=none:=by
 unfold aO bH;rw[List.length_eq_zero_iff,List.filter_eq_nil_iff,List.find?_eq_none]
theorem Dq(l:List Ln)(x:Ln)(n:Str):aO (l++[x]) n=aO l n+if x.n=n then 1 else 0:=by
 unfold aO;by_cases e:x.n=n
 .simp[hasL,e]
 simp[hasL,e]
theorem Pw(l r:List Ln)(n:Str):aO (l++r) n=aO l n+aO r n:=by
 unfold aO;rw[List.filter_append,List.length_append]
theorem afR(l:List Ln)(x:Ln)(h:x.n∈ix->bH l x.n=none):dc (gF l) x=gF (l++[x]):=by
 unfold dc gF;simp only[Jl,afP,afQ];by_cases g:x.n=bK
 .have a:=h (by rw[g];decide);rw[g]at a;simp (decide:=true) only [g,a,if_true,if_false,and_true,true_and,false_and,List.append_nil]
 by_cases i:x.n=bp
 .have a:=h (by rw[i];decide);rw[i]at a;simp (decide:=true) only [i,a,if_true,if_false,and_true,true_and,false_and,List.append_nil]
 by_cases j:x.n=bv
 .have a:=h (by rw[j];decide);rw[j]at a;simp (decide:=true) only [j,a,if_true,if_false,and_true,true_and,false_and,List.append_nil]
 by_cases k:x.n=ba
 .have a:=h (by rw[k];decide);rw[k]at a;simp (decide:=true) only [k,a,if_true,if_false,and_true,true_and,false_and,List.append_nil]
 by_cases m:x.n=ct
 .have a:=h (by rw[m];decide);rw[m]at a;simp (decide:=true) only [m,a,if_true,if_false,and_true,true_and,false_and,List.append_nil]
 by_cases n:x.n=fI
 .have a:=h (by rw[n];decide);rw[n]at a;simp (decide:=true) only [n,a,if_true,if_false,and_true,true_and,false_and,List.append_nil]
 by_cases q:x.n=cV
 .simp (decide:=true) only [q,if_true,if_false,and_true,true_and,false_and,List.append_nil,dV]
 by_cases s:x.n=cj
 .simp (decide:=true) only [s,if_true,if_false,and_true,true_and,false_and,List.append_nil,dV]
 by_cases o:x.n=cR
 .have a:=h (by rw[o];decide);rw[o]at a;simp (decide:=true) only [o,a,if_true,if_false,and_true,true_and,false_and,List.append_nil]
 by_cases p:x.n=fG
 .have a:=h (by rw[p];decide);rw[p]at a;simp (decide:=true) only [p,a,if_true,if_false,and_true,true_and,false_and,List.append_nil]
 by_cases b:x.n=bW
 .have a:=h (by rw[b];decide);rw[b]at a;simp (decide:=true) only [b,a,if_true,if_false,and_true,true_and,false_and,List.append_nil]
 by_cases c:x.n=eg
 .have a:=h (by rw[c];decide);rw[c]at a;simp (decide:=true) only [c,a,if_true,if_false,and_true,true_and,false_and,List.append_nil]
 by_cases d:x.n=gp
 .have a:=h (by rw[d];decide);rw[d]at a;simp (decide:=true) only [d,a,if_true,if_false,and_true,true_and,false_and,List.append_nil]
 by_cases e:x.n=bN
 .have a:=h (by rw[e];decide);rw[e]at a;simp (decide:=true) only [e,a,if_true,if_false,and_true,true_and,false_and,List.append_nil]
 by_cases f:x.n=js
 .have a:=h (by rw[f];decide);rw[f]at a;simp (decide:=true) only [f,a,if_true,if_false,and_true,true_and,false_and,List.append_nil]
 simp only[g,i,j,k,m,n,q,s,o,p,b,c,d,e,f,if_false,false_and,List.append_nil]
theorem ac8:gF []=fc1:=rfl
def wH(l:List Ln):Prop:=(∀x∈l,iP x=0)/\∀n∈ix,aO l n<=1
theorem Rb:∀(r p:List Ln),(∀n∈ix,aO (p++r) n<=1)->r.foldl dc (gF p)=gF (p++r)
 |[],p,_=>by simp
 |x::r,p,h=>by
  have a:x.n∈ix->bH p x.n=none:=fun b=>by
   have:=h _ b;have e:p++x::r=(p++[x])++r:=by simp
   rw[e,Pw,Dq,if_pos rfl]at this;exact GR.1 (by omega)
  have e:p++x::r=(p++[x])++r:=by simp
  rw[List.foldl_cons,afR p x a,e];exact Rb r (p++[x]) (by rw[<-e];exact h)
theorem Px{p:List Ln}{x:Ln} : LC p x=0↔iP x=0/\(x.n∈ix->aO p x.n=0):=by
 unfold LC iP;by_cases a:gR x=0
 .have b:¬gR x≠0:=fun h=>h a
  rw[if_neg b,if_neg b];by_cases c:x.n=GO\/x.n=GP
  .rw[if_pos c,if_pos c];simp
  rw[if_neg c,if_neg c];by_cases d:x.n∈ix/\0<aO p x.n
  .rw[if_pos d];refine⟨fun h=>(by cases h),fun h=>?_⟩;have:=h.2 d.1;omega
  rw[if_neg d];refine⟨fun h=>⟨h,fun e=>?_⟩,fun h=>h.1⟩;have:¬0<aO p x.n:=fun f=>d ⟨e,f⟩
  omega
 rw[if_pos a,if_pos a];exact⟨fun h=>absurd h a,fun h=>absurd h.1 a⟩
theorem ag1{l:List Ln} : ∀(r p:List Ln) (f g:Fc),l=p++r->(∀n∈ix,aO p n<=1)->kV l r p.length f=.ok g->(∀x∈r,iP x=0)/\(∀n∈ix,aO l n<=1)/\g=r.foldl dc f/\eR g l=0
 |[],p,f,g,a,b,h=>by
  unfold kV at h;split at h
  .next i=>cases h;exact⟨by simp,by rw[a];simpa using b,rfl,i⟩
  cases h
 |x::r,p,f,g,a,b,h=>by
  have j:l.take p.length=p:=by rw[a];simp
  unfold kV at h;rw[j]at h;split at h
  .next k=>
   obtain⟨m,o⟩:=Px.1 k;have e:p.length+1=(p++[x]).length:=by simp
   rw[e]at h
   obtain⟨q,s,u,v⟩:=ag1 r (p++[x]) (dc f x) g (by rw[a];simp) (fun n d=>by
    rw[Dq];by_cases e:x.n=n
    .rw[if_pos e,<-e,o (by rw[e];exact d)];omega
    rw[if_neg e];have:=b n d;omega) h
   exact⟨fun y c=>by
    rcases List.mem_cons.1 c with rfl|c
    .exact m
    exact q y c,s,u,v⟩
  cases h
theorem ag2{l:List Ln} : ∀(r p:List Ln) (f:Fc),l=p++r->(∀n∈ix,aO l n<=1)->(∀x∈r,iP x=0)->eR (r.foldl dc f) l=0->kV l r p.length f=.ok (r.foldl dc f)
 |[],p,f,a,b,_,c=>by
  unfold kV;exact if_pos c
 |x::r,p,f,a,b,d,c=>by
  have g:l.take p.length=p:=by rw[a];simp
  have h:LC p x=0:=Px.2 ⟨d x (by simp),fun i=>by
   have:=b _ i;have e:p++x::r=(p++[x])++r:=by simp
   rw[a,e,Pw,Dq,if_pos rfl]at this
   omega⟩
  unfold kV;rw[g,if_pos h];have e:p.length+1=(p++[x]).length:=by simp
  rw[e];exact ag2 r (p++[x]) (dc f x) (by rw[a];simp) b (fun y j=>d y (by simp[j])) c
theorem mD{l:List Ln}{f:Fc} : gK l=.ok f↔l.length<=24/\wH l/\f=gF l/\eR f l=0:=by
 unfold gK;constructor
 .intro h;split at h
  .cases h
  next i=>
  obtain⟨d,b,j,g⟩:=ag1 l [] fc1 f rfl (by simp[aO]) h;have e:l.foldl dc fc1=gF l:=by rw[<-ac8];simpa using Rb l [] (by simpa using b)
  exact⟨by omega,⟨d,b⟩,j.trans e,g⟩
 rintro⟨i,⟨d,b⟩,rfl,g⟩;have e:l.foldl dc fc1=gF l:=by rw[<-ac8];simpa using Rb l [] (by simpa using b)
 rw[if_neg (by omega)];have:=ag2 (l:=l) l [] fc1 rfl b d (by rw[e];exact g);rw[e]at this;exact this
theorem XI(x:Ln):∀l:List Ln,eX x l true=(dh l x.n,true)
 |[]=>rfl
 |y::r=>by
  have a:=XI x r;cases b:hasL x.n y<;>simp[eX,b,a,dh]
theorem F5(x y:Ln)(r:List Ln):kB (y::r) x=if hasL x.n y then x::dh r x.n else y::kB r x:=by
 cases a:hasL x.n y with
 |true=>simp[kB,eX,a,XI]
 |false=>
  simp only[kB,eX,a];cases b:(eX x r false).2<;>simp[b]
theorem Jm(x:Ln):kB [] x=[x]:=rfl
theorem sF{q:Ln->Bool}{n:Str}(a:∀y,y.n=n->q y=false)(l:List Ln):(dh l n).filter q=l.filter q:=by
 unfold dh;rw[List.filter_filter];refine List.filter_congr fun y _=>?_
 by_cases e:y.n=n
 .rw[a y e];rfl
 simp[hasL,e]
theorem zZ{q:Ln->Bool}{x:Ln}(a:∀y,y.n=x.n->q y=false):∀l:List Ln,(kB l x).filter q=l.filter q
 |[]=>by rw[Jm];simp[a x rfl]
 |y::r=>by
  rw[F5];by_cases e:y.n=x.n
  .have e1:hasL x.n y=true:=by simp[hasL,e]
   rw[e1,if_pos rfl,List.filter_cons_of_neg (by rw[a x rfl];decide),List.filter_cons_of_neg (by rw[a y e];decide)];exact sF a r
  have e1:hasL x.n y=false:=by simp[hasL,e]
  rw[e1,if_neg (by decide),List.filter_cons,List.filter_cons,zZ a r]
theorem LE(x:Ln):∀l:List Ln,(kB l x).filter (hasL x.n)=[x]
 |[]=>by rw[Jm];simp[hasL]
 |y::r=>by
  rw[F5];by_cases e:y.n=x.n
  .have e1:hasL x.n y=true:=by simp[hasL,e]
   rw[e1,if_pos rfl,List.filter_cons_of_pos (by simp[hasL])]
   have:(dh r x.n).filter (hasL x.n)=[]:=by
    rw[List.filter_eq_nil_iff];intro z a;have:=(List.mem_filter.1 a).2;simpa using this
   rw[this]
  have e1:hasL x.n y=false:=by simp[hasL,e]
  rw[e1,if_neg (by decide),List.filter_cons_of_neg (by rw[e1];decide)];exact LE x r
theorem F6(l:List Ln)(n:Str):bH l n=(l.filter (hasL n)).head?:=by
 unfold bH;rw[List.head?_filter]
theorem vJ{m n:Str}(h:m≠n)(y:Ln)(e:y.n=n):hasL m y=false:=by
 simp only[hasL,e,decide_eq_false_iff_not];exact fun a=>h a.symm
theorem XJ(l:List Ln)(x:Ln)(m:Str):bH (kB l x) m=if m=x.n then some x else bH l m:=by
 rw[F6];by_cases e:m=x.n
 .rw[if_pos e,e,LE];rfl
 rw[if_neg e,zZ (vJ e),<-F6]
theorem get_drop(l:List Ln)(n m:Str):bH (dh l n) m=if m=n then none else bH l m:=by
 rw[F6];by_cases e:m=n
 .rw[if_pos e,e]
  have:(dh l n).filter (hasL n)=[]:=by
   rw[List.filter_eq_nil_iff];intro z a;have:=(List.mem_filter.1 a).2;simpa using this
  rw[this];rfl
 rw[if_neg e,sF (vJ e),<-F6]
theorem Jn(l:List Ln)(x:Ln)(m:Str):aO (kB l x) m=if m=x.n then 1 else aO l m:=by
 unfold aO;by_cases e:m=x.n
 .rw[if_pos e,e,LE];rfl
 rw[if_neg e,zZ (vJ e)]
theorem F7(l:List Ln)(n m:Str):aO (dh l n) m=if m=n then 0 else aO l m:=by
 by_cases e:m=n
 .rw[if_pos e];exact GR.2 (by rw[get_drop,if_pos e])
 rw[if_neg e];unfold aO;rw[sF (vJ e)]
theorem nR{l:List Ln}{n:Str}{y:Ln}(h:y∈dh l n):y∈l:=(List.mem_filter.1 h).1
theorem oN{x y:Ln} : ∀ {l:List Ln},y∈kB l x->y=x\/y∈l
 |[],h=>by rw[Jm]at h;simpa using h
 |z::r,h=>by
  rw[F5]at h;split at h
  .rcases List.mem_cons.1 h with h|h
   .exact .inl h
   exact .inr (by simp[nR h])
  rcases List.mem_cons.1 h with h|h
  .exact .inr (by simp[h])
  rcases oN h with h|h
  .exact .inl h
  exact .inr (by simp[h])
theorem tQ(l:List Ln)(n:Str):(dh l n).length<=l.length:=List.length_filter_le _ _
theorem AT(x:Ln):∀l:List Ln,(kB l x).length<=l.length+(if bH l x.n=none then 1 else 0)
 |[]=>by rw[Jm];simp[bH]
 |y::r=>by
  rw[F5];by_cases e:y.n=x.n
  .have e1:hasL x.n y=true:=by simp[hasL,e]
   rw[e1,if_pos rfl];have:=tQ r x.n;simp only[List.length_cons];omega
  have e1:hasL x.n y=false:=by simp[hasL,e]
  have e2:bH (y::r) x.n=bH r x.n:=by unfold bH;rw[List.find?_cons,e1]
  have:=AT x r;rw[e1,if_neg (by decide),e2];simp only[List.length_cons];omega
def MY(l:List Ln)(n:Str):List Pm:=match bH l n with
 |some x=>x.p
 |none=>[]
theorem xI(l:List Ln)(n v:Str):gb l n v=kB l ⟨n,MY l n,v⟩:=rfl
theorem TU{l:List Ln}{n v:Str}(h:wH l)(b:iP ⟨n,MY l n,v⟩=0):wH (gb l n v):=by
 rw[xI];refine⟨fun x a=>?_,fun m hm=>?_⟩
 .rcases oN a with rfl|a
  .exact b
  exact h.1 x a
 rw[Jn];split
 .omega
 exact h.2 m hm
theorem GS{l:List Ln}(h:wH l)(n:Str):wH (dh l n):=
 ⟨fun x a=>h.1 x (nR a),fun m hm=>by
  rw[F7];split
  .omega
  exact h.2 m hm⟩
theorem XK(l:List Ln)(n v m:Str):bH (gb l n v) m=if m=n then some ⟨n,MY l n,v⟩else bH l m:=by rw[xI,XJ]
theorem XL(l:List Ln)(n v m:Str):aO (gb l n v) m=if m=n then 1 else aO l m:=by rw[xI,Jn]
theorem TW{q:Ln->Bool}{n:Str}(a:∀y,y.n=n->q y=false)(l:List Ln)(v:Str):(gb l n v).filter q=l.filter q:=by
 rw[xI];exact zZ (x:=⟨n,MY l n,v⟩) a l
theorem LF(l:List Ln)(n v:Str)(b:Bool):(tP l n v b).length<=l.length+1:=by
 unfold tP;split
 .rw[xI];have:=AT ⟨n,MY l n,v⟩ l;split at this<;>omega
 have:=tQ l n;omega
theorem Rd{l:List Ln}(h:wH l)(n:Str):je (MY l n)=0:=by
 unfold MY;cases f:bH l n with
 |none=>rfl
 |some x=>
  have a:=h.1 x (List.mem_of_find?_eq_some f);unfold iP at a;split at a
  .next d=>exact absurd a d
  next d=>exact((Dg x).1 (by simpa using d)).2.1
theorem qK{l:List Ln}{n:Str}{x:Ln}(h:bH l n=some x):x.n=n:=by
 have:=List.find?_some h;simpa[hasL]using this
theorem kW{l:List Ln}(h:wH l){n:Str}{x:Ln}(d:bH l n=some x):bt x=0:=by
 have a:=h.1 x (List.mem_of_find?_eq_some d);unfold iP at a;split at a
 .next f=>exact absurd a f
 split at a
 .cases a
 exact a
end Go.Vs.Y.Vt
