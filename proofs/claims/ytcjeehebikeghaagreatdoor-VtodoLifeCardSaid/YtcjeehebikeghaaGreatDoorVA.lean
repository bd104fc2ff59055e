/- Plain laws of lengths of time, of texts within values, and of lives. No conditions. -/
import Derived.Test.YtcjeehebikeghaaGreatDoorRV
set_option linter.unusedVariables false
set_option linter.unusedSimpArgs false
set_option maxHeartbeats 4000000
namespace Go.Vs.Vt
open Go.Vs.U8 Go.Vs.Pa Go.Vs.Nu
def E8:Nat→Str→Nat
 |0,_=>0
 |_,[]=>0
 |d+1,c::r=>if dS c=true then E8 d r+1 else 0
def kA(s:Str)(c:UInt8):Option (Nat×Str):=
 if E8 6 s=0∨s[E8 6 s]?≠some c then none else some (bJ 0 (s.take (E8 6 s)),s.drop (E8 6 s+1))
def tk(c:UInt8)(u:Nat)(p:Str×Nat×Nat):Str×Nat×Nat:=match kA p.1 c with
 |some (n,r)=>(r,p.2.1+n*u,p.2.2+1)
 |none=>p
def Lw(s:Str)(m:Nat):Str×Nat×Nat:=tk 83 1 (tk 77 60 (tk 72 3600 (s,m,0)))
def QP(s:Str)(m:Nat):Option Nat:=if s[0]?=some 84∧(Lw (s.drop 1) m).2.2≠0∧(Lw (s.drop 1) m).1=[]then some (Lw (s.drop 1) m).2.1 else none
def VT(s:Str):Option Nat:=match kA s 87 with
 |some (n,r)=>if r=[]then some (n*604800)else none
 |none=>match kA s 68 with
  |some (n,r)=>if r=[]then some (n*86400)else QP r (n*86400)
  |none=>QP s 0
def K5(s:Str):Str:=if s[0]?=some 45∨s[0]?=some 43 then s.drop 1 else s
def ue(s:Str):Int×Int:=if (K5 s)[0]?=some 80 then (match VT ((K5 s).drop 1)with
  |some n=>if 86399913600<n then (0,8)else (if s[0]?=some 45 then -(n:Int)else (n:Int),0)
  |none=>(0,4))else (0,4)
def addS(a n:Int):Int×Int:=if a<0∨315537897599<a∨n < -86399913600∨86399913600<n∨a+n<0∨315537897599<a+n then (0,8)else (a+n,0)
theorem VU:∀(d:Nat) (s:Str),E8 d s≤d∧E8 d s≤s.length
 |0,_=>by simp[E8]
 |_+1,[]=>by simp[E8]
 |d+1,c::r=>by
  have:=VU d r;unfold E8;split
  ·simp;omega
  ·simp
theorem QQ:∀(d:Nat) (s:Str),(s.take (E8 d s)).all dS=true
 |0,_=>by simp[E8]
 |_+1,[]=>by simp[E8]
 |d+1,c::r=>by
  unfold E8;split
  ·next h=>simp[h];simpa using QQ d r
  ·simp
theorem E9{s:Str}{c:UInt8}{n:Nat}{r:Str}(h:kA s c=some (n,r)):r.length<s.length∧n<1000000:=by
 unfold kA at h;split at h
 ·cases h
 ·next hn=>
  simp only[not_or,Decidable.not_not]at hn;obtain⟨rfl,rfl⟩:bJ 0 (s.take (E8 6 s))=n∧s.drop (E8 6 s+1)=r:=by simpa using h
  have h1:=VU 6 s;have h2:=(List.getElem?_eq_some_iff.1 hn.2).1;refine⟨by rw[List.length_drop];omega,?_⟩;have h3:=KW (s.take (E8 6 s)) 0 (QQ 6 s);have h4:10 ^ (s.take (E8 6 s)).length≤10 ^ 6:=Nat.pow_le_pow_right (by omega) (by rw[List.length_take];omega);omega

/- Texts within values. -/
def Ga(c:UInt8):Option UInt8:=if c=110∨c=78 then some 10 else if c=92∨c=59∨c=44 then some c else none
inductive PtX where
 |bad (p:Nat)
 |ok (t:Str) (n:Nat)
def nN:Str→Nat→Str→PtX
 |[],i,a=>.ok a i
 |c::r,i,a=>if c=44 then .ok a i else if c=59 then .bad i else if c=92 then (match r with
  |[]=>.bad i
  |d::q=>match Ga d with
   |some m=>nN q (i+2) (a++[m])
   |none=>.bad i)else nN r (i+1) (a++[c])
inductive UnX where
 |bad (p:Nat)
 |ok (t:Str)
def unR(s:Str):UnX:=match nN s 0 []with
 |.bad p=>.bad p
 |.ok t n=>if n<s.length then .bad n else .ok t

/- Lives. -/
structure Lif where
 s:Int
 p:Int
 d:Int
 deriving DecidableEq
def SM:Lif:=⟨0,-1,-1⟩
def DI(s:Int):Int:=if s=2 then 1 else if s=3 then 100 else 0
def nv(s:Int):Int:=if s=2∨s=4 then 99 else if s=3 then 100 else 0
def sx(l:Lif):Int:=if 4<l.s then 11 else if l.p < -1∨100<l.p∨l.d < -1∨315537897599<l.d then 8
 else if ¬(l.d≠-1↔l.s=3)∨(l.p≠-1∧(l.p<DI l.s∨nv l.s<l.p))then 9 else 0
def jd(s:Int):Str:=if s=1 then [78,69,69,68,83,45,65,67,84,73,79,78]else if s=2 then [73,78,45,80,82,79,67,69,83,83]else if s=3 then [67,79,77,80,76,69,84,69,68]else if s=4 then [67,65,78,67,69,76,76,69,68]else []
def Ca(s:Str):Int×Int:=if s=jd 1 then (1,0)else if s=jd 2 then (2,0)else if s=jd 3 then (3,0)else if s=jd 4 then (4,0)else (0,11)
end Go.Vs.Vt
namespace Go.Vs.YtcjeehebikeghaaGreatDoor.Vt
open Go.Lib Go.Vs.U8 Go.Vs.Pa Go.Vs.Nu Go.Vs.Mo Go.Vs.Vt Go.Vs.YtcjeehebikeghaaGreatDoor.Rc
def dc:Str:=[85,73,68]
def bn:Str:=[68,84,83,84,65,77,80]
def eO:Str:=[83,85,77,77,65,82,89]
def aO:Str:=[68,84,83,84,65,82,84]
def dd:Str:=[68,85,69]
def de:Str:=[68,85,82,65,84,73,79,78]
def bj:Str:=[67,79,77,80,76,69,84,69,68]
def bF:Str:=[83,84,65,84,85,83]
def dg:Str:=[80,69,82,67,69,78,84,45,67,79,77,80,76,69,84,69]
def gt:Str:=[80,82,73,79,82,73,84,89]
def bP:Str:=[82,82,85,76,69]
def bW:Str:=[82,68,65,84,69]
def bt:Str:=[69,88,68,65,84,69]
def gc:Str:=[82,69,67,85,82,82,69,78,67,69,45,73,68]
def dz:Str:=[88,45,82,69,80,69,65,84]
def pV:Str:=[82,69,76,65,84,69,68,45,84,79]
def Cb:Str:=[66,69,71,73,78]
def Cc:Str:=[69,78,68]
def nTZ:Str:=[84,90,73,68]
def Gb:Str:=[86,65,76,85,69]
def Oa:Str:=[68,65,84,69]
def abs:Str:=[68,65,84,69,45,84,73,77,69]
def fY:Str:=[65,70,84,69,82]
def ie:Str:=[83,67,72,69,68,85,76,69]
structure Fc where
 uid:Str
 sm:Str
 st:Mom
 b:Mom
 e:Mom
 sp:Int
 li:Lif
 pr:Int
 rd:Bool
 ru:Ru
 i:List Mom
 o:List Mom
 at':Mom
 af:Bool
def AP:Mom:=⟨0,0⟩
def Mk:Fc:=⟨[],[],AP,AP,AP,0,⟨0,0,0⟩,0,false,OF,[],[],AP,false⟩
def Ml:Fc:={Mk with li:=SM }
def Gc(k:Int):Str:=if k=1 then Oa else abs
def Gd(q:Option Pm)(k:Int):Prop:=match q with
 |some p=>p.v.length≠1∨upper (p.v.headD [])≠Gc k
 |none=>k=1
instance (q:Option Pm) (k:Int):Decidable (Gd q k):=by unfold Gd;split<;>infer_instance
def jO(q:Option Pm):List Str→List Mom→Int×List Mom
 |[],a=>(0,a)
 |s::r,a=>if (i7 s).2≠0 then ((i7 s).2,[])else if Gd q (i7 s).1.k then (4,[])else jO q r (a++[(i7 s).1])
def cR(x:Ln):Int×List Mom:=if (iw x.p nTZ).isSome=true then (11,[])else jO (iw x.p Gb) (parts 44 x.v) []
def cP(x:Ln):Int×Mom:=if (cR x).1≠0 then ((cR x).1,AP)else if (cR x).2.length=1 then (0,(cR x).2.headD AP)else (4,AP)
def ox(x:Ln):Int×Mom:=if (i7 x.v).2=0∧(i7 x.v).1.k≠3 then (11,(i7 x.v).1)else ((i7 x.v).2,(i7 x.v).1)
def Lx(x:Ln):Int×Int:=if (ue x.v).2=0∧(ue x.v).1≤0 then (8,(ue x.v).1)else ((ue x.v).2,(ue x.v).1)
def unE(s:Str):Int:=match unR s with
 |.bad _=>4
 |.ok _=>0
def unT(s:Str):Str:=match unR s with
 |.bad _=>[]
 |.ok t=>t
def ruE(s:Str):Int:=match qJ s with
 |.no e _=>e
 |.ok _=>0
def ruV(s:Str):Ru:=match qJ s with
 |.no _ _=>OF
 |.ok r=>r
def bG(x:Ln):Int:=if x.n=dc then (if ra x.v=true then 0 else 4)else if x.n=bn∨x.n=bj then (ox x).1
 else if x.n=aO∨x.n=dd∨x.n=gc then (cP x).1 else if x.n=bW∨x.n=bt then (cR x).1 else if x.n=de then (Lx x).1
 else if x.n=eO then unE x.v else if x.n=bF then (Ca x.v).2 else if x.n=dg then (dU 5 0 100 false x.v).2 else if x.n=gt then (dU 5 0 9 false x.v).2
 else if x.n=bP then ruE x.v else if x.n=dz then (if x.v=fY∨x.v=ie then 0 else 4)else if x.n=pV then (Vh x).2 else 0
def cg(f:Fc)(x:Ln):Fc:=if x.n=dc then {f with uid:=x.v } else if x.n=bn then {f with st:=(ox x).2 } else if x.n=bj then {f with li:={f.li with d:=(ox x).2.s } }
 else if x.n=aO then {f with b:=(cP x).2 } else if x.n=dd then {f with e:=(cP x).2 } else if x.n=gc then {f with at':=(cP x).2 }
 else if x.n=bW then {f with i:=f.i++(cR x).2 } else if x.n=bt then {f with o:=f.o++(cR x).2 } else if x.n=de then {f with sp:=(Lx x).2 }
 else if x.n=eO then {f with sm:=unT x.v } else if x.n=bF then {f with li:={f.li with s:=(Ca x.v).1 } } else if x.n=dg then {f with li:={f.li with p:=(dU 5 0 100 false x.v).1 } }
 else if x.n=gt then {f with pr:=(dU 5 0 9 false x.v).1 } else if x.n=bP then {f with rd:=true,ru:=ruV x.v } else if x.n=dz then {f with af:=decide (x.v=fY) } else f
def gu:List Str:=[dc,bn,eO,aO,dd,de,bj,bF,dg,gt,bP,gc,dz]
def AQ(l:List Ln)(x:Ln):Int:=if gI x≠0 then gI x else if x.n=Cb∨x.n=Cc then 11 else if x.n∈gu∧0<aE l x.n then 19 else bG x
/- Sets. -/
def kT(k:Int):List Mom→Int
 |[]=>0
 |v::r=>if i6 v≠0 then i6 v else if v.k≠k then 11 else kT k r
def Ly(b:Mom)(r:Ru)(i o:List Mom):Int:=if i6 b≠0 then i6 b else if o5 r≠0 then o5 r else if r.u.k≠0∧r.u.k≠b.k then 9
 else if b.k=1∧(r.f<3∨0<r.l6.length∨0<r.l5.length∨0<r.l4.length)then 9 else if 12<i.length∨12<o.length then 20
 else if kT b.k i≠0 then kT b.k i else kT b.k o
def o7(f:Fc):Int:=if f.b.k≠0∧f.e.k≠0 then f.e.s-f.b.s else f.sp
def bO(f:Fc):Int:=if f.at'.k≠0∧f.rd=true then f.at'.s else f.b.s
def nc(f:Fc)(a:Int):Int×Bool:=if a<0∨315537897599<a∨f.b.k=0∨315537897599<a+o7 f then (0,false)else (a+o7 f,true)
def eH(f:Fc):Int×Bool:=if f.e.k≠0∧f.rd=false then (f.e.s,true)else nc f (bO f)
def fB(f:Fc):Int:=if 0<f.sp∧(f.e.k≠0∨f.b.k=0)then 9 else if f.b.k≠0∧f.e.k≠0∧f.b.k≠f.e.k then 11 else if f.b.k≠0∧f.e.k≠0∧f.e.s<f.b.s then 8
 else if f.b.k=1∧f.sp%86400≠0 then 9 else if f.b.k≠0 then (addS f.b.s f.sp).2 else 0
def kg(f:Fc)(l:List Ln):Int:=if f.b.k=0 then 9 else if Ly f.b f.ru f.i f.o≠0 then Ly f.b f.ru f.i f.o else if f.af=true∧0<aE l bW then 9
 else if f.at'.k≠0∧f.at'.k≠f.b.k then 11 else if f.at'.k≠0∧f.at'.s<f.b.s then 8 else if 20<(A4 f.uid).length then 5 else if (eH f).2=false then 8 else 0
def cY(f:Fc)(l:List Ln):Int:=if aE l dc=0∨aE l bn=0 then 6 else if sx f.li≠0 then sx f.li else if fB f≠0 then fB f
 else if f.rd=true then kg f l else if 0<aE l bW∨0<aE l bt∨0<aE l gc∨0<aE l dz then 9 else 0
inductive RdX where
 |no (e:Int) (p:Nat)
 |ok (f:Fc)
def gK(l:List Ln):List Ln→Nat→Fc→RdX
 |[],i,f=>if cY f l=0 then .ok f else .no (cY f l) i
 |x::r,i,f=>if AQ (l.take i) x=0 then gK l r (i+1) (cg f x)else .no (AQ (l.take i) x) i
def ig(l:List Ln):RdX:=if 24<l.length then .no 20 24 else gK l l 0 Ml
/- Lines put, and dropped. -/
def ml(l:List Ln)(n v:Str):List Ln:=oP l ⟨n,(match cn l n with
 |some x=>x.p
 |none=>[]),v⟩
def cU(l:List Ln)(n v:Str)(b:Bool):List Ln:=if b=true then ml l n v else br l n
def k9(x:Lif):Str:=if 0≤x.d then dH ⟨3,x.d⟩else []
def mH(l:List Ln)(x:Lif):List Ln:=if sx x≠0 then l else cU (cU (cU l bF (jd x.s) (decide (x.s≠0))) dg (itoa x.p) (decide (0≤x.p))) bj (k9 x) (decide (0≤x.d))
def wc:List Str:=[dc,bn,bF,dg,bj,pV,bP,bW,bt,gc,dz,Cb,Cc]
def wd(x:Ln):Int:=if gI x≠0 then gI x else if x.n∈wc then 11 else 0
def kh(l:List Ln)(x:Ln):List Ln:=if x.v=[]∧x.p=[]then br l x.n else oP l x
inductive PaX where
 |no (e:Int) (p:Nat)
 |ok (l:List Ln)
def AR(N:Nat):List Ln→Nat→List Ln→PaX
 |[],i,l=>match ig l with
  |.no e _=>.no e N
  |.ok _=>.ok l
 |x::r,i,l=>if wd x=0 then AR N r (i+1) (kh l x)else .no (wd x) i
def Lz(l c:List Ln):PaX:=AR c.length c 0 l
def rC(f:Fc)(l:List Ln):List Ln:=
 let m:=ml (if f.e.k≠0 then ml l dd (dH ⟨f.e.k,(eH f).1⟩)else l) aO (dH ⟨f.b.k,bO f⟩)
 br (br (br (br (br m bP) bW) bt) gc) dz
def fo{α:Type}(g:Str→Option Ln)(n:Str)(h:Ln→α)(d:α):α:=match g n with
 |some x=>h x
 |none=>d
def m9(g:Str→Option Ln):Fc where
 uid:=fo g dc (fun x=>x.v) []
 sm:=fo g eO (fun x=>unT x.v) []
 st:=fo g bn (fun x=>(ox x).2) AP
 b:=fo g aO (fun x=>(cP x).2) AP
 e:=fo g dd (fun x=>(cP x).2) AP
 sp:=fo g de (fun x=>(Lx x).2) 0
 li:=⟨fo g bF (fun x=>(Ca x.v).1) 0,fo g dg (fun x=>(dU 5 0 100 false x.v).1) (-1),fo g bj (fun x=>(ox x).2.s) (-1)⟩
 pr:=fo g gt (fun x=>(dU 5 0 9 false x.v).1) 0
 rd:=fo g bP (fun _=>true) false
 ru:=fo g bP (fun x=>ruV x.v) OF
 i:=fo g bW (fun x=>(cR x).2) []
 o:=fo g bt (fun x=>(cR x).2) []
 at':=fo g gc (fun x=>(cP x).2) AP
 af:=fo g dz (fun x=>decide (x.v=fY)) false
def upd(g:Str→Option Ln)(x:Ln):Str→Option Ln:=fun n=>if x.n=n then some x else g n
theorem aas{α:Type}(g:Str→Option Ln)(x:Ln)(n:Str)(h:Ln→α)(d:α):fo (upd g x) n h d=if x.n=n then h x else fo g n h d:=by
 unfold fo upd;by_cases e:x.n=n
 ·simp[e]
 ·simp[e]
theorem iI{α:Type}{g:Str→Option Ln}{n:Str}(hn:g n=none)(h:Ln→α)(d:α):fo g n h d=d:=by unfold fo;rw[hn]
theorem PQ(g:Str→Option Ln)(x:Ln)(hn:g x.n=none):cg (m9 g) x=m9 (upd g x):=by
 unfold cg;simp only[m9,aas];by_cases h0:x.n=dc
 ·rw[h0]at hn;simp (decide:=true) only [h0,if_true,if_false,iI hn,List.nil_append]
 by_cases h1:x.n=bn
 ·rw[h1]at hn;simp (decide:=true) only [h1,if_true,if_false,iI hn,List.nil_append]
 by_cases h2:x.n=bj
 ·rw[h2]at hn;simp (decide:=true) only [h2,if_true,if_false,iI hn,List.nil_append]
 by_cases h3:x.n=aO
 ·rw[h3]at hn;simp (decide:=true) only [h3,if_true,if_false,iI hn,List.nil_append]
 by_cases h4:x.n=dd
 ·rw[h4]at hn;simp (decide:=true) only [h4,if_true,if_false,iI hn,List.nil_append]
 by_cases h5:x.n=gc
 ·rw[h5]at hn;simp (decide:=true) only [h5,if_true,if_false,iI hn,List.nil_append]
 by_cases h6:x.n=bW
 ·rw[h6]at hn;simp (decide:=true) only [h6,if_true,if_false,iI hn,List.nil_append]
 by_cases h7:x.n=bt
 ·rw[h7]at hn;simp (decide:=true) only [h7,if_true,if_false,iI hn,List.nil_append]
 by_cases h8:x.n=de
 ·rw[h8]at hn;simp (decide:=true) only [h8,if_true,if_false,iI hn,List.nil_append]
 by_cases h9:x.n=eO
 ·rw[h9]at hn;simp (decide:=true) only [h9,if_true,if_false,iI hn,List.nil_append]
 by_cases h10:x.n=bF
 ·rw[h10]at hn;simp (decide:=true) only [h10,if_true,if_false,iI hn,List.nil_append]
 by_cases h11:x.n=dg
 ·rw[h11]at hn;simp (decide:=true) only [h11,if_true,if_false,iI hn,List.nil_append]
 by_cases h12:x.n=gt
 ·rw[h12]at hn;simp (decide:=true) only [h12,if_true,if_false,iI hn,List.nil_append]
 by_cases h13:x.n=bP
 ·rw[h13]at hn;simp (decide:=true) only [h13,if_true,if_false,iI hn,List.nil_append]
 by_cases h14:x.n=dz
 ·rw[h14]at hn;simp (decide:=true) only [h14,if_true,if_false,iI hn,List.nil_append]
 simp only[h0,h1,h2,h3,h4,h5,h6,h7,h8,h9,h10,h11,h12,h13,h14,if_false]
theorem Ge:∀(r:List Ln) (g:Str→Option Ln),(∀x∈r,g x.n=none)→(r.map (·.n)).Nodup→r.foldl cg (m9 g)=m9 (r.foldl upd g)
 |[],g,_,_=>rfl
 |x::r,g,h,hd=>by
  simp only[List.foldl_cons];rw[PQ g x (h x (by simp))];simp only[List.map_cons,List.nodup_cons]at hd;refine Ge r (upd g x) (fun y hy=>?_) hd.2;have hne:¬x.n=y.n:=fun e=>hd.1 (by rw[e];exact List.mem_map_of_mem hy)
  simp only[upd,if_neg hne];exact h y (by simp[hy])
theorem Oc:∀(r:List Ln) (g:Str→Option Ln) (n:Str),(r.map (·.n)).Nodup→(r.foldl upd g) n=match cn r n with
  |some x=>some x
  |none=>g n
 |[],g,n,_=>rfl
 |x::r,g,n,hd=>by
  simp only[List.map_cons,List.nodup_cons]at hd;simp only[List.foldl_cons];rw[Oc r (upd g x) n hd.2];unfold cn;simp only[List.find?_cons,ck];by_cases e:x.n=n
  ·have hno:r.find? (ck n)=none:=by
    rw[List.find?_eq_none];intro y hy;have:¬y.n=n:=fun e'=>hd.1 (by rw[e,←e'];exact List.mem_map_of_mem hy)
    simp[ck,this]
   have e':decide (x.n=n)=true:=by simpa using e
   rw[e',hno];simp[upd,e]
  ·have e':decide (x.n=n)=false:=by simpa using e
   rw[e'];simp only[upd,if_neg e]
theorem aat:m9 (fun _=>none)=Ml:=rfl
theorem Od{l:List Ln}(hd:(l.map (·.n)).Nodup):l.foldl cg Ml=m9 (cn l):=by
 rw[←aat,Ge l _ (fun _ _=>rfl) hd];congr 1;funext n;rw[Oc l _ n hd];cases cn l n<;>rfl
theorem VV{l m:List Ln}(h:l.Perm m)(hd:(l.map (·.n)).Nodup)(n:Str):cn l n=cn m n:=by
 have hd2:(m.map (·.n)).Nodup:=(h.map _).nodup_iff.1 hd
 have uniq:∀ {k:List Ln},(k.map (·.n)).Nodup→∀x∈k,x.n=n→cn k n=some x:=by
  intro k
  induction k with
  |nil=>intro _ x hx;cases hx
  |cons y k ih=>
   intro hk x hx hn;simp only[List.map_cons,List.nodup_cons]at hk;unfold cn at ih ⊢;rw[List.find?_cons];rcases List.mem_cons.1 hx with rfl|hx
   ·simp[ck,hn]
   ·have:¬y.n=n:=fun e=>hk.1 (by rw[e,←hn];exact List.mem_map_of_mem hx)
    have e:ck n y=false:=by simp[ck,this]
    rw[e];exact ih hk.2 x hx hn
 cases hg:cn l n with
 |some x=>
  have hy:=List.find?_some hg;have hm:=List.mem_of_find?_eq_some hg;exact(uniq hd2 x (h.mem_iff.1 hm) (by simpa[ck]using hy)).symm
 |none=>
  cases hg2:cn m n with
  |none=>rfl
  |some x=>
   have hy:=List.find?_some hg2;have hm:=List.mem_of_find?_eq_some hg2;rw[uniq hd x (h.mem_iff.2 hm) (by simpa[ck]using hy)]at hg;cases hg
theorem PR{l m:List Ln}(h:l.Perm m)(n:Str):aE l n=aE m n:=(h.filter _).length_eq
theorem PS{l m:List Ln}(h:l.Perm m)(f:Fc):cY f l=cY f m:=by
 have e:∀n,aE l n=aE m n:=PR h;simp only[cY,kg,e]
theorem SN{l r:List Ln}{x:Ln}(hd:((l++x::r).map (·.n)).Nodup):aE l x.n=0:=by
 unfold aE;rw[List.length_eq_zero_iff,List.filter_eq_nil_iff];intro y hy
 have:¬y.n=x.n:=by
  intro e;rw[List.map_append,List.nodup_append]at hd;exact hd.2.2 y.n (List.mem_map_of_mem hy) x.n (by simp) e
 simp[ck,this]
def dK(x:Ln):Int:=if gI x≠0 then gI x else if x.n=Cb∨x.n=Cc then 11 else bG x
theorem PT{l:List Ln}{x:Ln}(h:aE l x.n=0):AQ l x=dK x:=by simp[AQ,dK,h]
theorem Gf{l:List Ln}(hd:(l.map (·.n)).Nodup):∀(r p:List Ln) (f:Fc),l=p++r→(((∀x∈r,dK x=0)∧cY (r.foldl cg f) l=0)→gK l r p.length f=.ok (r.foldl cg f))∧(¬((∀x∈r,dK x=0)∧cY (r.foldl cg f) l=0)→∃e q,gK l r p.length f=.no e q∧e≠0)
 |[],p,f,h=>by
  simp only[gK,List.foldl_nil];refine⟨fun hw=>if_pos hw.2,fun hw=>?_⟩;have hw:¬cY f l=0:=fun e=>hw ⟨by simp,e⟩
  rw[if_neg hw];exact⟨_,_,rfl,hw⟩
 |x::r,p,f,h=>by
  have hp:l.take p.length=p:=by rw[h];simp
  have hc:aE p x.n=0:=SN (r:=r) (by rw[←h];exact hd);have ih:=Gf hd r (p++[x]) (cg f x) (by rw[h];simp);simp only[List.length_append,List.length_singleton]at ih;simp only[gK,hp,PT hc,List.foldl_cons];by_cases h0:dK x=0
  ·rw[if_pos h0];have e:(∀y∈x::r,dK y=0)↔∀y∈r,dK y=0:=by simp[h0]
   rw[e];exact ih
  ·rw[if_neg h0];exact⟨fun h=>absurd (h.1 x (by simp)) h0,fun _=>⟨_,_,rfl,h0⟩⟩
theorem SO{l m:List Ln}(h:l.Perm m)(hd:(l.map (·.n)).Nodup):(∃f,ig l=.ok f∧ig m=.ok f)∨∃e p e' p',ig l=.no e p∧ig m=.no e' p'∧e≠0∧e'≠0:=by
 have hd2:(m.map (·.n)).Nodup:=(h.map _).nodup_iff.1 hd;have hl:=h.length_eq;unfold ig;rw[←hl];by_cases hc:24<l.length
 ·rw[if_pos hc,if_pos hc];exact .inr ⟨_,_,_,_,rfl,rfl,by decide,by decide⟩
 ·rw[if_neg hc,if_neg hc];have h1:=Gf hd l [] Ml rfl;have h2:=Gf hd2 m [] Ml rfl;simp only[List.length_nil]at h1 h2
  have ef:m.foldl cg Ml=l.foldl cg Ml:=by
   rw[Od hd,Od hd2];congr 1;funext n;exact(VV h hd n).symm
  have ea:(∀x∈m,dK x=0)↔∀x∈l,dK x=0:=⟨fun k x hx=>k x (h.mem_iff.1 hx),fun k x hx=>k x (h.mem_iff.2 hx)⟩;rw[ef,←PS h,ea]at h2;by_cases hg:(∀x∈l,dK x=0)∧cY (l.foldl cg Ml) l=0
  ·exact .inl ⟨_,h1.1 hg,h2.1 hg⟩
  ·obtain⟨e,p,k1,k2⟩:=h1.2 hg;obtain⟨e',p',k3,k4⟩:=h2.2 hg;exact .inr ⟨e,p,e',p',k1,k3,k2,k4⟩
def dV(x:Ln):List Mom:=(cR x).2
def gF(l:List Ln):Fc:={m9 (cn l)with i:=(l.filter (ck bW)).flatMap dV,o:=(l.filter (ck bt)).flatMap dV }
theorem VW(l:List Ln)(x:Ln)(n:Str):cn (l++[x]) n=if x.n=n∧cn l n=none then some x else cn l n:=by
 unfold cn;rw[List.find?_append];cases h:l.find? (ck n)with
 |some y=>simp
 |none=>
  by_cases e:x.n=n
  ·simp[ck,e]
  ·simp[ck,e]
theorem Y9{α:Type}(l:List Ln)(x:Ln)(n:Str)(h:Ln→α)(d:α):fo (cn (l++[x])) n h d=if x.n=n∧cn l n=none then h x else fo (cn l) n h d:=by
 unfold fo;rw[VW];by_cases e:x.n=n∧cn l n=none
 ·rw[if_pos e,if_pos e]
 ·rw[if_neg e,if_neg e]
theorem Ya(l:List Ln)(x:Ln)(n:Str):((l++[x]).filter (ck n)).flatMap dV=(l.filter (ck n)).flatMap dV++if x.n=n then dV x else []:=by
 by_cases e:x.n=n
 ·simp[ck,e]
 ·simp[ck,e]
theorem K6{l:List Ln}{n:Str} : aE l n=0↔cn l n=none:=by
 unfold aE cn;rw[List.length_eq_zero_iff,List.filter_eq_nil_iff,List.find?_eq_none]
theorem yZ(l:List Ln)(x:Ln)(n:Str):aE (l++[x]) n=aE l n+if x.n=n then 1 else 0:=by
 unfold aE;by_cases e:x.n=n
 ·simp[ck,e]
 ·simp[ck,e]
theorem K7(l r:List Ln)(n:Str):aE (l++r) n=aE l n+aE r n:=by
 unfold aE;rw[List.filter_append,List.length_append]
theorem Yb(l:List Ln)(x:Ln)(h:x.n∈gu→cn l x.n=none):cg (gF l) x=gF (l++[x]):=by
 unfold cg gF;simp only[m9,Y9,Ya];by_cases h0:x.n=dc
 ·have hn:=h (by rw[h0];decide);rw[h0]at hn;simp (decide:=true) only [h0,hn,if_true,if_false,and_true,true_and,false_and,List.append_nil]
 by_cases h1:x.n=bn
 ·have hn:=h (by rw[h1];decide);rw[h1]at hn;simp (decide:=true) only [h1,hn,if_true,if_false,and_true,true_and,false_and,List.append_nil]
 by_cases h2:x.n=bj
 ·have hn:=h (by rw[h2];decide);rw[h2]at hn;simp (decide:=true) only [h2,hn,if_true,if_false,and_true,true_and,false_and,List.append_nil]
 by_cases h3:x.n=aO
 ·have hn:=h (by rw[h3];decide);rw[h3]at hn;simp (decide:=true) only [h3,hn,if_true,if_false,and_true,true_and,false_and,List.append_nil]
 by_cases h4:x.n=dd
 ·have hn:=h (by rw[h4];decide);rw[h4]at hn;simp (decide:=true) only [h4,hn,if_true,if_false,and_true,true_and,false_and,List.append_nil]
 by_cases h5:x.n=gc
 ·have hn:=h (by rw[h5];decide);rw[h5]at hn;simp (decide:=true) only [h5,hn,if_true,if_false,and_true,true_and,false_and,List.append_nil]
 by_cases h6:x.n=bW
 ·simp (decide:=true) only [h6,if_true,if_false,and_true,true_and,false_and,List.append_nil,dV]
 by_cases h7:x.n=bt
 ·simp (decide:=true) only [h7,if_true,if_false,and_true,true_and,false_and,List.append_nil,dV]
 by_cases h8:x.n=de
 ·have hn:=h (by rw[h8];decide);rw[h8]at hn;simp (decide:=true) only [h8,hn,if_true,if_false,and_true,true_and,false_and,List.append_nil]
 by_cases h9:x.n=eO
 ·have hn:=h (by rw[h9];decide);rw[h9]at hn;simp (decide:=true) only [h9,hn,if_true,if_false,and_true,true_and,false_and,List.append_nil]
 by_cases h10:x.n=bF
 ·have hn:=h (by rw[h10];decide);rw[h10]at hn;simp (decide:=true) only [h10,hn,if_true,if_false,and_true,true_and,false_and,List.append_nil]
 by_cases h11:x.n=dg
 ·have hn:=h (by rw[h11];decide);rw[h11]at hn;simp (decide:=true) only [h11,hn,if_true,if_false,and_true,true_and,false_and,List.append_nil]
 by_cases h12:x.n=gt
 ·have hn:=h (by rw[h12];decide);rw[h12]at hn;simp (decide:=true) only [h12,hn,if_true,if_false,and_true,true_and,false_and,List.append_nil]
 by_cases h13:x.n=bP
 ·have hn:=h (by rw[h13];decide);rw[h13]at hn;simp (decide:=true) only [h13,hn,if_true,if_false,and_true,true_and,false_and,List.append_nil]
 by_cases h14:x.n=dz
 ·have hn:=h (by rw[h14];decide);rw[h14]at hn;simp (decide:=true) only [h14,hn,if_true,if_false,and_true,true_and,false_and,List.append_nil]
 simp only[h0,h1,h2,h3,h4,h5,h6,h7,h8,h9,h10,h11,h12,h13,h14,if_false,false_and,List.append_nil]
theorem VX:gF []=Ml:=rfl
def we(l:List Ln):Prop:=(∀x∈l,dK x=0)∧∀n∈gu,aE l n≤1
theorem LA:∀(r p:List Ln),(∀n∈gu,aE (p++r) n≤1)→r.foldl cg (gF p)=gF (p++r)
 |[],p,_=>by simp
 |x::r,p,h=>by
  have h1:x.n∈gu→cn p x.n=none:=fun hs=>by
   have:=h _ hs;have e:p++x::r=(p++[x])++r:=by simp
   rw[e,K7,yZ,if_pos rfl]at this;exact K6.1 (by omega)
  have e:p++x::r=(p++[x])++r:=by simp
  rw[List.foldl_cons,Yb p x h1,e];exact LA r (p++[x]) (by rw[←e];exact h)
theorem K8{p:List Ln}{x:Ln} : AQ p x=0↔dK x=0∧(x.n∈gu→aE p x.n=0):=by
 unfold AQ dK;by_cases h1:gI x=0
 ·have h1':¬gI x≠0:=fun h=>h h1
  rw[if_neg h1',if_neg h1'];by_cases h2:x.n=Cb∨x.n=Cc
  ·rw[if_pos h2,if_pos h2];simp
  ·rw[if_neg h2,if_neg h2];by_cases h3:x.n∈gu∧0<aE p x.n
   ·rw[if_pos h3];refine⟨fun h=>(by cases h),fun h=>?_⟩;have:=h.2 h3.1;omega
   ·rw[if_neg h3];refine⟨fun h=>⟨h,fun hs=>?_⟩,fun h=>h.1⟩;have:¬0<aE p x.n:=fun hc=>h3 ⟨hs,hc⟩
    omega
 ·rw[if_pos h1,if_pos h1];exact⟨fun h=>absurd h h1,fun h=>absurd h.1 h1⟩
theorem Z4{l:List Ln} : ∀(r p:List Ln) (f g:Fc),l=p++r→(∀n∈gu,aE p n≤1)→gK l r p.length f=.ok g→(∀x∈r,dK x=0)∧(∀n∈gu,aE l n≤1)∧g=r.foldl cg f∧cY g l=0
 |[],p,f,g,hl,hc,h=>by
  unfold gK at h;split at h
  ·next hw=>cases h;exact⟨by simp,by rw[hl];simpa using hc,rfl,hw⟩
  ·cases h
 |x::r,p,f,g,hl,hc,h=>by
  have hp:l.take p.length=p:=by rw[hl];simp
  unfold gK at h;rw[hp]at h;split at h
  ·next h0=>
   obtain⟨h1,h2⟩:=K8.1 h0;have e:p.length+1=(p++[x]).length:=by simp
   rw[e]at h
   obtain⟨k1,k2,k3,k4⟩:=Z4 r (p++[x]) (cg f x) g (by rw[hl];simp) (fun n hn=>by
    rw[yZ];by_cases e:x.n=n
    ·rw[if_pos e,←e,h2 (by rw[e];exact hn)];omega
    ·rw[if_neg e];have:=hc n hn;omega) h
   exact⟨fun y hy=>by
    rcases List.mem_cons.1 hy with rfl|hy
    ·exact h1
    ·exact k1 y hy,k2,k3,k4⟩
  ·cases h
theorem Z6{l:List Ln} : ∀(r p:List Ln) (f:Fc),l=p++r→(∀n∈gu,aE l n≤1)→(∀x∈r,dK x=0)→cY (r.foldl cg f) l=0→gK l r p.length f=.ok (r.foldl cg f)
 |[],p,f,hl,hc,_,hw=>by
  unfold gK;exact if_pos hw
 |x::r,p,f,hl,hc,ha,hw=>by
  have hp:l.take p.length=p:=by rw[hl];simp
  have h0:AQ p x=0:=K8.2 ⟨ha x (by simp),fun hs=>by
   have:=hc _ hs;have e:p++x::r=(p++[x])++r:=by simp
   rw[hl,e,K7,yZ,if_pos rfl]at this
   omega⟩
  unfold gK;rw[hp,if_pos h0];have e:p.length+1=(p++[x]).length:=by simp
  rw[e];exact Z6 r (p++[x]) (cg f x) (by rw[hl];simp) hc (fun y hy=>ha y (by simp[hy])) hw
theorem sy{l:List Ln}{f:Fc} : ig l=.ok f↔l.length≤24∧we l∧f=gF l∧cY f l=0:=by
 unfold ig;constructor
 ·intro h;split at h
  ·cases h
  ·next hl=>
   obtain⟨k1,k2,k3,k4⟩:=Z4 l [] Ml f rfl (by simp[aE]) h;have e:l.foldl cg Ml=gF l:=by rw[←VX];simpa using LA l [] (by simpa using k2)
   exact⟨by omega,⟨k1,k2⟩,k3.trans e,k4⟩
 ·rintro⟨hl,⟨k1,k2⟩,rfl,k4⟩;have e:l.foldl cg Ml=gF l:=by rw[←VX];simpa using LA l [] (by simpa using k2)
  rw[if_neg (by omega)];have:=Z6 (l:=l) l [] Ml rfl k2 k1 (by rw[e];exact k4);rw[e]at this;exact this
/- Lines that are put, and dropped. -/
theorem QR(x:Ln):∀l:List Ln,eL x l true=(br l x.n,true)
 |[]=>rfl
 |y::r=>by
  have ih:=QR x r;cases hb:ck x.n y<;>simp[eL,hb,ih,br]
theorem AS(x y:Ln)(r:List Ln):oP (y::r) x=if ck x.n y then x::br r x.n else y::oP r x:=by
 cases hb:ck x.n y with
 |true=>simp[oP,eL,hb,QR]
 |false=>
  simp only[oP,eL,hb];cases hd:(eL x r false).2<;>simp[hd]
theorem Ea(x:Ln):oP [] x=[x]:=rfl
theorem wR{q:Ln→Bool}{n:Str}(hq:∀y,y.n=n→q y=false)(l:List Ln):(br l n).filter q=l.filter q:=by
 unfold br;rw[List.filter_filter];refine List.filter_congr fun y _=>?_
 by_cases e:y.n=n
 ·rw[hq y e];rfl
 ·simp[ck,e]
theorem AT{q:Ln→Bool}{x:Ln}(hq:∀y,y.n=x.n→q y=false):∀l:List Ln,(oP l x).filter q=l.filter q
 |[]=>by rw[Ea];simp[hq x rfl]
 |y::r=>by
  rw[AS];by_cases e:y.n=x.n
  ·have e1:ck x.n y=true:=by simp[ck,e]
   rw[e1,if_pos rfl,List.filter_cons_of_neg (by rw[hq x rfl];decide),List.filter_cons_of_neg (by rw[hq y e];decide)];exact wR hq r
  ·have e1:ck x.n y=false:=by simp[ck,e]
   rw[e1,if_neg (by decide),List.filter_cons,List.filter_cons,AT hq r]
theorem Gg(x:Ln):∀l:List Ln,(oP l x).filter (ck x.n)=[x]
 |[]=>by rw[Ea];simp[ck]
 |y::r=>by
  rw[AS];by_cases e:y.n=x.n
  ·have e1:ck x.n y=true:=by simp[ck,e]
   rw[e1,if_pos rfl,List.filter_cons_of_pos (by simp[ck])]
   have:(br r x.n).filter (ck x.n)=[]:=by
    rw[List.filter_eq_nil_iff];intro z hz;have:=(List.mem_filter.1 hz).2;simpa using this
   rw[this]
  ·have e1:ck x.n y=false:=by simp[ck,e]
   rw[e1,if_neg (by decide),List.filter_cons_of_neg (by rw[e1];decide)];exact Gg x r
theorem AU(l:List Ln)(n:Str):cn l n=(l.filter (ck n)).head?:=by
 unfold cn;rw[List.head?_filter]
theorem za{m n:Str}(h:m≠n)(y:Ln)(e:y.n=n):ck m y=false:=by
 simp only[ck,e,decide_eq_false_iff_not];exact fun h'=>h h'.symm
theorem Yc(l:List Ln)(x:Ln)(m:Str):cn (oP l x) m=if m=x.n then some x else cn l m:=by
 rw[AU];by_cases e:m=x.n
 ·rw[if_pos e,e,Gg];rfl
 ·rw[if_neg e,AT (za e),←AU]
theorem get_drop(l:List Ln)(n m:Str):cn (br l n) m=if m=n then none else cn l m:=by
 rw[AU];by_cases e:m=n
 ·rw[if_pos e,e]
  have:(br l n).filter (ck n)=[]:=by
   rw[List.filter_eq_nil_iff];intro z hz;have:=(List.mem_filter.1 hz).2;simpa using this
  rw[this];rfl
 ·rw[if_neg e,wR (za e),←AU]
theorem QS(l:List Ln)(x:Ln)(m:Str):aE (oP l x) m=if m=x.n then 1 else aE l m:=by
 unfold aE;by_cases e:m=x.n
 ·rw[if_pos e,e,Gg];rfl
 ·rw[if_neg e,AT (za e)]
theorem pW(l:List Ln)(n m:Str):aE (br l n) m=if m=n then 0 else aE l m:=by
 by_cases e:m=n
 ·rw[if_pos e];exact K6.2 (by rw[get_drop,if_pos e])
 ·rw[if_neg e];unfold aE;rw[wR (za e)]
theorem dX{l:List Ln}{n:Str}{y:Ln}(h:y∈br l n):y∈l:=(List.mem_filter.1 h).1
theorem sA{x y:Ln} : ∀ {l:List Ln},y∈oP l x→y=x∨y∈l
 |[],h=>by rw[Ea]at h;simpa using h
 |z::r,h=>by
  rw[AS]at h;split at h
  ·rcases List.mem_cons.1 h with h|h
   ·exact .inl h
   ·exact .inr (by simp[dX h])
  ·rcases List.mem_cons.1 h with h|h
   ·exact .inr (by simp[h])
   ·rcases sA h with h|h
    ·exact .inl h
    ·exact .inr (by simp[h])
theorem drop_len(l:List Ln)(n:Str):(br l n).length≤l.length:=List.length_filter_le _ _
theorem set_len(x:Ln):∀l:List Ln,(oP l x).length≤l.length+(if cn l x.n=none then 1 else 0)
 |[]=>by rw[Ea];simp[cn]
 |y::r=>by
  rw[AS];by_cases e:y.n=x.n
  ·have e1:ck x.n y=true:=by simp[ck,e]
   rw[e1,if_pos rfl];have:=drop_len r x.n;simp only[List.length_cons];omega
  ·have e1:ck x.n y=false:=by simp[ck,e]
   have e2:cn (y::r) x.n=cn r x.n:=by unfold cn;rw[List.find?_cons,e1]
   have:=set_len x r;rw[e1,if_neg (by decide),e2];simp only[List.length_cons];omega
def Mm(l:List Ln)(n:Str):List Pm:=match cn l n with
 |some x=>x.p
 |none=>[]
theorem tJ(l:List Ln)(n v:Str):ml l n v=oP l ⟨n,Mm l n,v⟩:=rfl
theorem Gh{l:List Ln}{n v:Str}(h:we l)(ha:dK ⟨n,Mm l n,v⟩=0):we (ml l n v):=by
 rw[tJ];refine⟨fun x hx=>?_,fun m hm=>?_⟩
 ·rcases sA hx with rfl|hx
  ·exact ha
  ·exact h.1 x hx
 ·rw[QS];split
  ·omega
  ·exact h.2 m hm
theorem pf{l:List Ln}(h:we l)(n:Str):we (br l n):=
 ⟨fun x hx=>h.1 x (dX hx),fun m hm=>by
  rw[pW];split
  ·omega
  ·exact h.2 m hm⟩
theorem Cd{l:List Ln}{n v:Str}{b:Bool}(h:we l)(ha:b=true→dK ⟨n,Mm l n,v⟩=0):we (cU l n v b):=by
 unfold cU;split
 ·next hb=>exact Gh h (ha hb)
 ·exact pf h n
theorem Eb(l:List Ln)(n v m:Str):cn (ml l n v) m=if m=n then some ⟨n,Mm l n,v⟩else cn l m:=by rw[tJ,Yc]
theorem Gi(l:List Ln)(n v m:Str)(b:Bool):cn (cU l n v b) m=if m=n then (if b=true then some ⟨n,Mm l n,v⟩else none)else cn l m:=by
 unfold cU;split
 ·next h=>rw[Eb]
 ·next h=>rw[get_drop]
theorem LB(l:List Ln)(n v m:Str):aE (ml l n v) m=if m=n then 1 else aE l m:=by rw[tJ,QS]
theorem Gj(l:List Ln)(n v m:Str)(b:Bool)(h:m≠n):aE (cU l n v b) m=aE l m:=by
 unfold cU;split
 ·rw[LB,if_neg h]
 ·rw[pW,if_neg h]
theorem pg{q:Ln→Bool}{n:Str}(hq:∀y,y.n=n→q y=false)(l:List Ln)(v:Str)(b:Bool):(cU l n v b).filter q=l.filter q:=by
 unfold cU;split
 ·rw[tJ];exact AT (x:=⟨n,Mm l n,v⟩) hq l
 ·exact wR hq l
theorem ma(l:List Ln)(n v:Str)(b:Bool):(cU l n v b).length≤l.length+1:=by
 unfold cU;split
 ·rw[tJ];have:=set_len ⟨n,Mm l n,v⟩ l;split at this<;>omega
 ·have:=drop_len l n;omega
theorem Gk{l:List Ln}(h:we l)(n:Str):gX (Mm l n)=0:=by
 unfold Mm;cases hg:cn l n with
 |none=>rfl
 |some x=>
  have hx:=h.1 x (List.mem_of_find?_eq_some hg);unfold dK at hx;split at hx
  ·next h1=>exact absurd hx h1
  ·next h1=>exact((PI x).1 (by simpa using h1)).2.1
theorem AV{l:List Ln}{n:Str}{x:Ln}(h:cn l n=some x):x.n=n:=by
 have:=List.find?_some h;simpa[ck]using this
theorem tK{l:List Ln}(h:we l){n:Str}{x:Ln}(hg:cn l n=some x):bG x=0:=by
 have hx:=h.1 x (List.mem_of_find?_eq_some hg);unfold dK at hx;split at hx
 ·next h1=>exact absurd hx h1
 ·split at hx
  ·cases hx
  ·exact hx
end Go.Vs.YtcjeehebikeghaaGreatDoor.Vt
