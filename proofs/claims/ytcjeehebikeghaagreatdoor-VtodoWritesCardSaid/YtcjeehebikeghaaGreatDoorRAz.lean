/- A part of a proof. No conditions. -/
import Derived.Test.YtcjeehebikeghaaGreatDoorNBz
set_option linter.unusedVariables false
set_option linter.unusedSimpArgs false
namespace Go.Vs.Cv
def sl(y:Nat):Bool:=(decide (y%4=0)&&decide (y%100≠0))||decide (y%400=0)
def ox(y:Nat):Nat:=if sl y then 366 else 365
def oy(y m:Nat):Nat:=if m=2 then ox y-337 else if m=4\/m=6\/m=9\/m=11 then 30 else 31
def ahead(y:Nat):Nat:=(y-1)*365+(y-1)/4-(y-1)/100+(y-1)/400
def before(m:Nat):Nat:=match m with
 |0=>0|1=>0|2=>31|3=>59|4=>90|5=>120|6=>151|7=>181|8=>212|9=>243|10=>273|11=>304|12=>334|_=>365
def eI(y m:Nat):Nat:=before m+if 2<m/\sl y=true then 1 else 0
def nY(y m d:Nat):Nat:=ahead y+eI y m+d-1
def kO(n:Nat):Nat×Nat:=
 let a:=n/146097
 let b:=n%146097
 let c:=min (b/36524) 3
 let d:=b-c*36524
 let q:=d/1461
 let e:=d%1461
 let k:=min (e/365) 3
 (1+a*400+100*c+4*q+k,e-k*365)
def ED(y a:Nat):Nat:=if eI y (a/32+2)<=a then a/32+2 else a/32+1
def vG(n:Nat):Nat×Nat×Nat:=((kO n).1,ED (kO n).1 (kO n).2,(kO n).2-eI (kO n).1 (ED (kO n).1 (kO n).2)+1)
theorem QE(y:Nat):sl y=true↔(y%4=0/\y%100≠0)\/y%400=0:=by simp[sl]
theorem Be{y:Nat}(h:1<=y):ahead (y+1)=ahead y+ox y:=by
 obtain⟨k,rfl⟩:∃k,y=k+1:=⟨y-1,by omega⟩;have l:((k+1)%4=0/\(k+1)/4=k/4+1)\/((k+1)%4≠0/\(k+1)/4=k/4):=by omega
 have f:((k+1)%100=0/\(k+1)/100=k/100+1)\/((k+1)%100≠0/\(k+1)/100=k/100):=by omega
 have g:((k+1)%400=0/\(k+1)/400=k/400+1)\/((k+1)%400≠0/\(k+1)/400=k/400):=by omega
 have m:(k+1)%100=0->(k+1)%4=0:=by omega
 have n:(k+1)%400=0->(k+1)%100=0:=by omega
 have o:k/100<=k/4:=by omega
 have e1:ahead (k+1+1)=(k+1)*365+(k+1)/4-(k+1)/100+(k+1)/400:=rfl;have e2:ahead (k+1)=k*365+k/4-k/100+k/400:=rfl
 have j:(sl (k+1)=true/\ox (k+1)=366)\/(sl (k+1)=false/\ox (k+1)=365):=by
  unfold ox;cases sl (k+1)<;>simp
 have i:sl (k+1)=true↔((k+1)%4=0/\(k+1)%100≠0)\/(k+1)%400=0:=QE _;rw[e1,e2];generalize (k+1)/4=A at *;generalize (k+1)/100=B at *;generalize (k+1)/400=C at *;generalize k/4=p at *;generalize k/100=q at *;generalize k/400=s at *;generalize (k+1)%4=x at *;generalize (k+1)%100=y at *;generalize (k+1)%400=z at *;rcases j with⟨c,d⟩|⟨c,d⟩
 ·have:=i.1 c;rw[d];omega
 ·have:¬((x=0/\y≠0)\/z=0):=fun e=>by rw[i.2 e]at c;cases c
  rw[d];omega
theorem FL{y t:Nat}(s:1<=y)(b:t<ox y):kO (ahead y+t)=(y,t):=by
 obtain⟨p,rfl⟩:∃p,y=p+1:=⟨y-1,by omega⟩;have g:ahead (p+1)=p*365+p/4-p/100+p/400:=rfl;obtain⟨a,u⟩:∃a,p/400=a:=⟨_,rfl⟩;obtain⟨c,v⟩:∃c,p%400/100=c:=⟨_,rfl⟩;obtain⟨q,w⟩:∃q,p%100/4=q:=⟨_,rfl⟩;obtain⟨k,x⟩:∃k,p%4=k:=⟨_,rfl⟩;have h:p=400*a+100*c+4*q+k:=by omega
 have i:c<=3:=by omega
 have j:q<=24:=by omega
 have l:k<=3:=by omega
 have e:ahead (p+1)=146097*a+36524*c+1461*q+365*k:=by rw[g];omega
 have m:t<365\/(t=365/\k=3/\(q<24\/c=3)):=by
  unfold ox at b;cases f:sl (p+1)with
  |false=>rw[f]at b;left;simpa using b
  |true=>
   rw[f]at b;have:=(QE _).1 f;simp at b;by_cases d:t<365
   ·exact .inl d
   ·right;refine⟨by omega,by omega,?_⟩;omega
 rw[e];simp only[kO];have e1:(146097*a+36524*c+1461*q+365*k+t)/146097=a:=by omega
 have e2:(146097*a+36524*c+1461*q+365*k+t)%146097=36524*c+1461*q+365*k+t:=by omega
 rw[e1,e2];have n:min ((36524*c+1461*q+365*k+t)/36524) 3=c:=by omega
 rw[n];have e4:36524*c+1461*q+365*k+t-c*36524=1461*q+365*k+t:=by omega
 rw[e4];have e5:(1461*q+365*k+t)/1461=q:=by omega
 have o:(1461*q+365*k+t)%1461=365*k+t:=by omega
 rw[e5,o];have e7:min ((365*k+t)/365) 3=k:=by omega
 rw[e7];exact Prod.ext (by show 1+a*400+100*c+4*q+k=p+1;omega) (by show 365*k+t-k*365=t;omega)
theorem wV{m:Nat}(a:1<=m)(b:m<=12):m=1\/m=2\/m=3\/m=4\/m=5\/m=6\/m=7\/m=8\/m=9\/m=10\/m=11\/m=12:=by omega
theorem pI(y:Nat){m:Nat}(c:1<=m)(e:m<=12):eI y (m+1)=eI y m+oy y m:=by
 cases f:sl y<;>rcases wV c e with rfl|rfl|rfl|rfl|rfl|rfl|rfl|rfl|rfl|rfl|rfl|rfl<;>simp[eI,before,oy,ox,f]
theorem Y9(y:Nat):eI y 13=ox y:=by cases a:sl y<;>simp[eI,before,ox,a]
theorem Ya{y m t:Nat}(d:1<=m)(e:m<=12)(f:eI y m<=t)(g:t<eI y (m+1)):ED y t=m:=by
 unfold ED;cases b:sl y<;>rcases wV d e with rfl|rfl|rfl|rfl|rfl|rfl|rfl|rfl|rfl|rfl|rfl|rfl<;>simp[eI,before,b]at f g <;>
 ·obtain⟨z,h⟩:∃z,t/32=z:=⟨_,rfl⟩;have c:z<=11:=by omega
  have a:z=0\/z=1\/z=2\/z=3\/z=4\/z=5\/z=6\/z=7\/z=8\/z=9\/z=10\/z=11:=by omega
  rw[h];rcases a with rfl|rfl|rfl|rfl|rfl|rfl|rfl|rfl|rfl|rfl|rfl|rfl<;>first|omega|(simp[eI,before,b];omega)
theorem O9(y:Nat){m:Nat}(c:1<=m)(d:m<=12):eI y (m+1)<=ox y:=by
 cases e:sl y<;>rcases wV c d with rfl|rfl|rfl|rfl|rfl|rfl|rfl|rfl|rfl|rfl|rfl|rfl<;>simp[eI,before,ox,e]
theorem Yb{y m d:Nat}(f:1<=y)(a:1<=m)(b:m<=12)(i:1<=d)(j:d<=oy y m):vG (nY y m d)=(y,m,d):=by
 have k:=pI y a b;have g:=O9 y a b;have e:nY y m d=ahead y+(eI y m+(d-1)):=by unfold nY;omega
 have h:=FL (t:=eI y m+(d-1)) f (by omega);have c:=Ya (t:=eI y m+(d-1)) (y:=y) a b (by omega) (by omega);unfold vG;rw[e,h];simp only[c];have:eI y m+(d-1)-eI y m+1=d:=by omega
 rw[this]
theorem VA(n:Nat):∀Y,n<ahead (Y+1)->∃y t,1<=y/\y<=Y/\t<ox y/\n=ahead y+t:=by
 intro Y
 induction Y with
 |zero=>
  intro h;have e:ahead (0+1)=0:=by decide
  omega
 |succ Y f=>
  intro h;by_cases g:n<ahead (Y+1)
  ·obtain⟨y,t,a,b,c,d⟩:=f g;exact⟨y,t,a,by omega,c,d⟩
  ·have:=Be (y:=Y+1) (by omega);exact⟨Y+1,n-ahead (Y+1),by omega,by omega,by omega,by omega⟩
theorem IN(y t:Nat):∀M,t<eI y (M+1)->M<=12->∃m,1<=m/\m<=M/\eI y m<=t/\t<eI y (m+1)
 |0,h,_=>by simp[eI,before]at h
 |M+1,h,f=>by
  by_cases e:t<eI y (M+1)
  ·obtain⟨m,a,b,c,d⟩:=IN y t M e (by omega);exact⟨m,a,by omega,c,d⟩
  ·exact⟨M+1,by omega,by omega,by omega,h⟩
theorem QF{n:Nat}(h:n<=3652058):∃y m d,1<=y/\y<=9999/\1<=m/\m<=12/\1<=d/\d<=oy y m/\nY y m d=n/\vG n=(y,m,d):=by
 have e:ahead (9999+1)=3652059:=by decide
 obtain⟨y,t,a,b,c,j⟩:=VA n 9999 (by omega);obtain⟨m,f,g,k,l⟩:=IN y t 12 (by rw[Y9];exact c) (by omega);have o:=pI y f g;have i:nY y m (t-eI y m+1)=n:=by unfold nY;omega
 refine⟨y,m,t-eI y m+1,a,b,f,g,by omega,by omega,i,?_⟩;have:=Yb (y:=y) (m:=m) (d:=t-eI y m+1) a f g (by omega) (by omega);rw[i]at this;exact this
theorem Yc{y:Nat}(h:y<=9999):ahead y+ox y<=3652059:=by
 have:∀k,y+k<=10000->1<=y->ahead y+ox y<=ahead (y+1+k):=by
  intro k
  induction k with
  |zero=>intro _ a;rw[Nat.add_zero,Be a];exact Nat.le_refl _
  |succ k b=>
   intro f a;have:=b (by omega) a;have c:=Be (y:=y+1+k) (by omega);rw[show y+1+(k+1)=y+1+k+1 by omega,c];omega
 by_cases d:1<=y
 ·have:=this (9999-y) (by omega) d;rw[show y+1+(9999-y)=10000 by omega]at this;have e:ahead 10000=3652059:=by decide
  omega
 ·obtain rfl:y=0:=by omega
  decide
theorem SJ{y m d:Nat}(f:1<=y)(a:y<=9999)(b:1<=m)(c:m<=12)(g:1<=d)(h:d<=oy y m):nY y m d<=3652058:=by
 have i:=pI y b c;have e:=O9 y b c;have:=Yc a;unfold nY;omega
end Go.Vs.Cv
namespace Go.Vs.Mo
open Go.Vs.U8 Go.Vs.Nu Go.Vs.Cv
def wide:Nat->Nat->Str
 |0,_=>[]
 |w+1,n=>wide w (n/10)++[UInt8.ofNat (48+n%10)]
theorem jm:∀w n,(wide w n).length=w
 |0,_=>rfl
 |w+1,n=>by simp only[wide,List.length_append,jm w];rfl
structure Mom where
 k:Int
 s:Int
 deriving DecidableEq
def jI(v:Mom):Int:=if v.k<1\/3<v.k then 11 else if v.s<0\/315537897599<v.s then 8 else if v.k=1/\v.s%86400≠0 then 2 else 0
def dayT(n:Nat):Str:=wide 4 (vG n).1++(wide 2 (vG n).2.1++wide 2 (vG n).2.2)
def Yd(t:Nat):Str:=wide 2 (t/3600)++(wide 2 (t/60%60)++wide 2 (t%60))
def KF(v:Mom):Str:=dayT (v.s/86400).toNat++(if v.k=1 then []else 84::(Yd (v.s%86400).toNat++if v.k=3 then [90]else []))
def nZ(s:Str):Int:=if s.length=8 then 1 else if s.length=15/\s[8]?=some 84 then 2 else if s.length=16/\s[8]?=some 84/\s[15]?=some 90 then 3 else 0
def KG(d t:Str):Nat:=nY (bt 0 (d.take 4)) (bt 0 ((d.drop 4).take 2)) (bt 0 (d.drop 6))*86400+(bt 0 (t.take 2)*3600+bt 0 ((t.drop 2).take 2)*60+bt 0 (t.drop 4))
def ij(y m d:Nat):Bool:=decide (1<=y/\1<=m/\m<=12/\1<=d/\d<=oy y m)
def QG(d t:Str):Bool:=ij (bt 0 (d.take 4)) (bt 0 ((d.drop 4).take 2)) (bt 0 (d.drop 6))&&decide (bt 0 (t.take 2)<=23/\bt 0 ((t.drop 2).take 2)<=59/\bt 0 (t.drop 4)<=59)
def o0(s:Str):Str:=if nZ s=1 then [48,48,48,48,48,48]else (s.drop 9).take 6
def fu(s:Str):Mom×Int:=
 if nZ s=0\/(s.take 8).all d7=false\/(o0 s).all d7=false then (⟨0,0⟩,4)
 else if QG (s.take 8) (o0 s)=false then (⟨0,0⟩,8)
 else (⟨nZ s,KG (s.take 8) (o0 s)⟩,0)
theorem two(n:Nat):∃a b,wide 2 n=[a,b]:=⟨_,_,rfl⟩
theorem EE{v:Mom}(h:jI v=0):1<=v.k/\v.k<=3/\0<=v.s/\v.s<=315537897599/\(v.k=1->v.s%86400=0):=by
 unfold jI at h;split at h
 ·cases h
 ·split at h
  ·cases h
  ·split at h
   ·cases h
   ·next a b c=>refine⟨by omega,by omega,by omega,by omega,fun e=>?_⟩;omega
theorem val_bd{s:Str}(h:s.all d7=true):bt 0 s<10 ^ s.length:=by
 have:=NH s 0 h;omega
theorem Ye{s:Str}(h:s.all d7=true)(i j:Nat):((s.drop i).take j).all d7=true:=by
 rw[List.all_eq_true]at h |-;exact fun c a=>h c (List.mem_of_mem_drop (List.mem_of_mem_take a))
theorem aaV{s:Str}{v:Mom}{e:Int}(h:fu s=(v,e)):(e=0->jI v=0)/\(e≠0->v=⟨0,0⟩)/\(e=0\/e=4\/e=8):=by
 unfold fu at h;split at h
 ·simp only[Prod.mk.injEq]at h;obtain⟨rfl,rfl⟩:=h;simp
 ·next c=>
  split at h
  ·simp only[Prod.mk.injEq]at h;obtain⟨rfl,rfl⟩:=h;simp
  ·next a=>
   simp only[Prod.mk.injEq]at h;obtain⟨rfl,rfl⟩:=h;refine⟨fun _=>?_,by simp,by simp⟩;simp only[not_or,Bool.not_eq_false]at c a;obtain⟨d,f,n⟩:=c;simp only[QG,Bool.and_eq_true,ij,decide_eq_true_eq]at a;obtain⟨⟨g,i,j,k,l⟩,o,p,q⟩:=a;have m:=val_bd (Ye f 0 4);have b:(((s.take 8).drop 0).take 4).length<=4:=by rw[List.length_take];omega
   have:bt 0 ((s.take 8).take 4)<10 ^ 4:=Nat.lt_of_lt_of_le m (Nat.pow_le_pow_right (by omega) b);have u:=SJ g (by omega) i j k l
   have w:nZ s=1\/nZ s=2\/nZ s=3:=by
    unfold nZ at d |-
    repeat' split
    all_goals simp_all
   unfold jI;simp only;have x:KG (s.take 8) (o0 s)<315537897600:=by unfold KG;omega
   rw[if_neg (by omega),if_neg (by omega),if_neg];rintro⟨e1,e2⟩;apply e2;have:o0 s=[48,48,48,48,48,48]:=by simp only[o0,e1,if_true]
   unfold KG;rw[this];have z:bt 0 (([48,48,48,48,48,48]:Str).take 2)*3600+bt 0 ((([48,48,48,48,48,48]:Str).drop 2).take 2)*60+bt 0 (([48,48,48,48,48,48]:Str).drop 4)=0:=rfl;rw[z];omega
end Go.Vs.Mo
namespace Go.Vs.YtcjeehebikeghaaGreatDoor.Rc
open Go.Proofs Go.Vs.U8 Go.Vs.Pa Go.Vs.Nu Go.Lib Go.Vs.Mo
structure Ru where
 f:Int
 i:Int
 c:Int
 u:Mom
 l4:List Int
 l5:List Int
 l6:List Int
 l7:List Dn
 l8:List Int
 l9:List Int
 l10:List Int
 l11:List Int
 l12:List Int
 w:Int
 deriving DecidableEq
def Ws:Ru:=⟨0,0,0,⟨0,0⟩,[],[],[],[],[],[],[],[],[],0⟩
def TZ:Ru:=⟨0,1,0,⟨0,0⟩,[],[],[],[],[],[],[],[],[],0⟩
def Zt(r:Ru):Nat->List Int
 |4=>r.l4
 |5=>r.l5
 |6=>r.l6
 |8=>r.l8
 |9=>r.l9
 |10=>r.l10
 |11=>r.l11
 |_=>r.l12
def eJ(r:Ru)(k:Nat)(l:List Int):Ru:=match k with
 |4=>{r with l4:=l }
 |5=>{r with l5:=l }
 |6=>{r with l6:=l }
 |8=>{r with l8:=l }
 |9=>{r with l9:=l }
 |10=>{r with l10:=l }
 |11=>{r with l11:=l }
 |_=>{r with l12:=l }
def MD:Nat->Int
 |4=>0
 |5=>0
 |6=>0
 |_=>1
def ME:Nat->Int
 |4=>59
 |5=>59
 |6=>23
 |8=>31
 |9=>366
 |10=>53
 |11=>12
 |12=>366
 |_=>1000
def RC:Nat->Bool
 |8=>true
 |9=>true
 |10=>true
 |12=>true
 |_=>false
def qm(b a:Int)(c:Bool)(n:Int):Bool:=decide (n < -a\/(n.natAbs:Int)<b\/a<(n.natAbs:Int)\/(n<0/\c=false))
def eR(a b:Int)(c:Bool)(l:List Int):Int:=if 12<l.length then 20 else if l.any (qm a b c)=true then 8 else if l.Nodup then 0 else 19
def qS(x:Dn):Bool:=decide (x.2<0\/6<x.2\/x.1 < -53\/53<x.1)
def sn(l:List Dn):Int:=if 12<l.length then 20 else if l.any qS=true then 8 else if l.Nodup then 0 else 19
def FM(r:Ru):Int:=
 if 6<r.f then 11
 else if r.i<1\/1000<r.i\/r.c<0\/1000<r.c\/r.w<0\/6<r.w then 8
 else if r.u=⟨0,0⟩then 0
 else if r.u.k=0 then 2
 else if jI r.u≠0 then jI r.u
 else if 0<r.c then 9 else 0
def rq(r:Ru)(k:Nat):Int:=if k=7 then sn r.l7 else eR (MD k) (ME k) (RC k) (Zt r k)
def n7:List Int->Int
 |[]=>0
 |e::r=>if e=0 then n7 r else e
def jn(l:List Dn):Bool:=l.any fun x=>decide (x.1≠0)
def IP(r:Ru):Nat:=r.l7.length+r.l4.length+r.l5.length+r.l6.length+r.l8.length+r.l9.length+r.l10.length+r.l11.length
def Gu(r:Ru):Prop:=(jn r.l7=true/\(r.f<5\/0<r.l10.length))\/(0<r.l8.length/\r.f=4)\/(0<r.l10.length/\r.f≠6)\/(0<r.l9.length/\(r.f=3\/r.f=4\/r.f=5))\/(0<r.l12.length/\IP r=0)
instance (r:Ru):Decidable (Gu r):=by unfold Gu;infer_instance
def cC:List Nat:=[4,5,6,7,8,9,10,11,12]
def jo(r:Ru):Int:=
 if FM r≠0 then FM r
 else if n7 (cC.map (rq r))≠0 then n7 (cC.map (rq r))
 else if Gu r then 9 else 0
def iH:List Str:=[[70,82,69,81],[85,78,84,73,76],[67,79,85,78,84],[73,78,84,69,82,86,65,76],[66,89,83,69,67,79,78,68],[66,89,77,73,78,85,84,69],[66,89,72,79,85,82],[66,89,68,65,89],[66,89,77,79,78,84,72,68,65,89],[66,89,89,69,65,82,68,65,89],[66,89,87,69,69,75,78,79],[66,89,77,79,78,84,72],[66,89,83,69,84,80,79,83],[87,75,83,84]]
def gT:List Str:=[[83,69,67,79,78,68,76,89],[77,73,78,85,84,69,76,89],[72,79,85,82,76,89],[68,65,73,76,89],[87,69,69,75,76,89],[77,79,78,84,72,76,89],[89,69,65,82,76,89]]
def ad7(k:Nat):Str:=iH.getD k []
def tL(k:Nat):Str:=gT.getD k []
def eqS(k:Nat)(v:Str):Str:=ad7 k++61::v
def Yf(b:Bool)(k:Nat)(v:Str):List (Nat×Str):=if b=true then [(k,v)]else []
def ad8(r:Ru)(k:Nat):Str:=if k=7 then ac0 r.l7 else acZ (Zt r k)
def Yg(r:Ru):List Nat->List (Nat×Str)
 |[]=>[]
 |k::a=>Yf (decide (ad8 r k≠[])) k (ad8 r k)++Yg r a
def dX(r:Ru):List (Nat×Str):=(0,tL r.f.toNat)::(Yf (decide (r.u.k≠0)) 1 (KF r.u)++(Yf (decide (r.c≠0)) 2 (itoa r.c)++(Yf (decide (r.i≠1)) 3 (itoa r.i)++(Yg r cC++Yf (decide (r.w≠0)) 13 (Vq r.w)))))
inductive TkR where
 |no (e:Int) (p:List Int)
 |ok (r:Ru)
def tM(r:Ru)(k:Nat)(v:Str):TkR:=
 if k=0 then (if gT.idxOf v<7 then .ok {r with f:=gT.idxOf v } else .no 11 [])
 else if k=1 then (if (fu v).2=0 then .ok {r with u:=(fu v).1 } else .no (fu v).2 [])
 else if k=2 then (if (cF 5 1 1000 false v).2=0 then .ok {r with c:=(cF 5 1 1000 false v).1 } else .no (cF 5 1 1000 false v).2 [])
 else if k=3 then (if (cF 5 1 1000 false v).2=0 then .ok {r with i:=(cF 5 1 1000 false v).1 } else .no (cF 5 1 1000 false v).2 [])
 else if k=7 then (match bK nS v with
  |.ok l=>.ok {r with l7:=l }
  |.no e p=>.no e [(p:Int)])
 else if k=13 then (if vO v<0 then .no 4 []else .ok {r with w:=vO v })
 else match bK (cF 5 (MD k) (ME k) (RC k)) v with
  |.ok l=>.ok (eJ r k l)
  |.no e p=>.no e [(p:Int)]
inductive RuR where
 |no (e:Int) (p:List Int)
 |ok (r:Ru)
def Yh(N:Nat)(a:List Nat)(r:Ru):RuR:=if 0∈a then (if jo r=0 then .ok r else .no (jo r) [(N:Int)])else .no 6 [(N:Int)]
def vH(p:Str):Str:=p.take (p.idxOf 61)
def iX(p:Str):Str:=p.drop (p.idxOf 61+1)
def zC(p:Str):Nat:=iH.idxOf (vH p)
def im(N:Nat):List Str->Nat->List Nat->Ru->RuR
 |[],_,b,r=>Yh N b r
 |p::ps,a,b,r=>
  if 61∉p then .no 4 [(a:Int)]
  else if ¬zC p<14 then .no 11 [(a:Int)]
  else if zC p∈b then .no 19 [(a:Int)]
  else match tM r (zC p) (iX p)with
   |.no e q=>.no e (((a+p.idxOf 61+1:Nat):Int)::q)
   |.ok c=>im N ps (a+p.length+1) (zC p::b) c
def kD(s:Str):RuR:=im s.length (parts 59 s) 0 [] TZ
def same(x r:Ru):Nat->Prop
 |0=>x.f=r.f
 |1=>x.u=r.u
 |2=>x.c=r.c
 |3=>x.i=r.i
 |4=>x.l4=r.l4
 |5=>x.l5=r.l5
 |6=>x.l6=r.l6
 |7=>x.l7=r.l7
 |8=>x.l8=r.l8
 |9=>x.l9=r.l9
 |10=>x.l10=r.l10
 |11=>x.l11=r.l11
 |12=>x.l12=r.l12
 |13=>x.w=r.w
 |_=>True
theorem k14{k:Nat}(h:k<14):k=0\/k=1\/k=2\/k=3\/k=4\/k=5\/k=6\/k=7\/k=8\/k=9\/k=10\/k=11\/k=12\/k=13:=by omega
theorem MF{n:Int}(h:n.natAbs<=99999):(decDigits n.natAbs).length<=5:=TK 4 n.natAbs (by omega)
theorem itoa_len{n:Int}(h:n.natAbs<=99999):(itoa n).length<=6:=by
 have:=MF h;unfold itoa;split
 ·simp;omega
 ·have:n.toNat=n.natAbs:=by omega
  rw[this];omega
theorem Yi(v:Mom):(KF v).length<=16:=by
 unfold KF Mo.dayT Yd;simp only[List.length_append,jm];split
 ·simp
 ·simp only[List.length_cons,List.length_append,jm];split<;>simp
theorem wW(c:UInt8)(s:Str):∃p ps,parts c s=p::ps/\c∉p/\p.length<=s.length/\p=s.take p.length/\((ps=[]/\p=s)\/(s[p.length]?=some c/\ps=parts c (s.drop (p.length+1)))):=by
 by_cases h:c∈s
 ·have g:=List.idxOf_lt_length_iff.2 h;have b:s[s.idxOf c]?=some c:=by rw[List.getElem?_eq_getElem g,List.getElem_idxOf]
  have f:c∉s.take (s.idxOf c):=by
   intro hm;rw[List.mem_take_iff_getElem]at hm;obtain⟨j,l,e⟩:=hm;have:=List.not_of_lt_findIdx (p:=(· == c)) (xs:=s) (i:=j) (show j<s.idxOf c by omega);simp[e]at this
  have a:(s.take (s.idxOf c)).length=s.idxOf c:=by rw[List.length_take];omega
  refine⟨s.take (s.idxOf c),parts c (s.drop (s.idxOf c+1)),Ck b f,f,by omega,by rw[a],.inr ⟨by rw[a];exact b,by rw[a]⟩⟩
 ·exact⟨s,[],uA h,h,Nat.le_refl _,by rw[List.take_length],.inl ⟨rfl,rfl⟩⟩
def SK(l:List Str):Nat:=(l.map fun x=>x.length+1).sum
theorem yi(x:Str)(l:List Str):SK (x::l)=x.length+1+SK l:=by simp[SK]
theorem EF(c:UInt8):∀(n:Nat) (s:Str),s.length<=n->SK (parts c s)=s.length+1
 |n,s,f=>by
  obtain⟨p,ps,b,g,h,i,a⟩:=wW c s;rw[b,yi];rcases a with⟨rfl,rfl⟩|⟨a,e⟩
  ·rfl
  ·obtain⟨j,_⟩:=List.getElem?_eq_some_iff.1 a;cases n with
   |zero=>omega
   |succ n=>
    rw[e,EF c n _ (by rw[List.length_drop];omega),List.length_drop];omega
theorem IQ{c:Type} [DecidableEq c]{one:Str->c×Int} : ∀ {l:List Str} {a:Nat} {b:List c} {e:Int} {p:Nat},em one l a b=.no e p->e≠0/\p+1<=a+SK l
 |[],a,b,e,p,h=>by simp[em]at h
 |x::r,a,b,e,p,h=>by
  rw[yi];simp only[em]at h;split at h
  ·simp only[GotE.no.injEq]at h;omega
  ·split at h
   ·next d=>simp only[GotE.no.injEq]at h;obtain⟨rfl,rfl⟩:=h;exact⟨d,by omega⟩
   ·split at h
    ·simp only[GotE.no.injEq]at h;omega
    ·have:=IQ h;exact⟨this.1,by omega⟩
theorem yj{a:Type} [DecidableEq a]{one:Str->a×Int}{v:Str}{e:Int}{p:Nat}(h:bK one v=.no e p):e≠0/\p<=v.length:=by
 have b:=IQ h;rw[EF 44 _ v (Nat.le_refl _)]at b;exact⟨b.1,by omega⟩
theorem Yj{x:Ru}{k:Nat}{v:Str}{e:Int}{q:List Int}(h:tM x k v=.no e q):e≠0/\(q=[]\/∃p:Nat,q=[(p:Int)]/\p<=v.length):=by
 unfold tM at h;split at h
 ·split at h
  ·cases h
  ·simp only[TkR.no.injEq]at h;obtain⟨rfl,rfl⟩:=h;exact⟨by omega,.inl rfl⟩
 ·split at h
  ·split at h
   ·cases h
   ·next a=>simp only[TkR.no.injEq]at h;obtain⟨rfl,rfl⟩:=h;exact⟨a,.inl rfl⟩
  ·split at h
   ·split at h
    ·cases h
    ·next a=>simp only[TkR.no.injEq]at h;obtain⟨rfl,rfl⟩:=h;exact⟨a,.inl rfl⟩
   ·split at h
    ·split at h
     ·cases h
     ·next a=>simp only[TkR.no.injEq]at h;obtain⟨rfl,rfl⟩:=h;exact⟨a,.inl rfl⟩
    ·split at h
     ·split at h
      ·cases h
      ·next p b=>
       simp only[TkR.no.injEq]at h;obtain⟨rfl,rfl⟩:=h;have:=yj b;exact⟨this.1,.inr ⟨p,rfl,this.2⟩⟩
     ·split at h
      ·split at h
       ·simp only[TkR.no.injEq]at h;obtain⟨rfl,rfl⟩:=h;exact⟨by omega,.inl rfl⟩
       ·cases h
      ·split at h
       ·cases h
       ·next p b=>
        simp only[TkR.no.injEq]at h;obtain⟨rfl,rfl⟩:=h;have:=yj b;exact⟨this.1,.inr ⟨p,rfl,this.2⟩⟩
def AtR(s:Str)(ps:List Str)(a:Nat):Prop:=(ps=[]/\a=s.length+1)\/(a<=s.length/\ps=parts 59 (s.drop a))
theorem Yk(s:Str):AtR s (parts 59 s) 0:=.inr ⟨by omega,by rw[List.drop_zero]⟩
theorem Yl{s p:Str}{ps:List Str}{a:Nat}(h:AtR s (p::ps) a):a+p.length<=s.length/\p=(s.drop a).take p.length/\59∉p/\AtR s ps (a+p.length+1)/\(s[a+p.length]?=some 59\/(a+p.length=s.length/\ps=[])):=by
 rcases h with⟨h,_⟩|⟨l,h⟩
 ·cases h
 ·obtain⟨q,m,f,g,i,j,b⟩:=wW 59 (s.drop a);rw[f]at h;simp only[List.cons.injEq]at h;obtain⟨rfl,rfl⟩:=h;rw[List.length_drop]at i;refine⟨by omega,j,g,?_,?_⟩
  ·rcases b with⟨rfl,b⟩|⟨b,c⟩
   ·have:=congrArg List.length b;rw[List.length_drop]at this;exact .inl ⟨rfl,by omega⟩
   ·rw[List.getElem?_drop]at b;obtain⟨n,_⟩:=List.getElem?_eq_some_iff.1 b;refine .inr ⟨by omega,?_⟩;rw[c,List.drop_drop,Nat.add_assoc]
  ·rcases b with⟨rfl,b⟩|⟨b,c⟩
   ·have:=congrArg List.length b;rw[List.length_drop]at this;exact .inr ⟨by omega,rfl⟩
   ·rw[List.getElem?_drop]at b;exact .inl b
theorem IR:∀ {N:Nat} {ps:List Str} {a:Nat} {b:List Nat} {r x:Ru},im N ps a b r=.ok x->jo x=0
 |N,[],a,b,r,x,h=>by
  simp only[im,Yh]at h;split at h
  ·split at h
   ·next c=>simp only[RuR.ok.injEq]at h;rw[<-h];exact c
   ·cases h
  ·cases h
 |N,p::ps,a,b,r,x,h=>by
  simp only[im]at h;split at h
  ·cases h
  ·split at h
   ·cases h
   ·split at h
    ·cases h
    ·split at h
     ·cases h
     ·exact IR h
end Go.Vs.YtcjeehebikeghaaGreatDoor.Rc
