/- A part of a proof. No conditions. -/
import Derived.Test.YtcjeehebikeghaaGreatDoorNB
set_option linter.unusedVariables false
set_option linter.unusedSimpArgs false
namespace Go.Vs.Cv
def tA(y:Nat):Bool:=(decide (y%4=0)&&decide (y%100≠0))||decide (y%400=0)
def qx(y:Nat):Nat:=if tA y then 366 else 365
def sf(y m:Nat):Nat:=if m=2 then qx y-337 else if m=4\/m=6\/m=9\/m=11 then 30 else 31
def ahead(y:Nat):Nat:=(y-1)*365+(y-1)/4-(y-1)/100+(y-1)/400
def before(m:Nat):Nat:=match m with
 |0=>0|1=>0|2=>31|3=>59|4=>90|5=>120|6=>151|7=>181|8=>212|9=>243|10=>273|11=>304|12=>334|_=>365
def fe(y m:Nat):Nat:=before m+if 2<m/\tA y=true then 1 else 0
def rq(y m d:Nat):Nat:=ahead y+fe y m+d-1
def jV(n:Nat):Nat×Nat:=
 let a:=n/146097
 let n1:=n%146097
 let c:=min (n1/36524) 3
 let n2:=n1-c*36524
 let q:=n2/1461
 let n3:=n2%1461
 let k:=min (n3/365) 3
 (1+a*400+100*c+4*q+k,n3-k*365)
def zO(y at':Nat):Nat:=if fe y (at'/32+2)<=at' then at'/32+2 else at'/32+1
def rW(n:Nat):Nat×Nat×Nat:=((jV n).1,zO (jV n).1 (jV n).2,(jV n).2-fe (jV n).1 (zO (jV n).1 (jV n).2)+1)
theorem JM(y:Nat):tA y=true↔(y%4=0/\y%100≠0)\/y%400=0:=by simp[tA]
theorem x4{y:Nat}(h:1<=y):ahead (y+1)=ahead y+qx y:=by
 obtain⟨k,rfl⟩:∃k,y=k+1:=⟨y-1,by omega⟩;have a4:((k+1)%4=0/\(k+1)/4=k/4+1)\/((k+1)%4≠0/\(k+1)/4=k/4):=by omega
 have a100:((k+1)%100=0/\(k+1)/100=k/100+1)\/((k+1)%100≠0/\(k+1)/100=k/100):=by omega
 have a400:((k+1)%400=0/\(k+1)/400=k/400+1)\/((k+1)%400≠0/\(k+1)/400=k/400):=by omega
 have b1:(k+1)%100=0->(k+1)%4=0:=by omega
 have b2:(k+1)%400=0->(k+1)%100=0:=by omega
 have b3:k/100<=k/4:=by omega
 have e1:ahead (k+1+1)=(k+1)*365+(k+1)/4-(k+1)/100+(k+1)/400:=rfl;have e2:ahead (k+1)=k*365+k/4-k/100+k/400:=rfl
 have hy:(tA (k+1)=true/\qx (k+1)=366)\/(tA (k+1)=false/\qx (k+1)=365):=by
  unfold qx;cases tA (k+1)<;>simp
 have hl:tA (k+1)=true↔((k+1)%4=0/\(k+1)%100≠0)\/(k+1)%400=0:=JM _;rw[e1,e2];generalize (k+1)/4=A at *;generalize (k+1)/100=B at *;generalize (k+1)/400=C at *;generalize k/4=A' at *;generalize k/100=B' at *;generalize k/400=C' at *;generalize (k+1)%4=x at *;generalize (k+1)%100=y at *;generalize (k+1)%400=z at *;rcases hy with⟨h1,h2⟩|⟨h1,h2⟩
 ·have:=hl.1 h1;rw[h2];omega
 ·have:¬((x=0/\y≠0)\/z=0):=fun e=>by rw[hl.2 e]at h1;cases h1
  rw[h2];omega
theorem AJ{y t:Nat}(h1:1<=y)(ht:t<qx y):jV (ahead y+t)=(y,t):=by
 obtain⟨p,rfl⟩:∃p,y=p+1:=⟨y-1,by omega⟩;have hp:ahead (p+1)=p*365+p/4-p/100+p/400:=rfl;obtain⟨a,ha⟩:∃a,p/400=a:=⟨_,rfl⟩;obtain⟨c,hc⟩:∃c,p%400/100=c:=⟨_,rfl⟩;obtain⟨q,hq⟩:∃q,p%100/4=q:=⟨_,rfl⟩;obtain⟨k,hk⟩:∃k,p%4=k:=⟨_,rfl⟩;have hpe:p=400*a+100*c+4*q+k:=by omega
 have hc4:c<=3:=by omega
 have hq4:q<=24:=by omega
 have hk4:k<=3:=by omega
 have hah:ahead (p+1)=146097*a+36524*c+1461*q+365*k:=by rw[hp];omega
 have ht2:t<365\/(t=365/\k=3/\(q<24\/c=3)):=by
  unfold qx at ht;cases hl:tA (p+1)with
  |false=>rw[hl]at ht;left;simpa using ht
  |true=>
   rw[hl]at ht;have:=(JM _).1 hl;simp at ht;by_cases h365:t<365
   ·exact .inl h365
   ·right;refine⟨by omega,by omega,?_⟩;omega
 rw[hah];simp only[jV];have e1:(146097*a+36524*c+1461*q+365*k+t)/146097=a:=by omega
 have e2:(146097*a+36524*c+1461*q+365*k+t)%146097=36524*c+1461*q+365*k+t:=by omega
 rw[e1,e2];have e3:min ((36524*c+1461*q+365*k+t)/36524) 3=c:=by omega
 rw[e3];have e4:36524*c+1461*q+365*k+t-c*36524=1461*q+365*k+t:=by omega
 rw[e4];have e5:(1461*q+365*k+t)/1461=q:=by omega
 have e6:(1461*q+365*k+t)%1461=365*k+t:=by omega
 rw[e5,e6];have e7:min ((365*k+t)/365) 3=k:=by omega
 rw[e7];exact Prod.ext (by show 1+a*400+100*c+4*q+k=p+1;omega) (by show 365*k+t-k*365=t;omega)
theorem tB{m:Nat}(h1:1<=m)(h2:m<=12):m=1\/m=2\/m=3\/m=4\/m=5\/m=6\/m=7\/m=8\/m=9\/m=10\/m=11\/m=12:=by omega
theorem qy(y:Nat){m:Nat}(h1:1<=m)(h2:m<=12):fe y (m+1)=fe y m+sf y m:=by
 cases hl:tA y<;>rcases tB h1 h2 with rfl|rfl|rfl|rfl|rfl|rfl|rfl|rfl|rfl|rfl|rfl|rfl<;>simp[fe,before,sf,qx,hl]
theorem QO(y:Nat):fe y 13=qx y:=by cases hl:tA y<;>simp[fe,before,qx,hl]
theorem QP{y m t:Nat}(h1:1<=m)(h2:m<=12)(h3:fe y m<=t)(h4:t<fe y (m+1)):zO y t=m:=by
 unfold zO;cases hl:tA y<;>rcases tB h1 h2 with rfl|rfl|rfl|rfl|rfl|rfl|rfl|rfl|rfl|rfl|rfl|rfl<;>simp[fe,before,hl]at h3 h4 <;>
 ·obtain⟨z,hz⟩:∃z,t/32=z:=⟨_,rfl⟩;have hz12:z<=11:=by omega
  have hcs:z=0\/z=1\/z=2\/z=3\/z=4\/z=5\/z=6\/z=7\/z=8\/z=9\/z=10\/z=11:=by omega
  rw[hz];rcases hcs with rfl|rfl|rfl|rfl|rfl|rfl|rfl|rfl|rfl|rfl|rfl|rfl<;>first|omega|(simp[fe,before,hl];omega)
theorem HH(y:Nat){m:Nat}(h1:1<=m)(h2:m<=12):fe y (m+1)<=qx y:=by
 cases hl:tA y<;>rcases tB h1 h2 with rfl|rfl|rfl|rfl|rfl|rfl|rfl|rfl|rfl|rfl|rfl|rfl<;>simp[fe,before,qx,hl]
theorem QQ{y m d:Nat}(hy:1<=y)(h1:1<=m)(h2:m<=12)(hd:1<=d)(hl:d<=sf y m):rW (rq y m d)=(y,m,d):=by
 have hu:=qy y h1 h2;have hle:=HH y h1 h2;have e:rq y m d=ahead y+(fe y m+(d-1)):=by unfold rq;omega
 have hs:=AJ (t:=fe y m+(d-1)) hy (by omega);have hmn:=QP (t:=fe y m+(d-1)) (y:=y) h1 h2 (by omega) (by omega);unfold rW;rw[e,hs];simp only[hmn];have:fe y m+(d-1)-fe y m+1=d:=by omega
 rw[this]
theorem O8(n:Nat):∀Y,n<ahead (Y+1)->∃y t,1<=y/\y<=Y/\t<qx y/\n=ahead y+t:=by
 intro Y
 induction Y with
 |zero=>
  intro h;have e:ahead (0+1)=0:=by decide
  omega
 |succ Y ih=>
  intro h;by_cases h1:n<ahead (Y+1)
  ·obtain⟨y,t,a,b,c,d⟩:=ih h1;exact⟨y,t,a,by omega,c,d⟩
  ·have:=x4 (y:=Y+1) (by omega);exact⟨Y+1,n-ahead (Y+1),by omega,by omega,by omega,by omega⟩
theorem Dg(y t:Nat):∀M,t<fe y (M+1)->M<=12->∃m,1<=m/\m<=M/\fe y m<=t/\t<fe y (m+1)
 |0,h,_=>by simp[fe,before]at h
 |M+1,h,hM=>by
  by_cases h1:t<fe y (M+1)
  ·obtain⟨m,a,b,c,d⟩:=Dg y t M h1 (by omega);exact⟨m,a,by omega,c,d⟩
  ·exact⟨M+1,by omega,by omega,by omega,h⟩
theorem Dh{n:Nat}(h:n<=3652058):∃y m d,1<=y/\y<=9999/\1<=m/\m<=12/\1<=d/\d<=sf y m/\rq y m d=n/\rW n=(y,m,d):=by
 have e:ahead (9999+1)=3652059:=by decide
 obtain⟨y,t,a,b,c,hn⟩:=O8 n 9999 (by omega);obtain⟨m,a2,b2,c2,d2⟩:=Dg y t 12 (by rw[QO];exact c) (by omega);have hu:=qy y a2 b2;have hd:rq y m (t-fe y m+1)=n:=by unfold rq;omega
 refine⟨y,m,t-fe y m+1,a,b,a2,b2,by omega,by omega,hd,?_⟩;have:=QQ (y:=y) (m:=m) (d:=t-fe y m+1) a a2 b2 (by omega) (by omega);rw[hd]at this;exact this
theorem QR{y:Nat}(h:y<=9999):ahead y+qx y<=3652059:=by
 have:∀k,y+k<=10000->1<=y->ahead y+qx y<=ahead (y+1+k):=by
  intro k
  induction k with
  |zero=>intro _ h1;rw[Nat.add_zero,x4 h1];exact Nat.le_refl _
  |succ k ih=>
   intro h2 h1;have:=ih (by omega) h1;have h3:=x4 (y:=y+1+k) (by omega);rw[show y+1+(k+1)=y+1+k+1 by omega,h3];omega
 by_cases h0:1<=y
 ·have:=this (9999-y) (by omega) h0;rw[show y+1+(9999-y)=10000 by omega]at this;have e:ahead 10000=3652059:=by decide
  omega
 ·obtain rfl:y=0:=by omega
  decide
theorem QS{y m d:Nat}(hy:1<=y)(hy2:y<=9999)(h1:1<=m)(h2:m<=12)(hd:1<=d)(hl:d<=sf y m):rq y m d<=3652058:=by
 have hu:=qy y h1 h2;have hle:=HH y h1 h2;have:=QR hy2;unfold rq;omega
end Go.Vs.Cv
namespace Go.Vs.Mo
open Go.Vs.U8 Go.Vs.Nu Go.Vs.Cv
def wide:Nat->Nat->Str
 |0,_=>[]
 |w+1,n=>wide w (n/10)++[UInt8.ofNat (48+n%10)]
theorem iP:∀w n,(wide w n).length=w
 |0,_=>rfl
 |w+1,n=>by simp only[wide,List.length_append,iP w];rfl
theorem kN:∀w n,(wide w n).all dL=true
 |0,_=>rfl
 |w+1,n=>by
  have:=Mf (Qn (n%10) (by omega)).1;simp only[wide,List.all_append,kN w,this];rfl
theorem oh:∀w n,n<10 ^ w->bx 0 (wide w n)=n
 |0,n,h=>by
  have:n=0:=by simpa using h
  rw[this];rfl
 |w+1,n,h=>by
  have ih:=oh w (n/10) (by rw[Nat.pow_succ]at h;omega);simp only[wide];rw[Js,ih,Mg,(Qn (n%10) (by omega)).2];omega
structure Mom where
 k:Int
 s:Int
 deriving DecidableEq
def gE(v:Mom):Int:=if v.k<1\/3<v.k then 11 else if v.s<0\/315537897599<v.s then 8 else if v.k=1/\v.s%86400≠0 then 2 else 0
def dayT(n:Nat):Str:=wide 4 (rW n).1++(wide 2 (rW n).2.1++wide 2 (rW n).2.2)
def Di(t:Nat):Str:=wide 2 (t/3600)++(wide 2 (t/60%60)++wide 2 (t%60))
def dQ(v:Mom):Str:=dayT (v.s/86400).toNat++(if v.k=1 then []else 84::(Di (v.s%86400).toNat++if v.k=3 then [90]else []))
def om(s:Str):Int:=if s.length=8 then 1 else if s.length=15/\s[8]?=some 84 then 2 else if s.length=16/\s[8]?=some 84/\s[15]?=some 90 then 3 else 0
def JN(d t:Str):Nat:=rq (bx 0 (d.take 4)) (bx 0 ((d.drop 4).take 2)) (bx 0 (d.drop 6))*86400+(bx 0 (t.take 2)*3600+bx 0 ((t.drop 2).take 2)*60+bx 0 (t.drop 4))
def mH(y m d:Nat):Bool:=decide (1<=y/\1<=m/\m<=12/\1<=d/\d<=sf y m)
def O9(d t:Str):Bool:=mH (bx 0 (d.take 4)) (bx 0 ((d.drop 4).take 2)) (bx 0 (d.drop 6))&&decide (bx 0 (t.take 2)<=23/\bx 0 ((t.drop 2).take 2)<=59/\bx 0 (t.drop 4)<=59)
def pf(s:Str):Str:=if om s=1 then [48,48,48,48,48,48]else (s.drop 9).take 6
def gq(s:Str):Mom×Int:=
 if om s=0\/(s.take 8).all dL=false\/(pf s).all dL=false then (⟨0,0⟩,4)
 else if O9 (s.take 8) (pf s)=false then (⟨0,0⟩,8)
 else (⟨om s,JN (s.take 8) (pf s)⟩,0)
theorem two(n:Nat):∃a b,wide 2 n=[a,b]:=⟨_,_,rfl⟩
theorem Xm(n:Nat):∃a b c d,wide 4 n=[a,b,c,d]:=⟨_,_,_,_,rfl⟩
theorem uH{v:Mom}(h:gE v=0):1<=v.k/\v.k<=3/\0<=v.s/\v.s<=315537897599/\(v.k=1->v.s%86400=0):=by
 unfold gE at h;split at h
 ·cases h
 ·split at h
  ·cases h
  ·split at h
   ·cases h
   ·next h1 h2 h3=>refine⟨by omega,by omega,by omega,by omega,fun e=>?_⟩;omega
theorem QT{v:Mom}(h:gE v=0):gq (dQ v)=(v,0):=by
 obtain⟨h1,h2,h3,h4,h5⟩:=uH h;obtain⟨k,s⟩:=v;simp only at h1 h2 h3 h4 h5;obtain⟨n,hn⟩:∃n,(s/86400).toNat=n:=⟨_,rfl⟩;obtain⟨t,ht⟩:∃t,(s%86400).toNat=t:=⟨_,rfl⟩;have hs:s=(n*86400+t:Nat):=by omega
 have ht2:t<86400:=by omega
 obtain⟨y,m,d,g1,g2,g3,g4,g5,g6,g7,g8⟩:=Dh (n:=n) (by omega)
 have hml:sf y m<=31:=by
  unfold sf qx
  repeat' split
  all_goals omega
 obtain⟨a1,a2,a3,a4,ha⟩:=Xm y;obtain⟨b1,b2,hb⟩:=two m;obtain⟨c1,c2,hc⟩:=two d;obtain⟨d1,d2,hd⟩:=two (t/3600);obtain⟨e1,e2,he⟩:=two (t/60%60);obtain⟨f1,f2,hf⟩:=two (t%60);have va:=oh 4 y (by omega);have vb:=oh 2 m (by omega);have vc:=oh 2 d (by omega);have vd:=oh 2 (t/3600) (by omega);have ve:=oh 2 (t/60%60) (by omega);have vf:=oh 2 (t%60) (by omega);have la:=kN 4 y;have lb:=kN 2 m;have lc:=kN 2 d;have ld:=kN 2 (t/3600);have le:=kN 2 (t/60%60);have lf:=kN 2 (t%60);have hT:dayT n=[a1,a2,a3,a4,b1,b2,c1,c2]:=by simp only[dayT,g8,ha,hb,hc];rfl
 have hU:Di t=[d1,d2,e1,e2,f1,f2]:=by simp only[Di,hd,he,hf];rfl
 rw[ha]at va la;rw[hb]at vb lb;rw[hc]at vc lc;rw[hd]at vd ld;rw[he]at ve le;rw[hf]at vf lf
 have hday:([a1,a2,a3,a4,b1,b2,c1,c2]:Str).all dL=true:=by
  simp only[List.all_cons,List.all_nil,Bool.and_eq_true]at la lb lc |-;exact⟨la.1,la.2.1,la.2.2.1,la.2.2.2.1,lb.1,lb.2.1,lc.1,lc.2.1,trivial⟩
 have htime:([d1,d2,e1,e2,f1,f2]:Str).all dL=true:=by
  simp only[List.all_cons,List.all_nil,Bool.and_eq_true]at ld le lf |-;exact⟨ld.1,ld.2.1,le.1,le.2.1,lf.1,lf.2.1,trivial⟩
 have hfine:O9 [a1,a2,a3,a4,b1,b2,c1,c2] [d1,d2,e1,e2,f1,f2]=true:=by
  show(mH (bx 0 [a1,a2,a3,a4]) (bx 0 [b1,b2]) (bx 0 [c1,c2])&&decide (bx 0 [d1,d2]<=23/\bx 0 [e1,e2]<=59/\bx 0 [f1,f2]<=59))=true;rw[va,vb,vc,vd,ve,vf,Bool.and_eq_true,mH,decide_eq_true_eq,decide_eq_true_eq];omega
 have hsecs:JN [a1,a2,a3,a4,b1,b2,c1,c2] [d1,d2,e1,e2,f1,f2]=n*86400+t:=by
  show rq (bx 0 [a1,a2,a3,a4]) (bx 0 [b1,b2]) (bx 0 [c1,c2])*86400+(bx 0 [d1,d2]*3600+bx 0 [e1,e2]*60+bx 0 [f1,f2])=n*86400+t;rw[va,vb,vc,vd,ve,vf,g7];omega
 have hk:k=1\/k=2\/k=3:=by omega
 rcases hk with rfl|rfl|rfl
 ·have ht0:t=0:=by have:=h5 rfl;omega
  have e:dQ ⟨1,s⟩=[a1,a2,a3,a4,b1,b2,c1,c2]:=by simp only[dQ,hn,hT];rfl
  have hk:om [a1,a2,a3,a4,b1,b2,c1,c2]=1:=rfl;have hts:pf [a1,a2,a3,a4,b1,b2,c1,c2]=[48,48,48,48,48,48]:=rfl;have htk:([a1,a2,a3,a4,b1,b2,c1,c2]:Str).take 8=[a1,a2,a3,a4,b1,b2,c1,c2]:=rfl
  have hf2:O9 [a1,a2,a3,a4,b1,b2,c1,c2] [48,48,48,48,48,48]=true:=by
   show(mH (bx 0 [a1,a2,a3,a4]) (bx 0 [b1,b2]) (bx 0 [c1,c2])&&true)=true;rw[va,vb,vc,Bool.and_true,mH,decide_eq_true_eq];omega
  have hs2:JN [a1,a2,a3,a4,b1,b2,c1,c2] [48,48,48,48,48,48]=n*86400:=by
   show rq (bx 0 [a1,a2,a3,a4]) (bx 0 [b1,b2]) (bx 0 [c1,c2])*86400+0=n*86400;rw[va,vb,vc,g7];omega
  rw[e];simp only[gq,hk,hts,htk];rw[if_neg (by rw[hday];decide),if_neg (by rw[hf2];decide),hs2];rw[hs,ht0,Nat.add_zero]
 ·have e:dQ ⟨2,s⟩=[a1,a2,a3,a4,b1,b2,c1,c2,84,d1,d2,e1,e2,f1,f2]:=by simp only[dQ,hn,ht,hT,hU];rfl
  have hk:om [a1,a2,a3,a4,b1,b2,c1,c2,84,d1,d2,e1,e2,f1,f2]=2:=rfl;have hts:pf [a1,a2,a3,a4,b1,b2,c1,c2,84,d1,d2,e1,e2,f1,f2]=[d1,d2,e1,e2,f1,f2]:=rfl;have htk:([a1,a2,a3,a4,b1,b2,c1,c2,84,d1,d2,e1,e2,f1,f2]:Str).take 8=[a1,a2,a3,a4,b1,b2,c1,c2]:=rfl;rw[e];simp only[gq,hk,hts,htk];rw[if_neg (by rw[hday,htime];decide),if_neg (by rw[hfine];decide),hsecs,<-hs]
 ·have e:dQ ⟨3,s⟩=[a1,a2,a3,a4,b1,b2,c1,c2,84,d1,d2,e1,e2,f1,f2,90]:=by simp only[dQ,hn,ht,hT,hU];rfl
  have hk:om [a1,a2,a3,a4,b1,b2,c1,c2,84,d1,d2,e1,e2,f1,f2,90]=3:=rfl;have hts:pf [a1,a2,a3,a4,b1,b2,c1,c2,84,d1,d2,e1,e2,f1,f2,90]=[d1,d2,e1,e2,f1,f2]:=rfl;have htk:([a1,a2,a3,a4,b1,b2,c1,c2,84,d1,d2,e1,e2,f1,f2,90]:Str).take 8=[a1,a2,a3,a4,b1,b2,c1,c2]:=rfl;rw[e];simp only[gq,hk,hts,htk];rw[if_neg (by rw[hday,htime];decide),if_neg (by rw[hfine];decide),hsecs,<-hs]
theorem val_bd{s:Str}(h:s.all dL=true):bx 0 s<10 ^ s.length:=by
 have:=Hi s 0 h;omega
theorem QU{s:Str}(h:s.all dL=true)(i j:Nat):((s.drop i).take j).all dL=true:=by
 rw[List.all_eq_true]at h |-;exact fun c hc=>h c (List.mem_of_mem_drop (List.mem_of_mem_take hc))
theorem Mt{s:Str}{v:Mom}{e:Int}(h:gq s=(v,e)):(e=0->gE v=0)/\(e≠0->v=⟨0,0⟩)/\(e=0\/e=4\/e=8):=by
 unfold gq at h;split at h
 ·simp only[Prod.mk.injEq]at h;obtain⟨rfl,rfl⟩:=h;simp
 ·next h1=>
  split at h
  ·simp only[Prod.mk.injEq]at h;obtain⟨rfl,rfl⟩:=h;simp
  ·next h2=>
   simp only[Prod.mk.injEq]at h;obtain⟨rfl,rfl⟩:=h;refine⟨fun _=>?_,by simp,by simp⟩;simp only[not_or,Bool.not_eq_false]at h1 h2;obtain⟨q1,q2,q3⟩:=h1;simp only[O9,Bool.and_eq_true,mH,decide_eq_true_eq]at h2;obtain⟨⟨r1,r2,r3,r4,r5⟩,r6,r7,r8⟩:=h2;have hy:=val_bd (QU q2 0 4);have hy4:(((s.take 8).drop 0).take 4).length<=4:=by rw[List.length_take];omega
   have:bx 0 ((s.take 8).take 4)<10 ^ 4:=Nat.lt_of_lt_of_le hy (Nat.pow_le_pow_right (by omega) hy4);have hd:=QS r1 (by omega) r2 r3 r4 r5
   have hk:om s=1\/om s=2\/om s=3:=by
    unfold om at q1 |-
    repeat' split
    all_goals simp_all
   unfold gE;simp only;have hs:JN (s.take 8) (pf s)<315537897600:=by unfold JN;omega
   rw[if_neg (by omega),if_neg (by omega),if_neg];rintro⟨e1,e2⟩;apply e2;have:pf s=[48,48,48,48,48,48]:=by simp only[pf,e1,if_true]
   unfold JN;rw[this];have z:bx 0 (([48,48,48,48,48,48]:Str).take 2)*3600+bx 0 ((([48,48,48,48,48,48]:Str).drop 2).take 2)*60+bx 0 (([48,48,48,48,48,48]:Str).drop 4)=0:=rfl;rw[z];omega
end Go.Vs.Mo
namespace Go.Vs.YtcjeehebikeghaaGreatDoor.Rc
open Go.Proofs Go.Vs.U8 Go.Vs.Pa Go.Vs.Nu Go.Lib Go.Vs.Mo
structure Ru where
 f:Int
 i:Int
 c:Int
 u:Mom
 l4:List Int
 l5:List Int
 l6:List Int
 l7:List Dn
 l8:List Int
 l9:List Int
 l10:List Int
 l11:List Int
 l12:List Int
 w:Int
 deriving DecidableEq
def Oa:Ru:=⟨0,0,0,⟨0,0⟩,[],[],[],[],[],[],[],[],[],0⟩
def Th:Ru:=⟨0,1,0,⟨0,0⟩,[],[],[],[],[],[],[],[],[],0⟩
def Uq(r:Ru):Nat->List Int
 |4=>r.l4
 |5=>r.l5
 |6=>r.l6
 |8=>r.l8
 |9=>r.l9
 |10=>r.l10
 |11=>r.l11
 |_=>r.l12
def ko(r:Ru)(k:Nat)(l:List Int):Ru:=match k with
 |4=>{r with l4:=l }
 |5=>{r with l5:=l }
 |6=>{r with l6:=l }
 |8=>{r with l8:=l }
 |9=>{r with l9:=l }
 |10=>{r with l10:=l }
 |11=>{r with l11:=l }
 |_=>{r with l12:=l }
/- What the numbers of a part are within. -/
def JO:Nat->Int
 |4=>0
 |5=>0
 |6=>0
 |_=>1
def JP:Nat->Int
 |4=>59
 |5=>59
 |6=>23
 |8=>31
 |9=>366
 |10=>53
 |11=>12
 |12=>366
 |_=>1000
def Oc:Nat->Bool
 |8=>true
 |9=>true
 |10=>true
 |12=>true
 |_=>false
def zP(lo hi:Int)(sg:Bool)(n:Int):Bool:=decide (n < -hi\/(n.natAbs:Int)<lo\/hi<(n.natAbs:Int)\/(n<0/\sg=false))
def Dj(lo hi:Int)(sg:Bool)(l:List Int):Int:=if 12<l.length then 20 else if l.any (zP lo hi sg)=true then 8 else if l.Nodup then 0 else 19
def Dk(x:Dn):Bool:=decide (x.2<0\/6<x.2\/x.1 < -53\/53<x.1)
def Dl(l:List Dn):Int:=if 12<l.length then 20 else if l.any Dk=true then 8 else if l.Nodup then 0 else 19
def Gf(r:Ru):Int:=
 if 6<r.f then 11
 else if r.i<1\/1000<r.i\/r.c<0\/1000<r.c\/r.w<0\/6<r.w then 8
 else if r.u=⟨0,0⟩then 0
 else if r.u.k=0 then 2
 else if gE r.u≠0 then gE r.u
 else if 0<r.c then 9 else 0
def tC(r:Ru)(k:Nat):Int:=if k=7 then Dl r.l7 else Dj (JO k) (JP k) (Oc k) (Uq r k)
def tD:List Int->Int
 |[]=>0
 |e::r=>if e=0 then tD r else e
def tE(l:List Dn):Bool:=l.any fun x=>decide (x.1≠0)
def Ls(r:Ru):Nat:=r.l7.length+r.l4.length+r.l5.length+r.l6.length+r.l8.length+r.l9.length+r.l10.length+r.l11.length
def HI(r:Ru):Prop:=(tE r.l7=true/\(r.f<5\/0<r.l10.length))\/(0<r.l8.length/\r.f=4)\/(0<r.l10.length/\r.f≠6)\/(0<r.l9.length/\(r.f=3\/r.f=4\/r.f=5))\/(0<r.l12.length/\Ls r=0)
instance (r:Ru):Decidable (HI r):=by unfold HI;infer_instance
def dj:List Nat:=[4,5,6,7,8,9,10,11,12]
def mJ(r:Ru):Int:=
 if Gf r≠0 then Gf r
 else if tD (dj.map (tC r))≠0 then tD (dj.map (tC r))
 else if HI r then 9 else 0
def rX:List Str:=[[70,82,69,81],[85,78,84,73,76],[67,79,85,78,84],[73,78,84,69,82,86,65,76],[66,89,83,69,67,79,78,68],[66,89,77,73,78,85,84,69],[66,89,72,79,85,82],[66,89,68,65,89],[66,89,77,79,78,84,72,68,65,89],[66,89,89,69,65,82,68,65,89],[66,89,87,69,69,75,78,79],[66,89,77,79,78,84,72],[66,89,83,69,84,80,79,83],[87,75,83,84]]
def tF:List Str:=[[83,69,67,79,78,68,76,89],[77,73,78,85,84,69,76,89],[72,79,85,82,76,89],[68,65,73,76,89],[87,69,69,75,76,89],[77,79,78,84,72,76,89],[89,69,65,82,76,89]]
def WE(k:Nat):Str:=rX.getD k []
def AK(k:Nat):Str:=tF.getD k []
def eqS(k:Nat)(v:Str):Str:=WE k++61::v
def QV(b:Bool)(k:Nat)(v:Str):List (Nat×Str):=if b=true then [(k,v)]else []
def WF(r:Ru)(k:Nat):Str:=if k=7 then Vo r.l7 else Vn (Uq r k)
def QW(r:Ru):List Nat->List (Nat×Str)
 |[]=>[]
 |k::ks=>QV (decide (WF r k≠[])) k (WF r k)++QW r ks
def fJ(r:Ru):List (Nat×Str):=(0,AK r.f.toNat)::(QV (decide (r.u.k≠0)) 1 (dQ r.u)++(QV (decide (r.c≠0)) 2 (itoa r.c)++(QV (decide (r.i≠1)) 3 (itoa r.i)++(QW r dj++QV (decide (r.w≠0)) 13 (NY r.w)))))
inductive TkR where
 |no (e:Int) (p:List Int)
 |ok (r:Ru)
def AL(r:Ru)(k:Nat)(v:Str):TkR:=
 if k=0 then (if tF.idxOf v<7 then .ok {r with f:=tF.idxOf v } else .no 11 [])
 else if k=1 then (if (gq v).2=0 then .ok {r with u:=(gq v).1 } else .no (gq v).2 [])
 else if k=2 then (if (eH 5 1 1000 false v).2=0 then .ok {r with c:=(eH 5 1 1000 false v).1 } else .no (eH 5 1 1000 false v).2 [])
 else if k=3 then (if (eH 5 1 1000 false v).2=0 then .ok {r with i:=(eH 5 1 1000 false v).1 } else .no (eH 5 1 1000 false v).2 [])
 else if k=7 then (match dC y6 v with
  |.ok l=>.ok {r with l7:=l }
  |.no e p=>.no e [(p:Int)])
 else if k=13 then (if EM v<0 then .no 4 []else .ok {r with w:=EM v })
 else match dC (eH 5 (JO k) (JP k) (Oc k)) v with
  |.ok l=>.ok (ko r k l)
  |.no e p=>.no e [(p:Int)]
inductive RuR where
 |no (e:Int) (p:List Int)
 |ok (r:Ru)
def Ti(N:Nat)(was:List Nat)(r:Ru):RuR:=if 0∈was then (if mJ r=0 then .ok r else .no (mJ r) [(N:Int)])else .no 6 [(N:Int)]
def yh(p:Str):Str:=p.take (p.idxOf 61)
def qz(p:Str):Str:=p.drop (p.idxOf 61+1)
def Dm(p:Str):Nat:=rX.idxOf (yh p)
def jM(N:Nat):List Str->Nat->List Nat->Ru->RuR
 |[],_,was,r=>Ti N was r
 |p::ps,a,was,r=>
  if 61∉p then .no 4 [(a:Int)]
  else if ¬Dm p<14 then .no 11 [(a:Int)]
  else if Dm p∈was then .no 19 [(a:Int)]
  else match AL r (Dm p) (qz p)with
   |.no e q=>.no e (((a+p.idxOf 61+1:Nat):Int)::q)
   |.ok r'=>jM N ps (a+p.length+1) (Dm p::was) r'
def pg(s:Str):RuR:=jM s.length (parts 59 s) 0 [] Th

/- A RULE THAT IS PRINTED IS PARSED AS IT WAS -/
def same(x r:Ru):Nat->Prop
 |0=>x.f=r.f
 |1=>x.u=r.u
 |2=>x.c=r.c
 |3=>x.i=r.i
 |4=>x.l4=r.l4
 |5=>x.l5=r.l5
 |6=>x.l6=r.l6
 |7=>x.l7=r.l7
 |8=>x.l8=r.l8
 |9=>x.l9=r.l9
 |10=>x.l10=r.l10
 |11=>x.l11=r.l11
 |12=>x.l12=r.l12
 |13=>x.w=r.w
 |_=>True
theorem XP{k:Nat}(h:k<14):k=0\/k=1\/k=2\/k=3\/k=4\/k=5\/k=6\/k=7\/k=8\/k=9\/k=10\/k=11\/k=12\/k=13:=by omega
theorem Gg{n:Int}(h:n.natAbs<=99999):(decDigits n.natAbs).length<=5:=Mh 4 n.natAbs (by omega)
theorem itoa_len{n:Int}(h:n.natAbs<=99999):(itoa n).length<=6:=by
 have:=Gg h;unfold itoa;split
 ·simp;omega
 ·have:n.toNat=n.natAbs:=by omega
  rw[this];omega
theorem Tj{c:UInt8}(hc:dL c=false)(w n:Nat):c∉wide w n:=Vm (kN w n) hc
theorem qA(v:Mom):(dQ v).length<=16:=by
 unfold dQ Mo.dayT Di;simp only[List.length_append,iP];split
 ·simp
 ·simp only[List.length_cons,List.length_append,iP];split<;>simp
theorem JQ(c:UInt8)(s:Str):∃p ps,parts c s=p::ps/\c∉p/\p.length<=s.length/\p=s.take p.length/\((ps=[]/\p=s)\/(s[p.length]?=some c/\ps=parts c (s.drop (p.length+1)))):=by
 by_cases h:c∈s
 ·have hl:=List.idxOf_lt_length_iff.2 h;have hg:s[s.idxOf c]?=some c:=by rw[List.getElem?_eq_getElem hl,List.getElem_idxOf]
  have hn:c∉s.take (s.idxOf c):=by
   intro hm;rw[List.mem_take_iff_getElem]at hm;obtain⟨j,hj,e⟩:=hm;have:=List.not_of_lt_findIdx (p:=(· == c)) (xs:=s) (i:=j) (show j<s.idxOf c by omega);simp[e]at this
  have hpl:(s.take (s.idxOf c)).length=s.idxOf c:=by rw[List.length_take];omega
  refine⟨s.take (s.idxOf c),parts c (s.drop (s.idxOf c+1)),Ju hg hn,hn,by omega,by rw[hpl],.inr ⟨by rw[hpl];exact hg,by rw[hpl]⟩⟩
 ·exact⟨s,[],wV h,h,Nat.le_refl _,by rw[List.take_length],.inl ⟨rfl,rfl⟩⟩
def Od(l:List Str):Nat:=(l.map fun x=>x.length+1).sum
theorem zQ(x:Str)(l:List Str):Od (x::l)=x.length+1+Od l:=by simp[Od]
theorem Gh(c:UInt8):∀(n:Nat) (s:Str),s.length<=n->Od (parts c s)=s.length+1
 |n,s,hn=>by
  obtain⟨p,ps,h1,h2,h3,h4,h5⟩:=JQ c s;rw[h1,zQ];rcases h5 with⟨rfl,rfl⟩|⟨h5,h6⟩
  ·rfl
  ·obtain⟨h7,_⟩:=List.getElem?_eq_some_iff.1 h5;cases n with
   |zero=>omega
   |succ n=>
    rw[h6,Gh c n _ (by rw[List.length_drop];omega),List.length_drop];omega
theorem Do:∀ {N:Nat} {ps:List Str} {a:Nat} {was:List Nat} {r x:Ru},jM N ps a was r=.ok x->mJ x=0
 |N,[],a,was,r,x,h=>by
  simp only[jM,Ti]at h;split at h
  ·split at h
   ·next h1=>simp only[RuR.ok.injEq]at h;rw[<-h];exact h1
   ·cases h
  ·cases h
 |N,p::ps,a,was,r,x,h=>by
  simp only[jM]at h;split at h
  ·cases h
  ·split at h
   ·cases h
   ·split at h
    ·cases h
    ·split at h
     ·cases h
     ·exact Do h
end Go.Vs.YtcjeehebikeghaaGreatDoor.Rc
