/- Plain mathematics of the calendar: days and dates are one another's. No conditions. -/
import Derived.Test.YtcjeehebikeghaaGreatDoorNB
set_option linter.unusedVariables false
set_option linter.unusedSimpArgs false
namespace Go.Vs.Cv
def vB(y:Nat):Bool:=(decide (y%4=0)&&decide (y%100≠0))||decide (y%400=0)
def sn(y:Nat):Nat:=if vB y then 366 else 365
def sq(y m:Nat):Nat:=if m=2 then sn y-337 else if m=4∨m=6∨m=9∨m=11 then 30 else 31
def ahead(y:Nat):Nat:=(y-1)*365+(y-1)/4-(y-1)/100+(y-1)/400
def before(m:Nat):Nat:=match m with
 |0=>0|1=>0|2=>31|3=>59|4=>90|5=>120|6=>151|7=>181|8=>212|9=>243|10=>273|11=>304|12=>334|_=>365
def fR(y m:Nat):Nat:=before m+if 2<m∧vB y=true then 1 else 0
def tw(y m d:Nat):Nat:=ahead y+fR y m+d-1
def kS(n:Nat):Nat×Nat:=
 let a:=n/146097
 let n1:=n%146097
 let c:=min (n1/36524) 3
 let n2:=n1-c*36524
 let q:=n2/1461
 let n3:=n2%1461
 let k:=min (n3/365) 3
 (1+a*400+100*c+4*q+k,n3-k*365)
def C4(y at':Nat):Nat:=if fR y (at'/32+2)≤at' then at'/32+2 else at'/32+1
def u9(n:Nat):Nat×Nat×Nat:=((kS n).1,C4 (kS n).1 (kS n).2,(kS n).2-fR (kS n).1 (C4 (kS n).1 (kS n).2)+1)
theorem NX(y:Nat):vB y=true↔(y%4=0∧y%100≠0)∨y%400=0:=by simp[vB]
theorem yV{y:Nat}(h:1≤y):ahead (y+1)=ahead y+sn y:=by
 obtain⟨k,rfl⟩:∃k,y=k+1:=⟨y-1,by omega⟩;have a4:((k+1)%4=0∧(k+1)/4=k/4+1)∨((k+1)%4≠0∧(k+1)/4=k/4):=by omega
 have a100:((k+1)%100=0∧(k+1)/100=k/100+1)∨((k+1)%100≠0∧(k+1)/100=k/100):=by omega
 have a400:((k+1)%400=0∧(k+1)/400=k/400+1)∨((k+1)%400≠0∧(k+1)/400=k/400):=by omega
 have b1:(k+1)%100=0→(k+1)%4=0:=by omega
 have b2:(k+1)%400=0→(k+1)%100=0:=by omega
 have b3:k/100≤k/4:=by omega
 have e1:ahead (k+1+1)=(k+1)*365+(k+1)/4-(k+1)/100+(k+1)/400:=rfl;have e2:ahead (k+1)=k*365+k/4-k/100+k/400:=rfl
 have hy:(vB (k+1)=true∧sn (k+1)=366)∨(vB (k+1)=false∧sn (k+1)=365):=by
  unfold sn;cases vB (k+1)<;>simp
 have hl:vB (k+1)=true↔((k+1)%4=0∧(k+1)%100≠0)∨(k+1)%400=0:=NX _;rw[e1,e2];generalize (k+1)/4=A at *;generalize (k+1)/100=B at *;generalize (k+1)/400=C at *;generalize k/4=A' at *;generalize k/100=B' at *;generalize k/400=C' at *;generalize (k+1)%4=x at *;generalize (k+1)%100=y at *;generalize (k+1)%400=z at *;rcases hy with⟨h1,h2⟩|⟨h1,h2⟩
 ·have:=hl.1 h1;rw[h2];omega
 ·have:¬((x=0∧y≠0)∨z=0):=fun e=>by rw[hl.2 e]at h1;cases h1
  rw[h2];omega
theorem D6{y t:Nat}(h1:1≤y)(ht:t<sn y):kS (ahead y+t)=(y,t):=by
 obtain⟨p,rfl⟩:∃p,y=p+1:=⟨y-1,by omega⟩;have hp:ahead (p+1)=p*365+p/4-p/100+p/400:=rfl;obtain⟨a,ha⟩:∃a,p/400=a:=⟨_,rfl⟩;obtain⟨c,hc⟩:∃c,p%400/100=c:=⟨_,rfl⟩;obtain⟨q,hq⟩:∃q,p%100/4=q:=⟨_,rfl⟩;obtain⟨k,hk⟩:∃k,p%4=k:=⟨_,rfl⟩;have hpe:p=400*a+100*c+4*q+k:=by omega
 have hc4:c≤3:=by omega
 have hq4:q≤24:=by omega
 have hk4:k≤3:=by omega
 have hah:ahead (p+1)=146097*a+36524*c+1461*q+365*k:=by rw[hp];omega
 have ht2:t<365∨(t=365∧k=3∧(q<24∨c=3)):=by
  unfold sn at ht;cases hl:vB (p+1)with
  |false=>rw[hl]at ht;left;simpa using ht
  |true=>
   rw[hl]at ht;have:=(NX _).1 hl;simp at ht;by_cases h365:t<365
   ·exact .inl h365
   ·right;refine⟨by omega,by omega,?_⟩;omega
 rw[hah];simp only[kS];have e1:(146097*a+36524*c+1461*q+365*k+t)/146097=a:=by omega
 have e2:(146097*a+36524*c+1461*q+365*k+t)%146097=36524*c+1461*q+365*k+t:=by omega
 rw[e1,e2];have e3:min ((36524*c+1461*q+365*k+t)/36524) 3=c:=by omega
 rw[e3];have e4:36524*c+1461*q+365*k+t-c*36524=1461*q+365*k+t:=by omega
 rw[e4];have e5:(1461*q+365*k+t)/1461=q:=by omega
 have e6:(1461*q+365*k+t)%1461=365*k+t:=by omega
 rw[e5,e6];have e7:min ((365*k+t)/365) 3=k:=by omega
 rw[e7];exact Prod.ext (by show 1+a*400+100*c+4*q+k=p+1;omega) (by show 365*k+t-k*365=t;omega)
theorem vC{m:Nat}(h1:1≤m)(h2:m≤12):m=1∨m=2∨m=3∨m=4∨m=5∨m=6∨m=7∨m=8∨m=9∨m=10∨m=11∨m=12:=by omega
theorem sr(y:Nat){m:Nat}(h1:1≤m)(h2:m≤12):fR y (m+1)=fR y m+sq y m:=by
 cases hl:vB y<;>rcases vC h1 h2 with rfl|rfl|rfl|rfl|rfl|rfl|rfl|rfl|rfl|rfl|rfl|rfl<;>simp[fR,before,sq,sn,hl]
theorem Vk(y:Nat):fR y 13=sn y:=by cases hl:vB y<;>simp[fR,before,sn,hl]
theorem Vl{y m t:Nat}(h1:1≤m)(h2:m≤12)(h3:fR y m≤t)(h4:t<fR y (m+1)):C4 y t=m:=by
 unfold C4;cases hl:vB y<;>rcases vC h1 h2 with rfl|rfl|rfl|rfl|rfl|rfl|rfl|rfl|rfl|rfl|rfl|rfl<;>simp[fR,before,hl]at h3 h4 <;>
 ·obtain⟨z,hz⟩:∃z,t/32=z:=⟨_,rfl⟩;have hz12:z≤11:=by omega
  have hcs:z=0∨z=1∨z=2∨z=3∨z=4∨z=5∨z=6∨z=7∨z=8∨z=9∨z=10∨z=11:=by omega
  rw[hz];rcases hcs with rfl|rfl|rfl|rfl|rfl|rfl|rfl|rfl|rfl|rfl|rfl|rfl<;>first|omega|(simp[fR,before,hl];omega)
theorem Lo(y:Nat){m:Nat}(h1:1≤m)(h2:m≤12):fR y (m+1)≤sn y:=by
 cases hl:vB y<;>rcases vC h1 h2 with rfl|rfl|rfl|rfl|rfl|rfl|rfl|rfl|rfl|rfl|rfl|rfl<;>simp[fR,before,sn,hl]
theorem Vm{y m d:Nat}(hy:1≤y)(h1:1≤m)(h2:m≤12)(hd:1≤d)(hl:d≤sq y m):u9 (tw y m d)=(y,m,d):=by
 have hu:=sr y h1 h2;have hle:=Lo y h1 h2;have e:tw y m d=ahead y+(fR y m+(d-1)):=by unfold tw;omega
 have hs:=D6 (t:=fR y m+(d-1)) hy (by omega);have hmn:=Vl (t:=fR y m+(d-1)) (y:=y) h1 h2 (by omega) (by omega);unfold u9;rw[e,hs];simp only[hmn];have:fR y m+(d-1)-fR y m+1=d:=by omega
 rw[this]
theorem Sw(n:Nat):∀Y,n<ahead (Y+1)→∃y t,1≤y∧y≤Y∧t<sn y∧n=ahead y+t:=by
 intro Y
 induction Y with
 |zero=>
  intro h;have e:ahead (0+1)=0:=by decide
  omega
 |succ Y ih=>
  intro h;by_cases h1:n<ahead (Y+1)
  ·obtain⟨y,t,a,b,c,d⟩:=ih h1;exact⟨y,t,a,by omega,c,d⟩
  ·have:=yV (y:=Y+1) (by omega);exact⟨Y+1,n-ahead (Y+1),by omega,by omega,by omega,by omega⟩
theorem FS(y t:Nat):∀M,t<fR y (M+1)→M≤12→∃m,1≤m∧m≤M∧fR y m≤t∧t<fR y (m+1)
 |0,h,_=>by simp[fR,before]at h
 |M+1,h,hM=>by
  by_cases h1:t<fR y (M+1)
  ·obtain⟨m,a,b,c,d⟩:=FS y t M h1 (by omega);exact⟨m,a,by omega,c,d⟩
  ·exact⟨M+1,by omega,by omega,by omega,h⟩
theorem FT{n:Nat}(h:n≤3652058):∃y m d,1≤y∧y≤9999∧1≤m∧m≤12∧1≤d∧d≤sq y m∧tw y m d=n∧u9 n=(y,m,d):=by
 have e:ahead (9999+1)=3652059:=by decide
 obtain⟨y,t,a,b,c,hn⟩:=Sw n 9999 (by omega);obtain⟨m,a2,b2,c2,d2⟩:=FS y t 12 (by rw[Vk];exact c) (by omega);have hu:=sr y a2 b2;have hd:tw y m (t-fR y m+1)=n:=by unfold tw;omega
 refine⟨y,m,t-fR y m+1,a,b,a2,b2,by omega,by omega,hd,?_⟩;have:=Vm (y:=y) (m:=m) (d:=t-fR y m+1) a a2 b2 (by omega) (by omega);rw[hd]at this;exact this
theorem Vn{y:Nat}(h:y≤9999):ahead y+sn y≤3652059:=by
 have:∀k,y+k≤10000→1≤y→ahead y+sn y≤ahead (y+1+k):=by
  intro k
  induction k with
  |zero=>intro _ h1;rw[Nat.add_zero,yV h1];exact Nat.le_refl _
  |succ k ih=>
   intro h2 h1;have:=ih (by omega) h1;have h3:=yV (y:=y+1+k) (by omega);rw[show y+1+(k+1)=y+1+k+1 by omega,h3];omega
 by_cases h0:1≤y
 ·have:=this (9999-y) (by omega) h0;rw[show y+1+(9999-y)=10000 by omega]at this;have e:ahead 10000=3652059:=by decide
  omega
 ·obtain rfl:y=0:=by omega
  decide
theorem Vo{y m d:Nat}(hy:1≤y)(hy2:y≤9999)(h1:1≤m)(h2:m≤12)(hd:1≤d)(hl:d≤sq y m):tw y m d≤3652058:=by
 have hu:=sr y h1 h2;have hle:=Lo y h1 h2;have:=Vn hy2;unfold tw;omega
end Go.Vs.Cv
namespace Go.Vs.Mo
open Go.Vs.U8 Go.Vs.Nu Go.Vs.Cv
def wide:Nat→Nat→Str
 |0,_=>[]
 |w+1,n=>wide w (n/10)++[UInt8.ofNat (48+n%10)]
theorem ju:∀w n,(wide w n).length=w
 |0,_=>rfl
 |w+1,n=>by simp only[wide,List.length_append,ju w];rfl
theorem m5:∀w n,(wide w n).all dS=true
 |0,_=>rfl
 |w+1,n=>by
  have:=DY (BT (n%10) (by omega)).1;simp only[wide,List.all_append,m5 w,this];rfl
theorem pL:∀w n,n<10 ^ w→bJ 0 (wide w n)=n
 |0,n,h=>by
  have:n=0:=by simpa using h
  rw[this];rfl
 |w+1,n,h=>by
  have ih:=pL w (n/10) (by rw[Nat.pow_succ]at h;omega);simp only[wide];rw[Fo,ih,DZ,(BT (n%10) (by omega)).2];omega
structure Mom where
 k:Int
 s:Int
 deriving DecidableEq
def i6(v:Mom):Int:=if v.k<1∨3<v.k then 11 else if v.s<0∨315537897599<v.s then 8 else if v.k=1∧v.s%86400≠0 then 2 else 0
def dayT(n:Nat):Str:=wide 4 (u9 n).1++(wide 2 (u9 n).2.1++wide 2 (u9 n).2.2)
def FU(t:Nat):Str:=wide 2 (t/3600)++(wide 2 (t/60%60)++wide 2 (t%60))
def dH(v:Mom):Str:=dayT (v.s/86400).toNat++(if v.k=1 then []else 84::(FU (v.s%86400).toNat++if v.k=3 then [90]else []))
def pM(s:Str):Int:=if s.length=8 then 1 else if s.length=15∧s[8]?=some 84 then 2 else if s.length=16∧s[8]?=some 84∧s[15]?=some 90 then 3 else 0
def NY(d t:Str):Nat:=tw (bJ 0 (d.take 4)) (bJ 0 ((d.drop 4).take 2)) (bJ 0 (d.drop 6))*86400+(bJ 0 (t.take 2)*3600+bJ 0 ((t.drop 2).take 2)*60+bJ 0 (t.drop 4))
def o4(y m d:Nat):Bool:=decide (1≤y∧1≤m∧m≤12∧1≤d∧d≤sq y m)
def Sz(d t:Str):Bool:=o4 (bJ 0 (d.take 4)) (bJ 0 ((d.drop 4).take 2)) (bJ 0 (d.drop 6))&&decide (bJ 0 (t.take 2)≤23∧bJ 0 ((t.drop 2).take 2)≤59∧bJ 0 (t.drop 4)≤59)
def qI(s:Str):Str:=if pM s=1 then [48,48,48,48,48,48]else (s.drop 9).take 6
def i7(s:Str):Mom×Int:=
 if pM s=0∨(s.take 8).all dS=false∨(qI s).all dS=false then (⟨0,0⟩,4)
 else if Sz (s.take 8) (qI s)=false then (⟨0,0⟩,8)
 else (⟨pM s,NY (s.take 8) (qI s)⟩,0)
theorem two(n:Nat):∃a b,wide 2 n=[a,b]:=⟨_,_,rfl⟩
theorem ab3(n:Nat):∃a b c d,wide 4 n=[a,b,c,d]:=⟨_,_,_,_,rfl⟩
theorem wN{v:Mom}(h:i6 v=0):1≤v.k∧v.k≤3∧0≤v.s∧v.s≤315537897599∧(v.k=1→v.s%86400=0):=by
 unfold i6 at h;split at h
 ·cases h
 ·split at h
  ·cases h
  ·split at h
   ·cases h
   ·next h1 h2 h3=>refine⟨by omega,by omega,by omega,by omega,fun e=>?_⟩;omega
theorem NZ{v:Mom}(h:i6 v=0):i7 (dH v)=(v,0):=by
 obtain⟨h1,h2,h3,h4,h5⟩:=wN h;obtain⟨k,s⟩:=v;simp only at h1 h2 h3 h4 h5;obtain⟨n,hn⟩:∃n,(s/86400).toNat=n:=⟨_,rfl⟩;obtain⟨t,ht⟩:∃t,(s%86400).toNat=t:=⟨_,rfl⟩;have hs:s=(n*86400+t:Nat):=by omega
 have ht2:t<86400:=by omega
 obtain⟨y,m,d,g1,g2,g3,g4,g5,g6,g7,g8⟩:=FT (n:=n) (by omega)
 have hml:sq y m≤31:=by
  unfold sq sn
  repeat' split
  all_goals omega
 obtain⟨a1,a2,a3,a4,ha⟩:=ab3 y;obtain⟨b1,b2,hb⟩:=two m;obtain⟨c1,c2,hc⟩:=two d;obtain⟨d1,d2,hd⟩:=two (t/3600);obtain⟨e1,e2,he⟩:=two (t/60%60);obtain⟨f1,f2,hf⟩:=two (t%60);have va:=pL 4 y (by omega);have vb:=pL 2 m (by omega);have vc:=pL 2 d (by omega);have vd:=pL 2 (t/3600) (by omega);have ve:=pL 2 (t/60%60) (by omega);have vf:=pL 2 (t%60) (by omega);have la:=m5 4 y;have lb:=m5 2 m;have lc:=m5 2 d;have ld:=m5 2 (t/3600);have le:=m5 2 (t/60%60);have lf:=m5 2 (t%60);have hT:dayT n=[a1,a2,a3,a4,b1,b2,c1,c2]:=by simp only[dayT,g8,ha,hb,hc];rfl
 have hU:FU t=[d1,d2,e1,e2,f1,f2]:=by simp only[FU,hd,he,hf];rfl
 rw[ha]at va la;rw[hb]at vb lb;rw[hc]at vc lc;rw[hd]at vd ld;rw[he]at ve le;rw[hf]at vf lf
 have hday:([a1,a2,a3,a4,b1,b2,c1,c2]:Str).all dS=true:=by
  simp only[List.all_cons,List.all_nil,Bool.and_eq_true]at la lb lc ⊢;exact⟨la.1,la.2.1,la.2.2.1,la.2.2.2.1,lb.1,lb.2.1,lc.1,lc.2.1,trivial⟩
 have htime:([d1,d2,e1,e2,f1,f2]:Str).all dS=true:=by
  simp only[List.all_cons,List.all_nil,Bool.and_eq_true]at ld le lf ⊢;exact⟨ld.1,ld.2.1,le.1,le.2.1,lf.1,lf.2.1,trivial⟩
 have hfine:Sz [a1,a2,a3,a4,b1,b2,c1,c2] [d1,d2,e1,e2,f1,f2]=true:=by
  show(o4 (bJ 0 [a1,a2,a3,a4]) (bJ 0 [b1,b2]) (bJ 0 [c1,c2])&&decide (bJ 0 [d1,d2]≤23∧bJ 0 [e1,e2]≤59∧bJ 0 [f1,f2]≤59))=true;rw[va,vb,vc,vd,ve,vf,Bool.and_eq_true,o4,decide_eq_true_eq,decide_eq_true_eq];omega
 have hsecs:NY [a1,a2,a3,a4,b1,b2,c1,c2] [d1,d2,e1,e2,f1,f2]=n*86400+t:=by
  show tw (bJ 0 [a1,a2,a3,a4]) (bJ 0 [b1,b2]) (bJ 0 [c1,c2])*86400+(bJ 0 [d1,d2]*3600+bJ 0 [e1,e2]*60+bJ 0 [f1,f2])=n*86400+t;rw[va,vb,vc,vd,ve,vf,g7];omega
 have hk:k=1∨k=2∨k=3:=by omega
 rcases hk with rfl|rfl|rfl
 ·have ht0:t=0:=by have:=h5 rfl;omega
  have e:dH ⟨1,s⟩=[a1,a2,a3,a4,b1,b2,c1,c2]:=by simp only[dH,hn,hT];rfl
  have hk:pM [a1,a2,a3,a4,b1,b2,c1,c2]=1:=rfl;have hts:qI [a1,a2,a3,a4,b1,b2,c1,c2]=[48,48,48,48,48,48]:=rfl;have htk:([a1,a2,a3,a4,b1,b2,c1,c2]:Str).take 8=[a1,a2,a3,a4,b1,b2,c1,c2]:=rfl
  have hf2:Sz [a1,a2,a3,a4,b1,b2,c1,c2] [48,48,48,48,48,48]=true:=by
   show(o4 (bJ 0 [a1,a2,a3,a4]) (bJ 0 [b1,b2]) (bJ 0 [c1,c2])&&true)=true;rw[va,vb,vc,Bool.and_true,o4,decide_eq_true_eq];omega
  have hs2:NY [a1,a2,a3,a4,b1,b2,c1,c2] [48,48,48,48,48,48]=n*86400:=by
   show tw (bJ 0 [a1,a2,a3,a4]) (bJ 0 [b1,b2]) (bJ 0 [c1,c2])*86400+0=n*86400;rw[va,vb,vc,g7];omega
  rw[e];simp only[i7,hk,hts,htk];rw[if_neg (by rw[hday];decide),if_neg (by rw[hf2];decide),hs2];rw[hs,ht0,Nat.add_zero]
 ·have e:dH ⟨2,s⟩=[a1,a2,a3,a4,b1,b2,c1,c2,84,d1,d2,e1,e2,f1,f2]:=by simp only[dH,hn,ht,hT,hU];rfl
  have hk:pM [a1,a2,a3,a4,b1,b2,c1,c2,84,d1,d2,e1,e2,f1,f2]=2:=rfl;have hts:qI [a1,a2,a3,a4,b1,b2,c1,c2,84,d1,d2,e1,e2,f1,f2]=[d1,d2,e1,e2,f1,f2]:=rfl;have htk:([a1,a2,a3,a4,b1,b2,c1,c2,84,d1,d2,e1,e2,f1,f2]:Str).take 8=[a1,a2,a3,a4,b1,b2,c1,c2]:=rfl;rw[e];simp only[i7,hk,hts,htk];rw[if_neg (by rw[hday,htime];decide),if_neg (by rw[hfine];decide),hsecs,←hs]
 ·have e:dH ⟨3,s⟩=[a1,a2,a3,a4,b1,b2,c1,c2,84,d1,d2,e1,e2,f1,f2,90]:=by simp only[dH,hn,ht,hT,hU];rfl
  have hk:pM [a1,a2,a3,a4,b1,b2,c1,c2,84,d1,d2,e1,e2,f1,f2,90]=3:=rfl;have hts:qI [a1,a2,a3,a4,b1,b2,c1,c2,84,d1,d2,e1,e2,f1,f2,90]=[d1,d2,e1,e2,f1,f2]:=rfl;have htk:([a1,a2,a3,a4,b1,b2,c1,c2,84,d1,d2,e1,e2,f1,f2,90]:Str).take 8=[a1,a2,a3,a4,b1,b2,c1,c2]:=rfl;rw[e];simp only[i7,hk,hts,htk];rw[if_neg (by rw[hday,htime];decide),if_neg (by rw[hfine];decide),hsecs,←hs]
theorem val_bd{s:Str}(h:s.all dS=true):bJ 0 s<10 ^ s.length:=by
 have:=KW s 0 h;omega
theorem Vp{s:Str}(h:s.all dS=true)(i j:Nat):((s.drop i).take j).all dS=true:=by
 rw[List.all_eq_true]at h ⊢;exact fun c hc=>h c (List.mem_of_mem_drop (List.mem_of_mem_take hc))
theorem QJ{s:Str}{v:Mom}{e:Int}(h:i7 s=(v,e)):(e=0→i6 v=0)∧(e≠0→v=⟨0,0⟩)∧(e=0∨e=4∨e=8):=by
 unfold i7 at h;split at h
 ·simp only[Prod.mk.injEq]at h;obtain⟨rfl,rfl⟩:=h;simp
 ·next h1=>
  split at h
  ·simp only[Prod.mk.injEq]at h;obtain⟨rfl,rfl⟩:=h;simp
  ·next h2=>
   simp only[Prod.mk.injEq]at h;obtain⟨rfl,rfl⟩:=h;refine⟨fun _=>?_,by simp,by simp⟩;simp only[not_or,Bool.not_eq_false]at h1 h2;obtain⟨q1,q2,q3⟩:=h1;simp only[Sz,Bool.and_eq_true,o4,decide_eq_true_eq]at h2;obtain⟨⟨r1,r2,r3,r4,r5⟩,r6,r7,r8⟩:=h2;have hy:=val_bd (Vp q2 0 4);have hy4:(((s.take 8).drop 0).take 4).length≤4:=by rw[List.length_take];omega
   have:bJ 0 ((s.take 8).take 4)<10 ^ 4:=Nat.lt_of_lt_of_le hy (Nat.pow_le_pow_right (by omega) hy4);have hd:=Vo r1 (by omega) r2 r3 r4 r5
   have hk:pM s=1∨pM s=2∨pM s=3:=by
    unfold pM at q1 ⊢
    repeat' split
    all_goals simp_all
   unfold i6;simp only;have hs:NY (s.take 8) (qI s)<315537897600:=by unfold NY;omega
   rw[if_neg (by omega),if_neg (by omega),if_neg];rintro⟨e1,e2⟩;apply e2;have:qI s=[48,48,48,48,48,48]:=by simp only[qI,e1,if_true]
   unfold NY;rw[this];have z:bJ 0 (([48,48,48,48,48,48]:Str).take 2)*3600+bJ 0 ((([48,48,48,48,48,48]:Str).drop 2).take 2)*60+bJ 0 (([48,48,48,48,48,48]:Str).drop 4)=0:=rfl;rw[z];omega
end Go.Vs.Mo
namespace Go.Vs.YtcjeehebikeghaaGreatDoor.Rc
open Go.Proofs Go.Vs.U8 Go.Vs.Pa Go.Vs.Nu Go.Lib Go.Vs.Mo
structure Ru where
 f:Int
 i:Int
 c:Int
 u:Mom
 l4:List Int
 l5:List Int
 l6:List Int
 l7:List Dn
 l8:List Int
 l9:List Int
 l10:List Int
 l11:List Int
 l12:List Int
 w:Int
 deriving DecidableEq
def OF:Ru:=⟨0,0,0,⟨0,0⟩,[],[],[],[],[],[],[],[],[],0⟩
def XO:Ru:=⟨0,1,0,⟨0,0⟩,[],[],[],[],[],[],[],[],[],0⟩
def Wx(r:Ru):Nat→List Int
 |4=>r.l4
 |5=>r.l5
 |6=>r.l6
 |8=>r.l8
 |9=>r.l9
 |10=>r.l10
 |11=>r.l11
 |_=>r.l12
def lA(r:Ru)(k:Nat)(l:List Int):Ru:=match k with
 |4=>{r with l4:=l }
 |5=>{r with l5:=l }
 |6=>{r with l6:=l }
 |8=>{r with l8:=l }
 |9=>{r with l9:=l }
 |10=>{r with l10:=l }
 |11=>{r with l11:=l }
 |_=>{r with l12:=l }
/- What the numbers of a part are within. -/
def O0:Nat→Int
 |4=>0
 |5=>0
 |6=>0
 |_=>1
def O1:Nat→Int
 |4=>59
 |5=>59
 |6=>23
 |8=>31
 |9=>366
 |10=>53
 |11=>12
 |12=>366
 |_=>1000
def SA:Nat→Bool
 |8=>true
 |9=>true
 |10=>true
 |12=>true
 |_=>false
def C5(lo hi:Int)(sg:Bool)(n:Int):Bool:=decide (n < -hi∨(n.natAbs:Int)<lo∨hi<(n.natAbs:Int)∨(n<0∧sg=false))
def FV(lo hi:Int)(sg:Bool)(l:List Int):Int:=if 12<l.length then 20 else if l.any (C5 lo hi sg)=true then 8 else if l.Nodup then 0 else 19
def FW(x:Dn):Bool:=decide (x.2<0∨6<x.2∨x.1 < -53∨53<x.1)
def FX(l:List Dn):Int:=if 12<l.length then 20 else if l.any FW=true then 8 else if l.Nodup then 0 else 19
def JT(r:Ru):Int:=
 if 6<r.f then 11
 else if r.i<1∨1000<r.i∨r.c<0∨1000<r.c∨r.w<0∨6<r.w then 8
 else if r.u=⟨0,0⟩then 0
 else if r.u.k=0 then 2
 else if i6 r.u≠0 then i6 r.u
 else if 0<r.c then 9 else 0
def vD(r:Ru)(k:Nat):Int:=if k=7 then FX r.l7 else FV (O0 k) (O1 k) (SA k) (Wx r k)
def vE:List Int→Int
 |[]=>0
 |e::r=>if e=0 then vE r else e
def vF(l:List Dn):Bool:=l.any fun x=>decide (x.1≠0)
def PK(r:Ru):Nat:=r.l7.length+r.l4.length+r.l5.length+r.l6.length+r.l8.length+r.l9.length+r.l10.length+r.l11.length
def Lp(r:Ru):Prop:=(vF r.l7=true∧(r.f<5∨0<r.l10.length))∨(0<r.l8.length∧r.f=4)∨(0<r.l10.length∧r.f≠6)∨(0<r.l9.length∧(r.f=3∨r.f=4∨r.f=5))∨(0<r.l12.length∧PK r=0)
instance (r:Ru):Decidable (Lp r):=by unfold Lp;infer_instance
def cE:List Nat:=[4,5,6,7,8,9,10,11,12]
def o5(r:Ru):Int:=
 if JT r≠0 then JT r
 else if vE (cE.map (vD r))≠0 then vE (cE.map (vD r))
 else if Lp r then 9 else 0
def ub:List Str:=[[70,82,69,81],[85,78,84,73,76],[67,79,85,78,84],[73,78,84,69,82,86,65,76],[66,89,83,69,67,79,78,68],[66,89,77,73,78,85,84,69],[66,89,72,79,85,82],[66,89,68,65,89],[66,89,77,79,78,84,72,68,65,89],[66,89,89,69,65,82,68,65,89],[66,89,87,69,69,75,78,79],[66,89,77,79,78,84,72],[66,89,83,69,84,80,79,83],[87,75,83,84]]
def vG:List Str:=[[83,69,67,79,78,68,76,89],[77,73,78,85,84,69,76,89],[72,79,85,82,76,89],[68,65,73,76,89],[87,69,69,75,76,89],[77,79,78,84,72,76,89],[89,69,65,82,76,89]]
def abl(k:Nat):Str:=ub.getD k []
def D7(k:Nat):Str:=vG.getD k []
def eqS(k:Nat)(v:Str):Str:=abl k++61::v
def Vq(b:Bool)(k:Nat)(v:Str):List (Nat×Str):=if b=true then [(k,v)]else []
def abm(r:Ru)(k:Nat):Str:=if k=7 then aae r.l7 else aad (Wx r k)
def Vr(r:Ru):List Nat→List (Nat×Str)
 |[]=>[]
 |k::ks=>Vq (decide (abm r k≠[])) k (abm r k)++Vr r ks
def gp(r:Ru):List (Nat×Str):=(0,D7 r.f.toNat)::(Vq (decide (r.u.k≠0)) 1 (dH r.u)++(Vq (decide (r.c≠0)) 2 (itoa r.c)++(Vq (decide (r.i≠1)) 3 (itoa r.i)++(Vr r cE++Vq (decide (r.w≠0)) 13 (Sm r.w)))))
inductive TkR where
 |no (e:Int) (p:List Int)
 |ok (r:Ru)
def D8(r:Ru)(k:Nat)(v:Str):TkR:=
 if k=0 then (if vG.idxOf v<7 then .ok {r with f:=vG.idxOf v } else .no 11 [])
 else if k=1 then (if (i7 v).2=0 then .ok {r with u:=(i7 v).1 } else .no (i7 v).2 [])
 else if k=2 then (if (dU 5 1 1000 false v).2=0 then .ok {r with c:=(dU 5 1 1000 false v).1 } else .no (dU 5 1 1000 false v).2 [])
 else if k=3 then (if (dU 5 1 1000 false v).2=0 then .ok {r with i:=(dU 5 1 1000 false v).1 } else .no (dU 5 1 1000 false v).2 [])
 else if k=7 then (match dW Af v with
  |.ok l=>.ok {r with l7:=l }
  |.no e p=>.no e [(p:Int)])
 else if k=13 then (if HI v<0 then .no 4 []else .ok {r with w:=HI v })
 else match dW (dU 5 (O0 k) (O1 k) (SA k)) v with
  |.ok l=>.ok (lA r k l)
  |.no e p=>.no e [(p:Int)]
inductive RuR where
 |no (e:Int) (p:List Int)
 |ok (r:Ru)
def XP(N:Nat)(was:List Nat)(r:Ru):RuR:=if 0∈was then (if o5 r=0 then .ok r else .no (o5 r) [(N:Int)])else .no 6 [(N:Int)]
def Aw(p:Str):Str:=p.take (p.idxOf 61)
def ss(p:Str):Str:=p.drop (p.idxOf 61+1)
def FY(p:Str):Nat:=ub.idxOf (Aw p)
def kL(N:Nat):List Str→Nat→List Nat→Ru→RuR
 |[],_,was,r=>XP N was r
 |p::ps,a,was,r=>
  if 61∉p then .no 4 [(a:Int)]
  else if ¬FY p<14 then .no 11 [(a:Int)]
  else if FY p∈was then .no 19 [(a:Int)]
  else match D8 r (FY p) (ss p)with
   |.no e q=>.no e (((a+p.idxOf 61+1:Nat):Int)::q)
   |.ok r'=>kL N ps (a+p.length+1) (FY p::was) r'
def qJ(s:Str):RuR:=kL s.length (parts 59 s) 0 [] XO

/- A RULE THAT IS PRINTED IS PARSED AS IT WAS -/
def same(x r:Ru):Nat→Prop
 |0=>x.f=r.f
 |1=>x.u=r.u
 |2=>x.c=r.c
 |3=>x.i=r.i
 |4=>x.l4=r.l4
 |5=>x.l5=r.l5
 |6=>x.l6=r.l6
 |7=>x.l7=r.l7
 |8=>x.l8=r.l8
 |9=>x.l9=r.l9
 |10=>x.l10=r.l10
 |11=>x.l11=r.l11
 |12=>x.l12=r.l12
 |13=>x.w=r.w
 |_=>True
theorem k14{k:Nat}(h:k<14):k=0∨k=1∨k=2∨k=3∨k=4∨k=5∨k=6∨k=7∨k=8∨k=9∨k=10∨k=11∨k=12∨k=13:=by omega
theorem SB{digits:Nat}{lo hi:Int}{n:Int}{sg:Bool}(h0:sg=false→0≤n)(h1:lo≤n.natAbs)(h2:(n.natAbs:Int)≤hi)(hd:(decDigits n.natAbs).length≤digits):dU digits lo hi sg (itoa n)=(n,0):=by
 cases sg with
 |true=>exact V1 h1 h2 hd
 |false=>
  obtain⟨u,hu⟩:∃u,n.natAbs=u:=⟨_,rfl⟩;have e:n=(u:Int):=by have:=h0 rfl;omega
  rw[hu]at h1 h2 hd;have hall:=Qx u;have hval:=Nz u;have hne:=UN u;rw[e,NH u];simp only[dU,Bool.false_and,Bool.false_eq_true,if_false,false_and];rw[if_neg (by rw[hall];simp only[not_or];exact⟨hne,by omega,by simp⟩),hval,if_neg (by omega)]
theorem wO{n:Int}(h:n.natAbs≤99999):(decDigits n.natAbs).length≤5:=Qy 4 n.natAbs (by omega)
theorem itoa_len{n:Int}(h:n.natAbs≤99999):(itoa n).length≤6:=by
 have:=wO h;unfold itoa;split
 ·simp;omega
 ·have:n.toNat=n.natAbs:=by omega
  rw[this];omega
theorem XQ{c:UInt8}(hc:dS c=false)(w n:Nat):c∉wide w n:=aac (m5 w n) hc
theorem pN(v:Mom):(dH v).length≤16:=by
 unfold dH Mo.dayT FU;simp only[List.length_append,ju];split
 ·simp
 ·simp only[List.length_cons,List.length_append,ju];split<;>simp
theorem O2(c:UInt8)(s:Str):∃p ps,parts c s=p::ps∧c∉p∧p.length≤s.length∧p=s.take p.length∧((ps=[]∧p=s)∨(s[p.length]?=some c∧ps=parts c (s.drop (p.length+1)))):=by
 by_cases h:c∈s
 ·have hl:=List.idxOf_lt_length_iff.2 h;have hg:s[s.idxOf c]?=some c:=by rw[List.getElem?_eq_getElem hl,List.getElem_idxOf]
  have hn:c∉s.take (s.idxOf c):=by
   intro hm;rw[List.mem_take_iff_getElem]at hm;obtain⟨j,hj,e⟩:=hm;have:=List.not_of_lt_findIdx (p:=(· == c)) (xs:=s) (i:=j) (show j<s.idxOf c by omega);simp[e]at this
  have hpl:(s.take (s.idxOf c)).length=s.idxOf c:=by rw[List.length_take];omega
  refine⟨s.take (s.idxOf c),parts c (s.drop (s.idxOf c+1)),NB hg hn,hn,by omega,by rw[hpl],.inr ⟨by rw[hpl];exact hg,by rw[hpl]⟩⟩
 ·exact⟨s,[],yP h,h,Nat.le_refl _,by rw[List.take_length],.inl ⟨rfl,rfl⟩⟩
def SC(l:List Str):Nat:=(l.map fun x=>x.length+1).sum
theorem C6(x:Str)(l:List Str):SC (x::l)=x.length+1+SC l:=by simp[SC]
theorem JU(c:UInt8):∀(n:Nat) (s:Str),s.length≤n→SC (parts c s)=s.length+1
 |n,s,hn=>by
  obtain⟨p,ps,h1,h2,h3,h4,h5⟩:=O2 c s;rw[h1,C6];rcases h5 with⟨rfl,rfl⟩|⟨h5,h6⟩
  ·rfl
  ·obtain⟨h7,_⟩:=List.getElem?_eq_some_iff.1 h5;cases n with
   |zero=>omega
   |succ n=>
    rw[h6,JU c n _ (by rw[List.length_drop];omega),List.length_drop];omega
theorem FZ:∀ {N:Nat} {ps:List Str} {a:Nat} {was:List Nat} {r x:Ru},kL N ps a was r=.ok x→o5 x=0
 |N,[],a,was,r,x,h=>by
  simp only[kL,XP]at h;split at h
  ·split at h
   ·next h1=>simp only[RuR.ok.injEq]at h;rw[←h];exact h1
   ·cases h
  ·cases h
 |N,p::ps,a,was,r,x,h=>by
  simp only[kL]at h;split at h
  ·cases h
  ·split at h
   ·cases h
   ·split at h
    ·cases h
    ·split at h
     ·cases h
     ·exact FZ h
end Go.Vs.YtcjeehebikeghaaGreatDoor.Rc
