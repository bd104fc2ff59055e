/- A part of a proof. No conditions. -/
import Derived.Test.YtnhbiolfmeeniaaGreatDoorNBz
set_option linter.all false
namespace Go.Vs.Cv
def yC(y:Nat):Bool:=(decide (y%4=0)&&decide (y%100≠0))||decide (y%400=0)
def fO(y:Nat):Nat:=if yC y then 366 else 365
def jF(y m:Nat):Nat:=if m=2 then fO y-337 else if m=4\/m=6\/m=9\/m=11 then 30 else 31
def ahead(y:Nat):Nat:=(y-1)*365+(y-1)/4-(y-1)/100+(y-1)/400
def before(m:Nat):Nat:=match m with
 |0=>0|1=>0|2=>31|3=>59|4=>90|5=>120|6=>151|7=>181|8=>212|9=>243|10=>273|11=>304|12=>334|_=>365
def ej(y m:Nat):Nat:=before m+if 2<m/\yC y=true then 1 else 0
def dO(y m d:Nat):Nat:=ahead y+ej y m+d-1
def fP(n:Nat):Nat×Nat:=
 let a:=n/146097
 let b:=n%146097
 let c:=min (b/36524) 3
 let d:=b-c*36524
 let q:=d/1461
 let e:=d%1461
 let k:=min (e/365) 3
 (1+a*400+100*c+4*q+k,e-k*365)
def GF(y at':Nat):Nat:=if ej y (at'/32+2)<=at' then at'/32+2 else at'/32+1
def bn(n:Nat):Nat×Nat×Nat:=((fP n).1,GF (fP n).1 (fP n).2,(fP n).2-ej (fP n).1 (GF (fP n).1 (fP n).2)+1)
theorem TD(y:Nat):yC y=true↔(y%4=0/\y%100≠0)\/y%400=0:=by simp[yC]
theorem jG{y:Nat}(h:1<=y):ahead (y+1)=ahead y+fO y:=by
 obtain⟨k,rfl⟩:∃k,y=k+1:=⟨y-1,by omega⟩;have j:((k+1)%4=0/\(k+1)/4=k/4+1)\/((k+1)%4≠0/\(k+1)/4=k/4):=by omega
 have d:((k+1)%100=0/\(k+1)/100=k/100+1)\/((k+1)%100≠0/\(k+1)/100=k/100):=by omega
 have f:((k+1)%400=0/\(k+1)/400=k/400+1)\/((k+1)%400≠0/\(k+1)/400=k/400):=by omega
 have l:(k+1)%100=0->(k+1)%4=0:=by omega
 have n:(k+1)%400=0->(k+1)%100=0:=by omega
 have o:k/100<=k/4:=by omega
 have e1:ahead (k+1+1)=(k+1)*365+(k+1)/4-(k+1)/100+(k+1)/400:=rfl;have e2:ahead (k+1)=k*365+k/4-k/100+k/400:=rfl
 have i:(yC (k+1)=true/\fO (k+1)=366)\/(yC (k+1)=false/\fO (k+1)=365):=by
  unfold fO;cases yC (k+1)<;>simp
 have g:yC (k+1)=true↔((k+1)%4=0/\(k+1)%100≠0)\/(k+1)%400=0:=TD _;rw[e1,e2];generalize (k+1)/4=A at *;generalize (k+1)/100=B at *;generalize (k+1)/400=C at *;generalize k/4=p at *;generalize k/100=q at *;generalize k/400=s at *;generalize (k+1)%4=x at *;generalize (k+1)%100=y at *;generalize (k+1)%400=z at *;rcases i with⟨a,b⟩|⟨a,b⟩
 .have:=g.1 a;rw[b];omega
 have:¬((x=0/\y≠0)\/z=0):=fun e=>by rw[g.2 e]at a;cases a
 rw[b];omega
theorem qA{y t:Nat}(s:1<=y)(b:t<fO y):fP (ahead y+t)=(y,t):=by
 obtain⟨p,rfl⟩:∃p,y=p+1:=⟨y-1,by omega⟩;have g:ahead (p+1)=p*365+p/4-p/100+p/400:=rfl;obtain⟨a,u⟩:=A_ (p/400);obtain⟨c,v⟩:=A_ (p%400/100);obtain⟨q,w⟩:=A_ (p%100/4);obtain⟨k,x⟩:=A_ (p%4);have h:p=400*a+100*c+4*q+k:=by omega
 have i:c<=3:=by omega
 have j:q<=24:=by omega
 have l:k<=3:=by omega
 have e:ahead (p+1)=146097*a+36524*c+1461*q+365*k:=by rw[g];omega
 have m:t<365\/(t=365/\k=3/\(q<24\/c=3)):=by
  unfold fO at b;cases f:yC (p+1)with
  |false=>rw[f]at b;left;simpa using b
  |true=>
   rw[f]at b;have:=(TD _).1 f;simp at b;by_cases d:t<365
   .exact .inl d
   right;refine⟨by omega,by omega,?_⟩;omega
 rw[e];simp only[fP];have e1:(146097*a+36524*c+1461*q+365*k+t)/146097=a:=by omega
 have e2:(146097*a+36524*c+1461*q+365*k+t)%146097=36524*c+1461*q+365*k+t:=by omega
 rw[e1,e2];have n:min ((36524*c+1461*q+365*k+t)/36524) 3=c:=by omega
 rw[n];have e4:36524*c+1461*q+365*k+t-c*36524=1461*q+365*k+t:=by omega
 rw[e4];have e5:(1461*q+365*k+t)/1461=q:=by omega
 have o:(1461*q+365*k+t)%1461=365*k+t:=by omega
 rw[e5,o];have e7:min ((365*k+t)/365) 3=k:=by omega
 rw[e7];exact Prod.ext (by show 1+a*400+100*c+4*q+k=p+1;omega) (by show 365*k+t-k*365=t;omega)
theorem zA{m:Nat}(a:1<=m)(b:m<=12):m=1\/m=2\/m=3\/m=4\/m=5\/m=6\/m=7\/m=8\/m=9\/m=10\/m=11\/m=12:=by omega
theorem lF(y:Nat){m:Nat}(a:1<=m)(b:m<=12):ej y (m+1)=ej y m+jF y m:=by
 cases e:yC y<;>rcases zA a b with rfl|rfl|rfl|rfl|rfl|rfl|rfl|rfl|rfl|rfl|rfl|rfl<;>simp[ej,before,jF,fO,e]
theorem acr(y:Nat):ej y 13=fO y:=by cases a:yC y<;>simp[ej,before,fO,a]
theorem acs{y m t:Nat}(d:1<=m)(e:m<=12)(f:ej y m<=t)(g:t<ej y (m+1)):GF y t=m:=by
 unfold GF;cases b:yC y<;>rcases zA d e with rfl|rfl|rfl|rfl|rfl|rfl|rfl|rfl|rfl|rfl|rfl|rfl<;>simp[ej,before,b]at f g <;>
 .obtain⟨z,h⟩:=A_ (t/32);have c:z<=11:=by omega
  have a:z=0\/z=1\/z=2\/z=3\/z=4\/z=5\/z=6\/z=7\/z=8\/z=9\/z=10\/z=11:=by omega
  rw[h];rcases a with rfl|rfl|rfl|rfl|rfl|rfl|rfl|rfl|rfl|rfl|rfl|rfl<;>first|omega|(simp[ej,before,b];omega)
theorem EH(y:Nat){m:Nat}(a:1<=m)(b:m<=12):ej y (m+1)<=fO y:=by
 cases c:yC y<;>rcases zA a b with rfl|rfl|rfl|rfl|rfl|rfl|rfl|rfl|rfl|rfl|rfl|rfl<;>simp[ej,before,fO,c]
theorem TE{y m d:Nat}(f:1<=y)(a:1<=m)(b:m<=12)(i:1<=d)(j:d<=jF y m):bn (dO y m d)=(y,m,d):=by
 have k:=lF y a b;have g:=EH y a b;have e:dO y m d=ahead y+(ej y m+(d-1)):=by unfold dO;omega
 have h:=qA (t:=ej y m+(d-1)) f (by omega);have c:=acs (t:=ej y m+(d-1)) (y:=y) a b (by omega) (by omega);unfold bn;rw[e,h];simp only[c];have:ej y m+(d-1)-ej y m+1=d:=by omega
 rw[this]
theorem GG(n:Nat):∀Y,n<ahead (Y+1)->∃y t,1<=y/\y<=Y/\t<fO y/\n=ahead y+t:=by
 intro Y
 induction Y with
 |zero=>
  intro h;have e:ahead (0+1)=0:=by decide
  omega
 |succ Y f=>
  intro h;by_cases g:n<ahead (Y+1)
  .obtain⟨y,t,a,b,c,d⟩:=f g;exact⟨y,t,a,by omega,c,d⟩
  have:=jG (y:=Y+1) (by omega);exact⟨Y+1,n-ahead (Y+1),by omega,by omega,by omega,by omega⟩
theorem L5(y t:Nat):∀M,t<ej y (M+1)->M<=12->∃m,1<=m/\m<=M/\ej y m<=t/\t<ej y (m+1)
 |0,h,_=>by simp[ej,before]at h
 |M+1,h,f=>by
  by_cases e:t<ej y (M+1)
  .obtain⟨m,a,b,c,d⟩:=L5 y t M e (by omega);exact⟨m,a,by omega,c,d⟩
  exact⟨M+1,by omega,by omega,by omega,h⟩
theorem EI{n:Nat}(h:n<=3652058):∃y m d,1<=y/\y<=9999/\1<=m/\m<=12/\1<=d/\d<=jF y m/\dO y m d=n/\bn n=(y,m,d):=by
 have e:ahead (9999+1)=3652059:=by decide
 obtain⟨y,t,a,b,c,j⟩:=GG n 9999 (by omega);obtain⟨m,f,g,k,l⟩:=L5 y t 12 (by rw[acr];exact c) (by omega);have o:=lF y f g;have i:dO y m (t-ej y m+1)=n:=by unfold dO;omega
 refine⟨y,m,t-ej y m+1,a,b,f,g,by omega,by omega,i,?_⟩;have:=TE (y:=y) (m:=m) (d:=t-ej y m+1) a f g (by omega) (by omega);rw[i]at this;exact this
theorem acu{y:Nat}(h:y<=9999):ahead y+fO y<=3652059:=by
 have:∀k,y+k<=10000->1<=y->ahead y+fO y<=ahead (y+1+k):=by
  intro k
  induction k with
  |zero=>intro _ a;rw[Nat.add_zero,jG a];exact Nat.le_refl _
  |succ k b=>
   intro f a;have:=b (by omega) a;have c:=jG (y:=y+1+k) (by omega);rw[show y+1+(k+1)=y+1+k+1 by omega,c];omega
 by_cases d:1<=y
 .have:=this (9999-y) (by omega) d;rw[show y+1+(9999-y)=10000 by omega]at this;have e:ahead 10000=3652059:=by decide
  omega
 obtain rfl:y=0:=by omega
 decide
theorem GH{y m d:Nat}(f:1<=y)(a:y<=9999)(b:1<=m)(c:m<=12)(g:1<=d)(h:d<=jF y m):dO y m d<=3652058:=by
 have i:=lF y b c;have e:=EH y b c;have:=acu a;unfold dO;omega
end Go.Vs.Cv
namespace Go.Vs.Mo
open Go.Vs.U8 Go.Vs.Nu Go.Vs.Cv
def wide:Nat->Nat->Str
 |0,_=>[]
 |w+1,n=>wide w (n/10)++[UInt8.ofNat (48+n%10)]
theorem jh:∀w n,(wide w n).length=w
 |0,_=>rfl
 |w+1,n=>by simp only[wide,List.length_append,jh w];rfl
theorem oI:∀w n,(wide w n).all eI=true
 |0,_=>rfl
 |w+1,n=>by
  have:=J8 (Gr (n%10) (by omega)).1;simp only[wide,List.all_append,oI w,this];rfl
theorem tF:∀w n,n<10 ^ w->bE 0 (wide w n)=n
 |0,n,h=>by
  have:n=0:=by simpa using h
  rw[this];rfl
 |w+1,n,h=>by
  have a:=tF w (n/10) (by rw[Nat.pow_succ]at h;omega);simp only[wide];rw[Kx,a,J9,(Gr (n%10) (by omega)).2];omega
structure Mom where
 k:Int
 s:Int
 deriving DecidableEq
def dm(v:Mom):Int:=if v.k<1\/3<v.k then 11 else if v.s<0\/315537897599<v.s then 8 else if v.k=1/\v.s%86400≠0 then 2 else 0
def dayT(n:Nat):Str:=wide 4 (bn n).1++(wide 2 (bn n).2.1++wide 2 (bn n).2.2)
def BM(t:Nat):Str:=wide 2 (t/3600)++(wide 2 (t/60%60)++wide 2 (t%60))
def dn(v:Mom):Str:=dayT (v.s/86400).toNat++(if v.k=1 then []else 84::(BM (v.s%86400).toNat++if v.k=3 then [90]else []))
def qZ(s:Str):Int:=if s.length=8 then 1 else if s.length=15/\s[8]?=some 84 then 2 else if s.length=16/\s[8]?=some 84/\s[15]?=some 90 then 3 else 0
def secs(d t:Str):Nat:=dO (bE 0 (d.take 4)) (bE 0 ((d.drop 4).take 2)) (bE 0 (d.drop 6))*86400+(bE 0 (t.take 2)*3600+bE 0 ((t.drop 2).take 2)*60+bE 0 (t.drop 4))
def rc(y m d:Nat):Bool:=decide (1<=y/\1<=m/\m<=12/\1<=d/\d<=jF y m)
def Zu(d t:Str):Bool:=rc (bE 0 (d.take 4)) (bE 0 ((d.drop 4).take 2)) (bE 0 (d.drop 6))&&decide (bE 0 (t.take 2)<=23/\bE 0 ((t.drop 2).take 2)<=59/\bE 0 (t.drop 4)<=59)
def uM(s:Str):Str:=if qZ s=1 then [48,48,48,48,48,48]else (s.drop 9).take 6
def iw(s:Str):Mom×Int:=
 if qZ s=0\/(s.take 8).all eI=false\/(uM s).all eI=false then (⟨0,0⟩,4)
 else if Zu (s.take 8) (uM s)=false then (⟨0,0⟩,8)
 else (⟨qZ s,secs (s.take 8) (uM s)⟩,0)
theorem two(n:Nat):∃a b,wide 2 n=[a,b]:=⟨_,_,rfl⟩
theorem aj4(n:Nat):∃a b c d,wide 4 n=[a,b,c,d]:=⟨_,_,_,_,rfl⟩
theorem AQ{v:Mom}(h:dm v=0):1<=v.k/\v.k<=3/\0<=v.s/\v.s<=315537897599/\(v.k=1->v.s%86400=0):=by
 unfold dm at h;split at h
 .cases h
 split at h
 .cases h
 split at h
 .cases h
 next a b c=>refine⟨by omega,by omega,by omega,by omega,fun e=>?_⟩;omega
theorem L6{v:Mom}(h:dm v=0):iw (dn v)=(v,0):=by
 obtain⟨h1,h2,h3,h4,V⟩:=AQ h;obtain⟨k,s⟩:=v;simp only at h1 h2 h3 h4 V;obtain⟨n,M⟩:=A_ ((s/86400).toNat);obtain⟨t,W⟩:=A_ ((s%86400).toNat);have N:s=(n*86400+t:Nat):=by omega
 have a':t<86400:=by omega
 obtain⟨y,m,d,g1,g2,g3,g4,g5,g6,X,g8⟩:=EI (n:=n) (by omega)
 have b':jF y m<=31:=by
  unfold jF fO
  repeat' split
  all_goals omega
 obtain⟨a,b,c,f,Y⟩:=aj4 y;obtain⟨g,i,Z⟩:=two m;obtain⟨j,l,hc⟩:=two d;obtain⟨d1,o,hd⟩:=two (t/3600);obtain⟨e1,e2,he⟩:=two (t/60%60);obtain⟨p,q,hf⟩:=two (t%60);have E:=tF 4 y (by omega);have F:=tF 2 m (by omega);have H:=tF 2 d (by omega);have O:=tF 2 (t/3600) (by omega);have P:=tF 2 (t/60%60) (by omega);have Q:=tF 2 (t%60) (by omega);have D:=oI 4 y;have I:=oI 2 m;have J:=oI 2 d;have K:=oI 2 (t/3600);have le:=oI 2 (t/60%60);have L:=oI 2 (t%60);have hT:dayT n=[a,b,c,f,g,i,j,l]:=by simp only[dayT,g8,Y,Z,hc];rfl
 have hU:BM t=[d1,o,e1,e2,p,q]:=by simp only[BM,hd,he,hf];rfl
 rw[Y]at E D;rw[Z]at F I;rw[hc]at H J;rw[hd]at O K;rw[he]at P le;rw[hf]at Q L
 have u:([a,b,c,f,g,i,j,l]:Str).all eI=true:=by
  simp only[List.all_cons,List.all_nil,Bool.and_eq_true]at D I J |-;exact⟨D.1,D.2.1,D.2.2.1,D.2.2.2.1,I.1,I.2.1,J.1,J.2.1,trivial⟩
 have w:([d1,o,e1,e2,p,q]:Str).all eI=true:=by
  simp only[List.all_cons,List.all_nil,Bool.and_eq_true]at K le L |-;exact⟨K.1,K.2.1,le.1,le.2.1,L.1,L.2.1,trivial⟩
 have x:Zu [a,b,c,f,g,i,j,l] [d1,o,e1,e2,p,q]=true:=by
  show(rc (bE 0 [a,b,c,f]) (bE 0 [g,i]) (bE 0 [j,l])&&decide (bE 0 [d1,o]<=23/\bE 0 [e1,e2]<=59/\bE 0 [p,q]<=59))=true;rw[E,F,H,O,P,Q,Bool.and_eq_true,rc,decide_eq_true_eq,decide_eq_true_eq];omega
 have z:secs [a,b,c,f,g,i,j,l] [d1,o,e1,e2,p,q]=n*86400+t:=by
  show dO (bE 0 [a,b,c,f]) (bE 0 [g,i]) (bE 0 [j,l])*86400+(bE 0 [d1,o]*3600+bE 0 [e1,e2]*60+bE 0 [p,q])=n*86400+t;rw[E,F,H,O,P,Q,X];omega
 have C:k=1\/k=2\/k=3:=by omega
 rcases C with rfl|rfl|rfl
 .have R:t=0:=by have:=V rfl;omega
  have e:dn ⟨1,s⟩=[a,b,c,f,g,i,j,l]:=by simp only[dn,M,hT];rfl
  have C:qZ [a,b,c,f,g,i,j,l]=1:=rfl;have A:uM [a,b,c,f,g,i,j,l]=[48,48,48,48,48,48]:=rfl;have B:([a,b,c,f,g,i,j,l]:Str).take 8=[a,b,c,f,g,i,j,l]:=rfl
  have S:Zu [a,b,c,f,g,i,j,l] [48,48,48,48,48,48]=true:=by
   show(rc (bE 0 [a,b,c,f]) (bE 0 [g,i]) (bE 0 [j,l])&&true)=true;rw[E,F,H,Bool.and_true,rc,decide_eq_true_eq];omega
  have U:secs [a,b,c,f,g,i,j,l] [48,48,48,48,48,48]=n*86400:=by
   show dO (bE 0 [a,b,c,f]) (bE 0 [g,i]) (bE 0 [j,l])*86400+0=n*86400;rw[E,F,H,X];omega
  rw[e];simp only[iw,C,A,B];rw[if_neg (by rw[u];decide),if_neg (by rw[S];decide),U];rw[N,R,Nat.add_zero]
 .have e:dn ⟨2,s⟩=[a,b,c,f,g,i,j,l,84,d1,o,e1,e2,p,q]:=by simp only[dn,M,W,hT,hU];rfl
  have C:qZ [a,b,c,f,g,i,j,l,84,d1,o,e1,e2,p,q]=2:=rfl;have A:uM [a,b,c,f,g,i,j,l,84,d1,o,e1,e2,p,q]=[d1,o,e1,e2,p,q]:=rfl;have B:([a,b,c,f,g,i,j,l,84,d1,o,e1,e2,p,q]:Str).take 8=[a,b,c,f,g,i,j,l]:=rfl;rw[e];simp only[iw,C,A,B];rw[if_neg (by rw[u,w];decide),if_neg (by rw[x];decide),z,<-N]
 have e:dn ⟨3,s⟩=[a,b,c,f,g,i,j,l,84,d1,o,e1,e2,p,q,90]:=by simp only[dn,M,W,hT,hU];rfl
 have C:qZ [a,b,c,f,g,i,j,l,84,d1,o,e1,e2,p,q,90]=3:=rfl;have A:uM [a,b,c,f,g,i,j,l,84,d1,o,e1,e2,p,q,90]=[d1,o,e1,e2,p,q]:=rfl;have B:([a,b,c,f,g,i,j,l,84,d1,o,e1,e2,p,q,90]:Str).take 8=[a,b,c,f,g,i,j,l]:=rfl;rw[e];simp only[iw,C,A,B];rw[if_neg (by rw[u,w];decide),if_neg (by rw[x];decide),z,<-N]
theorem val_bd{s:Str}(h:s.all eI=true):bE 0 s<10 ^ s.length:=by
 have:=Gs s 0 h;omega
theorem acv{s:Str}(h:s.all eI=true)(i j:Nat):((s.drop i).take j).all eI=true:=by
 rw[List.all_eq_true]at h |-;exact fun c a=>h c (List.mem_of_mem_drop (List.mem_of_mem_take a))
theorem Xv{s:Str}{v:Mom}{e:Int}(h:iw s=(v,e)):(e=0->dm v=0)/\(e≠0->v=⟨0,0⟩)/\(e=0\/e=4\/e=8):=by
 unfold iw at h;split at h
 .simp only[Prod.mk.injEq]at h;obtain⟨rfl,rfl⟩:=h;simp
 next c=>
 split at h
 .simp only[Prod.mk.injEq]at h;obtain⟨rfl,rfl⟩:=h;simp
 next a=>
 simp only[Prod.mk.injEq]at h;obtain⟨rfl,rfl⟩:=h;refine⟨fun _=>?_,by simp,by simp⟩;simp only[not_or,Bool.not_eq_false]at c a;obtain⟨d,f,n⟩:=c;simp only[Zu,Bool.and_eq_true,rc,decide_eq_true_eq]at a;obtain⟨⟨g,i,j,k,l⟩,o,p,q⟩:=a;have m:=val_bd (acv f 0 4);have b:(((s.take 8).drop 0).take 4).length<=4:=by rw[List.length_take];omega
 have:bE 0 ((s.take 8).take 4)<10 ^ 4:=Nat.lt_of_lt_of_le m (Nat.pow_le_pow_right (by omega) b);have u:=GH g (by omega) i j k l
 have w:qZ s=1\/qZ s=2\/qZ s=3:=by
  unfold qZ at d |-
  repeat' split
  all_goals simp_all
 unfold dm;simp only;have x:secs (s.take 8) (uM s)<315537897600:=by unfold secs;omega
 rw[if_neg (by omega),if_neg (by omega),if_neg];rintro⟨e1,e2⟩;apply e2;have:uM s=[48,48,48,48,48,48]:=by simp only[uM,e1,if_true]
 unfold secs;rw[this];have z:bE 0 (([48,48,48,48,48,48]:Str).take 2)*3600+bE 0 ((([48,48,48,48,48,48]:Str).drop 2).take 2)*60+bE 0 (([48,48,48,48,48,48]:Str).drop 4)=0:=rfl;rw[z];omega
end Go.Vs.Mo
namespace Go.Vs.Y.Rc
open Go.Proofs Go.Vs.U8 Go.Vs.Pa Go.Vs.Nu Go.Lib Go.Vs.Mo
structure Ru where
 f:Int
 i:Int
 c:Int
 u:Mom
 l4:List Int
 l5:List Int
 l6:List Int
 l7:List Dn
 l8:List Int
 l9:List Int
 l10:List Int
 l11:List Int
 l12:List Int
 w:Int
 deriving DecidableEq
def Zv:Ru:=⟨0,0,0,⟨0,0⟩,[],[],[],[],[],[],[],[],[],0⟩
def Xw:Ru:=⟨0,1,0,⟨0,0⟩,[],[],[],[],[],[],[],[],[],0⟩
def Ns(r:Ru):Nat->List Int
 |4=>r.l4
 |5=>r.l5
 |6=>r.l6
 |8=>r.l8
 |9=>r.l9
 |10=>r.l10
 |11=>r.l11
 |_=>r.l12
def o6(r:Ru)(k:Nat)(l:List Int):Ru:=match k with
 |4=>{r with l4:=l }
 |5=>{r with l5:=l }
 |6=>{r with l6:=l }
 |8=>{r with l8:=l }
 |9=>{r with l9:=l }
 |10=>{r with l10:=l }
 |11=>{r with l11:=l }
 |_=>{r with l12:=l }
def Nt:Nat->Int
 |4=>0
 |5=>0
 |6=>0
 |_=>1
def L7:Nat->Int
 |4=>59
 |5=>59
 |6=>23
 |8=>31
 |9=>366
 |10=>53
 |11=>12
 |12=>366
 |_=>1000
def TF:Nat->Bool
 |8=>true
 |9=>true
 |10=>true
 |12=>true
 |_=>false
def B5(b a:Int)(c:Bool)(n:Int):Bool:=decide (n < -a\/(n.natAbs:Int)<b\/a<(n.natAbs:Int)\/(n<0/\c=false))
def vC(a b:Int)(c:Bool)(l:List Int):Int:=if 12<l.length then 20 else if l.any (B5 a b c)=true then 8 else if l.Nodup then 0 else 19
def EJ(x:Dn):Bool:=decide (x.2<0\/6<x.2\/x.1 < -53\/53<x.1)
def tG(l:List Dn):Int:=if 12<l.length then 20 else if l.any EJ=true then 8 else if l.Nodup then 0 else 19
def yi(r:Ru):Int:=
 if 6<r.f then 11
 else if r.i<1\/1000<r.i\/r.c<0\/1000<r.c\/r.w<0\/6<r.w then 8
 else if r.u=⟨0,0⟩then 0
 else if r.u.k=0 then 2
 else if dm r.u≠0 then dm r.u
 else if 0<r.c then 9 else 0
def rF(r:Ru)(k:Nat):Int:=if k=7 then tG r.l7 else vC (Nt k) (L7 k) (TF k) (Ns r k)
def vD:List Int->Int
 |[]=>0
 |e::r=>if e=0 then vD r else e
def zB(l:List Dn):Bool:=l.any fun x=>decide (x.1≠0)
def W0(r:Ru):Nat:=r.l7.length+r.l4.length+r.l5.length+r.l6.length+r.l8.length+r.l9.length+r.l10.length+r.l11.length
def Nv(r:Ru):Prop:=(zB r.l7=true/\(r.f<5\/0<r.l10.length))\/(0<r.l8.length/\r.f=4)\/(0<r.l10.length/\r.f≠6)\/(0<r.l9.length/\(r.f=3\/r.f=4\/r.f=5))\/(0<r.l12.length/\W0 r=0)
instance (r:Ru):Decidable (Nv r):=by unfold Nv;infer_instance
def bq:List Nat:=[4,5,6,7,8,9,10,11,12]
def cT(r:Ru):Int:=
 if yi r≠0 then yi r
 else if vD (bq.map (rF r))≠0 then vD (bq.map (rF r))
 else if Nv r then 9 else 0
def qB:List Str:=[[70,82,69,81],[85,78,84,73,76],[67,79,85,78,84],[73,78,84,69,82,86,65,76],[66,89,83,69,67,79,78,68],[66,89,77,73,78,85,84,69],[66,89,72,79,85,82],[66,89,68,65,89],[66,89,77,79,78,84,72,68,65,89],[66,89,89,69,65,82,68,65,89],[66,89,87,69,69,75,78,79],[66,89,77,79,78,84,72],[66,89,83,69,84,80,79,83],[87,75,83,84]]
def qC:List Str:=[[83,69,67,79,78,68,76,89],[77,73,78,85,84,69,76,89],[72,79,85,82,76,89],[68,65,73,76,89],[87,69,69,75,76,89],[77,79,78,84,72,76,89],[89,69,65,82,76,89]]
def lL(k:Nat):Str:=qB.getD k []
def lM(k:Nat):Str:=qC.getD k []
def eqS(k:Nat)(v:Str):Str:=lL k++61::v
def kh(b:Bool)(k:Nat)(v:Str):List (Nat×Str):=if b=true then [(k,v)]else []
def qD(r:Ru)(k:Nat):Str:=if k=7 then m7 r.l7 else m6 (Ns r k)
def fA(r:Ru):List Nat->List (Nat×Str)
 |[]=>[]
 |k::a=>kh (decide (qD r k≠[])) k (qD r k)++fA r a
def cU(r:Ru):List (Nat×Str):=(0,lM r.f.toNat)::(kh (decide (r.u.k≠0)) 1 (dn r.u)++(kh (decide (r.c≠0)) 2 (itoa r.c)++(kh (decide (r.i≠1)) 3 (itoa r.i)++(fA r bq++kh (decide (r.w≠0)) 13 (yB r.w)))))
def yj(r:Ru):List Str:=(cU r).map fun p=>eqS p.1 p.2
def dJ(r:Ru):Str:=join (yj r) [59]
inductive TkR where
 |no (e:Int) (p:List Int)
 |ok (r:Ru)
def kN(r:Ru)(k:Nat)(v:Str):TkR:=
 if k=0 then (if qC.idxOf v<7 then .ok {r with f:=qC.idxOf v } else .no 11 [])
 else if k=1 then (if (iw v).2=0 then .ok {r with u:=(iw v).1 } else .no (iw v).2 [])
 else if k=2 then (if (dT 5 1 1000 false v).2=0 then .ok {r with c:=(dT 5 1 1000 false v).1 } else .no (dT 5 1 1000 false v).2 [])
 else if k=3 then (if (dT 5 1 1000 false v).2=0 then .ok {r with i:=(dT 5 1 1000 false v).1 } else .no (dT 5 1 1000 false v).2 [])
 else if k=7 then (match cS tw v with
  |.ok l=>.ok {r with l7:=l }
  |.no e p=>.no e [(p:Int)])
 else if k=13 then (if Iv v<0 then .no 4 []else .ok {r with w:=Iv v })
 else match cS (dT 5 (Nt k) (L7 k) (TF k)) v with
  |.ok l=>.ok (o6 r k l)
  |.no e p=>.no e [(p:Int)]
inductive RuR where
 |no (e:Int) (p:List Int)
 |ok (r:Ru)
def Nw(N:Nat)(a:List Nat)(r:Ru):RuR:=if 0∈a then (if cT r=0 then .ok r else .no (cT r) [(N:Int)])else .no 6 [(N:Int)]
def tH(p:Str):Str:=p.take (p.idxOf 61)
def pq(p:Str):Str:=p.drop (p.idxOf 61+1)
def qE(p:Str):Nat:=qB.idxOf (tH p)
def fj(N:Nat):List Str->Nat->List Nat->Ru->RuR
 |[],_,b,r=>Nw N b r
 |p::ps,a,b,r=>
  if 61∉p then .no 4 [(a:Int)]
  else if ¬qE p<14 then .no 11 [(a:Int)]
  else if qE p∈b then .no 19 [(a:Int)]
  else match kN r (qE p) (pq p)with
   |.no e q=>.no e (((a+p.idxOf 61+1:Nat):Int)::q)
   |.ok c=>fj N ps (a+p.length+1) (qE p::b) c
def iY(s:Str):RuR:=fj s.length (parts 59 s) 0 [] Xw
def same(x r:Ru):Nat->Prop
 |0=>x.f=r.f
 |1=>x.u=r.u
 |2=>x.c=r.c
 |3=>x.i=r.i
 |4=>x.l4=r.l4
 |5=>x.l5=r.l5
 |6=>x.l6=r.l6
 |7=>x.l7=r.l7
 |8=>x.l8=r.l8
 |9=>x.l9=r.l9
 |10=>x.l10=r.l10
 |11=>x.l11=r.l11
 |12=>x.l12=r.l12
 |13=>x.w=r.w
 |_=>True
def L8(x r:Ru):Nat->Ru
 |0=>{x with f:=r.f }
 |1=>{x with u:=r.u }
 |2=>{x with c:=r.c }
 |3=>{x with i:=r.i }
 |4=>{x with l4:=r.l4 }
 |5=>{x with l5:=r.l5 }
 |6=>{x with l6:=r.l6 }
 |7=>{x with l7:=r.l7 }
 |8=>{x with l8:=r.l8 }
 |9=>{x with l9:=r.l9 }
 |10=>{x with l10:=r.l10 }
 |11=>{x with l11:=r.l11 }
 |12=>{x with l12:=r.l12 }
 |13=>{x with w:=r.w }
 |_=>x
theorem Zw{k:Nat}(h:k<14):k=0\/k=1\/k=2\/k=3\/k=4\/k=5\/k=6\/k=7\/k=8\/k=9\/k=10\/k=11\/k=12\/k=13:=by omega
theorem acw(x r:Ru){k:Nat}(h:k<14):same (L8 x r k) r k:=by
 rcases Zw h with rfl|rfl|rfl|rfl|rfl|rfl|rfl|rfl|rfl|rfl|rfl|rfl|rfl|rfl<;>rfl
theorem Zx(x r:Ru){k j:Nat}(h:k<14)(a:j<14)(b:same x r j):same (L8 x r k) r j:=by
 rcases Zw h with rfl|rfl|rfl|rfl|rfl|rfl|rfl|rfl|rfl|rfl|rfl|rfl|rfl|rfl <;>
 rcases Zw a with rfl|rfl|rfl|rfl|rfl|rfl|rfl|rfl|rfl|rfl|rfl|rfl|rfl|rfl<;>first|rfl|exact b
theorem acx{x r:Ru}(h:∀k,k<14->same x r k):x=r:=by
 have e:=h 0 (by omega);have f:=h 1 (by omega);have g:=h 2 (by omega);have i:=h 3 (by omega);have j:=h 4 (by omega);have l:=h 5 (by omega);have m:=h 6 (by omega);have n:=h 7 (by omega);have o:=h 8 (by omega);have p:=h 9 (by omega);have a:=h 10 (by omega);have b:=h 11 (by omega);have c:=h 12 (by omega);have d:=h 13 (by omega);simp only[same]at e f g i j l m n o p a b c d;cases x;cases r;simp only at e f g i j l m n o p a b c d;simp only[e,f,g,i,j,l,m,n,o,p,a,b,c,d]
theorem Xx{k:Nat}(h:k<14):61∉lL k/\59∉lL k/\qB.idxOf (lL k)=k:=by
 rcases Zw h with rfl|rfl|rfl|rfl|rfl|rfl|rfl|rfl|rfl|rfl|rfl|rfl|rfl|rfl<;>decide
theorem ah7{k:Nat}(h:k<14)(v:Str):61∈eqS k v/\(eqS k v).idxOf 61=(lL k).length/\tH (eqS k v)=lL k/\pq (eqS k v)=v/\qE (eqS k v)=k:=by
 obtain⟨a,_,b⟩:=Xx h
 have e:(eqS k v).idxOf 61=(lL k).length:=by
  unfold eqS;rw[List.idxOf_append,if_neg a];simp
 have n:tH (eqS k v)=lL k:=by unfold tH;rw[e];unfold eqS;rw[List.take_left]
 refine⟨by simp[eqS],e,n,?_,?_⟩
 .unfold pq;rw[e];unfold eqS;rw[show(lL k).length+1=(lL k++[61]).length by simp,show lL k++61::v=(lL k++[61])++v by simp,List.drop_left]
 unfold qE;rw[n,b]
theorem EK(N:Nat)(r:Ru):∀(l:List (Nat×Str)) (a:Nat) (b:List Nat) (x:Ru),(∀p∈l,p.1<14/\∀y,kN y p.1 p.2=.ok (L8 y r p.1))->(∀p∈l,p.1∉b)->(l.map (·.1)).Nodup->
  (∀k,k<14->k∈b\/k∉l.map (·.1)->same x r k)->fj N (l.map fun p=>eqS p.1 p.2) a b x=Nw N ((l.map (·.1)).reverse++b) r
 |[],a,b,x,_,_,_,h=>by
  have:x=r:=acx fun k c=>h k c (.inr (by simp))
  simp[fj,this]
 |(k,v)::l,a,b,x,i,m,f,q=>by
  obtain⟨c,n⟩:=i (k,v) (by simp);simp only at c n;obtain⟨e1,e2,s,e4,e5⟩:=ah7 c v;simp only[List.map_cons,fj];rw[if_neg (by simpa using e1),e5,if_neg (by omega),if_neg (m (k,v) (by simp)),e4,n];simp only;rw[List.map_cons,List.nodup_cons]at f
  rw[EK N r l _ (k::b) (L8 x r k) (fun p d=>i p (by simp[d])) (fun p d=>by
   have:=m p (by simp[d]);simp only[List.mem_cons,not_or];refine⟨fun e=>f.1 ?_,this⟩;exact List.mem_map.2 ⟨p,d,e⟩) f.2 (fun j o g=>by
   by_cases e:j=k
   .subst e;exact acw x r c
   refine Zx x r c o (q j o ?_);rcases g with h|h
   .simp only[List.mem_cons]at h;exact .inl (h.resolve_left e)
   exact .inr (by simp only[List.map_cons,List.mem_cons,not_or];exact⟨e,h⟩))]
  simp
theorem GI{digits:Nat}{lo hi:Int}{n:Int}{sg:Bool}(h:sg=false->0<=n)(d:lo<=n.natAbs)(f:(n.natAbs:Int)<=hi)(g:(decDigits n.natAbs).length<=digits):dT digits lo hi sg (itoa n)=(n,0):=by
 cases sg with
 |true=>exact Ti d f g
 |false=>
  obtain⟨u,i⟩:=A_ n.natAbs;have e:n=(u:Int):=by have:=h rfl;omega
  rw[i]at d f g;have a:=xn u;have b:=Ky u;have c:=VM u;rw[e,tv u];simp only[dT,Bool.false_and,Bool.false_eq_true,if_false,false_and];rw[if_neg (by rw[a];simp only[not_or];exact⟨c,by omega,by simp⟩),b,if_neg (by omega)]
theorem W7{b c:Int}{d:Bool}{l:List Int}(e:l≠[])(f:l.Nodup)(g:l.length<=12)(h:∀n∈l,(d=false->0<=n)/\b<=n.natAbs/\(n.natAbs:Int)<=c/\(decDigits n.natAbs).length<=5):cS (dT 5 b c d) (m6 l)=.ok l:=by
 unfold cS m6
 rw[xv (by simp[e]) (by
  intro x i;obtain⟨n,_,rfl⟩:=List.mem_map.1 i
  exact AN _ (by decide) (by decide))]
 have:=Db (one:=dT 5 b c d) (text:=itoa) l 0 [] (fun n a=>GI (h n a).1 (h n a).2.1 (h n a).2.2.1 (h n a).2.2.2) (by simpa using f) (by simpa using g);simpa using this
theorem dw{a b:Int}{c:Bool}{l:List Int}(h:vC a b c l=0):l.length<=12/\l.Nodup/\∀n∈l,(c=false->0<=n)/\a<=n.natAbs/\(n.natAbs:Int)<=b:=by
 unfold vC at h;split at h
 .cases h
 split at h
 .cases h
 next f=>
 split at h
 .next g=>
  refine⟨by omega,g,fun n i=>?_⟩
  have:B5 a b c n=false:=by
   cases e:B5 a b c n with
   |false=>rfl
   |true=>exact absurd (List.any_eq_true.2 ⟨n,i,e⟩) f
  simp only[B5,decide_eq_false_iff_not,not_or,not_and]at this;refine⟨fun e=>?_,by omega,by omega⟩;have:=this.2.2.2;by_cases d:n<0
  .exact absurd e (this d)
  omega
 cases h
theorem qF{l:List Dn}(h:tG l=0):l.length<=12/\l.Nodup/\∀x∈l,-53<=x.1/\x.1<=53/\0<=x.2/\x.2<=6:=by
 unfold tG at h;split at h
 .cases h
 split at h
 .cases h
 next a=>
 split at h
 .next b=>
  refine⟨by omega,b,fun n c=>?_⟩
  have:EJ n=false:=by
   cases e:EJ n with
   |false=>rfl
   |true=>exact absurd (List.any_eq_true.2 ⟨n,c,e⟩) a
  simp only[EJ,decide_eq_false_iff_not,not_or]at this;omega
 cases h
theorem HR:∀ {l:List Int},vD l=0->∀e∈l,e=0
 |[],_,e,a=>by cases a
 |x::r,h,e,a=>by
  simp only[vD]at h;split at h
  .next b=>
   rcases List.mem_cons.1 a with rfl|a
   .exact b
   exact HR h e a
  next b=>exact absurd h b
theorem ei{r:Ru}(h:cT r=0):yi r=0/\(∀k∈bq,rF r k=0)/\¬Nv r:=by
 unfold cT at h;split at h
 .next b=>exact absurd h b
 next b=>
 split at h
 .next d=>exact absurd h d
 next d=>
 split at h
 .cases h
 next e=>
 refine⟨by simpa using b,fun k g=>?_,e⟩;exact HR (by simpa using d) _ (List.mem_map_of_mem g)
theorem iN{r:Ru}(h:yi r=0):r.f<=6/\1<=r.i/\r.i<=1000/\0<=r.c/\r.c<=1000/\0<=r.w/\r.w<=6/\(r.u=⟨0,0⟩\/(r.u.k≠0/\dm r.u=0)):=by
 unfold yi at h;split at h
 .cases h
 split at h
 .cases h
 split at h
 .next d=>refine⟨by omega,by omega,by omega,by omega,by omega,by omega,by omega,.inl d⟩
 split at h
 .cases h
 next e=>
 split at h
 .next b=>exact absurd h b
 next b=>refine⟨by omega,by omega,by omega,by omega,by omega,by omega,by omega,.inr ⟨e,by simpa using b⟩⟩
theorem wE{n:Int}(h:n.natAbs<=99999):(decDigits n.natAbs).length<=5:=xo 4 n.natAbs (by omega)
theorem Zy{l:List Int}(h:m6 l≠[]):l≠[]:=fun e=>h (by rw[e];rfl)
theorem Zz{l:List Dn}(h:m7 l≠[]):l≠[]:=fun e=>h (by rw[e];rfl)
theorem W8{l:List Int}(h:m6 l=[]):l=[]:=by
 cases l with
 |nil=>rfl
 |cons x r=>
  exfalso;have a:=congrArg List.length h;unfold m6 at a;rw[List.map_cons,join_cons,List.length_append]at a;have:=Tk x;have b:_+_=0:=a;omega
theorem acy{x:Dn}(h:0<=x.2/\x.2<=6):2<=(dayT x).length:=by
 obtain⟨_,a⟩:=Jc h.1 h.2;unfold dayT;rw[List.length_append,a];omega
theorem W9{l:List Dn}(b:∀x∈l,0<=x.2/\x.2<=6)(h:m7 l=[]):l=[]:=by
 cases l with
 |nil=>rfl
 |cons x r=>
  exfalso;have a:=congrArg List.length h;unfold m7 at a;rw[List.map_cons,join_cons,List.length_append]at a;have:=acy (b x (by simp));have c:_+_=0:=a;omega
theorem ZA{f:Int}(a:0<=f)(h:f<=6):qC.idxOf (lM f.toNat)=f.toNat/\f.toNat<7:=by
 have:f=0\/f=1\/f=2\/f=3\/f=4\/f=5\/f=6:=by omega
 rcases this with rfl|rfl|rfl|rfl|rfl|rfl|rfl<;>decide
theorem Wa(k:Nat):L7 k<=1000:=by
 unfold L7;split<;>omega
theorem oJ{b:Bool}{k:Nat}{v:Str}{p:Nat×Str}(h:p∈kh b k v):b=true/\p=(k,v):=by
 unfold kh at h;split at h
 .next a=>exact⟨a,by simpa using h⟩
 cases h
theorem Di{r:Ru} : ∀ {a:List Nat} {p:Nat×Str},p∈fA r a->p.1∈a/\p.2=qD r p.1/\qD r p.1≠[]
 |[],p,h=>by cases h
 |k::a,p,h=>by
  simp only[fA,List.mem_append]at h;rcases h with h|h
  .obtain⟨b,rfl⟩:=oJ h;exact⟨by simp,rfl,by simpa using b⟩
  obtain⟨c,d⟩:=Di h;exact⟨by simp[c],d⟩
theorem ZB{r:Ru}{k:Nat}(i:k∈bq)(d:rF r k=0)(f:qD r k≠[])(y:Ru):kN y k (qD r k)=.ok (L8 y r k):=by
 have j:∀ {k:Nat},k∈bq->k≠7->vC (Nt k) (L7 k) (TF k) (Ns r k)=0->m6 (Ns r k)≠[]->cS (dT 5 (Nt k) (L7 k) (TF k)) (m6 (Ns r k))=.ok (Ns r k):=by
  intro k i h d f;obtain⟨a,b,c⟩:=dw d;refine W7 (Zy f) b a fun n o=>?_
  obtain⟨q,s,u⟩:=c n o;have:=Wa k;exact⟨q,s,u,wE (by omega)⟩
 by_cases h:k=7
 .subst h;have d:tG r.l7=0:=d;have f:m7 r.l7≠[]:=f;obtain⟨a,b,c⟩:=qF d;have:=Zj (Zz f) b a c
  show(match cS tw (m7 r.l7)with
  |.ok l=>TkR.ok {y with l7:=l }
  |.no e p=>.no e [(p:Int)])=_
  rw[this];rfl
 have m:vC (Nt k) (L7 k) (TF k) (Ns r k)=0:=by unfold rF at d;rwa[if_neg h]at d
 have e:qD r k=m6 (Ns r k):=by unfold qD;rw[if_neg h]
 rw[e]at f |-;have g:=j i h m f
 have v:k=4\/k=5\/k=6\/k=8\/k=9\/k=10\/k=11\/k=12:=by
  simp only[bq,List.mem_cons,List.not_mem_nil,or_false]at i;omega
 unfold kN;rw[if_neg (by omega),if_neg (by omega),if_neg (by omega),if_neg (by omega),if_neg (by omega),if_neg (by omega),g];rcases v with rfl|rfl|rfl|rfl|rfl|rfl|rfl|rfl<;>rfl
theorem L9{r:Ru}(f:0<=r.f)(h:cT r=0):∀p∈cU r,p.1<14/\∀y,kN y p.1 p.2=.ok (L8 y r p.1):=by
 obtain⟨g,i,_⟩:=ei h;obtain⟨d1,o,d3,d4,q,d6,j,d8⟩:=iN g;intro p a;simp only[cU,List.mem_cons,List.mem_append]at a;rcases a with rfl|a|a|a|a|a
 .refine⟨by simp,fun y=>?_⟩;obtain⟨w1,k⟩:=ZA f d1;simp only[kN,w1,if_true];rw[if_pos k];simp only[L8];congr 2;omega
 .obtain⟨c,rfl⟩:=oJ a;refine⟨by simp,fun y=>?_⟩;have b:r.u.k≠0:=by simpa using c
  have hm:dm r.u=0:=by
   rcases d8 with e|e
   .rw[e]at b;exact absurd rfl b
   exact e.2
  have:=L6 hm;simp[kN,this,L8]
 .obtain⟨c,rfl⟩:=oJ a;refine⟨by simp,fun y=>?_⟩;have b:r.c≠0:=by simpa using c
  have:=GI (digits:=5) (lo:=1) (hi:=1000) (n:=r.c) (sg:=false) (fun _=>d4) (by omega) (by omega) (wE (by omega));simp[kN,this,L8]
 .obtain⟨c,rfl⟩:=oJ a;refine⟨by simp,fun y=>?_⟩;have:=GI (digits:=5) (lo:=1) (hi:=1000) (n:=r.i) (sg:=false) (fun _=>by omega) (by omega) (by omega) (wE (by omega));simp[kN,this,L8]
 .obtain⟨b,m,d⟩:=Di a;refine⟨?_,fun y=>?_⟩
  .simp only[bq,List.mem_cons,List.not_mem_nil,or_false]at b;omega
  rw[m];exact ZB b (i _ b) d y
 obtain⟨c,rfl⟩:=oJ a;refine⟨by simp,fun y=>?_⟩;obtain⟨w1,_⟩:=Jc d6 j;simp only[kN,w1,L8];simp;omega
theorem zC(b:Bool)(k:Nat)(v:Str)(l:List Nat):((kh b k v).map (·.1)++l).Sublist (k::l):=by
 unfold kh;split
 .exact List.Sublist.refl _
 exact List.sublist_cons_self _ _
theorem La(r:Ru)(l:List Nat):∀a,((fA r a).map (·.1)++l).Sublist (a++l)
 |[]=>List.Sublist.refl _
 |k::a=>by
  simp only[fA,List.map_append,List.append_assoc,List.cons_append];exact(zC _ _ _ _).trans ((La r l a).cons_cons k)
theorem Pk(r:Ru):((cU r).map (·.1)).Sublist [0,1,2,3,4,5,6,7,8,9,10,11,12,13]:=by
 simp only[cU,List.map_cons,List.map_append];refine List.Sublist.cons_cons 0 ((zC _ _ _ _).trans (List.Sublist.cons_cons 1 ((zC _ _ _ _).trans (List.Sublist.cons_cons 2 ((zC _ _ _ _).trans (List.Sublist.cons_cons 3 ?_))))));refine(La r _ bq).trans ?_
 have:((kh (decide (r.w≠0)) 13 (yB r.w)).map (·.1)).Sublist [13]:=by
  have:=zC (decide (r.w≠0)) 13 (yB r.w) [];simpa using this
 exact List.Sublist.append_left this bq
theorem TG(r:Ru):((cU r).map (·.1)).Nodup:=(Pk r).nodup (by decide)
theorem EL{b:Bool}{k:Nat}{v:Str}(h:k∉(kh b k v).map (·.1)):b=false:=by
 cases b with
 |false=>rfl
 |true=>exact absurd (by simp[kh]) h
theorem Dj{r:Ru}{k:Nat} : ∀ {a:List Nat},k∈a->k∉(fA r a).map (·.1)->qD r k=[]
 |[],h,_=>by cases h
 |j::a,h,b=>by
  simp only[fA,List.map_append,List.mem_append,not_or]at b;rcases List.mem_cons.1 h with rfl|h
  .simpa using EL b.1
  exact Dj h b.2
theorem Wd{r:Ru}(u:0<=r.f)(h:cT r=0):∀k,k<14->k∉(cU r).map (·.1)->same Xw r k:=by
 obtain⟨i,j,_⟩:=ei h;obtain⟨d1,v,d3,d4,w,d6,y,d8⟩:=iN i;intro k f d;simp only[cU,List.map_cons,List.map_append,List.mem_cons,List.mem_append,not_or]at d;obtain⟨l,m,n,o,a,p⟩:=d
 have b:∀k∈bq,k∉(fA r bq).map (·.1)->k≠7->Ns r k=[]:=by
  intro k f d q;have:=Dj f d;unfold qD at this;rw[if_neg q]at this;exact W8 this
 rcases Zw f with rfl|rfl|rfl|rfl|rfl|rfl|rfl|rfl|rfl|rfl|rfl|rfl|rfl|rfl
 .exact absurd rfl l
 .have:=EL m;simp at this;rcases d8 with e|e
  .exact e.symm
  exact absurd this e.1
 .have:=EL n;simp at this;exact this.symm
 .have:=EL o;simp at this;exact this.symm
 .exact(b 4 (by simp[bq]) a (by omega)).symm
 .exact(b 5 (by simp[bq]) a (by omega)).symm
 .exact(b 6 (by simp[bq]) a (by omega)).symm
 .have e:=Dj (k:=7) (by simp[bq]) a;have s:tG r.l7=0:=j 7 (by simp[bq]);obtain⟨_,_,c⟩:=qF s;exact(W9 (fun x g=>⟨(c x g).2.2.1,(c x g).2.2.2⟩) e).symm
 .exact(b 8 (by simp[bq]) a (by omega)).symm
 .exact(b 9 (by simp[bq]) a (by omega)).symm
 .exact(b 10 (by simp[bq]) a (by omega)).symm
 .exact(b 11 (by simp[bq]) a (by omega)).symm
 .exact(b 12 (by simp[bq]) a (by omega)).symm
 have:=EL p;simp at this;exact this.symm
theorem We{r:Ru}(c:0<=r.f)(h:cT r=0){l:List (Nat×Str)}(d:l.Perm (cU r))(N:Nat):fj N (l.map fun p=>eqS p.1 p.2) 0 [] Xw=.ok r:=by
 have hm:=d.map (·.1)
 rw[EK N r l 0 [] Xw (fun p a=>L9 c h p (d.mem_iff.1 a)) (fun p _=>by simp) (hm.nodup_iff.2 (TG r)) (fun k e b=>by
  rcases b with h|f
  .cases h
  exact Wd c h k e (fun g=>f (hm.mem_iff.2 g)))]
 have:0∈(l.map (·.1)).reverse++[]:=by
  rw[List.append_nil,List.mem_reverse,hm.mem_iff];simp[cU]
 unfold Nw;rw[if_pos this,if_pos h]
theorem QY{c s:UInt8}(a:c≠s):∀ {l:List Str},(∀x∈l,c∉x)->c∉join l [s]
 |[],_=>by rw[join_nil];simp
 |x::r,h=>by
  rw[join_cons,List.mem_append,not_or];refine⟨h x (by simp),?_⟩;unfold joinTail;simp only[List.mem_flatten,List.mem_map,not_exists,not_and];rintro y ⟨z,b,rfl⟩;simp only[List.cons_append,List.nil_append,List.mem_cons,not_or];exact⟨a,h z (by simp[b])⟩
theorem EM{b:Nat}{c:UInt8} : ∀ {l:List Str},(∀x∈l,x.length<=b)->(join l [c]).length<=l.length*(b+1)
 |[],_=>by rw[join_nil];simp
 |[x],h=>by rw[join_one];have:=h x (by simp);simp;omega
 |x::y::r,h=>by
  have d:=EM (c:=c) (l:=y::r) (fun z a=>h z (by simp at a |-;exact .inr a));have f:=h x (by simp)
  have e:join (x::y::r) [c]=x++c::join (y::r) [c]:=by
   rw[join_cons,join_cons];simp[joinTail]
  rw[e,List.length_append,List.length_cons];simp only[List.length_cons]at d |-;have:(r.length+1+1)*(b+1)=(r.length+1)*(b+1)+(b+1):=Nat.succ_mul _ _;omega
theorem itoa_len{n:Int}(h:n.natAbs<=99999):(itoa n).length<=6:=by
 have:=wE h;unfold itoa;split
 .simp;omega
 have:n.toNat=n.natAbs:=by omega
 rw[this];omega
theorem Xy{c:UInt8}(a:eI c=false)(w n:Nat):c∉wide w n:=VT (oI w n) a
theorem afu(v:Mom):59∉dn v:=by
 have h:=fun w n=>Xy (c:=59) (by decide) w n
 unfold dn Mo.dayT BM;simp only[List.mem_append,not_or];refine⟨⟨h _ _,h _ _,h _ _⟩,?_⟩;split
 .simp
 simp only[List.mem_cons,List.mem_append,not_or];refine⟨by decide,⟨h _ _,h _ _,h _ _⟩,?_⟩;split<;>simp
theorem kO(v:Mom):(dn v).length<=16:=by
 unfold dn Mo.dayT BM;simp only[List.length_append,jh];split
 .simp
 simp only[List.length_cons,List.length_append,jh];split<;>simp
theorem Xz(f:Nat):59∉lM f/\(lM f).length<=8:=by
 by_cases h:f<7
 .have:f=0\/f=1\/f=2\/f=3\/f=4\/f=5\/f=6:=by omega
  rcases this with rfl|rfl|rfl|rfl|rfl|rfl|rfl<;>decide
 have e:lM f=[]:=by
  unfold lM;rw[List.getD_eq_getElem?_getD,List.getElem?_eq_none (by simp[qC];omega)];rfl
 rw[e];simp
theorem TH(d:Int):59∉yB d:=by
 unfold yB;split
 .simp
 intro h;have:=List.mem_of_mem_take h;have:=List.mem_of_mem_drop this;revert this;decide
theorem QZ(d:Int):(yB d).length<=2:=by
 unfold yB;split
 .simp
 rw[List.length_take];omega
theorem afv(x:Dn):59∉dayT x:=by
 simp only[dayT,List.mem_append,not_or];refine⟨?_,TH _⟩;split
 .simp
 exact AN _ (by decide) (by decide)
theorem acz{x:Dn}(h:x.1.natAbs<=99999):(dayT x).length<=8:=by
 have a:=itoa_len h;have d:=QZ x.2;simp only[dayT,List.length_append];split
 .simp;omega
 omega
theorem ZC(l:List Int):59∉m6 l:=QY (by decide) fun x a=>by
 obtain⟨n,_,rfl⟩:=List.mem_map.1 a;exact AN _ (by decide) (by decide)
theorem ZD(l:List Dn):59∉m7 l:=QY (by decide) fun x a=>by
 obtain⟨n,_,rfl⟩:=List.mem_map.1 a;exact afv _
theorem Lb{l:List Int}(h:∀n∈l,n.natAbs<=99999):(m6 l).length<=l.length*7:=by
 have:=EM (b:=6) (c:=44) (l:=l.map itoa) (fun x a=>by
  obtain⟨n,d,rfl⟩:=List.mem_map.1 a
  exact itoa_len (h n d))
 simpa[m6]using this
theorem Lc{l:List Dn}(h:∀n∈l,n.1.natAbs<=99999):(m7 l).length<=l.length*9:=by
 have:=EM (b:=8) (c:=44) (l:=l.map dayT) (fun x a=>by
  obtain⟨n,d,rfl⟩:=List.mem_map.1 a
  exact acz (h n d))
 simpa[m7]using this
theorem TI{k:Nat}(h:k<14):(lL k).length<=10:=by
 rcases Zw h with rfl|rfl|rfl|rfl|rfl|rfl|rfl|rfl|rfl|rfl|rfl|rfl|rfl|rfl<;>decide
theorem ah8{r:Ru}(o:0<=r.f)(h:cT r=0):∀p∈cU r,p.1<14/\59∉p.2/\p.2.length<=120:=by
 obtain⟨q,m,_⟩:=ei h;obtain⟨d1,w,d3,d4,y,d6,z,d8⟩:=iN q;intro p d;have g:=(L9 o h p d).1;refine⟨g,?_⟩;simp only[cU,List.mem_cons,List.mem_append]at d;rcases d with rfl|d|d|d|d|d
 .have:=Xz r.f.toNat;exact⟨this.1,by have:=this.2;simp only;omega⟩
 .obtain⟨i,rfl⟩:=oJ d;exact⟨afu _,by have:=kO r.u;simp only;omega⟩
 .obtain⟨i,rfl⟩:=oJ d;exact⟨AN _ (by decide) (by decide),by have:=itoa_len (n:=r.c) (by omega);simp only;omega⟩
 .obtain⟨i,rfl⟩:=oJ d;exact⟨AN _ (by decide) (by decide),by have:=itoa_len (n:=r.i) (by omega);simp only;omega⟩
 .obtain⟨s,u,v⟩:=Di d;rw[u];by_cases j:p.1=7
  .have f:tG r.l7=0:=m 7 (by simp[bq]);obtain⟨a,b,c⟩:=qF f;have e:qD r p.1=m7 r.l7:=by unfold qD;rw[if_pos j]
   rw[e];have:=Lc (l:=r.l7) (fun x k=>by have:=c x k;omega);exact⟨ZD _,by omega⟩
  have f:=m _ s;unfold rF at f;rw[if_neg j]at f;obtain⟨a,b,c⟩:=dw f;have e:qD r p.1=m6 (Ns r p.1):=by unfold qD;rw[if_neg j]
  rw[e];have A:=Wa p.1;have:=Lb (l:=Ns r p.1) (fun x k=>by have:=(c x k).2.2;omega);exact⟨ZC _,by omega⟩
 obtain⟨i,rfl⟩:=oJ d;exact⟨TH _,by have:=QZ r.w;simp only;omega⟩
theorem TJ{r:Ru}(d:0<=r.f)(h:cT r=0):∀x∈yj r,59∉x/\x.length<=131:=by
 intro x e;obtain⟨p,f,rfl⟩:=List.mem_map.1 e;obtain⟨b,g,i⟩:=ah8 d h p f;have j:=TI b;obtain⟨_,a,_⟩:=Xx b;unfold eqS;refine⟨?_,by rw[List.length_append,List.length_cons];omega⟩;simp only[List.mem_append,List.mem_cons,not_or];exact⟨a,by decide,g⟩
theorem acA(r:Ru):yj r≠[]:=by simp[yj,cU]
theorem Pl(r:Ru):(yj r).length<=14:=by
 have:=(Pk r).length_le;simpa[yj]using this
theorem Wf{r:Ru}(a:0<=r.f)(h:cT r=0):(dJ r).length<=1848:=by
 have e:=EM (c:=59) (fun x b=>(TJ a h x b).2);have d:=Pl r;have:=Nat.mul_le_mul_right 132 d;unfold dJ;omega
theorem Ld{r:Ru}(a:0<=r.f)(h:cT r=0):iY (dJ r)=.ok r:=by
 unfold iY dJ;rw[xv (acA r) (fun x b=>(TJ a h x b).1)];exact We a h (List.Perm.refl _) _
theorem HS(c:UInt8)(s:Str):∃p ps,parts c s=p::ps/\c∉p/\p.length<=s.length/\p=s.take p.length/\((ps=[]/\p=s)\/(s[p.length]?=some c/\ps=parts c (s.drop (p.length+1)))):=by
 by_cases h:c∈s
 .have f:=List.idxOf_lt_length_iff.2 h;have b:s[s.idxOf c]?=some c:=by rw[List.getElem?_eq_getElem f,List.getElem_idxOf]
  have d:c∉s.take (s.idxOf c):=by
   intro hm;rw[List.mem_take_iff_getElem]at hm;obtain⟨j,g,e⟩:=hm;have:=List.not_of_lt_findIdx (p:=(· == c)) (xs:=s) (i:=j) (show j<s.idxOf c by omega);simp[e]at this
  have a:(s.take (s.idxOf c)).length=s.idxOf c:=by rw[List.length_take];omega
  refine⟨s.take (s.idxOf c),parts c (s.drop (s.idxOf c+1)),KF b d,d,by omega,by rw[a],.inr ⟨by rw[a];exact b,by rw[a]⟩⟩
 exact⟨s,[],tq h,h,Nat.le_refl _,by rw[List.take_length],.inl ⟨rfl,rfl⟩⟩
def Wg(l:List Str):Nat:=(l.map fun x=>x.length+1).sum
theorem AR(x:Str)(l:List Str):Wg (x::l)=x.length+1+Wg l:=by simp[Wg]
theorem GJ(c:UInt8):∀(n:Nat) (s:Str),s.length<=n->Wg (parts c s)=s.length+1
 |n,s,f=>by
  obtain⟨p,ps,b,g,h,i,a⟩:=HS c s;rw[b,AR];rcases a with⟨rfl,rfl⟩|⟨a,e⟩
  .rfl
  obtain⟨j,_⟩:=List.getElem?_eq_some_iff.1 a;cases n with
  |zero=>omega
  |succ n=>
   rw[e,GJ c n _ (by rw[List.length_drop];omega),List.length_drop];omega
theorem Le{c:Type} [DecidableEq c]{one:Str->c×Int} : ∀ {l:List Str} {a:Nat} {b:List c} {e:Int} {p:Nat},fL one l a b=.no e p->e≠0/\p+1<=a+Wg l
 |[],a,b,e,p,h=>by simp[fL]at h
 |x::r,a,b,e,p,h=>by
  rw[AR];simp only[fL]at h;split at h
  .simp only[GotE.no.injEq]at h;omega
  split at h
  .next d=>simp only[GotE.no.injEq]at h;obtain⟨rfl,rfl⟩:=h;exact⟨d,by omega⟩
  split at h
  .simp only[GotE.no.injEq]at h;omega
  have:=Le h;exact⟨this.1,by omega⟩
theorem Pn{a:Type} [DecidableEq a]{one:Str->a×Int}{v:Str}{e:Int}{p:Nat}(h:cS one v=.no e p):e≠0/\p<=v.length:=by
 have b:=Le h;rw[GJ 44 _ v (Nat.le_refl _)]at b;exact⟨b.1,by omega⟩
theorem acB{x:Ru}{k:Nat}{v:Str}{e:Int}{q:List Int}(h:kN x k v=.no e q):e≠0/\(q=[]\/∃p:Nat,q=[(p:Int)]/\p<=v.length):=by
 unfold kN at h;split at h
 .split at h
  .cases h
  simp only[TkR.no.injEq]at h;obtain⟨rfl,rfl⟩:=h;exact⟨by omega,.inl rfl⟩
 split at h
 .split at h
  .cases h
  next a=>simp only[TkR.no.injEq]at h;obtain⟨rfl,rfl⟩:=h;exact⟨a,.inl rfl⟩
 split at h
 .split at h
  .cases h
  next a=>simp only[TkR.no.injEq]at h;obtain⟨rfl,rfl⟩:=h;exact⟨a,.inl rfl⟩
 split at h
 .split at h
  .cases h
  next a=>simp only[TkR.no.injEq]at h;obtain⟨rfl,rfl⟩:=h;exact⟨a,.inl rfl⟩
 split at h
 .split at h
  .cases h
  next p b=>
  simp only[TkR.no.injEq]at h;obtain⟨rfl,rfl⟩:=h;have:=Pn b;exact⟨this.1,.inr ⟨p,rfl,this.2⟩⟩
 split at h
 .split at h
  .simp only[TkR.no.injEq]at h;obtain⟨rfl,rfl⟩:=h;exact⟨by omega,.inl rfl⟩
  cases h
 split at h
 .cases h
 next p b=>
 simp only[TkR.no.injEq]at h;obtain⟨rfl,rfl⟩:=h;have:=Pn b;exact⟨this.1,.inr ⟨p,rfl,this.2⟩⟩
def AtR(s:Str)(ps:List Str)(a:Nat):Prop:=(ps=[]/\a=s.length+1)\/(a<=s.length/\ps=parts 59 (s.drop a))
theorem acC(s:Str):AtR s (parts 59 s) 0:=.inr ⟨by omega,by rw[List.drop_zero]⟩
theorem acD{s p:Str}{ps:List Str}{a:Nat}(h:AtR s (p::ps) a):a+p.length<=s.length/\p=(s.drop a).take p.length/\59∉p/\AtR s ps (a+p.length+1)/\(s[a+p.length]?=some 59\/(a+p.length=s.length/\ps=[])):=by
 rcases h with⟨h,_⟩|⟨i,h⟩
 .cases h
 obtain⟨q,j,d,e,f,g,b⟩:=HS 59 (s.drop a);rw[d]at h;simp only[List.cons.injEq]at h;obtain⟨rfl,rfl⟩:=h;rw[List.length_drop]at f;refine⟨by omega,g,e,?_,?_⟩
 .rcases b with⟨rfl,b⟩|⟨b,c⟩
  .have:=congrArg List.length b;rw[List.length_drop]at this;exact .inl ⟨rfl,by omega⟩
  rw[List.getElem?_drop]at b;obtain⟨k,_⟩:=List.getElem?_eq_some_iff.1 b;refine .inr ⟨by omega,?_⟩;rw[c,List.drop_drop,Nat.add_assoc]
 rcases b with⟨rfl,b⟩|⟨b,c⟩
 .have:=congrArg List.length b;rw[List.length_drop]at this;exact .inr ⟨by omega,rfl⟩
 rw[List.getElem?_drop]at b;exact .inl b
theorem afw{s p:Str}{a:Nat}(d:p=(s.drop a).take p.length)(e:61∈p):p.idxOf 61<p.length/\s[a+p.idxOf 61]?=some 61:=by
 have b:=List.idxOf_lt_length_iff.2 e;refine⟨b,?_⟩;have c:p[p.idxOf 61]?=some 61:=by rw[List.getElem?_eq_getElem b,List.getElem_idxOf]
 obtain⟨n,f⟩:=A_ (p.idxOf 61);rw[f]at c b |-;rw[d,List.getElem?_take_of_lt b,List.getElem?_drop]at c;exact c
theorem afx{N:Nat}{a:List Nat}{r:Ru}{e:Int}{q:List Int}(h:Nw N a r=.no e q):e≠0/\q=[(N:Int)]:=by
 unfold Nw at h;split at h
 .split at h
  .cases h
  next b=>simp only[RuR.no.injEq]at h;obtain⟨rfl,rfl⟩:=h;exact⟨b,rfl⟩
 simp only[RuR.no.injEq]at h;obtain⟨rfl,rfl⟩:=h;exact⟨by omega,rfl⟩
def ajg(s:Str)(q:List Int):Prop:=(∃p:Nat,q=[(p:Int)]/\p<=s.length)\/∃f p:Nat,q=[(f:Int),(p:Int)]/\0<f/\f+p<=s.length/\s[f-1]?=some 61
theorem Lf{s:Str} : ∀ {ps:List Str} {a:Nat} {b:List Nat} {r:Ru} {e:Int} {q:List Int},AtR s ps a->fj s.length ps a b r=.no e q->e≠0/\ajg s q
 |[],a,b,r,e,q,_,h=>by
  obtain⟨d,rfl⟩:=afx h;exact⟨d,.inl ⟨s.length,rfl,Nat.le_refl _⟩⟩
 |p::ps,a,b,r,e,q,f,h=>by
  obtain⟨m,g,o,i,_⟩:=acD f;simp only[fj]at h;split at h
  .simp only[RuR.no.injEq]at h;obtain⟨rfl,rfl⟩:=h;exact⟨by omega,.inl ⟨a,rfl,by omega⟩⟩
  next c=>
  simp only[Decidable.not_not]at c;obtain⟨u,j⟩:=afw g c;split at h
  .simp only[RuR.no.injEq]at h;obtain⟨rfl,rfl⟩:=h;exact⟨by omega,.inl ⟨a,rfl,by omega⟩⟩
  split at h
  .simp only[RuR.no.injEq]at h;obtain⟨rfl,rfl⟩:=h;exact⟨by omega,.inl ⟨a,rfl,by omega⟩⟩
  split at h
  .next v w k=>
   simp only[RuR.no.injEq]at h;obtain⟨rfl,rfl⟩:=h;obtain⟨d1,l⟩:=acB k;refine⟨d1,?_⟩;rcases l with rfl|⟨n,rfl,d3⟩
   .exact .inl ⟨a+p.idxOf 61+1,rfl,by omega⟩
   unfold pq at d3;rw[List.length_drop]at d3;exact .inr ⟨a+p.idxOf 61+1,n,rfl,by omega,by omega,by simpa using j⟩
  exact Lf i h
theorem Lg{s:Str}{e:Int}{q:List Int}(h:iY s=.no e q):e≠0/\ajg s q:=Lf (acC s) h
theorem Lh:∀ {N:Nat} {ps:List Str} {a:Nat} {b:List Nat} {r x:Ru},fj N ps a b r=.ok x->cT x=0
 |N,[],a,b,r,x,h=>by
  simp only[fj,Nw]at h;split at h
  .split at h
   .next c=>simp only[RuR.ok.injEq]at h;rw[<-h];exact c
   cases h
  cases h
 |N,p::ps,a,b,r,x,h=>by
  simp only[fj]at h;split at h
  .cases h
  split at h
  .cases h
  split at h
  .cases h
  split at h
  .cases h
  exact Lh h
end Go.Vs.Y.Rc
