/- A part of a proof. No conditions. -/
import Derived.Test.YtcjeehebikeghaaGreatDoorVTz
set_option linter.unusedVariables false
set_option linter.unusedSimpArgs false
set_option maxRecDepth 100000
set_option maxHeartbeats 16000000
namespace Go.Vs.YtcjeehebikeghaaGreatDoor.Vt
open Go.Proofs Go.Vs.U8 Go.Vs.Pa Go.Vs.Nu Go.Vs.Mo Go.Vs.Vt Go.Vs.YtcjeehebikeghaaGreatDoor.Rc
theorem agr{P:Program}(hm:P.follows .mixedOrders=true)(E T e:List Nat)(m f k:Nat){a:List VOper}{ps ms:List (Nat×Nat)}{c:List Nat}{Q:Exit->St->Prop}{g:St}{LE LB LT LT':List VOper}{b:VOper}
  (h:lh P (fun q l=>qM g (ps.filter (om E)) (ms.filter (om E)) (oZ a.length E q)=true/\fY P (Qa P a.length ps ms (Q .normal) c T LT) [b] l/\lh P (fun n o=>n=qa f E q/\fY P (Qa P a.length ps ms (Q .normal) c e LT') [b] o) LB g []) LE g [])
  (e1:gA a E=LE:=by rfl) (e2:qa f E LE=LB:=by rfl) (s:gA a T=LT:=by rfl) (e4:gA a e=LT':=by rfl) (e5:a[m]?=some b:=by rfl)
  (p:(mt (aC a).length E&&mt (aC a).length T&&mt (aC a).length e&&okC (aC a).length E T e m f&&Q7 (aC a) m (E.filter fun i=>!(i==f))&&(match (aC a)[m]? with
    |some v=>v.dst==some k
    |none=>false)&&XB (aC a) [k] T)=true:=by rfl):TV P (.region a (.drawn ps ms) c) Q g:=by
 subst e1;subst e2;subst s;subst e4;have u:gA a [m]=[b]:=by simp[gA,e5]
 rw[<-u]at h;exact Fi hm E T e m f k h p
def Wm:RdX->IV
 |.no e p=>.tuple [Zv.iv,.int .i64 e,.int .i64 p]
 |.ok f=>.tuple [f.iv,.int .i64 0,.int .i64 0]
def Th(f:Fc)(a b:Nat):List SV:=[.val (.str f.uid),.val (.str f.sm),.val (.int .u8 f.st.k),.val (.int .i64 f.st.s),.val (.int .u8 f.b.k),.val (.int .i64 f.b.s),.val (.int .u8 f.e.k),.val (.int .i64 f.e.s),.val (.int .i64 f.sp),.val (.int .u8 f.li.s),.val (.int .i64 f.li.p),.val (.int .i64 f.li.d),.val (.int .i64 f.pr),.val (.bool f.rd)]++(jW f.ru++[.own 11 a,.own 12 b,.val (.int .u8 f.at'.k),.val (.int .i64 f.at'.s),.val (.bool f.af)])
theorem H8(f:Fc)(a b:Nat):rQ [(4,13),(1001,11),(1002,12)] (jK f a b)=Th f a b:=rfl
theorem abL(f:Fc)(a b:Nat):((Th f a b).set 29 (.val (.slice (ms f.i)))).set 30 (.val (.slice (ms f.o)))=bxV f:=rfl
theorem adw(f:Fc)(a b:Nat):(Th f a b)[29]?=some (.own 11 a):=rfl
theorem adx(f:Fc)(b a:Nat)(s:SV):((Th f b a).set 29 s)[30]?=some (.own 12 a):=rfl
theorem abM(f:Fc)(a b:Nat):fh 38 (Th f a b)=Th f a b:=rfl
theorem EX(f:Fc)(a b:Nat):(Th f a b).take 34=Th f a b:=rfl
theorem EY(f:Fc)(a b:Nat):gu (Th f a b)=none:=rfl
theorem yw(f:Fc)(a b:Nat):fh 8 (Th f a b)=Th f a b:=rfl
theorem yx(f:Fc)(a b:Nat):SV.noRefs 8 (Th f a b)=true:=rfl
theorem iV(f:Fc)(a b:Nat):(Th f a b).length=34:=rfl
theorem Zr(l:List Ln)(L:kl l)(q:∀x∈l,x.v.length<=1000)(M:l.length<100000):Fn G2 T_ 12 [.slice (ls l)] (Wm (mH l)):=by
 refine ae hm L0 (by simp) ?_;obtain⟨R,m⟩:∃R,mH l=R:=⟨_,rfl⟩;rw[m];unfold mH at m;simp[Dd];by_cases y:24<l.length
 ·rw[if_pos y]at m;subst m;simp(disch:=omega)[wl,y,bv];simp[Wm];rfl
 ·rw[if_neg y]at m;simp(disch:=omega)[wl,y,bv];refine aa YV ?_;simp[Lif.iv,KW];have z:∀f,FitF f->_:=fun f F=>Wl f l F M
  refine wq hm [] [] (fun f:Fc=>[]) (fun f=>[(5,.box (bxV f))]) (fun f=>FitF f/\(if dV f l=0 then RdX.ok f else .no (dV f l) l.length)=R) ?_ ?_
  ·simp(disch:=omega)[wl,bv];refine be hm [] (fun p:Nat×Fc×Nat×Nat=>[(6,.val (.int .i64 p.1))]) (fun p=>[(5,.box (Th p.2.1 p.2.2.1 p.2.2.2)),(11,.arr p.2.2.1 2 (ms p.2.1.i)),(12,.arr p.2.2.2 2 (ms p.2.1.o))]) (fun p=>p.1<=l.length/\Wa p.1 p.2.1/\ju l (l.drop p.1) p.1 p.2.1=R) (fun p=>l.length-p.1) (0,fc1,0,0) ⟨by simp,OX,by simpa using m⟩ ?_ ?_
   ·simp;exact cH.trans (ya false (d:=5) (j:=29) 11 2 (by simp) (by decide) rfl rfl rfl) (cH.trans (ya false (d:=5) (j:=30) 12 2 (by simp[St.adoptC]) (by decide) rfl rfl rfl) (cH.trans (yo (d:=5) rfl rfl) (ag rfl rfl (by simp[St.adoptC,aI,ap,ac,cS,SV.erase]) (by simp[St.adoptC,bD,ac,put,ck,fh,Ob.erase,SV.erase,Jd,ra,BN,Th,fc1,Zv,jW,KW,Ws,SR,is,sX,ms]) (by simp[bB,St.adoptC]))))
   rintro⟨i,f,n,o⟩ ⟨N,k,a⟩;dsimp only at N k a;clear m;simp[bv];by_cases h:i<l.length
   ·obtain⟨x,H⟩:∃x,l[i]=x:=⟨_,rfl⟩;have e:x∈l:=H▸List.getElem_mem h;have g:=sf h H;have I:=L x e;have J:=up (SF x I);rw[List.drop_eq_getElem_cons h,H]at a;obtain⟨E,b⟩:∃E,MR (l.take i) x=E:=⟨_,rfl⟩;simp only[ju,b]at a;unfold MR at b;simp only[Ln.iv]at J;have s:=Wj f n o x I (by have:=q x e;omega) (by have:=k.2.1;omega) (by have:=k.2.2;omega);simp only[mo,Ln.iv]at s;have K:Fn G2 T_ 47 [.str x.n,.slice [[.str yG],[.str yH]]] (.bool (decide (x.n∈[yG,yH]))):=Ut x.n [yG,yH] (by decide);simp only[yG,yH]at K;have O:=Tg x.n;have P:=up (Bb (l.take i) x.n (by rw[List.length_take];omega));have u:(ls l).take i=ls (l.take i):=by simp[ls,List.map_take]
    simp(disch:=omega)[wl,g];refine aa J ?_;by_cases v:gS x=0
    case neg=>
     rw[if_pos v]at b;subst b;rw[if_neg v]at a;subst a;simp(disch:=omega)[wl,v];simp[Wm];rfl
    rw[if_neg (by simp[v])]at b;simp(disch:=omega)[wl,v,g];refine aa K ?_;by_cases A:x.n=yG\/x.n=yH
    ·have w:x.n∈[yG,yH]:=by simpa using A
     rw[if_pos A]at b;subst b;rw[if_neg (by decide)]at a;subst a;simp only[yG,yH]at w;simp(disch:=omega)[wl,w];simp[Wm];rfl
    have w:¬x.n∈[yG,yH]:=by simpa using A
    rw[if_neg A]at b;simp only[yG,yH]at w;simp(disch:=omega)[wl,w,g,abM];refine aa O ?_;by_cases B:x.n∈kF
    ·simp(disch:=omega)[wl,B,u,g];refine⟨⟨by rw[bv];omega,Rm l⟩,?_⟩;refine aa P ?_;by_cases C:0<bG (l.take i) x.n
     ·rw[if_pos ⟨B,C⟩]at b;subst b;rw[if_neg (by decide)]at a;subst a;simp(disch:=omega)[wl,C];refine⟨rfl,?_⟩;simp[Wm];rfl
     rw[if_neg (by simp[C])]at b;simp(disch:=omega)[wl,C];refine⟨rfl,?_⟩;subst b;refine agr hm [0,1,2,3,4,9] [6,7,8,10,11] [6,7,8,9,10,11] 5 9 68 (LE:=[_,_,_,_,_,_]) (LB:=[_,_,_,_,_]) (LT:=[_,_,_,_,_]) (LT':=[_,_,_,_,_,_]) ?_;simp(disch:=omega)[wl,g,EX,EY,iV,yw,yx];refine⟨rfl,?_,rfl,?_⟩
     ·refine callM [(4,13),(1001,11),(1002,12)] [] s rfl rfl ⟨rfl,rfl,trivial⟩ ⟨rfl,[],[],rfl,rfl,rfl⟩ rfl ?_;simp(disch:=omega)[wl,Qa,E4,H8,iV,yw,yx];refine⟨rfl,?_⟩;by_cases c:br x=0
      ·rw[if_pos c]at a;simp(disch:=omega)[wl,c,EX,EY,iV];refine ai (i+1,ch f x,mJ x n,mL x o) ⟨by omega,qJ k (by omega) (q x e),a⟩ (by simp;omega) ?_;simp;exact ag rfl rfl (by simp[aI,ap,ac,iV]) (by simp[bD,ac,iV]) (by simp[bB])
      ·rw[if_neg c]at a;subst a;simp(disch:=omega)[wl,c];simp[Wm];rfl
     ·refine callM [(4,13),(1001,11),(1002,12)] [] s rfl rfl ⟨rfl,rfl,trivial⟩ ⟨rfl,[],[],rfl,rfl,rfl⟩ rfl ?_;simp(disch:=omega)[wl,Qa,E4,H8,iV,yw,yx];refine⟨rfl,?_⟩;by_cases c:br x=0
      ·rw[if_pos c]at a;simp(disch:=omega)[wl,c,EX,EY,iV];refine ai (i+1,ch f x,mJ x n,mL x o) ⟨by omega,qJ k (by omega) (q x e),a⟩ (by simp;omega) ?_;simp;exact ag rfl rfl (by simp[aI,ap,ac,iV]) (by simp[bD,ac,iV]) (by simp[bB])
      ·rw[if_neg c]at a;subst a;simp(disch:=omega)[wl,c];simp[Wm];rfl
    ·rw[if_neg (by simp[B])]at b;simp(disch:=omega)[wl,B];refine⟨rfl,?_⟩;subst b;refine agr hm [0,1,2,3,4,9] [6,7,8,10,11] [6,7,8,9,10,11] 5 9 68 (LE:=[_,_,_,_,_,_]) (LB:=[_,_,_,_,_]) (LT:=[_,_,_,_,_]) (LT':=[_,_,_,_,_,_]) ?_;simp(disch:=omega)[wl,g,EX,EY,iV,yw,yx];refine⟨rfl,?_,rfl,?_⟩
     ·refine callM [(4,13),(1001,11),(1002,12)] [] s rfl rfl ⟨rfl,rfl,trivial⟩ ⟨rfl,[],[],rfl,rfl,rfl⟩ rfl ?_;simp(disch:=omega)[wl,Qa,E4,H8,iV,yw,yx];refine⟨rfl,?_⟩;by_cases c:br x=0
      ·rw[if_pos c]at a;simp(disch:=omega)[wl,c,EX,EY,iV];refine ai (i+1,ch f x,mJ x n,mL x o) ⟨by omega,qJ k (by omega) (q x e),a⟩ (by simp;omega) ?_;simp;exact ag rfl rfl (by simp[aI,ap,ac,iV]) (by simp[bD,ac,iV]) (by simp[bB])
      ·rw[if_neg c]at a;subst a;simp(disch:=omega)[wl,c];simp[Wm];rfl
     ·refine callM [(4,13),(1001,11),(1002,12)] [] s rfl rfl ⟨rfl,rfl,trivial⟩ ⟨rfl,[],[],rfl,rfl,rfl⟩ rfl ?_;simp(disch:=omega)[wl,Qa,E4,H8,iV,yw,yx];refine⟨rfl,?_⟩;by_cases c:br x=0
      ·rw[if_pos c]at a;simp(disch:=omega)[wl,c,EX,EY,iV];refine ai (i+1,ch f x,mJ x n,mL x o) ⟨by omega,qJ k (by omega) (q x e),a⟩ (by simp;omega) ?_;simp;exact ag rfl rfl (by simp[aI,ap,ac,iV]) (by simp[bD,ac,iV]) (by simp[bB])
      ·rw[if_neg c]at a;subst a;simp(disch:=omega)[wl,c];simp[Wm];rfl
   ·obtain rfl:i=l.length:=by omega
    rw[List.drop_length]at a;simp only[ju]at a;simp(disch:=omega)[wl];refine bE f ⟨k.1,a⟩ ?_;exact cH.trans (oY (d:=5) (j:=29) (id:=11) rfl (adw f n o) rfl (by decide) rfl) (cH.trans (oY (d:=5) (j:=30) (id:=12) rfl (adx f n o _) rfl (by decide) rfl) (ag rfl rfl (by simp[aI,ap,ac,bv]) (by simp[bD,ac,put,abL]) (by simp[bB])))
  ·rintro f ⟨F,a⟩;have z:=z f F;simp only[Fc.iv,vh,cells,List.cons_append,List.nil_append]at z;simp[bxV,vh,cells];refine aa z ?_;by_cases D:dV f l=0
   ·rw[if_pos D]at a;subst a;simp(disch:=omega)[wl,D,Wm];rfl
   ·rw[if_neg D]at a;subst a;simp(disch:=omega)[wl,D,bv];simp[Wm];rfl
theorem agw(l:List Ln)(n v:Str)(b:l.length<100000):Fn G2 T_ 125 [.slice (ls l),.str n,.str v] (.slice (ls (YU l n v))):=by
 refine ae hm af2 (by simp) ?_;have c:=up (agl l n b);have a:=up (af5 l ⟨n,prm l n,v⟩ b);simp only[Ln.iv]at a;rw[SS];simp[ae8];refine aa c ?_;unfold prm at a |-;cases h:qQ l n with
 |none=>
  rw[h]at a;simp only at a;simp[Vw,Ln.iv];refine aa a ?_;simp
 |some x=>
  rw[h]at a;simp only at a;simp[Vw,Ln.iv];refine aa a ?_;simp
theorem afy(l:List Ln)(n v:Str)(b:Bool)(a:l.length<100000):Fn G2 T_ 74 [.slice (ls l),.str n,.str v,.bool b] (.slice (ls (rB l n v b))):=by
 refine ae hm afX (by simp) ?_;have c:=agw l n v a;have d:=up (afY l n a);simp[aeW];cases b with
 |true=>
  simp;refine aa c ?_;simp[rB]
 |false=>
  simp;refine aa d ?_;simp[rB]
theorem agx(l:List Ln)(n v w:Str):rB l n v false=rB l n w false:=by simp[rB]
theorem af3(l:List Ln)(x:Lif)(y:l.length<90000)(m:0<=x.s):Fn G2 T_ 28 [.slice (ls l),Lif.iv x] (.slice (ls (Jf l x))):=by
 refine ae hm aeM (by simp) ?_;have h:=ST x m;simp only[Lif.iv]at h;by_cases e:tQ x=0
 case neg=>
  have a:Jf l x=l:=by unfold Jf;rw[if_pos e]
  simp[ab2,Lif.iv];refine aa h ?_;simp(disch:=omega)[wl,e,a]
 obtain⟨z,A,C,D,E⟩:=adp e;have s:=VN x.s m;have n:=up (af7 [x.p] (by simp) (by simp[i64];omega));have i:acZ [x.p]=Lib.itoa x.p:=by simp[acZ,Lib.join]
 have o:=age ⟨3,x.d⟩ (show(0:Int)<=3 by decide);obtain⟨R,a⟩:∃R,Jf l x=R:=⟨_,rfl⟩;rw[a];unfold Jf at a;rw[if_neg (by simp[e])]at a;have u:=QV l bN (qw x.s) (decide (x.s≠0));have b:=afy l bN (qw x.s) (decide (x.s≠0)) (by omega);obtain⟨f,e1⟩:∃f,rB l bN (qw x.s) (decide (x.s≠0))=f:=⟨_,rfl⟩;rw[e1]at b u a;have v:=QV f cY (Lib.itoa x.p) (decide (0<=x.p));have c:=afy f cY (Lib.itoa x.p) (decide (0<=x.p)) (by omega);obtain⟨g,e2⟩:∃g,rB f cY (Lib.itoa x.p) (decide (0<=x.p))=g:=⟨_,rfl⟩;rw[e2]at c v a;rw[i]at n;obtain⟨t,p⟩:∃t,t=(if jI ⟨3,x.d⟩=0 then KF ⟨3,x.d⟩else []):=⟨_,rfl⟩
 have j:rB g bq t (decide (0<=x.d))=R:=by
  by_cases q:0<=x.d
  ·have k:jI ⟨3,x.d⟩=0:=by unfold jI;rw[if_neg (by simp),if_neg (by simp only;omega),if_neg (by simp)]
   have w:xt x=KF ⟨3,x.d⟩:=by unfold xt;rw[if_pos q]
   rw[p,if_pos k,<-w,a]
  ·rw[<-a,decide_eq_false q];exact agx _ _ _ _
 have d:=afy g bq t (decide (0<=x.d)) (by omega);rw[j]at d;simp only[aa1,eX,<-p]at o;simp only[bN,cY,bq,ne_eq,decide_not]at b c d;simp[ab2,Lif.iv];refine aa h ?_;simp(disch:=omega)[wl,e];refine aa s ?_;simp;refine aa b ?_;simp;refine⟨rfl,?_⟩;refine aa n ?_;simp;refine aa c ?_;simp;refine⟨rfl,?_⟩;refine aa o ?_;simp;refine aa d ?_;simp
def paD:PaX->IV
 |.no e p=>.tuple [.slice [],.int .i64 e,.int .i64 p]
 |.ok l=>.tuple [.slice (ls l),.int .i64 0,.int .i64 0]
theorem agf(l c:List Ln)(J:kl l)(K:og 1000 l)(L:kl c)(z:og 1000 c)(O:l.length<1000)(P:c.length<1000):Fn G2 T_ 25 [.slice (ls l),.slice (ls c)] (paD (Oo l c)):=by
 refine ae hm afx (by simp) ?_;obtain⟨R,s⟩:∃R,Oo l c=R:=⟨_,rfl⟩;rw[s];unfold Oo at s;simp[aen];refine be hm [] (fun p:Nat×List Ln=>[(7,.val (.int .i64 p.1)),(0,.val (.slice (ls p.2)))]) (fun _=>[]) (fun p=>p.1<=c.length/\kl p.2/\og 1000 p.2/\p.2.length<=l.length+p.1/\D9 c.length (c.drop p.1) p.1 p.2=R) (fun p=>c.length-p.1) (0,l) ⟨by simp,J,K,by simp,by simpa using s⟩ ?_ ?_
 ·simp;exact bp
 rintro⟨i,m⟩ ⟨M,n,o,A,a⟩;dsimp only at M n o A a;clear s;simp[bv];by_cases h:i<c.length
 ·obtain⟨x,C⟩:∃x,c[i]=x:=⟨_,rfl⟩;have b:x∈c:=C▸List.getElem_mem h;have D:=sf h C;have u:=L x b;have H:=up (SF x u);have N:=up (afY m x.n (by omega));have v:=up (af5 m x (by omega));have I:Fn G2 T_ 47 [.str x.n,.slice [[.str cp],[.str aK],[.str bN],[.str cY],[.str bq],[.str dB],[.str cc],[.str ce],[.str bn],[.str eO],[.str cO],[.str yG],[.str yH]]] (.bool (decide (x.n∈xu))):=Ut x.n xu (by decide);simp only[nm_]at I;rw[List.drop_eq_getElem_cons h,C]at a;simp only[D9]at a;simp only[Ln.iv]at H v;simp(disch:=omega)[wl,D];refine aa H ?_;by_cases j:gS x=0
  case neg=>
   have d:xv x=gS x:=by unfold xv;rw[if_pos j]
   rw[if_neg (by rw[d];exact j),d]at a;subst a;simp(disch:=omega)[wl,j];simp[paD]
  simp(disch:=omega)[wl,j];refine aa I ?_;by_cases w:x.n∈xu
  ·have d:xv x=11:=by unfold xv;rw[if_neg (by simp[j]),if_pos w]
   rw[if_neg (by rw[d];decide),d]at a;subst a;simp(disch:=omega)[wl,w];simp[paD]
  have d:xv x=0:=by unfold xv;rw[if_neg (by simp[j]),if_neg w]
  rw[if_pos d]at a;simp(disch:=omega)[wl,w];by_cases k:x.v=[]
  ·by_cases y:x.p=[]
   ·have q:ka m x=fL m x.n:=by unfold ka;rw[if_pos ⟨k,y⟩]
    have g:(ps x.p).length=0:=by simp[y,ps]
    simp(disch:=omega)[wl,k,g];refine aa N ?_;simp(disch:=omega)[wl,bv];refine ai (i+1,ka m x) ⟨by omega,Bm n u,xY o (z x b),by have:=Bn m x;simp only;omega,a⟩ (by simp;omega) ?_;simp[q];exact ag rfl rfl (by simp[aI,ap,ac,bv]) (by simp[bD,ac,bv]) (by simp[bB])
   ·have q:ka m x=tI m x:=by unfold ka;rw[if_neg (fun h=>y h.2)]
    rw[k]at v;have g:¬(ps x.p).length=0:=by simp[y,ps]
    simp(disch:=omega)[wl,k,g];refine aa v ?_;simp(disch:=omega)[wl,bv];refine ai (i+1,ka m x) ⟨by omega,Bm n u,xY o (z x b),by have:=Bn m x;simp only;omega,a⟩ (by simp;omega) ?_;simp[q];exact ag rfl rfl (by simp[aI,ap,ac,bv]) (by simp[bD,ac,bv]) (by simp[bB])
  ·have q:ka m x=tI m x:=by unfold ka;rw[if_neg (fun h=>k h.1)]
   simp(disch:=omega)[wl,k];refine aa v ?_;simp(disch:=omega)[wl,bv];refine ai (i+1,ka m x) ⟨by omega,Bm n u,xY o (z x b),by have:=Bn m x;simp only;omega,a⟩ (by simp;omega) ?_;simp[q];exact ag rfl rfl (by simp[aI,ap,ac,bv]) (by simp[bD,ac,bv]) (by simp[bB])
 ·obtain rfl:i=c.length:=by omega
  rw[List.drop_length]at a;simp only[D9]at a;have E:=Zr m n o (by omega);simp(disch:=omega)[wl];refine aa E ?_;cases F:mH m with
  |no e p=>
   rw[F]at a;simp only at a;subst a;have d:=Un F;simp only[Wm,Fc.iv,vh,cells,List.cons_append,List.nil_append];simp(disch:=omega)[wl,d,bv];simp[paD]
  |ok f=>
   rw[F]at a;simp only at a;subst a;simp only[Wm,Fc.iv,vh,cells,List.cons_append,List.nil_append];simp(disch:=omega)[wl];simp[paD]
end Go.Vs.YtcjeehebikeghaaGreatDoor.Vt
