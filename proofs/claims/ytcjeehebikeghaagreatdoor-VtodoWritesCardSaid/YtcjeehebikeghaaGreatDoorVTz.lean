/- A part of a proof. No conditions. -/
import Derived.Test.YtcjeehebikeghaaGreatDoorVLz
set_option linter.unusedVariables false
set_option linter.unusedSimpArgs false
set_option maxRecDepth 100000
set_option maxHeartbeats 16000000
namespace Go.Vs.YtcjeehebikeghaaGreatDoor.Vt
open Go.Proofs Go.Vs.U8 Go.Vs.Pa Go.Vs.Nu Go.Vs.Mo Go.Vs.Vt Go.Vs.YtcjeehebikeghaaGreatDoor.Rc
def E4(f:Fc)(a b:Nat):List (Nat×Ob):=[(1001,.arr a 2 (ms f.i)),(1002,.arr b 2 (ms f.o))]
def mo(f:Fc)(a b:Nat)(x:Ln):MC:={args:=[.agg (jK f a b),.val x.iv],objs:=E4 f a b,res:=.tup [.agg (jK (ch f x) (mJ x a) (mL x b)),.val (.int .i64 (br x))],objs':=(4,.box (jK (ch f x) (mJ x a) (mL x b)))::E4 (ch f x) (mJ x a) (mL x b),ro':=[] }
theorem Lp(f:Fc)(d g:Nat)(x:Ln)(h:FitX x)(i:x.v.length<50000)(j:f.i.length<1000000)(k:f.o.length<1000000)(b:x.n=aK):jL G2 T_ 50 (mo f d g x):=by
 refine aN hm cj (by simp[mo]) rfl ?_;have a:=Zd x h;obtain⟨⟨e,m⟩,c⟩:∃r,rA x=r:=⟨_,rfl⟩;rw[c]at a;simp[eX,Ln.iv,b,nm_]at a;simp[mo,br,ch,mJ,mL,b,c,nm_,Ln.iv];simp[bI,ji,E4,jK,jW];refine aa a ?_;simp;exact cW [(4,.loc 4 0),(5,.val (.int .i64 e))]
theorem P5(f:Fc)(d g:Nat)(x:Ln)(h:FitX x)(i:x.v.length<50000)(j:f.i.length<1000000)(k:f.o.length<1000000)(b:x.n=bq):jL G2 T_ 50 (mo f d g x):=by
 refine aN hm cj (by simp[mo]) rfl ?_;have a:=Zd x h;obtain⟨⟨e,m⟩,c⟩:∃r,rA x=r:=⟨_,rfl⟩;rw[c]at a;simp[eX,Ln.iv,b,nm_]at a;simp[mo,br,ch,mJ,mL,b,c,nm_,Ln.iv];simp[bI,ji,E4,jK,jW];refine aa a ?_;simp;exact cW [(4,.loc 4 0),(5,.val (.int .i64 e))]
theorem Lq(f:Fc)(d g:Nat)(x:Ln)(h:FitX x)(i:x.v.length<50000)(j:f.i.length<1000000)(k:f.o.length<1000000)(b:x.n=aV):jL G2 T_ 50 (mo f d g x):=by
 refine aN hm cj (by simp[mo]) rfl ?_;have a:=JH x h i;obtain⟨⟨e,m⟩,c⟩:∃r,gE x=r:=⟨_,rfl⟩;rw[c]at a;simp[eX,Ln.iv,b,nm_]at a;simp[mo,br,ch,mJ,mL,b,c,nm_,Ln.iv];simp[bI,ji,E4,jK,jW];refine aa a ?_;simp;exact cW [(4,.loc 4 0),(5,.val (.int .i64 e))]
theorem Rt(f:Fc)(d g:Nat)(x:Ln)(h:FitX x)(i:x.v.length<50000)(j:f.i.length<1000000)(k:f.o.length<1000000)(b:x.n=cN):jL G2 T_ 50 (mo f d g x):=by
 refine aN hm cj (by simp[mo]) rfl ?_;have a:=JH x h i;obtain⟨⟨e,m⟩,c⟩:∃r,gE x=r:=⟨_,rfl⟩;rw[c]at a;simp[eX,Ln.iv,b,nm_]at a;simp[mo,br,ch,mJ,mL,b,c,nm_,Ln.iv];simp[bI,ji,E4,jK,jW];refine aa a ?_;simp;exact cW [(4,.loc 4 0),(5,.val (.int .i64 e))]
theorem Tf(f:Fc)(d g:Nat)(x:Ln)(h:FitX x)(i:x.v.length<50000)(j:f.i.length<1000000)(k:f.o.length<1000000)(b:x.n=eO):jL G2 T_ 50 (mo f d g x):=by
 refine aN hm cj (by simp[mo]) rfl ?_;have a:=JH x h i;obtain⟨⟨e,m⟩,c⟩:∃r,gE x=r:=⟨_,rfl⟩;rw[c]at a;simp[eX,Ln.iv,b,nm_]at a;simp[mo,br,ch,mJ,mL,b,c,nm_,Ln.iv];simp[bI,ji,E4,jK,jW];refine aa a ?_;simp;exact cW [(4,.loc 4 0),(5,.val (.int .i64 e))]
theorem Rv(f:Fc)(g h:Nat)(x:Ln)(i:FitX x)(j:x.v.length<50000)(k:f.i.length<1000000)(l:f.o.length<1000000)(b:x.n=ce):jL G2 T_ 50 (mo f g h x):=by
 refine aN hm cj (by simp[mo]) rfl ?_;have a:=ER x i j;have c:=qI x;obtain⟨⟨e,m⟩,d⟩:∃r,d5 x=r:=⟨_,rfl⟩;rw[d]at a c;simp[AR,Ln.iv,b,nm_]at a;simp[mo,br,ch,mJ,mL,b,d,nm_,Ln.iv];simp[bI,ji,E4,jK,jW];refine aa a ?_;simp;dsimp only at c;refine⟨⟨by rw[cJ,cJ];omega,OO _⟩,?_⟩;rw[H5];exact cW [(4,.loc 4 0),(5,.val (.int .i64 e))]
theorem P6(f:Fc)(g h:Nat)(x:Ln)(i:FitX x)(j:x.v.length<50000)(k:f.i.length<1000000)(l:f.o.length<1000000)(b:x.n=bn):jL G2 T_ 50 (mo f g h x):=by
 refine aN hm cj (by simp[mo]) rfl ?_;have a:=ER x i j;have c:=qI x;obtain⟨⟨e,m⟩,d⟩:∃r,d5 x=r:=⟨_,rfl⟩;rw[d]at a c;simp[AR,Ln.iv,b,nm_]at a;simp[mo,br,ch,mJ,mL,b,d,nm_,Ln.iv];simp[bI,ji,E4,jK,jW];refine aa a ?_;simp;dsimp only at c;refine⟨⟨by rw[cJ,cJ];omega,OO _⟩,?_⟩;rw[H5];exact cW [(4,.loc 4 0),(5,.val (.int .i64 e))]
theorem P7(f:Fc)(g h:Nat)(x:Ln)(i:FitX x)(j:x.v.length<50000)(k:f.i.length<1000000)(l:f.o.length<1000000)(b:x.n=bM):jL G2 T_ 50 (mo f g h x):=by
 refine aN hm cj (by simp[mo]) rfl ?_;have a:=Zf x i;obtain⟨⟨e,d⟩,c⟩:∃r,GH x=r:=⟨_,rfl⟩;rw[c]at a;simp[Ln.iv,b,nm_]at a;simp[mo,br,ch,mJ,mL,b,c,nm_,Ln.iv];simp[bI,ji,E4,jK,jW];refine aa a ?_;simp;exact cW [(4,.loc 4 0),(5,.val (.int .i64 e))]
theorem P8(f:Fc)(d g:Nat)(x:Ln)(h:FitX x)(i:x.v.length<50000)(j:f.i.length<1000000)(k:f.o.length<1000000)(b:x.n=bN):jL G2 T_ 50 (mo f d g x):=by
 refine aN hm cj (by simp[mo]) rfl ?_;have a:=SU x.v;obtain⟨⟨s,e⟩,c⟩:∃r,KX x.v=r:=⟨_,rfl⟩;rw[c]at a;simp[stI,Ln.iv,b,nm_]at a;simp[mo,br,ch,mJ,mL,b,c,nm_,Ln.iv];simp[bI,ji,E4,jK,jW];refine aa a ?_;simp;exact cW [(4,.loc 4 0),(5,.val (.int .i64 e))]
theorem Rw(f:Fc)(d g:Nat)(x:Ln)(h:FitX x)(i:x.v.length<50000)(j:f.i.length<1000000)(k:f.o.length<1000000)(b:x.n=cY):jL G2 T_ 50 (mo f d g x):=by
 refine aN hm cj (by simp[mo]) rfl ?_;have a:=up (yf 0 100 false x.v (by have:=h.v;omega));obtain⟨⟨n,e⟩,c⟩:∃r,cF 5 0 100 false x.v=r:=⟨_,rfl⟩;rw[c]at a;simp[ln,Ln.iv,b,nm_]at a;simp[mo,br,ch,mJ,mL,b,c,nm_,Ln.iv];simp[bI,ji,E4,jK,jW];refine aa a ?_;simp;exact cW [(4,.loc 4 0),(5,.val (.int .i64 e))]
theorem P9(f:Fc)(d g:Nat)(x:Ln)(h:FitX x)(i:x.v.length<50000)(j:f.i.length<1000000)(k:f.o.length<1000000)(b:x.n=cn):jL G2 T_ 50 (mo f d g x):=by
 refine aN hm cj (by simp[mo]) rfl ?_;have a:=up (yf 0 9 false x.v (by have:=h.v;omega));obtain⟨⟨n,e⟩,c⟩:∃r,cF 5 0 9 false x.v=r:=⟨_,rfl⟩;rw[c]at a;simp[ln,Ln.iv,b,nm_]at a;simp[mo,br,ch,mJ,mL,b,c,nm_,Ln.iv];simp[bI,ji,E4,jK,jW];refine aa a ?_;simp;exact cW [(4,.loc 4 0),(5,.val (.int .i64 e))]
theorem Rx(f:Fc)(h i:Nat)(x:Ln)(j:FitX x)(k:x.v.length<50000)(l:f.i.length<1000000)(m:f.o.length<1000000)(d:x.n=dB):jL G2 T_ 50 (mo f h i x):=by
 refine aN hm cj (by simp[mo]) rfl ?_;have c:=abn x j;obtain⟨⟨⟨a,b⟩,e⟩,g⟩:∃r,O5 x=r:=⟨_,rfl⟩;rw[g]at c;simp[nX,Ln.iv,d,nm_]at c;simp[mo,br,ch,mJ,mL,d,g,nm_,Ln.iv];simp[bI,ji,E4,jK,jW];refine aa c ?_;simp;exact cW [(4,.loc 4 0),(5,.val (.int .i64 e))]
theorem Ry(f:Fc)(d e:Nat)(x:Ln)(g:FitX x)(h:x.v.length<50000)(i:f.i.length<1000000)(j:f.o.length<1000000)(c:x.n=cp):jL G2 T_ 50 (mo f d e x):=by
 refine aN hm cj (by simp[mo]) rfl ?_;have b:=OJ x.v (by have:=g.v;omega);by_cases a:jF x.v=true
 ·rw[a]at b;simp[mo,br,ch,mJ,mL,c,a,nm_,Ln.iv];simp[bI,ji,E4,jK,jW];refine aa b ?_;simp;exact cW [(4,.loc 4 0),(5,.val (.int .i64 0))]
 ·have a:jF x.v=false:=by simpa using a
  rw[a]at b;simp[mo,br,ch,mJ,mL,c,a,nm_,Ln.iv];simp[bI,ji,E4,jK,jW];refine aa b ?_;simp;exact cW [(4,.loc 4 0),(5,.val (.int .i64 4))]
theorem Pb(f:Fc)(d e:Nat)(x:Ln)(g:FitX x)(h:x.v.length<50000)(i:f.i.length<1000000)(j:f.o.length<1000000)(c:x.n=cg):jL G2 T_ 50 (mo f d e x):=by
 refine aN hm cj (by simp[mo]) rfl ?_;have a:=OG x.v (by have:=g.v;omega);obtain⟨R,b⟩:∃R,unR x.v=R:=⟨_,rfl⟩;rw[b]at a;cases R with
 |ok t=>
  simp only[unD]at a;simp[mo,br,ch,mJ,mL,c,unE,unT,b,nm_,Ln.iv];simp[bI,ji,E4,jK,jW];refine aa a ?_;simp;exact cW [(4,.loc 4 0),(5,.val (.int .i64 0))]
 |bad p=>
  simp only[unD]at a;simp[mo,br,ch,mJ,mL,c,unE,unT,b,nm_,Ln.iv];simp[bI,ji,E4,jK,jW];refine aa a ?_;simp;exact cW [(4,.loc 4 0),(5,.val (.int .i64 4))]
theorem Pc(f:Fc)(d g:Nat)(x:Ln)(h:FitX x)(i:x.v.length<50000)(j:f.i.length<1000000)(k:f.o.length<1000000)(c:x.n=cc):jL G2 T_ 50 (mo f d g x):=by
 refine aN hm cj (by simp[mo]) rfl ?_;have a:=SQ x.v (by have:=h.v;omega);obtain⟨R,b⟩:∃R,kD x.v=R:=⟨_,rfl⟩;rw[b]at a;cases R with
 |ok r=>
  simp only[Zu,ES]at a;simp[mo,br,ch,mJ,mL,c,ruE,ruV,b,nm_,Ln.iv];simp[bI,ji,E4,jK,jW];refine aa a ?_;simp;exact cW [(4,.loc 4 0),(5,.val (.int .i64 0))]
 |no e p=>
  simp only[Zu,ES]at a;simp[mo,br,ch,mJ,mL,c,ruE,ruV,b,nm_,Ln.iv];simp[bI,ji,E4,jK,jW];refine aa a ?_;simp;exact cW [(4,.loc 4 0),(5,.val (.int .i64 e))]
theorem Rz(f:Fc)(d e:Nat)(x:Ln)(g:FitX x)(h:x.v.length<50000)(i:f.i.length<1000000)(j:f.o.length<1000000)(c:x.n=cO):jL G2 T_ 50 (mo f d e x):=by
 refine aN hm cj (by simp[mo]) rfl ?_;by_cases a:x.v=bF
 ·simp only[bF]at a;simp[mo,br,ch,mJ,mL,c,a,nm_,Ln.iv];simp[bI,ji,E4,jK,jW];exact cW [(4,.loc 4 0),(5,.val (.int .i64 0))]
 ·by_cases b:x.v=bH
  ·simp only[bH]at b;simp[mo,br,ch,mJ,mL,c,b,nm_,Ln.iv];simp[bI,ji,E4,jK,jW];exact cW [(4,.loc 4 0),(5,.val (.int .i64 0))]
  ·simp only[bH]at b;simp only[bF]at a;simp[mo,br,ch,mJ,mL,c,a,b,nm_,Ln.iv];simp[bI,ji,E4,jK,jW];simp(disch:=omega)[wl,a,b];exact cW [(4,.loc 4 0),(5,.val (.int .i64 4))]
theorem Wi(f:Fc)(v w:Nat)(x:Ln)(a:x.n∉GQ)(b:x.n∉Lo):jL G2 T_ 50 (mo f v w x):=by
 refine aN hm cj (by simp[mo]) rfl ?_;simp[GQ,nm_]at a;simp[Lo,nm_]at b;obtain⟨c,d,e,g,h,i,j,k⟩:=a;obtain⟨l,m,n,o,p,q,s,u⟩:=b;simp[mo,br,ch,mJ,mL,c,d,e,g,h,i,j,k,l,m,n,o,p,q,s,u,nm_,Ln.iv];simp[bI,ji,E4,jK,jW,c,d,e,g,h,i,j,k,l,m,n,o,p,q,s,u];exact cW [(4,.loc 4 0),(5,.val (.int .i64 0))]
theorem Wj(f:Fc)(a b:Nat)(x:Ln)(c:FitX x)(e:x.v.length<50000)(g:f.i.length<1000000)(i:f.o.length<1000000):jL G2 T_ 50 (mo f a b x):=by
 by_cases k:x.n∈GQ
 ·simp only[GQ,List.mem_cons,List.not_mem_nil,or_false]at k;rcases k with h|h|h|h|h|h|h|h
  ·exact Lp f a b x c e g i h
  ·exact P5 f a b x c e g i h
  ·exact Lq f a b x c e g i h
  ·exact Rt f a b x c e g i h
  ·exact Tf f a b x c e g i h
  ·exact Rv f a b x c e g i h
  ·exact P6 f a b x c e g i h
  ·exact P7 f a b x c e g i h
 by_cases l:x.n∈Lo
 ·simp only[Lo,List.mem_cons,List.not_mem_nil,or_false]at l;rcases l with h|h|h|h|h|h|h|h
  ·exact Ry f a b x c e g i h
  ·exact Pb f a b x c e g i h
  ·exact P8 f a b x c e g i h
  ·exact Rw f a b x c e g i h
  ·exact P9 f a b x c e g i h
  ·exact Pc f a b x c e g i h
  ·exact Rz f a b x c e g i h
  ·exact Rx f a b x c e g i h
 exact Wi f a b x k l
theorem aex{l:List Str}{i:Nat}(h:i<l.length):(ts l)[i]?=some [.str l[i]]:=by simp[ts,h]
theorem Us(l:List Str):(ts l).length=l.length:=by simp[ts]
theorem Ut(n:Str)(l:List Str)(o:l.length<1000):Fn G2 T_ 47 [.str n,.slice (ts l)] (.bool (decide (n∈l))):=by
 refine ae hm Ov (by simp) ?_;simp[G9];refine be hm [] (fun i:Nat=>[(5,.val (.int .i64 i))]) (fun _=>[]) (fun i=>i<=l.length/\∀j (h:j<l.length),j<i->l[j]≠n) (fun i=>l.length-i) 0 ⟨by omega,by omega⟩ ?_ ?_
 ·simp;exact bp
 rintro i ⟨p,g⟩;simp[Us];by_cases h:i<l.length
 ·have k:=aex h;by_cases a:l[i]=n
  ·have b:n∈l:=a▸List.getElem_mem h;simp(disch:=omega)[wl,k,a,b,Us]
  ·simp(disch:=omega)[wl,k,a,Us];refine ai (i+1) ⟨by omega,fun j c m=>?_⟩ (by omega) ?_
   ·by_cases e:j=i
    ·subst e;exact a
    ·exact g j c (by omega)
   simp;exact bp
 ·have b:¬n∈l:=by
   intro f;obtain⟨j,c,e⟩:=List.mem_iff_getElem.1 f;exact g j c (by omega) e
  simp(disch:=omega)[wl,b,Us]
theorem Tg(n:Str):Fn G2 T_ 48 [.str n] (.bool (decide (n∈kF))):=by
 refine ae hm GK (by simp) ?_;have a:Fn G2 T_ 47 [.str n,.slice [[.str cp],[.str aK],[.str cg],[.str aV],[.str cN],[.str bM],[.str bq],[.str bN],[.str cY],[.str cn],[.str cc],[.str eO],[.str cO]]] (.bool (decide (n∈kF))):=Ut n kF (by decide);simp only[nm_]at a;simp[xE];refine aa a ?_;simp
theorem Wk(f:Fc)(l:List Ln)(m:FitF f)(q:l.length<100000):Fn G2 T_ 112 [f.iv,.slice (ls l)] (.int .i64 (lq f l)):=by
 refine ae hm Jr (by simp) ?_;have n:=abp f;have s:=OI m.set;have o:=up (Bb l ce q);have u:=Z9 f.uid (by have:=m.ul;omega);have p:=Uj f m;simp only[Fc.iv,vh,cells]at n p;simp only[ce]at o;obtain⟨R,a⟩:∃R,lq f l=R:=⟨_,rfl⟩;rw[a];unfold lq at a;simp[Ax,Fc.iv,vh,cells];by_cases e:f.b.k=0
 ·rw[if_pos e]at a;simp(disch:=omega)[wl,e,a]
 rw[if_neg e]at a;simp(disch:=omega)[wl,e];refine aa n ?_;simp;refine aa s ?_;by_cases i:Je f.b f.ru f.i f.o=0
 case neg=>
  rw[if_pos i]at a;simp(disch:=omega)[wl,i,a]
 rw[if_neg (by simp[i])]at a;simp(disch:=omega)[wl,i];refine wq hm [] [] (fun _:Unit=>[]) (fun _=>[]) (fun _=>(if f.at'.k≠0/\f.at'.k≠f.b.k then 11 else if f.at'.k≠0/\f.at'.s<f.b.s then 8 else if 20<(jj f.uid).length then 5 else if (kQ f).2=false then 8 else 0)=R) ?_ ?_
 ·by_cases b:f.af=true
  ·simp(disch:=omega)[wl,b];refine aa o ?_;by_cases g:0<bG l ce
   ·rw[if_pos ⟨b,g⟩]at a;simp only[ce]at g;simp(disch:=omega)[wl,g,a]
   ·rw[if_neg (by simp[g])]at a;simp only[ce]at g;simp(disch:=omega)[wl,g];refine bE () a ?_;simp;exact ag rfl rfl (by simp[aI,ap,ac,b]) (by simp[bD,ac,b]) (by simp[bB])
  ·rw[if_neg (by simp[b])]at a;have b:f.af=false:=by simpa using b
   simp(disch:=omega)[wl,b];refine bE () a ?_;simp;exact ag rfl rfl (by simp[aI,ap,ac,b]) (by simp[bD,ac,b]) (by simp[bB])
 rintro _ a;simp;refine wq hm [] [] (fun _:Unit=>[]) (fun _=>[]) (fun _=>(if 20<(jj f.uid).length then 5 else if (kQ f).2=false then 8 else 0)=R) ?_ ?_
 ·by_cases c:f.at'.k=0
  ·rw[if_neg (by simp[c]),if_neg (by simp[c])]at a;simp(disch:=omega)[wl,c];refine bE () a ?_;simp;exact ag rfl rfl (by simp[aI,ap,ac,c]) (by simp[bD,ac,c]) (by simp[bB])
  by_cases d:f.at'.k=f.b.k
  ·rw[if_neg (by simp[d])]at a;by_cases j:f.at'.s<f.b.s
   ·rw[if_pos ⟨c,j⟩]at a;simp(disch:=omega)[wl,c,d,e,j,a]
   ·rw[if_neg (by simp[j])]at a;simp(disch:=omega)[wl,c,d,e,j];refine bE () a ?_;simp;exact ag rfl rfl (by simp[aI,ap,ac,d]) (by simp[bD,ac,d]) (by simp[bB])
  ·rw[if_pos ⟨c,d⟩]at a;simp(disch:=omega)[wl,c,d,a]
 rintro _ a;simp;refine aa u ?_;by_cases k:20<(jj f.uid).length
 ·rw[if_pos k]at a;simp(disch:=omega)[wl,k,a]
 rw[if_neg k]at a;simp(disch:=omega)[wl,k];refine aa p ?_;by_cases h:(kQ f).2=false
 ·rw[if_pos h]at a;simp(disch:=omega)[wl,h,a]
 ·rw[if_neg h]at a;have h:(kQ f).2=true:=by simpa using h
  simp(disch:=omega)[wl,h,a]
theorem Wl(f:Fc)(l:List Ln)(z:FitF f)(A:l.length<100000):Fn G2 T_ 51 [f.iv,.slice (ls l)] (.int .i64 (dV f l)):=by
 refine ae hm Jj (by simp) ?_;have k:∀n,Fn G2 T_ 49 [.slice (ls l),.str n] (.int .i64 (bG l n)):=fun n=>up (Bb l n A)
 have q:∀n,bG l n<=l.length:=fun n=>by unfold bG;exact List.length_filter_le _ _
 have B:=ST f.li z.ls;have E:=VT f.b.s f.sp;have x:=Wk f l z A;simp only[Fc.iv,vh,cells]at x;simp only[Lif.iv]at B;obtain⟨R,b⟩:∃R,dV f l=R:=⟨_,rfl⟩;rw[b];unfold dV at b;simp[Ai,Fc.iv,vh,cells];refine aa (k _) ?_;by_cases i:bG l cp=0
 ·rw[if_pos (.inl i)]at b;simp only[cp]at i;simp(disch:=omega)[wl,i,b]
 by_cases p:bG l aK=0
 ·rw[if_pos (.inr p)]at b;simp only[cp]at i;simp only[aK]at p;simp(disch:=omega)[wl,i];refine aa (k _) ?_;simp(disch:=omega)[wl,p,b]
 rw[if_neg (by simp[i,p])]at b;simp only[cp]at i;simp only[aK]at p;simp(disch:=omega)[wl,i];refine aa (k _) ?_;simp(disch:=omega)[wl,p];refine aa B ?_;by_cases s:tQ f.li=0
 case neg=>
  rw[if_pos s]at b;simp(disch:=omega)[wl,s,b]
 rw[if_neg (by simp[s])]at b;simp(disch:=omega)[wl,s];refine wq hm [] [] (fun _:Unit=>[]) (fun _=>[]) (fun _=>¬(0<f.sp/\(f.e.k≠0\/f.b.k=0))) ?_ ?_
 ·by_cases a:f.b.k=0<;>by_cases c:f.e.k=0<;>by_cases e:0<f.sp
  all_goals first
   |(have g:ld f=9:=by unfold ld;rw[if_pos (by simp[e,a,c])]
     rw[g,if_pos (by decide)]at b;simp(disch:=omega)[wl,a,c,e,b]
     done)
   |(simp(disch:=omega)[wl,a,c,e]
     refine bE () (by simp[a,c,e]) ?_;simp
     exact ag rfl rfl (by simp[aI,ap,ac,a,c]) (by simp[bD,ac,a,c]) (by simp[bB]))
 rintro _ u;simp;refine wq hm [] [] (fun _:Unit=>[]) (fun _=>[]) (fun _=>¬(f.b.k≠0/\f.e.k≠0/\f.b.k≠f.e.k)/\¬(f.b.k≠0/\f.e.k≠0/\f.e.s<f.b.s)) ?_ ?_
 ·by_cases a:f.b.k=0
  ·simp(disch:=omega)[wl,a];refine bE () (by simp[a]) ?_;simp;exact ag rfl rfl (by simp[aI,ap,ac,a]) (by simp[bD,ac,a]) (by simp[bB])
  by_cases c:f.e.k=0
  ·simp(disch:=omega)[wl,a,c];refine bE () (by simp[a,c]) ?_;simp;exact ag rfl rfl (by simp[aI,ap,ac,a,c]) (by simp[bD,ac,a,c]) (by simp[bB])
  by_cases h:f.b.k=f.e.k
  ·by_cases e:f.e.s<f.b.s
   ·have g:ld f=8:=by unfold ld;rw[if_neg u,if_neg (by simp[h]),if_pos ⟨a,c,e⟩]
    rw[g,if_pos (by decide)]at b;rw[h]at a;simp(disch:=omega)[wl,h,a,c,e,b]
   ·rw[h]at a;simp(disch:=omega)[wl,h,a,c,e];refine bE () (by simp[h,e]) ?_;simp;exact ag rfl rfl (by simp[aI,ap,ac,h,a]) (by simp[bD,ac,h,a]) (by simp[bB])
  ·have g:ld f=11:=by unfold ld;rw[if_neg u,if_pos ⟨a,c,h⟩]
   rw[g,if_pos (by decide)]at b;simp(disch:=omega)[wl,a,c,h,b]
 rintro _ ⟨C,D⟩;simp;refine wq hm [] [] (fun _:Unit=>[]) (fun _=>[]) (fun _=>¬(f.b.k=1/\f.sp%86400≠0)) ?_ ?_
 ·by_cases a:f.b.k=1
  ·by_cases e:f.sp%86400=0
   ·have m:f.sp.tmod 86400=0:=by rw[OW];exact e
    simp(disch:=omega)[wl,a,m];refine bE () (by simp[e]) ?_;simp;exact ag rfl rfl (by simp[aI,ap,ac,a]) (by simp[bD,ac,a]) (by simp[bB])
   ·have m:¬f.sp.tmod 86400=0:=by rw[OW];exact e
    have g:ld f=9:=by unfold ld;rw[if_neg u,if_neg C,if_neg D,if_pos ⟨a,e⟩]
    rw[g,if_pos (by decide)]at b;simp(disch:=omega)[wl,a,m,b]
  ·simp(disch:=omega)[wl,a];refine bE () (by simp[a]) ?_;simp;exact bp
 rintro _ F;simp;have g:ld f=(if f.b.k≠0 then (addS f.b.s f.sp).2 else 0):=by unfold ld;rw[if_neg u,if_neg C,if_neg D,if_neg F]
 refine wq hm [] [] (fun _:Unit=>[]) (fun _=>[]) (fun _=>ld f=0) ?_ ?_
 ·by_cases a:f.b.k=0
  ·simp(disch:=omega)[wl,a];refine bE () (by rw[g,if_neg (by simp[a])]) ?_;simp;exact ag rfl rfl (by simp[aI,ap,ac,a]) (by simp[bD,ac,a]) (by simp[bB])
  ·rw[if_pos a]at g;simp(disch:=omega)[wl,a];refine aa E ?_;by_cases v:(addS f.b.s f.sp).2=0
   ·simp(disch:=omega)[wl,v];refine bE () (by rw[g,v]) ?_;simp;exact ag rfl rfl (by simp[aI,ap,ac,a]) (by simp[bD,ac,a]) (by simp[bB])
   ·rw[g,if_pos v]at b;simp(disch:=omega)[wl,v,b]
 rintro _ H;rw[if_neg (by simp[H])]at b;simp;by_cases o:f.rd=true
 ·rw[if_pos o]at b;rw[o]at x;simp(disch:=omega)[wl,o];refine aa x ?_;simp[b]
 rw[if_neg o]at b;have o:f.rd=false:=by simpa using o
 have I:=q ce;have J:=q bn;have K:=q eO;have L:=q cO;simp only[nm_]at I J K L;simp(disch:=omega)[wl,o];refine aa (k _) ?_;simp;refine aa (k _) ?_;simp(disch:=omega)[wl];refine aa (k _) ?_;simp(disch:=omega)[wl];refine aa (k _) ?_;by_cases w:0<bG l ce\/0<bG l bn\/0<bG l eO\/0<bG l cO
 ·rw[if_pos w]at b;simp only[nm_]at w;have y:(0:Int)<(bG l [82,68,65,84,69]:Int)+(bG l [69,88,68,65,84,69]:Int)+(bG l [82,69,67,85,82,82,69,78,67,69,45,73,68]:Int)+(bG l [88,45,82,69,80,69,65,84]:Int):=by omega
  simp(disch:=omega)[wl,y,b]
 ·rw[if_neg w]at b;simp only[nm_]at w;have y:¬(0:Int)<(bG l [82,68,65,84,69]:Int)+(bG l [69,88,68,65,84,69]:Int)+(bG l [82,69,67,85,82,82,69,78,67,69,45,73,68]:Int)+(bG l [88,45,82,69,80,69,65,84]:Int):=by omega
  simp(disch:=omega)[wl,y,b]
end Go.Vs.YtcjeehebikeghaaGreatDoor.Vt
