/- A part of a proof. No conditions. -/
import Derived.Test.YtcjeehebikeghaaGreatDoorVHz
set_option linter.unusedVariables false
set_option linter.unusedSimpArgs false
set_option maxRecDepth 100000
set_option maxHeartbeats 16000000
namespace Go.Vs.YtcjeehebikeghaaGreatDoor.Vt
open Go.Proofs Go.Vs.U8 Go.Vs.Pa Go.Vs.Nu Go.Vs.Mo Go.Vs.Vt Go.Vs.YtcjeehebikeghaaGreatDoor.Rc
theorem OW(x:Int):(x.tmod 86400=0)=(x%86400=0):=by
 rw[<-Int.dvd_iff_tmod_eq_zero,<-Int.dvd_iff_emod_eq_zero]
theorem abr(f:Fc):Fn G2 T_ 96 [.ref (vh f)] (.int .i64 (ld f)):=by
 refine ae hm pz (by simp) ?_;have b:=mh f.b.k f.b.s;have c:=mh f.e.k f.e.s;have d:=Z4 f.b.s f.sp;simp[jx,vh,cells];refine aa b ?_;simp;refine aa c ?_;simp;refine⟨rfl,?_⟩;obtain⟨R,a⟩:∃R,ld f=R:=⟨_,rfl⟩;rw[a];unfold ld at a
 repeat' (first|(refine Pd (fun h=>?_) (fun h=>?_)<;>simp(disch:=omega)[wl,h,OW])|(refine aa d ?_;simp;refine⟨rfl,?_⟩)|(rw[<-a];(repeat' split)<;>first|rfl|(exfalso;omega)))
theorem W8(f:Fc)(l:List Ln)(p:FitF f)(u:l.length<100000):Fn G2 T_ 97 [.ref (vh f),.slice (ls l)] (.int .i64 (lq f l)):=by
 refine ae hm o8 (by simp) ?_;have v:=mh f.b.k f.b.s;have hT:=mh f.at'.k f.at'.s;have q:=abo f;have w:=R9 p.set;have s:=up (EA l ce u);have n:=up (aaT f.uid (by have:=p.ul;omega));have g:=T4 f p;simp only[Fc.iv,vh,cells,List.cons_append,List.nil_append]at q g;simp only[ce]at s;simp[iM,vh,cells];refine aa v ?_;by_cases h:f.b.k=0
 ·have b:lq f l=9:=by unfold lq;rw[if_pos h]
  simp(disch:=omega)[wl,h,b]
 simp(disch:=omega)[wl,h];refine aa q ?_;simp;refine aa w ?_;by_cases o:Je f.b f.ru f.i f.o=0
 case neg=>
  have b:lq f l=Je f.b f.ru f.i f.o:=by unfold lq;rw[if_neg h,if_pos o]
  simp(disch:=omega)[wl,o,b]
 have a:lq f l=(if f.af=true/\0<bG l ce then 9
  else if f.at'.k≠0/\f.at'.k≠f.b.k then 11 else if f.at'.k≠0/\f.at'.s<f.b.s then 8 else if 20<(jj f.uid).length then 5 else if (kQ f).2=false then 8 else 0):=by
  unfold lq;rw[if_neg h,if_neg (by simp[o])]
 simp(disch:=omega)[wl,o];by_cases k:f.af=true
 ·rw[k]at g;simp(disch:=omega)[wl,k];refine aa s ?_;by_cases m:0<bG l ce
  ·have b:lq f l=9:=by rw[a,if_pos ⟨k,m⟩]
   simp only[ce]at m;simp(disch:=omega)[wl,m,b]
  ·rw[if_neg (by simp[m])]at a;simp only[ce]at m;simp(disch:=omega)[wl,m];refine aa hT ?_;by_cases e:f.at'.k=0
   ·rw[if_neg (by simp[e]),if_neg (by simp[e])]at a;rw[e]at hT g;simp(disch:=omega)[wl,e];refine⟨rfl,?_⟩;refine aa hT ?_;simp(disch:=omega)[wl,e];refine⟨rfl,?_⟩;refine aa n ?_;by_cases d:20<(jj f.uid).length
    ·have b:lq f l=5:=by rw[a,if_pos d]
     simp(disch:=omega)[wl,d,b]
    rw[if_neg d]at a;simp(disch:=omega)[wl,d];refine aa g ?_;by_cases c:(kQ f).2=false
    ·have b:lq f l=8:=by rw[a,if_pos c]
     simp(disch:=omega)[wl,c,b]
    ·have b:lq f l=0:=by rw[a,if_neg c]
     have c:(kQ f).2=true:=by simpa using c
     simp(disch:=omega)[wl,c,b]
   ·by_cases i:f.at'.k=f.b.k
    ·rw[if_neg (by simp[i])]at a;rw[i]at hT g;simp(disch:=omega)[wl,i,h];refine⟨rfl,?_⟩;refine aa hT ?_;by_cases j:f.at'.s<f.b.s
     ·have b:lq f l=8:=by rw[a,if_pos ⟨e,j⟩]
      simp(disch:=omega)[wl,h,j,b];exact rfl
     ·rw[if_neg (by simp[j])]at a;simp(disch:=omega)[wl,h,j];refine⟨rfl,?_⟩;refine aa n ?_;by_cases d:20<(jj f.uid).length
      ·have b:lq f l=5:=by rw[a,if_pos d]
       simp(disch:=omega)[wl,d,b]
      rw[if_neg d]at a;simp(disch:=omega)[wl,d];refine aa g ?_;by_cases c:(kQ f).2=false
      ·have b:lq f l=8:=by rw[a,if_pos c]
       simp(disch:=omega)[wl,c,b]
      ·have b:lq f l=0:=by rw[a,if_neg c]
       have c:(kQ f).2=true:=by simpa using c
       simp(disch:=omega)[wl,c,b]
    ·have b:lq f l=11:=by rw[a,if_pos ⟨e,i⟩]
     simp(disch:=omega)[wl,e,i,b];exact rfl
 ·rw[if_neg (by simp[k])]at a;have k:f.af=false:=by simpa using k
  rw[k]at g;simp(disch:=omega)[wl,k];refine aa hT ?_;by_cases e:f.at'.k=0
  ·rw[if_neg (by simp[e]),if_neg (by simp[e])]at a;rw[e]at hT g;simp(disch:=omega)[wl,e];refine⟨rfl,?_⟩;refine aa hT ?_;simp(disch:=omega)[wl,e];refine⟨rfl,?_⟩;refine aa n ?_;by_cases d:20<(jj f.uid).length
   ·have b:lq f l=5:=by rw[a,if_pos d]
    simp(disch:=omega)[wl,d,b]
   rw[if_neg d]at a;simp(disch:=omega)[wl,d];refine aa g ?_;by_cases c:(kQ f).2=false
   ·have b:lq f l=8:=by rw[a,if_pos c]
    simp(disch:=omega)[wl,c,b]
   ·have b:lq f l=0:=by rw[a,if_neg c]
    have c:(kQ f).2=true:=by simpa using c
    simp(disch:=omega)[wl,c,b]
  ·by_cases i:f.at'.k=f.b.k
   ·rw[if_neg (by simp[i])]at a;rw[i]at hT g;simp(disch:=omega)[wl,i,h];refine⟨rfl,?_⟩;refine aa hT ?_;by_cases j:f.at'.s<f.b.s
    ·have b:lq f l=8:=by rw[a,if_pos ⟨e,j⟩]
     simp(disch:=omega)[wl,h,j,b];exact rfl
    ·rw[if_neg (by simp[j])]at a;simp(disch:=omega)[wl,h,j];refine⟨rfl,?_⟩;refine aa n ?_;by_cases d:20<(jj f.uid).length
     ·have b:lq f l=5:=by rw[a,if_pos d]
      simp(disch:=omega)[wl,d,b]
     rw[if_neg d]at a;simp(disch:=omega)[wl,d];refine aa g ?_;by_cases c:(kQ f).2=false
     ·have b:lq f l=8:=by rw[a,if_pos c]
      simp(disch:=omega)[wl,c,b]
     ·have b:lq f l=0:=by rw[a,if_neg c]
      have c:(kQ f).2=true:=by simpa using c
      simp(disch:=omega)[wl,c,b]
   ·have b:lq f l=11:=by rw[a,if_pos ⟨e,i⟩]
    simp(disch:=omega)[wl,e,i,b];exact rfl
def vn:List Str:=[ce,bn,eO,cO]
theorem Zg(f:Fc)(l:List Ln)(z:FitF f)(w:l.length<100000):Fn G2 T_ 43 [.ref (vh f),.slice (ls l)] (.int .i64 (dV f l)):=by
 refine ae hm oC (by simp) ?_;have m:∀n,Fn G2 T_ 29 [.slice (ls l),.str n] (.int .i64 (bG l n)):=fun n=>up (EA l n w)
 have x:=MS f.li;have y:=abr f;have v:=W8 f l z w;simp only[vh,cells,List.cons_append,List.nil_append,Lif.iv]at y v x;simp[j7,vh,cells];refine aa (m _) ?_;by_cases h:bG l cp=0
 ·have e:dV f l=6:=by unfold dV;rw[if_pos (.inl h)]
  simp only[cp]at h;simp(disch:=omega)[wl,h,e]
 by_cases q:bG l aK=0
 ·have e:dV f l=6:=by unfold dV;rw[if_pos (.inr q)]
  simp only[cp]at h;simp(disch:=omega)[wl,h];refine aa (m _) ?_;simp only[aK]at q;simp(disch:=omega)[wl,q,e]
 have a:dV f l=(if tQ f.li≠0 then tQ f.li else if ld f≠0 then ld f
  else if f.rd=true then lq f l else if 0<bG l ce\/0<bG l bn\/0<bG l eO\/0<bG l cO then 9 else 0):=by
  unfold dV;rw[if_neg (by simp[h,q])]
 simp only[cp]at h;simp(disch:=omega)[wl,h];refine aa (m _) ?_;simp only[aK]at q;simp(disch:=omega)[wl,q];refine aa x ?_;by_cases s:tQ f.li=0
 case neg=>
  have e:dV f l=tQ f.li:=by rw[a,if_pos s]
  simp(disch:=omega)[wl,s,e]
 rw[if_neg (by simp[s])]at a;simp(disch:=omega)[wl,s];refine aa y ?_;by_cases u:ld f=0
 case neg=>
  have e:dV f l=ld f:=by rw[a,if_pos u]
  simp(disch:=omega)[wl,u,e]
 rw[if_neg (by simp[u])]at a;simp(disch:=omega)[wl,u];by_cases o:f.rd=true
 ·have e:dV f l=lq f l:=by rw[a,if_pos o]
  rw[o]at v;simp(disch:=omega)[wl,o];refine aa v ?_;simp[e]
 rw[if_neg o]at a;have o:f.rd=false:=by simpa using o
 simp(disch:=omega)[wl,o];refine be hm [8] (fun i:Nat=>[(38,.val (.int .i64 i))]) (fun _=>[]) (fun i=>i<=4/\∀n∈vn.take i,bG l n=0) (fun i=>4-i) 0 ⟨by omega,by simp⟩ ?_ ?_
 ·simp;exact bp
 rintro i ⟨B,k⟩;simp;have p:i=0\/i=1\/i=2\/i=3\/i=4:=by omega
 rcases p with rfl|rfl|rfl|rfl|rfl
 ·simp;refine aa (m _) ?_;by_cases b:0<bG l ce
  ·have e:dV f l=9:=by rw[a,if_pos (.inl b)]
   simp only[ce]at b;simp(disch:=omega)[wl,b,e]
  ·have g:bG l ce=0:=by omega
   have A:=b;simp only[ce]at b;simp(disch:=omega)[wl,b];refine ai 1 ⟨by omega,fun n c=>?_⟩ (by omega) ?_
   ·simp[vn]at c;simp[vn]at k;subst c;exact g
   simp;exact bp
 ·simp;refine aa (m _) ?_;by_cases b:0<bG l bn
  ·have e:dV f l=9:=by rw[a,if_pos (.inr (.inl b))]
   simp only[bn]at b;simp(disch:=omega)[wl,b,e]
  ·have g:bG l bn=0:=by omega
   simp only[bn]at b;simp(disch:=omega)[wl,b];refine ai 2 ⟨by omega,fun n c=>?_⟩ (by omega) ?_
   ·rw[show vn.take 2=vn.take 1++[bn]from rfl]at c;rcases List.mem_append.1 c with c|c
    ·exact k n c
    ·rw[List.mem_singleton.1 c];exact g
   simp;exact bp
 ·simp;refine aa (m _) ?_;by_cases b:0<bG l eO
  ·have e:dV f l=9:=by rw[a,if_pos (.inr (.inr (.inl b)))]
   simp only[eO]at b;simp(disch:=omega)[wl,b,e]
  ·have g:bG l eO=0:=by omega
   simp only[eO]at b;simp(disch:=omega)[wl,b];refine ai 3 ⟨by omega,fun n c=>?_⟩ (by omega) ?_
   ·rw[show vn.take 3=vn.take 2++[eO]from rfl]at c;rcases List.mem_append.1 c with c|c
    ·exact k n c
    ·rw[List.mem_singleton.1 c];exact g
   simp;exact bp
 ·simp;refine aa (m _) ?_;by_cases b:0<bG l cO
  ·have e:dV f l=9:=by rw[a,if_pos (.inr (.inr (.inr b)))]
   simp only[cO]at b;simp(disch:=omega)[wl,b,e]
  ·have g:bG l cO=0:=by omega
   simp only[cO]at b;simp(disch:=omega)[wl,b];refine ai 4 ⟨by omega,fun n c=>?_⟩ (by omega) ?_
   ·rw[show vn.take 4=vn.take 3++[cO]from rfl]at c;rcases List.mem_append.1 c with c|c
    ·exact k n c
    ·rw[List.mem_singleton.1 c];exact g
   simp;exact bp
 ·have e:dV f l=0:=by
   rw[a,if_neg (by rw[k ce (by decide),k bn (by decide),k eO (by decide),k cO (by decide)];omega)]
  simp[e]
theorem MZ(q:Option Pm):∀(l:List Str) (a:List Mom),(∀v∈a,Bk v)->∀v∈(io q l a).2,Bk v
 |[],a,h=>by rw[lg];exact h
 |s::r,a,h=>by
  rw[jA];split
  ·simp
  ·split
   ·simp
   ·refine MZ q r _ fun v b=>?_
    rcases List.mem_append.1 b with b|b
    ·exact h v b
    ·rw[List.mem_singleton.1 b];exact yv s
theorem JJ(x:Ln):∀v∈(d5 x).2,Bk v:=by
 unfold d5;split
 ·simp
 ·exact MZ _ _ _ (by simp)
theorem mj:Bk SR:=⟨by decide,by decide,by decide⟩
theorem ET(x:Ln):Bk (gE x).2:=by
 unfold gE;split
 ·exact mj
 ·split
  ·next h=>
   have:=JJ x;cases c:(d5 x).2 with
   |nil=>exact mj
   |cons a r=>exact this a (by rw[c];simp)
  ·exact mj
theorem W9(x:Ln):Bk (rA x).2:=by
 unfold rA;split<;>exact yv x.v
theorem Zh(s:Str):-86399913600<=(fM s).1/\(fM s).1<=86399913600:=by
 unfold fM;split
 ·split
  ·split
   ·simp
   ·split<;>(simp only;omega)
  ·simp
 ·simp
theorem abs(x:Ln):-86399913600<=(GH x).2/\(GH x).2<=86399913600:=by
 unfold GH;split<;>exact Zh x.v
theorem Zi(s:Str):0<=(KX s).1:=by
 by_cases h:∃t:Int,1<=t/\t<=4/\qw t=s
 ·obtain⟨t,a,c,d⟩:=h;rw[JD ⟨a,c⟩ d];exact(by omega:(0:Int)<=t)
 ·rw[YW (fun t a c e=>h ⟨t,a,by omega,e⟩)];decide
theorem abt{hi:Int}(s:Str)(a:0<=hi):0<=(cF 5 0 hi false s).1/\(cF 5 0 hi false s).1<=hi:=by
 unfold cF;simp only[Bool.false_and,Bool.false_eq_true,if_false,false_and];split
 ·simp[a]
 ·split
  ·simp[a]
  ·next h=>exact⟨by simp,by simp only;omega⟩
theorem abu(s:Str):Fin (ruV s):=by
 unfold ruV;cases h:kD s with
 |no e p=>exact⟨by simp[uW,Ws],by simp[Ws],by simp[Ws]⟩
 |ok r=>exact(QR h).1
def Wa(n:Nat)(f:Fc):Prop:=FitF f/\f.i.length<=1001*n/\f.o.length<=1001*n
theorem qJ{n:Nat}{f:Fc}{x:Ln}(h:Wa n f)(H:n<50)(I:x.v.length<=1000):Wa (n+1) (ch f x):=by
 obtain⟨c,hi,J⟩:=h;have K:=qI x;have g:=JJ x;unfold ch;by_cases q:x.n=cp
 ·rw[if_pos q];exact⟨{c with ul:=by show x.v.length<100000;omega },by show f.i.length<=_;omega,by show f.o.length<=_;omega⟩
 rw[if_neg q];by_cases s:x.n=aK
 ·rw[if_pos s];exact⟨{c with st:=W9 x },by show f.i.length<=_;omega,by show f.o.length<=_;omega⟩
 rw[if_neg s];by_cases u:x.n=bq
 ·rw[if_pos u];exact⟨{c with ls:=c.ls },by show f.i.length<=_;omega,by show f.o.length<=_;omega⟩
 rw[if_neg u];by_cases w:x.n=aV
 ·rw[if_pos w];exact⟨{c with b:=ET x },by show f.i.length<=_;omega,by show f.o.length<=_;omega⟩
 rw[if_neg w];by_cases y:x.n=cN
 ·rw[if_pos y];exact⟨{c with e:=ET x },by show f.i.length<=_;omega,by show f.o.length<=_;omega⟩
 rw[if_neg y];by_cases z:x.n=eO
 ·rw[if_pos z];exact⟨{c with t:=ET x },by show f.i.length<=_;omega,by show f.o.length<=_;omega⟩
 rw[if_neg z];by_cases A:x.n=ce
 ·rw[if_pos A];refine⟨{c with il:=?_,ik:=?_ },?_,by show f.o.length<=_;omega⟩
  ·show(f.i++(d5 x).2).length<_;rw[List.length_append];omega
  ·intro v a;rcases List.mem_append.1 a with a|a
   ·exact c.ik v a
   ·exact(g v a).1
  ·show(f.i++(d5 x).2).length<=_;rw[List.length_append];omega
 rw[if_neg A];by_cases B:x.n=bn
 ·rw[if_pos B];refine⟨{c with ol:=?_,ok:=?_ },by show f.i.length<=_;omega,?_⟩
  ·show(f.o++(d5 x).2).length<_;rw[List.length_append];omega
  ·intro v a;rcases List.mem_append.1 a with a|a
   ·exact c.ok v a
   ·exact(g v a).1
  ·show(f.o++(d5 x).2).length<=_;rw[List.length_append];omega
 rw[if_neg B];by_cases C:x.n=bM
 ·rw[if_pos C];exact⟨{c with sp:=abs x },by show f.i.length<=_;omega,by show f.o.length<=_;omega⟩
 rw[if_neg C];by_cases i:x.n=cg
 ·rw[if_pos i];exact⟨{c with ls:=c.ls },by show f.i.length<=_;omega,by show f.o.length<=_;omega⟩
 rw[if_neg i];by_cases k:x.n=bN
 ·rw[if_pos k];exact⟨{c with ls:=Zi x.v },by show f.i.length<=_;omega,by show f.o.length<=_;omega⟩
 rw[if_neg k];by_cases l:x.n=cY
 ·rw[if_pos l];exact⟨{c with ls:=c.ls },by show f.i.length<=_;omega,by show f.o.length<=_;omega⟩
 rw[if_neg l];by_cases m:x.n=cn
 ·rw[if_pos m];have L:=abt (hi:=9) x.v (by decide);exact⟨{c with pp:=⟨by show -1<=(cF 5 0 9 false x.v).1;omega,by show(cF 5 0 9 false x.v).1<=1000;omega⟩ },by show f.i.length<=_;omega,by show f.o.length<=_;omega⟩
 rw[if_neg m];by_cases o:x.n=cc
 ·rw[if_pos o];obtain⟨D,E,F⟩:=abu x.v;exact⟨{c with rf:=D,uk:=E,rk:=F },by show f.i.length<=_;omega,by show f.o.length<=_;omega⟩
 rw[if_neg o];by_cases p:x.n=cO
 ·rw[if_pos p];exact⟨{c with ls:=c.ls },by show f.i.length<=_;omega,by show f.o.length<=_;omega⟩
 rw[if_neg p];exact⟨c,by omega,by omega⟩
theorem OX:Wa 0 fc1:=by
 refine⟨⟨mj,mj,mj,mj,?_,?_,?_,?_,?_,?_,?_,?_,?_,?_,?_⟩,?_,?_⟩<;>simp[fc1,Zv,KW,uW,Ws,SR]
theorem Wd(n:Str):Fn G2 T_ 41 [.str n] (.bool (decide (n∈kF))):=by
 refine ae hm GJ (by simp) ?_;by_cases a:n∈kF
 ·simp only[kF,List.mem_cons,List.not_mem_nil,or_false]at a;rcases a with rfl|rfl|rfl|rfl|rfl|rfl|rfl|rfl|rfl|rfl|rfl|rfl|rfl<;>simp[qC,kF,nm_]
 ·have g:decide (n∈kF)=false:=decide_eq_false a;rw[g];simp[kF,nm_]at a;obtain⟨h,i,k,l,m,o,p,q,s,b,c,e,f⟩:=a;simp[qC,h,i,k,l,m,o,p,q,s,b,c,e,f]
theorem Rk{f:Fc}{x:Ln}(h:br x=0):cU f x=ch f x:=by
 unfold cU;rw[if_neg];rintro⟨a,b⟩;apply b;rw[<-h];rcases a with a|a|a<;>simp[br,a,nm_]
def T9:RdX->IV
 |.no e p=>.tuple [Zv.iv,dq e [(p:Int)]]
 |.ok f=>.tuple [f.iv,.nili]
def bxR(f:Fc)(a b:Nat):List SV:=[.val (.str f.uid),.val (.str f.sm),.val (.int .u8 f.st.k),.val (.int .i64 f.st.s),.val (.int .u8 f.b.k),.val (.int .i64 f.b.s),.val (.int .u8 f.e.k),.val (.int .i64 f.e.s),.val (.int .i64 f.sp),.val (.int .u8 f.li.s),.val (.int .i64 f.li.p),.val (.int .i64 f.li.d),.val (.int .i64 f.pr),.val (.bool f.rd)]++(jW f.ru++[.own 7 a,.own 8 b,.val (.int .u8 f.at'.k),.val (.int .i64 f.at'.s),.val (.bool f.af)])
theorem H6(f:Fc)(a b:Nat):rQ [(1000,4),(1001,7),(1002,8)] (jK f a b)=bxR f a b:=rfl
def bxV(f:Fc):List SV:=(vh f).map .val
theorem abv(f:Fc)(a b:Nat):((bxR f a b).set 29 (.val (.slice (ms f.i)))).set 30 (.val (.slice (ms f.o)))=bxV f:=rfl
theorem adn(f:Fc)(a b:Nat):(bxR f a b)[29]?=some (.own 7 a):=rfl
theorem ado(f:Fc)(b a:Nat)(s:SV):((bxR f b a).set 29 s)[30]?=some (.own 8 a):=rfl
theorem Rm(l:List Ln):∀a∈ls l,a.length=3:=by
 intro r b;obtain⟨x,_,rfl⟩:=List.mem_map.1 b;rfl
theorem xX(l:List Ln)(M:kl l)(C:∀x∈l,x.v.length<=1000)(N:l.length<100000):Fn G2 T_ 10 [.slice (ls l)] (T9 (mH l)):=by
 refine ae hm KZ (by simp) ?_;obtain⟨R,o⟩:∃R,mH l=R:=⟨_,rfl⟩;rw[o];unfold mH at o;simp[Db];by_cases y:24<l.length
 ·rw[if_pos y]at o;subst o;have k:=up (fP 20 24);rw[if_neg (by decide)]at k;simp(disch:=omega)[wl,y,bv];refine aa k ?_;simp[T9];rfl
 ·rw[if_neg y]at o;simp(disch:=omega)[wl,y,bv];refine aa abg ?_;simp[Lif.iv,KW];have z:∀f,FitF f->_:=fun f D=>Zg f l D N
  refine wq hm [] [] (fun f:Fc=>[]) (fun f=>[(4,.box (bxV f))]) (fun f=>FitF f/\(if dV f l=0 then RdX.ok f else .no (dV f l) l.length)=R) ?_ ?_
  ·simp(disch:=omega)[wl,bv];refine be hm [] (fun p:Nat×Fc×Nat×Nat=>[(18,.val (.int .i64 p.1))]) (fun p=>[(4,.box (bxR p.2.1 p.2.2.1 p.2.2.2)),(7,.arr p.2.2.1 2 (ms p.2.1.i)),(8,.arr p.2.2.2 2 (ms p.2.1.o))]) (fun p=>p.1<=l.length/\Wa p.1 p.2.1/\ju l (l.drop p.1) p.1 p.2.1=R) (fun p=>l.length-p.1) (0,fc1,0,0) ⟨by simp,OX,by simpa using o⟩ ?_ ?_
   ·simp;exact cH.trans (ya false (d:=4) (j:=29) 7 2 (by simp) (by decide) rfl rfl rfl) (cH.trans (ya false (d:=4) (j:=30) 8 2 (by simp[St.adoptC]) (by decide) rfl rfl rfl) (cH.trans (yo (d:=4) rfl rfl) (ag rfl rfl (by simp[St.adoptC,aI,ap,ac,cS,SV.erase]) (by simp[St.adoptC,bD,ac,put,ck,fh,Ob.erase,SV.erase,Jd,ra,BN,bxR,fc1,Zv,jW,KW,Ws,SR,is,sX,ms]) (by simp[bB,St.adoptC]))))
   rintro⟨i,f,s,u⟩ ⟨O,q,b⟩;dsimp only at O q b;clear o;simp[bv];by_cases h:i<l.length
   ·obtain⟨x,F⟩:∃x,l[i]=x:=⟨_,rfl⟩;have m:x∈l:=F▸List.getElem_mem h;have H:=sf h F;have K:=M x m;have L:=up (MB x K);rw[List.drop_eq_getElem_cons h,F]at b;obtain⟨E,a⟩:∃E,MR (l.take i) x=E:=⟨_,rfl⟩;simp only[ju,a]at b;unfold MR at a;simp only[Ln.iv]at L
    have k:∀e:Int,e≠0->Fn G2 T_ 38 [.int .i64 e,.int .i64 i] (dq e [(i:Int)]):=fun e P=>by
     have:=up (fP e i)
     rwa[if_neg P]at this
    have I:=fnM_take f s u x K (by have:=C x m;omega) (by have:=q.2.1;omega) (by have:=q.2.2;omega);simp only[Ln.iv]at I;have Q:=Wd x.n;have S:=up (EA (l.take i) x.n (by rw[List.length_take];omega));have v:(ls l).take i=ls (l.take i):=by simp[ls,List.map_take]
    simp(disch:=omega)[wl,H];refine aa L ?_;by_cases n:gS x=0
    case neg=>
     rw[if_pos n]at a;subst a;rw[if_neg n]at b;subst b;simp(disch:=omega)[wl,n];refine aa (k _ n) ?_;simp[T9];rfl
    rw[if_neg (by simp[n])]at a;by_cases c:x.n=yG\/x.n=yH
    ·rw[if_pos c]at a;subst a;rw[if_neg (by decide)]at b;subst b;rcases c with c|c
     ·simp only[yG]at c;simp(disch:=omega)[wl,n,c];refine aa (k _ (by decide)) ?_;simp[T9];rfl
     ·simp only[yH]at c;simp(disch:=omega)[wl,n,c];refine aa (k _ (by decide)) ?_;simp[T9];rfl
    rw[if_neg c]at a;simp only[not_or,yG,yH]at c;obtain⟨c,J⟩:=c;simp(disch:=omega)[wl,n,c,J];refine aa Q ?_;by_cases A:x.n∈kF
    ·simp(disch:=omega)[wl,A,v];refine⟨⟨by rw[bv];omega,Rm l⟩,?_⟩;refine aa S ?_;by_cases B:0<bG (l.take i) x.n
     ·rw[if_pos ⟨A,B⟩]at a;subst a;rw[if_neg (by decide)]at b;subst b;simp(disch:=omega)[wl,B];refine⟨rfl,?_⟩;refine aa (k _ (by decide)) ?_;simp[T9];rfl
     rw[if_neg (by simp[B])]at a;simp(disch:=omega)[wl,B];refine⟨rfl,?_⟩;subst a;refine callM [(1000,4),(1001,7),(1002,8)] [] I rfl rfl ⟨rfl,rfl,rfl,trivial⟩ ⟨rfl,[],[],rfl,rfl,rfl⟩ rfl ?_;by_cases g:br x=0
     ·rw[if_pos g]at b;rw[Rk g];simp(disch:=omega)[wl,g,fE,H6];refine ai (i+1,ch f x,mJ x s,mL x u) ⟨by omega,qJ q (by omega) (C x m),b⟩ (by simp;omega) ?_;simp;exact bp
     ·rw[if_neg g]at b;subst b;simp(disch:=omega)[wl,g,fE,H6];refine aa (k _ g) ?_;simp[T9];rfl
    ·rw[if_neg (by simp[A])]at a;simp(disch:=omega)[wl,A];refine⟨rfl,?_⟩;subst a;refine callM [(1000,4),(1001,7),(1002,8)] [] I rfl rfl ⟨rfl,rfl,rfl,trivial⟩ ⟨rfl,[],[],rfl,rfl,rfl⟩ rfl ?_;by_cases g:br x=0
     ·rw[if_pos g]at b;rw[Rk g];simp(disch:=omega)[wl,g,fE,H6];refine ai (i+1,ch f x,mJ x s,mL x u) ⟨by omega,qJ q (by omega) (C x m),b⟩ (by simp;omega) ?_;simp;exact bp
     ·rw[if_neg g]at b;subst b;simp(disch:=omega)[wl,g,fE,H6];refine aa (k _ g) ?_;simp[T9];rfl
   ·obtain rfl:i=l.length:=by omega
    rw[List.drop_length]at b;simp only[ju]at b;simp(disch:=omega)[wl];refine bE f ⟨q.1,b⟩ ?_;exact cH.trans (oY (d:=4) (j:=29) (id:=7) rfl (adn f s u) rfl (by decide) rfl) (cH.trans (oY (d:=4) (j:=30) (id:=8) rfl (ado f s u _) rfl (by decide) rfl) (ag rfl rfl (by simp[aI,ap,ac,bv]) (by simp[bD,ac,put,abv]) (by simp[bB])))
  ·rintro f ⟨D,b⟩;have z:=z f D;simp only[vh,cells,List.cons_append,List.nil_append]at z;simp[bxV,vh,cells];refine aa z ?_;by_cases w:dV f l=0
   ·rw[if_pos w]at b;subst b;simp(disch:=omega)[wl,w,T9];rfl
   ·rw[if_neg w]at b;subst b;have k:=up (fP (dV f l) l.length);rw[if_neg w]at k;simp(disch:=omega)[wl,w,bv];refine aa k ?_;simp[T9];rfl
theorem abw{l:List Ln}{n:Str}{x:Ln}(h:qQ l n=some x):x∈l:=List.mem_of_find?_eq_some h
theorem Ul{l:List Ln}(c:kl l){n v:Str}(a:n.length<100000)(b:v.length<100000):FitX ⟨n,prm l n,v⟩:=by
 unfold prm;cases h:qQ l n with
 |none=>exact⟨a,by simp,⟨by simp,by simp,by simp⟩,b⟩
 |some x=>
  have:=c x (abw h);exact⟨a,this.p,this.f,b⟩
theorem abx{l:List Ln}(a:kl l){n v:Str}(b:n.length<100000)(c:v.length<100000):kl (YU l n v):=by
 intro y d;rcases Da (by rw[<-SS];exact d)with h|h
 ·rw[h];exact Ul a b c
 ·exact a y h
theorem agn{l:List Ln}{n v:Str}{B:Nat}(a:∀x∈l,x.v.length<=B)(b:v.length<=B):∀x∈YU l n v,x.v.length<=B:=by
 intro y c;rcases Da (by rw[<-SS];exact c)with h|h
 ·rw[h];exact b
 ·exact a y h
theorem Rn{l:List Ln}(a:kl l){n v:Str}{b:Bool}(c:n.length<100000)(d:v.length<100000):kl (rB l n v b):=by
 unfold rB;split
 ·exact abx a c d
 ·exact fun x e=>a x (yq e)
theorem ae1{l:List Ln}{n v:Str}{B:Nat}{b:Bool}(a:∀x∈l,x.v.length<=B)(c:v.length<=B):∀x∈rB l n v b,x.v.length<=B:=by
 unfold rB;split
 ·exact agn a c
 ·exact fun x d=>a x (yq d)
theorem Um(l:List Ln)(n v:Str)(b:kl l)(c:l.length<100000)(d:n.length<100000)(e:v.length<100000):Fn G2 T_ 79 [.slice (ls l),.str n,.str v] (.slice (ls (YU l n v))):=by
 refine ae hm Ox (by simp) ?_;have f:=up (TX l n c b);have a:=up (O2 l ⟨n,prm l n,v⟩ c b (Ul b d e));simp only[Ln.iv]at a;rw[SS];simp[Gd];refine aa f ?_;unfold prm at a |-;cases h:qQ l n with
 |none=>
  rw[h]at a;simp only at a;simp[Vw,Ln.iv];refine aa a ?_;simp
 |some x=>
  rw[h]at a;simp only at a;simp[Vw,Ln.iv];refine aa a ?_;simp
theorem OY(l:List Ln)(n v:Str)(b:Bool)(a:kl l)(c:l.length<100000)(d:n.length<100000)(e:v.length<100000):Fn G2 T_ 63 [.slice (ls l),.str n,.str v,.bool b] (.slice (ls (rB l n v b))):=by
 refine ae hm L7 (by simp) ?_;have f:=Um l n v a c d e;have g:=up (II l n c a);simp[Dt];cases b with
 |true=>
  simp;refine aa f ?_;simp[rB]
 |false=>
  simp;refine aa g ?_;simp[rB]
theorem fn_Clone(l:List Ln)(a:l.length<100000):Fn G2 T_ 61 [.slice (ls l)] (.slice (ls l)):=by
 refine ae hm xI (by simp) ?_;simp[oL];cases l with
 |nil=>simp[ls]
 |cons x r=>
  simp[ls];simp at a;omega
theorem adp{x:Lif}(h:tQ x=0):-1<=x.p/\x.p<=100/\-1<=x.d/\x.d<=315537897599/\x.s<=4:=by
 unfold tQ at h;split at h
 ·simp at h
 ·split at h
  ·simp at h
  ·omega
theorem aby{v:Mom} : KF v≠[]:=by
 intro h;have:=congrArg List.length h;simp[KF,Mo.dayT,jm]at this
theorem Zj(x:Lif):(xt x≠[])=(0<=x.d):=by
 unfold xt;by_cases h:0<=x.d
 ·simp[h,aby]
 ·simp[h]
theorem We(x:Lif):(xt x).length<=16:=by
 unfold xt;split
 ·exact Yi _
 ·simp
theorem itoa_len{n:Int}(h:-1<=n/\n<=100):(Lib.itoa n).length<=6:=by
 have:=MF (n:=n) (by omega);unfold Lib.itoa;split
 ·simp only[List.length_cons];omega
 ·rw[show n.toNat=n.natAbs by omega];omega
theorem Ro(s:Int):(qw s).length<=12:=by
 unfold qw;split
 ·decide
 split
 ·decide
 split
 ·decide
 split<;>decide
theorem Rp(l:List Ln)(x:Lif)(s:kl l)(D:l.length<90000)(E:0<=x.s):Fn G2 T_ 23 [.slice (ls l),Lif.iv x] (.slice (ls (Jf l x))):=by
 refine ae hm Do (by simp) ?_;have i:=MS x;have j:=fn_Clone l (by omega);simp only[Lif.iv]at i;by_cases f:tQ x=0
 case neg=>
  have d:Jf l x=l:=by unfold Jf;rw[if_pos f]
  simp[ng,Lif.iv];refine aa i ?_;simp(disch:=omega)[wl,f];refine aa j ?_;simp[d]
 obtain⟨u,v,F,H,I⟩:=adp f;have w:=QX x.s;have y:=up (aaR x.p (by omega) (by omega));have k:=ML ⟨3,x.d⟩ (show(0:Int)<=3 by decide);obtain⟨R,d⟩:∃R,Jf l x=R:=⟨_,rfl⟩;rw[d];unfold Jf at d;rw[if_neg (by simp[f])]at d;have A:=QV l bN (qw x.s) (decide (x.s≠0));have m:kl (rB l bN (qw x.s) (decide (x.s≠0))):=Rn s (by decide) (by have:=Ro x.s;omega);have b:=OY l bN (qw x.s) (decide (x.s≠0)) s (by omega) (by decide) (by have:=Ro x.s;omega);obtain⟨g,e1⟩:∃g,rB l bN (qw x.s) (decide (x.s≠0))=g:=⟨_,rfl⟩;rw[e1]at b m A d;have C:=QV g cY (Lib.itoa x.p) (decide (0<=x.p));have z:kl (rB g cY (Lib.itoa x.p) (decide (0<=x.p))):=Rn m (by decide) (by have:=itoa_len ⟨u,v⟩;omega);have c:=OY g cY (Lib.itoa x.p) (decide (0<=x.p)) m (by omega) (by decide) (by have:=itoa_len ⟨u,v⟩;omega);obtain⟨n,e2⟩:∃n,rB g cY (Lib.itoa x.p) (decide (0<=x.p))=n:=⟨_,rfl⟩;rw[e2]at c z C d;have a:=OY n bq (xt x) (decide (0<=x.d)) z (by omega) (by decide) (by have:=We x;omega);rw[d]at a;simp only[bN,cY,bq,ne_eq,decide_not]at b c a;have o:0<=x.d->jI ⟨3,x.d⟩=0:=fun h=>by unfold jI;rw[if_neg (by simp),if_neg (by simp only;omega),if_neg (by simp)]
 simp[ng,Lif.iv];refine aa i ?_;by_cases e:0<=x.d
 ·have p:xt x=KF ⟨3,x.d⟩:=by unfold xt;rw[if_pos e]
  unfold aa1 at k;rw[o e,if_pos rfl,<-p]at k;rw[decide_eq_true e]at a;have q:xt x≠[]:=by rw[Zj];exact e
  simp(disch:=omega)[wl,f,e];refine aa k ?_;simp;refine aa w ?_;simp;refine aa b ?_;simp;refine⟨rfl,?_⟩;refine aa y ?_;simp;refine aa c ?_;simp;refine⟨rfl,?_⟩;simp[q];refine aa a ?_;simp
 ·rw[decide_eq_false e]at a;have p:xt x=[]:=by unfold xt;rw[if_neg e]
  rw[p]at a;simp(disch:=omega)[wl,f,e];refine aa w ?_;simp;refine aa b ?_;simp;refine⟨rfl,?_⟩;refine aa y ?_;simp;refine aa c ?_;simp;refine⟨rfl,?_⟩;refine aa a ?_;simp
theorem Zk(n:Str):Fn G2 T_ 66 [.str n] (.bool (decide (n∈xu))):=by
 refine ae hm Jm (by simp) ?_;by_cases a:n∈xu
 ·simp only[xu,List.mem_cons,List.not_mem_nil,or_false]at a;rcases a with rfl|rfl|rfl|rfl|rfl|rfl|rfl|rfl|rfl|rfl|rfl|rfl|rfl<;>simp[sU,xu,nm_]
 ·have f:decide (n∈xu)=false:=decide_eq_false a;rw[f];simp[xu,nm_]at a;obtain⟨g,h,i,j,k,l,m,o,p,b,c,d,e⟩:=a;simp[sU,g,h,i,j,k,l,m,o,p,b,c,d,e]
theorem acb{l:List Ln} : ∀ {r:List Ln} {i:Nat} {f:Fc} {e:Int} {p:Nat},ju l r i f=.no e p->e≠0
 |[],i,f,e,p,h=>by
  unfold ju at h;split at h
  ·cases h
  ·next a=>cases h;exact a
 |x::r,i,f,e,p,h=>by
  unfold ju at h;split at h
  ·exact acb h
  ·next a=>cases h;exact a
theorem Un{l:List Ln}{e:Int}{p:Nat}(h:mH l=.no e p):e≠0:=by
 unfold mH at h;split at h
 ·cases h;decide
 ·exact acb h
def paI:PaX->IV
 |.no e p=>.tuple [.slice [],dq e [(p:Int)]]
 |.ok l=>.tuple [.slice (ls l),.nili]
def og(B:Nat)(l:List Ln):Prop:=∀x∈l,x.v.length<=B
theorem Bm{l:List Ln}{x:Ln}(b:kl l)(c:FitX x):kl (ka l x):=by
 unfold ka;split
 ·exact fun y a=>b y (yq a)
 ·intro y a;rcases Da a with h|h
  ·rw[h];exact c
  ·exact b y h
theorem xY{l:List Ln}{x:Ln}{B:Nat}(b:og B l)(c:x.v.length<=B):og B (ka l x):=by
 unfold ka;split
 ·exact fun y a=>b y (yq a)
 ·intro y a;rcases Da a with h|h
  ·rw[h];exact c
  ·exact b y h
theorem Bn(l:List Ln)(x:Ln):(ka l x).length<=l.length+1:=by
 unfold ka;split
 ·have:=drop_len l x.n;omega
 ·have:=set_len x l;split at this<;>omega
theorem Zl(l c:List Ln)(N:kl l)(O:og 1000 l)(P:kl c)(C:og 1000 c)(V:l.length<1000)(W:c.length<1000):Fn G2 T_ 24 [.slice (ls l),.slice (ls c)] (paI (Oo l c)):=by
 refine ae hm Ji (by simp) ?_;obtain⟨R,w⟩:∃R,Oo l c=R:=⟨_,rfl⟩;rw[w];unfold Oo at w;simp[Af];refine be hm [] (fun p:Nat×List Ln=>[(13,.val (.int .i64 p.1)),(0,.val (.slice (ls p.2)))]) (fun _=>[]) (fun p=>p.1<=c.length/\kl p.2/\og 1000 p.2/\p.2.length<=l.length+p.1/\D9 c.length (c.drop p.1) p.1 p.2=R) (fun p=>c.length-p.1) (0,l) ⟨by simp,N,O,by simp,by simpa using w⟩ ?_ ?_
 ·simp;exact bp
 rintro⟨i,m⟩ ⟨Q,g,o,D,a⟩;dsimp only at Q g o D a;clear w;simp[bv];by_cases h:i<c.length
 ·obtain⟨x,E⟩:∃x,c[i]=x:=⟨_,rfl⟩;have b:x∈c:=E▸List.getElem_mem h;have F:=sf h E;have q:=P x b;have K:=up (MB x q);have S:=Zk x.n;have U:=up (II m x.n (by omega) g);have y:=up (O2 m x (by omega) g q);rw[List.drop_eq_getElem_cons h,E]at a;simp only[D9]at a;simp only[Ln.iv]at K y
  have s:∀e:Int,e≠0->Fn G2 T_ 38 [.int .i64 e,.int .i64 i] (dq e [(i:Int)]):=fun e d=>by
   have:=up (fP e i)
   rwa[if_neg d]at this
  simp(disch:=omega)[wl,F];refine aa K ?_;by_cases j:gS x=0
  case neg=>
   have d:xv x=gS x:=by unfold xv;rw[if_pos j]
   rw[if_neg (by rw[d];exact j),d]at a;subst a;simp(disch:=omega)[wl,j];refine aa (s _ j) ?_;simp[paI]
  simp(disch:=omega)[wl,j];refine aa S ?_;by_cases z:x.n∈xu
  ·have d:xv x=11:=by unfold xv;rw[if_neg (by simp[j]),if_pos z]
   rw[if_neg (by rw[d];decide),d]at a;subst a;simp(disch:=omega)[wl,z];refine aa (s _ (by decide)) ?_;simp[paI]
  have d:xv x=0:=by unfold xv;rw[if_neg (by simp[j]),if_neg z]
  rw[if_pos d]at a;simp(disch:=omega)[wl,z];by_cases n:x.v=[]
  ·by_cases A:x.p=[]
   ·have u:ka m x=fL m x.n:=by unfold ka;rw[if_pos ⟨n,A⟩]
    have k:(ps x.p).length=0:=by simp[A,ps]
    simp(disch:=omega)[wl,n,k];refine aa U ?_;simp(disch:=omega)[wl,bv];refine ai (i+1,ka m x) ⟨by omega,Bm g q,xY o (C x b),by have:=Bn m x;simp only;omega,a⟩ (by simp;omega) ?_;simp[u];exact ag rfl rfl (by simp[aI,ap,ac,bv]) (by simp[bD,ac,bv]) (by simp[bB])
   ·have u:ka m x=tI m x:=by unfold ka;rw[if_neg (fun h=>A h.2)]
    rw[n]at y;have k:¬(ps x.p).length=0:=by simp[A,ps]
    simp(disch:=omega)[wl,n,k];refine aa y ?_;simp(disch:=omega)[wl,bv];refine ai (i+1,ka m x) ⟨by omega,Bm g q,xY o (C x b),by have:=Bn m x;simp only;omega,a⟩ (by simp;omega) ?_;simp[u];exact ag rfl rfl (by simp[aI,ap,ac,bv]) (by simp[bD,ac,bv]) (by simp[bB])
  ·have u:ka m x=tI m x:=by unfold ka;rw[if_neg (fun h=>n h.1)]
   simp(disch:=omega)[wl,n];refine aa y ?_;simp(disch:=omega)[wl,bv];refine ai (i+1,ka m x) ⟨by omega,Bm g q,xY o (C x b),by have:=Bn m x;simp only;omega,a⟩ (by simp;omega) ?_;simp[u];exact ag rfl rfl (by simp[aI,ap,ac,bv]) (by simp[bD,ac,bv]) (by simp[bB])
 ·obtain rfl:i=c.length:=by omega
  rw[List.drop_length]at a;simp only[D9]at a;have H:=xX m g o (by omega);simp(disch:=omega)[wl];refine aa H ?_;cases I:mH m with
  |no e p=>
   rw[I]at a;simp only at a;subst a;have L:=JI e [(p:Int)];have s:=up (fP e c.length);rw[if_neg (Un I)]at s;obtain⟨t,v,M⟩:=dD e [(p:Int)];rw[M]at L;simp only[T9,M,Fc.iv,vh,cells,List.cons_append,List.nil_append];simp(disch:=omega)[wl];refine aa L ?_;simp[bv];refine aa s ?_;simp[paI]
  |ok f=>
   rw[I]at a;simp only at a;subst a;have J:=fn_Clone m (by omega);simp only[T9,Fc.iv,vh,cells,List.cons_append,List.nil_append];simp(disch:=omega)[wl];refine aa J ?_;simp[paI]
theorem abz{l:List Mom}{i:Nat}{v:Mom}(h:i<l.length)(a:l[i]=v):ms (l.take i)++[[.int .u8 v.k,.int .i64 v.s]]=ms (l.take (i+1)):=by
 rw[List.take_succ_eq_append_getElem h,a];simp[ms]
theorem N0(l:List Mom)(c:l.length<1000000):Fn G2 T_ 55 [.slice (ms l)] (.slice (ms l)):=by
 refine ae hm GL (by simp) ?_;simp[xG];refine be hm [] (fun i:Nat=>[(4,.val (.int .i64 i)),(3,.own 3 i)]) (fun i=>[(3,.arr i 2 (ms (l.take i)))]) (fun i=>i<=l.length) (fun i=>l.length-i) 0 (by omega) ?_ ?_
 ·simp[ms];exact cH.trans (ct (k:=3) 3 2 (by simp) (by simp[ap,ac])) (ag rfl rfl (by simp[St.adopt,aI,ap,ac,put,cS,SV.erase]) (by simp[St.adopt,bD,ac,put,ck,Ob.erase]) (by simp[St.adopt,bB]))
 rintro i d;simp;by_cases h:i<l.length
 ·obtain⟨v,a⟩:∃v,l[i]=v:=⟨_,rfl⟩;have b:=OH h a;simp(disch:=omega)[wl,cJ,b];refine⟨by omega,?_⟩;refine ai (i+1) (by omega) (by omega) ?_;simp[<-abz h a];exact bp
 ·obtain rfl:i=l.length:=by omega
  simp(disch:=omega)[wl,cJ]
theorem fn_Back(f:Fc)(a:FitF f):Fn G2 T_ 14 [f.iv] f.iv:=by
 refine ae hm L2 (by simp) ?_;have b:=YH f.ru a.rf;have c:=N0 f.i (by have:=a.il;omega);have d:=N0 f.o (by have:=a.ol;omega);rw[ES]at b;simp[Dh,Fc.iv,vh,cells];refine aa b ?_;simp;refine aa c ?_;simp;refine aa d ?_;simp;rfl
theorem DV(l:List Mom)(c:l.length<1000000):Fn G2 T_ 53 [.slice (ms l),.slice (ms l)] (.bool true):=by
 refine ae hm Bi (by simp) ?_;simp[rG];refine be hm [] (fun i:Nat=>[(5,.val (.int .i64 i))]) (fun i=>[]) (fun i=>i<=l.length) (fun i=>l.length-i) 0 (by omega) ?_ ?_
 ·simp;exact bp
 rintro i d;simp;by_cases h:i<l.length
 ·obtain⟨v,a⟩:∃v,l[i]=v:=⟨_,rfl⟩;have b:=OH h a;simp(disch:=omega)[wl,cJ,b];refine ai (i+1) (by omega) (by omega) ?_;simp;exact bp
 ·obtain rfl:i=l.length:=by omega
  simp(disch:=omega)[wl,cJ]
theorem Rq(f:Fc)(a:FitF f):Fn G2 T_ 13 [f.iv,f.iv] (.bool true):=by
 refine ae hm L1 (by simp) ?_;have b:=VI f.ru f.ru a.rf a.rf;have c:=DV f.i (by have:=a.il;omega);have d:=DV f.o (by have:=a.ol;omega);rw[ES]at b;simp at b;simp[Df,Fc.iv,vh,cells];refine aa b ?_;simp;refine aa c ?_;simp;refine aa d ?_;simp
end Go.Vs.YtcjeehebikeghaaGreatDoor.Vt
