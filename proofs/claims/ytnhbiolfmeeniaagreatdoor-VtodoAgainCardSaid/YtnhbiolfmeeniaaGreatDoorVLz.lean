/- A part of a proof. No conditions. -/
import Derived.Test.YtnhbiolfmeeniaaGreatDoorVHz
set_option linter.all false
set_option maxRecDepth 100000
set_option maxHeartbeats 16000000
namespace Go.Vs.Y.Vt
open Go.Proofs Go.Vs.U8 Go.Vs.Pa Go.Vs.Nu Go.Vs.Mo Go.Vs.Vt Go.Vs.Y.Rc
theorem afY(x:Int):(x.tmod 86400=0)=(x%86400=0):=by
 rw[<-Int.dvd_iff_tmod_eq_zero,<-Int.dvd_iff_emod_eq_zero]
theorem afZ(f:Fc):Fn G2 T_ 57 [.ref (B7 f)] (.int .i64 (qJ f)):=by
 refine ae hm si (by simp) ?_;have b:=mM f.b.k f.b.s;have c:=mM f.e.k f.e.s;have d:=adf f.b.s f.sp;simp[kY,B7,cells];refine aa b ?_;simp;refine aa c ?_;simp;refine⟨rfl,?_⟩;obtain⟨R,a⟩:=A_ (qJ f);rw[a];unfold qJ at a
 repeat' (first|(refine brd (fun h=>?_) (fun h=>?_)<;>simp(disch:=omega)[wl,h,afY])|(refine aa d ?_;simp;refine⟨rfl,?_⟩)|(rw[<-a];(repeat' split)<;>first|rfl|(exfalso;omega)))
theorem ZW(f:Fc)(l:List Ln)(p:FitF f)(u:l.length<100000):Fn G2 T_ 58 [.ref (B7 f),.slice (ls l)] (.int .i64 (mC f l)):=by
 refine ae hm qL (by simp) ?_;have v:=mM f.b.k f.b.s;have hT:=mM f.at'.k f.at'.s;have q:=Jo f;have w:=uS p.set;have s:=up (GC l cV u);have n:=up (afr f.uid (by have:=p.ul;omega));have g:=Rn f p;simp only[Fc.iv,B7,cells,List.cons_append,List.nil_append]at q g;simp only[cV]at s;simp[jW,B7,cells];refine aa v ?_;by_cases h:f.b.k=0
 .have b:mC f l=9:=by unfold mC;rw[if_pos h]
  simp(disch:=omega)[wl,h,b]
 simp(disch:=omega)[wl,h];refine aa q ?_;simp;refine aa w ?_;by_cases o:kC f.b f.ru f.i f.o=0
 case neg=>
  have b:mC f l=kC f.b f.ru f.i f.o:=by unfold mC;rw[if_neg h,if_pos o]
  simp(disch:=omega)[wl,o,b]
 have a:mC f l=(if f.af=true/\0<aO l cV then 9
  else if f.at'.k≠0/\f.at'.k≠f.b.k then 11 else if f.at'.k≠0/\f.at'.s<f.b.s then 8 else if 20<(Em f.uid).length then 5 else if (mg f).2=false then 8 else 0):=by
  unfold mC;rw[if_neg h,if_neg (by simp[o])]
 simp(disch:=omega)[wl,o];by_cases k:f.af=true
 .rw[k]at g;simp(disch:=omega)[wl,k];refine aa s ?_;by_cases m:0<aO l cV
  .have b:mC f l=9:=by rw[a,if_pos ⟨k,m⟩]
   simp only[cV]at m;simp(disch:=omega)[wl,m,b]
  rw[if_neg (by simp[m])]at a;simp only[cV]at m;simp(disch:=omega)[wl,m];refine aa hT ?_;by_cases e:f.at'.k=0
  .rw[if_neg (by simp[e]),if_neg (by simp[e])]at a;rw[e]at hT g;simp(disch:=omega)[wl,e];refine⟨rfl,?_⟩;refine aa hT ?_;simp(disch:=omega)[wl,e];refine⟨rfl,?_⟩;refine aa n ?_;by_cases d:20<(Em f.uid).length
   .have b:mC f l=5:=by rw[a,if_pos d]
    simp(disch:=omega)[wl,d,b]
   rw[if_neg d]at a;simp(disch:=omega)[wl,d];refine aa g ?_;by_cases c:(mg f).2=false
   .have b:mC f l=8:=by rw[a,if_pos c]
    simp(disch:=omega)[wl,c,b]
   have b:mC f l=0:=by rw[a,if_neg c]
   have c:(mg f).2=true:=by simpa using c
   simp(disch:=omega)[wl,c,b]
  by_cases i:f.at'.k=f.b.k
  .rw[if_neg (by simp[i])]at a;rw[i]at hT g;simp(disch:=omega)[wl,i,h];refine⟨rfl,?_⟩;refine aa hT ?_;by_cases j:f.at'.s<f.b.s
   .have b:mC f l=8:=by rw[a,if_pos ⟨e,j⟩]
    simp(disch:=omega)[wl,h,j,b];exact rfl
   rw[if_neg (by simp[j])]at a;simp(disch:=omega)[wl,h,j];refine⟨rfl,?_⟩;refine aa n ?_;by_cases d:20<(Em f.uid).length
   .have b:mC f l=5:=by rw[a,if_pos d]
    simp(disch:=omega)[wl,d,b]
   rw[if_neg d]at a;simp(disch:=omega)[wl,d];refine aa g ?_;by_cases c:(mg f).2=false
   .have b:mC f l=8:=by rw[a,if_pos c]
    simp(disch:=omega)[wl,c,b]
   have b:mC f l=0:=by rw[a,if_neg c]
   have c:(mg f).2=true:=by simpa using c
   simp(disch:=omega)[wl,c,b]
  have b:mC f l=11:=by rw[a,if_pos ⟨e,i⟩]
  simp(disch:=omega)[wl,e,i,b];exact rfl
 rw[if_neg (by simp[k])]at a;have k:f.af=false:=by simpa using k
 rw[k]at g;simp(disch:=omega)[wl,k];refine aa hT ?_;by_cases e:f.at'.k=0
 .rw[if_neg (by simp[e]),if_neg (by simp[e])]at a;rw[e]at hT g;simp(disch:=omega)[wl,e];refine⟨rfl,?_⟩;refine aa hT ?_;simp(disch:=omega)[wl,e];refine⟨rfl,?_⟩;refine aa n ?_;by_cases d:20<(Em f.uid).length
  .have b:mC f l=5:=by rw[a,if_pos d]
   simp(disch:=omega)[wl,d,b]
  rw[if_neg d]at a;simp(disch:=omega)[wl,d];refine aa g ?_;by_cases c:(mg f).2=false
  .have b:mC f l=8:=by rw[a,if_pos c]
   simp(disch:=omega)[wl,c,b]
  have b:mC f l=0:=by rw[a,if_neg c]
  have c:(mg f).2=true:=by simpa using c
  simp(disch:=omega)[wl,c,b]
 by_cases i:f.at'.k=f.b.k
 .rw[if_neg (by simp[i])]at a;rw[i]at hT g;simp(disch:=omega)[wl,i,h];refine⟨rfl,?_⟩;refine aa hT ?_;by_cases j:f.at'.s<f.b.s
  .have b:mC f l=8:=by rw[a,if_pos ⟨e,j⟩]
   simp(disch:=omega)[wl,h,j,b];exact rfl
  rw[if_neg (by simp[j])]at a;simp(disch:=omega)[wl,h,j];refine⟨rfl,?_⟩;refine aa n ?_;by_cases d:20<(Em f.uid).length
  .have b:mC f l=5:=by rw[a,if_pos d]
   simp(disch:=omega)[wl,d,b]
  rw[if_neg d]at a;simp(disch:=omega)[wl,d];refine aa g ?_;by_cases c:(mg f).2=false
  .have b:mC f l=8:=by rw[a,if_pos c]
   simp(disch:=omega)[wl,c,b]
  have b:mC f l=0:=by rw[a,if_neg c]
  have c:(mg f).2=true:=by simpa using c
  simp(disch:=omega)[wl,c,b]
 have b:mC f l=11:=by rw[a,if_pos ⟨e,i⟩]
 simp(disch:=omega)[wl,e,i,b];exact rfl
def xK:List Str:=[cV,cj,fI,js]
theorem adj(f:Fc)(l:List Ln)(z:FitF f)(w:l.length<100000):Fn G2 T_ 27 [.ref (B7 f),.slice (ls l)] (.int .i64 (eR f l)):=by
 refine ae hm ri (by simp) ?_;have m:∀n,Fn G2 T_ 25 [.slice (ls l),.str n] (.int .i64 (aO l n)):=fun n=>up (GC l n w)
 have x:=Py f.li;have y:=afZ f;have v:=ZW f l z w;simp only[B7,cells,List.cons_append,List.nil_append,Lif.iv]at y v x;simp[kt,B7,cells];refine aa (m _) ?_;by_cases h:aO l bK=0
 .have e:eR f l=6:=by unfold eR;rw[if_pos (.inl h)]
  simp only[bK]at h;simp(disch:=omega)[wl,h,e]
 by_cases q:aO l bp=0
 .have e:eR f l=6:=by unfold eR;rw[if_pos (.inr q)]
  simp only[bK]at h;simp(disch:=omega)[wl,h];refine aa (m _) ?_;simp only[bp]at q;simp(disch:=omega)[wl,q,e]
 have a:eR f l=(if yD f.li≠0 then yD f.li else if qJ f≠0 then qJ f
  else if f.rd=true then mC f l else if 0<aO l cV\/0<aO l cj\/0<aO l fI\/0<aO l js then 9 else 0):=by
  unfold eR;rw[if_neg (by simp[h,q])]
 simp only[bK]at h;simp(disch:=omega)[wl,h];refine aa (m _) ?_;simp only[bp]at q;simp(disch:=omega)[wl,q];refine aa x ?_;by_cases s:yD f.li=0
 case neg=>
  have e:eR f l=yD f.li:=by rw[a,if_pos s]
  simp(disch:=omega)[wl,s,e]
 rw[if_neg (by simp[s])]at a;simp(disch:=omega)[wl,s];refine aa y ?_;by_cases u:qJ f=0
 case neg=>
  have e:eR f l=qJ f:=by rw[a,if_pos u]
  simp(disch:=omega)[wl,u,e]
 rw[if_neg (by simp[u])]at a;simp(disch:=omega)[wl,u];by_cases o:f.rd=true
 .have e:eR f l=mC f l:=by rw[a,if_pos o]
  rw[o]at v;simp(disch:=omega)[wl,o];refine aa v ?_;simp[e]
 rw[if_neg o]at a;have o:f.rd=false:=by simpa using o
 simp(disch:=omega)[wl,o];refine bx hm [8] (fun i:Nat=>[(38,.val (.int .i64 i))]) (fun _=>[]) (fun i=>i<=4/\∀n∈xK.take i,aO l n=0) (fun i=>4-i) 0 ⟨by omega,by simp⟩ ?_ ?_
 .simp;exact bA
 rintro i ⟨B,k⟩;simp;have p:i=0\/i=1\/i=2\/i=3\/i=4:=by omega
 rcases p with rfl|rfl|rfl|rfl|rfl
 .simp;refine aa (m _) ?_;by_cases b:0<aO l cV
  .have e:eR f l=9:=by rw[a,if_pos (.inl b)]
   simp only[cV]at b;simp(disch:=omega)[wl,b,e]
  have g:aO l cV=0:=by omega
  have A:=b;simp only[cV]at b;simp(disch:=omega)[wl,b];refine aj 1 ⟨by omega,fun n c=>?_⟩ (by omega) ?_
  .simp[xK]at c;simp[xK]at k;subst c;exact g
  simp;exact bA
 .simp;refine aa (m _) ?_;by_cases b:0<aO l cj
  .have e:eR f l=9:=by rw[a,if_pos (.inr (.inl b))]
   simp only[cj]at b;simp(disch:=omega)[wl,b,e]
  have g:aO l cj=0:=by omega
  simp only[cj]at b;simp(disch:=omega)[wl,b];refine aj 2 ⟨by omega,fun n c=>?_⟩ (by omega) ?_
  .rw[show xK.take 2=xK.take 1++[cj]from rfl]at c;rcases List.mem_append.1 c with c|c
   .exact k n c
   rw[List.mem_singleton.1 c];exact g
  simp;exact bA
 .simp;refine aa (m _) ?_;by_cases b:0<aO l fI
  .have e:eR f l=9:=by rw[a,if_pos (.inr (.inr (.inl b)))]
   simp only[fI]at b;simp(disch:=omega)[wl,b,e]
  have g:aO l fI=0:=by omega
  simp only[fI]at b;simp(disch:=omega)[wl,b];refine aj 3 ⟨by omega,fun n c=>?_⟩ (by omega) ?_
  .rw[show xK.take 3=xK.take 2++[fI]from rfl]at c;rcases List.mem_append.1 c with c|c
   .exact k n c
   rw[List.mem_singleton.1 c];exact g
  simp;exact bA
 .simp;refine aa (m _) ?_;by_cases b:0<aO l js
  .have e:eR f l=9:=by rw[a,if_pos (.inr (.inr (.inr b)))]
   simp only[js]at b;simp(disch:=omega)[wl,b,e]
  have g:aO l js=0:=by omega
  simp only[js]at b;simp(disch:=omega)[wl,b];refine aj 4 ⟨by omega,fun n c=>?_⟩ (by omega) ?_
  .rw[show xK.take 4=xK.take 3++[js]from rfl]at c;rcases List.mem_append.1 c with c|c
   .exact k n c
   rw[List.mem_singleton.1 c];exact g
  simp;exact bA
 have e:eR f l=0:=by
  rw[a,if_neg (by rw[k cV (by decide),k cj (by decide),k fI (by decide),k js (by decide)];omega)]
 simp[e]
theorem PD(q:Option Pm):∀(l:List Str) (a:List Mom),(∀v∈a,Dt v)->∀v∈(lH q l a).2,Dt v
 |[],a,h=>by rw[nV];exact h
 |s::r,a,h=>by
  rw[lh];split
  .simp
  split
  .simp
  refine PD q r _ fun v b=>?_
  rcases List.mem_append.1 b with b|b
  .exact h v b
  rw[List.mem_singleton.1 b];exact Jp s
theorem LW(x:Ln):∀v∈(cO x).2,Dt v:=by
 unfold cO;split
 .simp
 exact PD _ _ _ (by simp)
theorem xL:Dt mj:=⟨by decide,by decide,by decide⟩
theorem GX(x:Ln):Dt (bJ x).2:=by
 unfold bJ;split
 .exact xL
 split
 .next h=>
  have:=LW x;cases c:(cO x).2 with
  |nil=>exact xL
  |cons a r=>exact this a (by rw[c];simp)
 exact xL
theorem ZX(x:Ln):Dt (zV x).2:=by
 unfold zV;split<;>exact Jp x.v
theorem adk(s:Str):-86399913600<=(wG s).1/\(wG s).1<=86399913600:=by
 unfold wG;split
 .split
  .split
   .simp
   split<;>(simp only;omega)
  simp
 simp
theorem af0(x:Ln):-86399913600<=(II x).2/\(II x).2<=86399913600:=by
 unfold II;split<;>exact adk x.v
theorem adl(s:Str):0<=(R9 s).1:=by
 by_cases h:∃t:Int,1<=t/\t<=4/\yE t=s
 .obtain⟨t,a,c,d⟩:=h;rw[TZ ⟨a,c⟩ d];exact(by omega:(0:Int)<=t)
 rw[ag3 (fun t a c e=>h ⟨t,a,by omega,e⟩)];decide
theorem af1{hi:Int}(s:Str)(a:0<=hi):0<=(dT 5 0 hi false s).1/\(dT 5 0 hi false s).1<=hi:=by
 unfold dT;simp only[Bool.false_and,Bool.false_eq_true,if_false,false_and];split
 .simp[a]
 split
 .simp[a]
 next h=>exact⟨by simp,by simp only;omega⟩
theorem af2(s:Str):Fin (Wo s):=by
 unfold Wo;cases h:iY s with
 |no e p=>exact⟨by simp[Do,Zv],by simp[Zv],by simp[Zv]⟩
 |ok r=>exact(TT h).1
def adm(n:Nat)(f:Fc):Prop:=FitF f/\f.i.length<=1001*n/\f.o.length<=1001*n
theorem LX{n:Nat}{f:Fc}{x:Ln}(h:adm n f)(H:n<50)(I:x.v.length<=1000):adm (n+1) (dc f x):=by
 obtain⟨c,hi,J⟩:=h;have K:=Dv x;have g:=LW x;unfold dc;by_cases q:x.n=bK
 .rw[if_pos q];exact⟨{c with ul:=by show x.v.length<100000;omega },by show f.i.length<=_;omega,by show f.o.length<=_;omega⟩
 rw[if_neg q];by_cases s:x.n=bp
 .rw[if_pos s];exact⟨{c with st:=ZX x },by show f.i.length<=_;omega,by show f.o.length<=_;omega⟩
 rw[if_neg s];by_cases u:x.n=bv
 .rw[if_pos u];exact⟨{c with ls:=c.ls },by show f.i.length<=_;omega,by show f.o.length<=_;omega⟩
 rw[if_neg u];by_cases w:x.n=ba
 .rw[if_pos w];exact⟨{c with b:=GX x },by show f.i.length<=_;omega,by show f.o.length<=_;omega⟩
 rw[if_neg w];by_cases y:x.n=ct
 .rw[if_pos y];exact⟨{c with e:=GX x },by show f.i.length<=_;omega,by show f.o.length<=_;omega⟩
 rw[if_neg y];by_cases z:x.n=fI
 .rw[if_pos z];exact⟨{c with t:=GX x },by show f.i.length<=_;omega,by show f.o.length<=_;omega⟩
 rw[if_neg z];by_cases A:x.n=cV
 .rw[if_pos A];refine⟨{c with il:=?_,ik:=?_ },?_,by show f.o.length<=_;omega⟩
  .show(f.i++(cO x).2).length<_;rw[List.length_append];omega
  .intro v a;rcases List.mem_append.1 a with a|a
   .exact c.ik v a
   exact(g v a).1
  show(f.i++(cO x).2).length<=_;rw[List.length_append];omega
 rw[if_neg A];by_cases B:x.n=cj
 .rw[if_pos B];refine⟨{c with ol:=?_,ok:=?_ },by show f.i.length<=_;omega,?_⟩
  .show(f.o++(cO x).2).length<_;rw[List.length_append];omega
  .intro v a;rcases List.mem_append.1 a with a|a
   .exact c.ok v a
   exact(g v a).1
  show(f.o++(cO x).2).length<=_;rw[List.length_append];omega
 rw[if_neg B];by_cases C:x.n=cR
 .rw[if_pos C];exact⟨{c with sp:=af0 x },by show f.i.length<=_;omega,by show f.o.length<=_;omega⟩
 rw[if_neg C];by_cases i:x.n=fG
 .rw[if_pos i];exact⟨{c with ls:=c.ls },by show f.i.length<=_;omega,by show f.o.length<=_;omega⟩
 rw[if_neg i];by_cases k:x.n=bW
 .rw[if_pos k];exact⟨{c with ls:=adl x.v },by show f.i.length<=_;omega,by show f.o.length<=_;omega⟩
 rw[if_neg k];by_cases l:x.n=eg
 .rw[if_pos l];exact⟨{c with ls:=c.ls },by show f.i.length<=_;omega,by show f.o.length<=_;omega⟩
 rw[if_neg l];by_cases m:x.n=gp
 .rw[if_pos m];have L:=af1 (hi:=9) x.v (by decide);exact⟨{c with pp:=⟨by show -1<=(dT 5 0 9 false x.v).1;omega,by show(dT 5 0 9 false x.v).1<=1000;omega⟩ },by show f.i.length<=_;omega,by show f.o.length<=_;omega⟩
 rw[if_neg m];by_cases o:x.n=bN
 .rw[if_pos o];obtain⟨D,E,F⟩:=af2 x.v;exact⟨{c with rf:=D,uk:=E,rk:=F },by show f.i.length<=_;omega,by show f.o.length<=_;omega⟩
 rw[if_neg o];by_cases p:x.n=js
 .rw[if_pos p];exact⟨{c with ls:=c.ls },by show f.i.length<=_;omega,by show f.o.length<=_;omega⟩
 rw[if_neg p];exact⟨c,by omega,by omega⟩
theorem XS:adm 0 fc1:=by
 refine⟨⟨xL,xL,xL,xL,?_,?_,?_,?_,?_,?_,?_,?_,?_,?_,?_⟩,?_,?_⟩<;>simp[fc1,fc0,Lz,Do,Zv,mj]
theorem ZY(n:Str):Fn G2 T_ 24 [.str n] (.bool (decide (n∈ix))):=by
 refine ae hm IJ (by simp) ?_;by_cases a:n∈ix
 .simp only[ix,List.mem_cons,List.not_mem_nil,or_false]at a;rcases a with rfl|rfl|rfl|rfl|rfl|rfl|rfl|rfl|rfl|rfl|rfl|rfl|rfl<;>simp[tV,ix,nm_]
 have g:decide (n∈ix)=false:=decide_eq_false a;rw[g];simp[ix,nm_]at a;obtain⟨h,i,k,l,m,o,p,q,s,b,c,e,f⟩:=a;simp[tV,h,i,k,l,m,o,p,q,s,b,c,e,f]
theorem Uf{f:Fc}{x:Ln}(h:bt x=0):cH f x=dc f x:=by
 unfold cH;rw[if_neg];rintro⟨a,b⟩;apply b;rw[<-h];rcases a with a|a|a<;>simp[bt,a,nm_]
def Ug:RdX->IV
 |.no e p=>.tuple [fc0.iv,dD e [(p:Int)]]
 |.ok f=>.tuple [f.iv,.nili]
def bxR(f:Fc)(a b:Nat):List SV:=[.val (.str f.uid),.val (.str f.sm),.val (.int .u8 f.st.k),.val (.int .i64 f.st.s),.val (.int .u8 f.b.k),.val (.int .i64 f.b.s),.val (.int .u8 f.e.k),.val (.int .i64 f.e.s),.val (.int .i64 f.sp),.val (.int .u8 f.li.s),.val (.int .i64 f.li.p),.val (.int .i64 f.li.d),.val (.int .i64 f.pr),.val (.bool f.rd)]++(uT f.ru++[.own 7 a,.own 8 b,.val (.int .u8 f.at'.k),.val (.int .i64 f.at'.s),.val (.bool f.af)])
theorem Jq(f:Fc)(a b:Nat):wj [(1000,4),(1001,7),(1002,8)] (vS f a b)=bxR f a b:=rfl
def bxV(f:Fc):List SV:=(B7 f).map .val
theorem af3(f:Fc)(a b:Nat):((bxR f a b).set 29 (.val (.slice (ms f.i)))).set 30 (.val (.slice (ms f.o)))=bxV f:=rfl
theorem aik(f:Fc)(a b:Nat):(bxR f a b)[29]?=some (.own 7 a):=rfl
theorem ail(f:Fc)(b a:Nat)(s:SV):((bxR f b a).set 29 s)[30]?=some (.own 8 a):=rfl
theorem adn(l:List Ln):∀a∈ls l,a.length=3:=by
 intro r b;obtain⟨x,_,rfl⟩:=List.mem_map.1 b;rfl
theorem qP(l:List Ln)(O:ec l)(F:∀x∈l,x.v.length<=1000)(P:l.length<100000):Fn G2 T_ 7 [.slice (ls l)] (Ug (gK l)):=by
 refine ae hm NE (by simp) ?_;obtain⟨R,s⟩:=A_ (gK l);rw[s];unfold gK at s;simp[F8];by_cases A:24<l.length
 .rw[if_pos A]at s;subst s;have n:=up (gQ 20 24);rw[if_neg (by decide)]at n;simp(disch:=omega)[wl,A,bF];refine aa n ?_;simp[Ug];rfl
 rw[if_neg A]at s;simp(disch:=omega)[wl,A,bF];refine aa XM ?_;simp[Lif.iv,Lz];have B:∀f,FitF f->_:=fun f H=>adj f l H P
 refine Vy hm [] [] (fun f:Fc=>[]) (fun f=>[(4,.box (bxV f))]) (fun f=>FitF f/\(if eR f l=0 then RdX.ok f else .no (eR f l) l.length)=R) ?_ ?_
 .simp(disch:=omega)[wl,bF];refine bx hm [] (fun p:Nat×Fc×Nat×Nat=>[(18,.val (.int .i64 p.1))]) (fun p=>[(4,.box (bxR p.2.1 p.2.2.1 p.2.2.2)),(7,.arr p.2.2.1 2 (ms p.2.1.i)),(8,.arr p.2.2.2 2 (ms p.2.1.o))]) (fun p=>p.1<=l.length/\adm p.1 p.2.1/\kV l (l.drop p.1) p.1 p.2.1=R) (fun p=>l.length-p.1) (0,fc1,0,0) ⟨by simp,XS,by simpa using s⟩ ?_ ?_
  .simp;exact cJ.trans (wq false (d:=4) (j:=29) 7 2 (by simp) (by decide) rfl rfl rfl) (cJ.trans (wq false (d:=4) (j:=30) 8 2 (by simp[St.adoptC]) (by decide) rfl rfl rfl) (cJ.trans (Pu (d:=4) rfl rfl) (an rfl rfl (by simp[St.adoptC,bj,aE,ac,dB,SV.erase]) (by simp[St.adoptC,bZ,ac,put,cp,fJ,Ob.erase,SV.erase,TS,qd,xc,bxR,fc1,fc0,uT,Lz,Zv,mj,is,B4,ms]) (by simp[bX,St.adoptC]))))
  rintro⟨i,f,v,w⟩ ⟨Q,u,g⟩;dsimp only at Q u g;clear s;simp[bF];by_cases h:i<l.length
  .obtain⟨x,I⟩:=A_ (l[i]);have o:x∈l:=I▸List.getElem_mem h;have J:=zz h I;have M:=O x o;have N:=up (Pi x M);rw[List.drop_eq_getElem_cons h,I]at g;obtain⟨E,b⟩:=A_ (LC (l.take i) x);simp only[kV,b]at g;unfold LC at b;simp only[Ln.iv]at N
   have n:∀e:Int,e≠0->Fn G2 T_ 22 [.int .i64 e,.int .i64 i] (dD e [(i:Int)]):=fun e S=>by
    have:=up (gQ e i)
    rwa[if_neg S]at this
   have K:=fnM_take f v w x M (by have:=F x o;omega) (by have:=u.2.1;omega) (by have:=u.2.2;omega);simp only[Ln.iv]at K;have U:=ZY x.n;have V:=up (GC (l.take i) x.n (by rw[List.length_take];omega));have y:(ls l).take i=ls (l.take i):=by simp[ls,List.map_take]
   simp(disch:=omega)[wl,J];refine aa N ?_;by_cases q:gR x=0
   case neg=>
    rw[if_pos q]at b;subst b;rw[if_neg q]at g;subst g;simp(disch:=omega)[wl,q];refine aa (n _ q) ?_;simp[Ug];rfl
   rw[if_neg (by simp[q])]at b;by_cases k:x.n=GO\/x.n=GP
   .rw[if_pos k]at b;subst b;rw[if_neg (by decide)]at g;subst g;rcases k with k|k
    .simp only[GO]at k;simp(disch:=omega)[wl,q,k];refine aa (n _ (by decide)) ?_;simp[Ug];rfl
    simp only[GP]at k;simp(disch:=omega)[wl,q,k];refine aa (n _ (by decide)) ?_;simp[Ug];rfl
   rw[if_neg k]at b;simp only[not_or,GO,GP]at k;obtain⟨k,L⟩:=k;simp(disch:=omega)[wl,q,k,L];refine aa U ?_;by_cases C:x.n∈ix
   .simp(disch:=omega)[wl,C,y];refine⟨⟨by rw[bF];omega,adn l⟩,?_⟩;refine aa V ?_;by_cases D:0<aO (l.take i) x.n
    .rw[if_pos ⟨C,D⟩]at b;subst b;rw[if_neg (by decide)]at g;subst g;simp(disch:=omega)[wl,D];refine⟨rfl,?_⟩;refine aa (n _ (by decide)) ?_;simp[Ug];rfl
    rw[if_neg (by simp[D])]at b;simp(disch:=omega)[wl,D];refine⟨rfl,?_⟩;subst b;refine callM [(1000,4),(1001,7),(1002,8)] [] K rfl rfl ⟨rfl,rfl,rfl,trivial⟩ ⟨rfl,[],[],rfl,rfl,rfl⟩ rfl ?_;by_cases m:bt x=0
    .rw[if_pos m]at g;rw[Uf m];simp(disch:=omega)[wl,m,gv,Jq];refine aj (i+1,dc f x,GV x v,GW x w) ⟨by omega,LX u (by omega) (F x o),g⟩ (by simp;omega) ?_;simp;exact bA
    rw[if_neg m]at g;subst g;simp(disch:=omega)[wl,m,gv,Jq];refine aa (n _ m) ?_;simp[Ug];rfl
   rw[if_neg (by simp[C])]at b;simp(disch:=omega)[wl,C];refine⟨rfl,?_⟩;subst b;refine callM [(1000,4),(1001,7),(1002,8)] [] K rfl rfl ⟨rfl,rfl,rfl,trivial⟩ ⟨rfl,[],[],rfl,rfl,rfl⟩ rfl ?_;by_cases m:bt x=0
   .rw[if_pos m]at g;rw[Uf m];simp(disch:=omega)[wl,m,gv,Jq];refine aj (i+1,dc f x,GV x v,GW x w) ⟨by omega,LX u (by omega) (F x o),g⟩ (by simp;omega) ?_;simp;exact bA
   rw[if_neg m]at g;subst g;simp(disch:=omega)[wl,m,gv,Jq];refine aa (n _ m) ?_;simp[Ug];rfl
  obtain rfl:i=l.length:=by omega
  rw[List.drop_length]at g;simp only[kV]at g;simp(disch:=omega)[wl];refine cz f ⟨u.1,g⟩ ?_;exact cJ.trans (Eh (d:=4) (j:=29) (id:=7) rfl (aik f v w) rfl (by decide) rfl) (cJ.trans (Eh (d:=4) (j:=30) (id:=8) rfl (ail f v w _) rfl (by decide) rfl) (an rfl rfl (by simp[bj,aE,ac,bF]) (by simp[bZ,ac,put,af3]) (by simp[bX])))
 rintro f ⟨H,g⟩;have B:=B f H;simp only[B7,cells,List.cons_append,List.nil_append]at B;simp[bxV,B7,cells];refine aa B ?_;by_cases z:eR f l=0
 .rw[if_pos z]at g;subst g;simp(disch:=omega)[wl,z,Ug];rfl
 rw[if_neg z]at g;subst g;have n:=up (gQ (eR f l) l.length);rw[if_neg z]at n;simp(disch:=omega)[wl,z,bF];refine aa n ?_;simp[Ug];rfl
theorem Jr{l:List Ln}{n:Str}{x:Ln}(h:bH l n=some x):x∈l:=List.mem_of_find?_eq_some h
theorem XT{l:List Ln}(c:ec l){n v:Str}(a:n.length<100000)(b:v.length<100000):FitX ⟨n,MY l n,v⟩:=by
 unfold MY;cases h:bH l n with
 |none=>exact⟨a,by simp,⟨by simp,by simp,by simp⟩,b⟩
 |some x=>
  have:=c x (Jr h);exact⟨a,this.p,this.f,b⟩
theorem Ft{l:List Ln}(a:ec l){n v:Str}(b:n.length<100000)(d:v.length<100000):ec (gb l n v):=by
 intro y e;rcases oN (by rw[<-xI];exact e)with h|h
 .rw[h];exact XT a b d
 exact a y h
theorem ado{l:List Ln}{n v:Str}{B:Nat}(a:∀x∈l,x.v.length<=B)(b:v.length<=B):∀x∈gb l n v,x.v.length<=B:=by
 intro y c;rcases oN (by rw[<-xI];exact c)with h|h
 .rw[h];exact b
 exact a y h
theorem Js(l:List Ln)(n v:Str):(gb l n v).length<=l.length+1:=by
 have:=LF l n v true;simpa[tP]using this
theorem Uh{l:List Ln}(a:ec l){n v:Str}{b:Bool}(c:n.length<100000)(d:v.length<100000):ec (tP l n v b):=by
 unfold tP;split
 .exact Ft a c d
 exact fun x e=>a x (nR e)
theorem AU(l:List Ln)(n v:Str)(b:ec l)(d:l.length<100000)(e:n.length<100000)(f:v.length<100000):Fn G2 T_ 33 [.slice (ls l),.str n,.str v] (.slice (ls (gb l n v))):=by
 refine ae hm Rh (by simp) ?_;have g:=up (QS l n d b);have a:=up (Je l ⟨n,MY l n,v⟩ d b (XT b e f));simp only[Ln.iv]at a;rw[xI];simp[Ia];refine aa g ?_;unfold MY at a |-;cases h:bH l n with
 |none=>
  rw[h]at a;simp only at a;simp[Ty,Ln.iv];refine aa a ?_;simp
 |some x=>
  rw[h]at a;simp only at a;simp[Ty,Ln.iv];refine aa a ?_;simp
theorem Rw(l:List Ln)(n v:Str)(b:Bool)(a:ec l)(c:l.length<100000)(d:n.length<100000)(e:v.length<100000):Fn G2 T_ 45 [.slice (ls l),.str n,.str v,.bool b] (.slice (ls (tP l n v b))):=by
 refine ae hm NI (by simp) ?_;have f:=AU l n v a c d e;have g:=up (wB l n c a);simp[Fi];cases b with
 |true=>
  simp;refine aa f ?_;simp[tP]
 |false=>
  simp;refine aa g ?_;simp[tP]
theorem fn_Clone(l:List Ln)(a:l.length<100000):Fn G2 T_ 44 [.slice (ls l)] (.slice (ls l)):=by
 refine ae hm A5 (by simp) ?_;simp[rG];cases l with
 |nil=>simp[ls]
 |cons x r=>
  simp[ls];simp at a;omega
theorem aim{x:Lif}(h:yD x=0):-1<=x.p/\x.p<=100/\-1<=x.d/\x.d<=315537897599/\x.s<=4:=by
 unfold yD at h;split at h
 .simp at h
 split at h
 .simp at h
 omega
theorem af4{v:Mom} : dn v≠[]:=by
 intro h;have:=congrArg List.length h;simp[dn,Mo.dayT,jh]at this
theorem adp(x:Lif):(zW x≠[])=(0<=x.d):=by
 unfold zW;by_cases h:0<=x.d
 .simp[h,af4]
 simp[h]
theorem ZZ(x:Lif):(zW x).length<=16:=by
 unfold zW;split
 .exact kO _
 simp
theorem itoa_len{n:Int}(h:-1<=n/\n<=100):(Lib.itoa n).length<=6:=by
 have:=wE (n:=n) (by omega);unfold Lib.itoa;split
 .simp only[List.length_cons];omega
 rw[show n.toNat=n.natAbs by omega];omega
theorem Ui(s:Int):(yE s).length<=12:=by
 unfold yE;split
 .decide
 split
 .decide
 split
 .decide
 split<;>decide
theorem Uj(l:List Ln)(x:Lif)(q:ec l)(C:l.length<90000)(D:0<=x.s):Fn G2 T_ 17 [.slice (ls l),Lif.iv x] (.slice (ls (LD l x))):=by
 refine ae hm Ff (by simp) ?_;have i:=Py x;have j:=fn_Clone l (by omega);simp only[Lif.iv]at i;by_cases f:yD x=0
 case neg=>
  have d:LD l x=l:=by unfold LD;rw[if_pos f]
  simp[pS,Lif.iv];refine aa i ?_;simp(disch:=omega)[wl,f];refine aa j ?_;simp[d]
 obtain⟨s,u,E,F,H⟩:=aim f;have v:=TY x.s;have w:=up (Ex x.p (by omega) (by omega));have k:=sE ⟨3,x.d⟩ (show(0:Int)<=3 by decide);obtain⟨R,d⟩:=A_ (LD l x);rw[d];unfold LD at d;rw[if_neg (by simp[f])]at d;have z:=LF l bW (yE x.s) (decide (x.s≠0));have m:ec (tP l bW (yE x.s) (decide (x.s≠0))):=Uh q (by decide) (by have:=Ui x.s;omega);have b:=Rw l bW (yE x.s) (decide (x.s≠0)) q (by omega) (by decide) (by have:=Ui x.s;omega);obtain⟨g,e1⟩:=A_ (tP l bW (yE x.s) (decide (x.s≠0)));rw[e1]at b m z d;have A:=LF g eg (Lib.itoa x.p) (decide (0<=x.p));have y:ec (tP g eg (Lib.itoa x.p) (decide (0<=x.p))):=Uh m (by decide) (by have:=itoa_len ⟨s,u⟩;omega);have c:=Rw g eg (Lib.itoa x.p) (decide (0<=x.p)) m (by omega) (by decide) (by have:=itoa_len ⟨s,u⟩;omega);obtain⟨B,e2⟩:=A_ (tP g eg (Lib.itoa x.p) (decide (0<=x.p)));rw[e2]at c y A d;have a:=Rw B bv (zW x) (decide (0<=x.d)) y (by omega) (by decide) (by have:=ZZ x;omega);rw[d]at a;simp only[bW,eg,bv,ne_eq,decide_not]at b c a;have n:0<=x.d->dm ⟨3,x.d⟩=0:=fun h=>by unfold dm;rw[if_neg (by simp),if_neg (by simp only;omega),if_neg (by simp)]
 simp[pS,Lif.iv];refine aa i ?_;by_cases e:0<=x.d
 .have o:zW x=dn ⟨3,x.d⟩:=by unfold zW;rw[if_pos e]
  unfold TO at k;rw[n e,if_pos rfl,<-o]at k;rw[decide_eq_true e]at a;have p:zW x≠[]:=by rw[adp];exact e
  simp(disch:=omega)[wl,f,e];refine aa k ?_;simp;refine aa v ?_;simp;refine aa b ?_;simp;refine⟨rfl,?_⟩;refine aa w ?_;simp;refine aa c ?_;simp;refine⟨rfl,?_⟩;simp[p];refine aa a ?_;simp
 rw[decide_eq_false e]at a;have o:zW x=[]:=by unfold zW;rw[if_neg e]
 rw[o]at a;simp(disch:=omega)[wl,f,e];refine aa v ?_;simp;refine aa b ?_;simp;refine⟨rfl,?_⟩;refine aa w ?_;simp;refine aa c ?_;simp;refine⟨rfl,?_⟩;refine aa a ?_;simp
theorem adq(n:Str):Fn G2 T_ 48 [.str n] (.bool (decide (n∈zX))):=by
 refine ae hm LL (by simp) ?_;by_cases a:n∈zX
 .simp only[zX,List.mem_cons,List.not_mem_nil,or_false]at a;rcases a with rfl|rfl|rfl|rfl|rfl|rfl|rfl|rfl|rfl|rfl|rfl|rfl|rfl<;>simp[vP,zX,nm_]
 have f:decide (n∈zX)=false:=decide_eq_false a;rw[f];simp[zX,nm_]at a;obtain⟨g,h,i,j,k,l,m,o,p,b,c,d,e⟩:=a;simp[vP,g,h,i,j,k,l,m,o,p,b,c,d,e]
theorem ag8{l:List Ln} : ∀ {r:List Ln} {i:Nat} {f:Fc} {e:Int} {p:Nat},kV l r i f=.no e p->e≠0
 |[],i,f,e,p,h=>by
  unfold kV at h;split at h
  .cases h
  next a=>cases h;exact a
 |x::r,i,f,e,p,h=>by
  unfold kV at h;split at h
  .exact ag8 h
  next a=>cases h;exact a
theorem af5{l:List Ln}{e:Int}{p:Nat}(h:gK l=.no e p):e≠0:=by
 unfold gK at h;split at h
 .cases h;decide
 exact ag8 h
def paI:PaX->IV
 |.no e p=>.tuple [.slice [],dD e [(p:Int)]]
 |.ok l=>.tuple [.slice (ls l),.nili]
def gx(B:Nat)(l:List Ln):Prop:=∀x∈l,x.v.length<=B
theorem Dw{l:List Ln}{x:Ln}(b:ec l)(c:FitX x):ec (mh l x):=by
 unfold mh;split
 .exact fun y a=>b y (nR a)
 intro y a;rcases oN a with h|h
 .rw[h];exact c
 exact b y h
theorem Ad{l:List Ln}{x:Ln}{B:Nat}(b:gx B l)(c:x.v.length<=B):gx B (mh l x):=by
 unfold mh;split
 .exact fun y a=>b y (nR a)
 intro y a;rcases oN a with h|h
 .rw[h];exact c
 exact b y h
theorem Dx(l:List Ln)(x:Ln):(mh l x).length<=l.length+1:=by
 unfold mh;split
 .have:=tQ l x.n;omega
 have:=AT x l;split at this<;>omega
theorem adr(l c:List Ln)(M:ec l)(N:gx 1000 l)(O:ec c)(B:gx 1000 c)(U:l.length<1000)(V:c.length<1000):Fn G2 T_ 18 [.slice (ls l),.slice (ls c)] (paI (Ra l c)):=by
 refine ae hm LG (by simp) ?_;obtain⟨R,w⟩:=A_ (Ra l c);rw[w];unfold Ra at w;simp[C8];refine bx hm [] (fun p:Nat×List Ln=>[(13,.val (.int .i64 p.1)),(0,.val (.slice (ls p.2)))]) (fun _=>[]) (fun p=>p.1<=c.length/\ec p.2/\gx 1000 p.2/\p.2.length<=l.length+p.1/\F4 c.length (c.drop p.1) p.1 p.2=R) (fun p=>c.length-p.1) (0,l) ⟨by simp,M,N,by simp,by simpa using w⟩ ?_ ?_
 .simp;exact bA
 rintro⟨i,m⟩ ⟨P,g,o,C,a⟩;dsimp only at P g o C a;clear w;simp[bF];by_cases h:i<c.length
 .obtain⟨x,D⟩:=A_ (c[i]);have b:x∈c:=D▸List.getElem_mem h;have E:=zz h D;have q:=O x b;have J:=up (Pi x q);have Q:=adq x.n;have S:=up (wB m x.n (by omega) g);have y:=up (Je m x (by omega) g q);rw[List.drop_eq_getElem_cons h,D]at a;simp only[F4]at a;simp only[Ln.iv]at J y
  have s:∀e:Int,e≠0->Fn G2 T_ 22 [.int .i64 e,.int .i64 i] (dD e [(i:Int)]):=fun e d=>by
   have:=up (gQ e i)
   rwa[if_neg d]at this
  simp(disch:=omega)[wl,E];refine aa J ?_;by_cases j:gR x=0
  case neg=>
   have d:zY x=gR x:=by unfold zY;rw[if_pos j]
   rw[if_neg (by rw[d];exact j),d]at a;subst a;simp(disch:=omega)[wl,j];refine aa (s _ j) ?_;simp[paI]
  simp(disch:=omega)[wl,j];refine aa Q ?_;by_cases z:x.n∈zX
  .have d:zY x=11:=by unfold zY;rw[if_neg (by simp[j]),if_pos z]
   rw[if_neg (by rw[d];decide),d]at a;subst a;simp(disch:=omega)[wl,z];refine aa (s _ (by decide)) ?_;simp[paI]
  have d:zY x=0:=by unfold zY;rw[if_neg (by simp[j]),if_neg z]
  rw[if_pos d]at a;simp(disch:=omega)[wl,z];by_cases n:x.v=[]
  .by_cases A:x.p=[]
   .have u:mh m x=dh m x.n:=by unfold mh;rw[if_pos ⟨n,A⟩]
    have k:(ps x.p).length=0:=by simp[A,ps]
    simp(disch:=omega)[wl,n,k];refine aa S ?_;simp(disch:=omega)[wl,bF];refine aj (i+1,mh m x) ⟨by omega,Dw g q,Ad o (B x b),by have:=Dx m x;simp only;omega,a⟩ (by simp;omega) ?_;simp[u];exact an rfl rfl (by simp[bj,aE,ac,bF]) (by simp[bZ,ac,bF]) (by simp[bX])
   have u:mh m x=kB m x:=by unfold mh;rw[if_neg (fun h=>A h.2)]
   rw[n]at y;have k:¬(ps x.p).length=0:=by simp[A,ps]
   simp(disch:=omega)[wl,n,k];refine aa y ?_;simp(disch:=omega)[wl,bF];refine aj (i+1,mh m x) ⟨by omega,Dw g q,Ad o (B x b),by have:=Dx m x;simp only;omega,a⟩ (by simp;omega) ?_;simp[u];exact an rfl rfl (by simp[bj,aE,ac,bF]) (by simp[bZ,ac,bF]) (by simp[bX])
  have u:mh m x=kB m x:=by unfold mh;rw[if_neg (fun h=>n h.1)]
  simp(disch:=omega)[wl,n];refine aa y ?_;simp(disch:=omega)[wl,bF];refine aj (i+1,mh m x) ⟨by omega,Dw g q,Ad o (B x b),by have:=Dx m x;simp only;omega,a⟩ (by simp;omega) ?_;simp[u];exact an rfl rfl (by simp[bj,aE,ac,bF]) (by simp[bZ,ac,bF]) (by simp[bX])
 obtain rfl:i=c.length:=by omega
 rw[List.drop_length]at a;simp only[F4]at a;have F:=qP m g o (by omega);simp(disch:=omega)[wl];refine aa F ?_;cases H:gK m with
 |no e p=>
  rw[H]at a;simp only at a;subst a;have K:=LV e [(p:Int)];have s:=up (gQ e c.length);rw[if_neg (af5 H)]at s;obtain⟨t,v,L⟩:=dQ e [(p:Int)];rw[L]at K;simp only[Ug,L,Fc.iv,B7,cells,List.cons_append,List.nil_append];simp(disch:=omega)[wl];refine aa K ?_;simp[bF];refine aa s ?_;simp[paI]
 |ok f=>
  rw[H]at a;simp only at a;subst a;have I:=fn_Clone m (by omega);simp only[Ug,Fc.iv,B7,cells,List.cons_append,List.nil_append];simp(disch:=omega)[wl];refine aa I ?_;simp[paI]
end Go.Vs.Y.Vt
