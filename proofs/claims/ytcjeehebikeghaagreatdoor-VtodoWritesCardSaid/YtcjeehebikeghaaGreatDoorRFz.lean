/- A part of a proof. No conditions. -/
import Derived.Test.YtcjeehebikeghaaGreatDoorRDz
import Derived.Test.YtcjeehebikeghaaGreatDoorNDz
set_option linter.unusedVariables false
set_option linter.unusedSimpArgs false
set_option maxRecDepth 100000
set_option maxHeartbeats 16000000
namespace Go.Vs.YtcjeehebikeghaaGreatDoor.Rc
open Go.Proofs Go.Vs.Cv Go.Vs.Mo Go.Vs.Nu
abbrev Str:=List UInt8
def Mo.Mom.iv(v:Mom):IV:=.agg [.int .u8 v.k,.int .i64 v.s]
def eX(v:Mom):IV:=.agg [.int .u8 v.k,.int .i64 v.s]
def GD(k s:Int):Int:=if k<1\/3<k then 11 else if s<0\/315537897599<s then 8 else 0
theorem VC(k s:Int)(f:0<=k):Fn G2 T_ 132 [.int .u8 k,.int .i64 s] (.int .i64 (GD k s)):=by
 refine ae hm Gy (by simp) ?_;obtain⟨R,a⟩:∃R,GD k s=R:=⟨_,rfl⟩;rw[a];unfold GD at a;simp[xb];by_cases b:k=0
 ·rw[if_pos (.inl (by omega))]at a;subst a;simp(disch:=omega)[Go.Vs.wl,b]
 ·by_cases c:3<k
  ·rw[if_pos (.inr c)]at a;subst a;simp(disch:=omega)[Go.Vs.wl,b]
  ·rw[if_neg (by omega)]at a;by_cases d:s<0
   ·rw[if_pos (.inl d)]at a;subst a;simp(disch:=omega)[Go.Vs.wl,b]
   ·by_cases e:315537897599<s
    ·rw[if_pos (.inr e)]at a;subst a;simp(disch:=omega)[Go.Vs.wl,b]
    ·rw[if_neg (by omega)]at a;subst a;simp(disch:=omega)[Go.Vs.wl,b]
def atM(k s:Int):Mom×Int:=if GD k s≠0 then (⟨0,0⟩,GD k s)else (⟨k,if k=1 then s-s%86400 else s⟩,0)
theorem MH{k s:Int}(h:GD k s=0):1<=k/\k<=3/\0<=s/\s<=315537897599:=by
 unfold GD at h;split at h
 ·cases h
 ·split at h
  ·cases h
  ·omega
theorem ad9(k s:Int)(d:0<=k):Fn G2 T_ 85 [.int .u8 k,.int .i64 s] (.tuple [eX (atM k s).1,.int .i64 (atM k s).2]):=by
 refine ae hm Oa (by simp) ?_;have f:=VC k s d;obtain⟨R,a⟩:∃R,atM k s=R:=⟨_,rfl⟩;rw[a];unfold atM at a;simp[FN];refine aa f ?_;by_cases b:GD k s=0
 ·rw[if_neg (by simp[b])]at a;subst a;obtain⟨h,i,g,j⟩:=MH b;have e:s.tmod 86400=s%86400:=Int.tmod_eq_emod_of_nonneg g;by_cases c:k=1
  ·subst c;simp(disch:=omega)[Go.Vs.wl,b,e,eX]
  ·simp(disch:=omega)[Go.Vs.wl,b,c,eX]
 ·rw[if_pos b]at a;subst a;simp(disch:=omega)[Go.Vs.wl,b,eX]
theorem tN(v:Mom)(j:0<=v.k):Fn G2 T_ 120 [eX v] (.int .i64 (jI v)):=by
 refine ae hm Gw (by simp) ?_;obtain⟨k,s⟩:=v;have m:=ad9 k s j;obtain⟨R,a⟩:∃R,jI ⟨k,s⟩=R:=⟨_,rfl⟩;rw[a];unfold jI at a;simp only at a j;simp[x7,eX];refine aa m ?_;by_cases b:GD k s=0
 ·obtain⟨o,p,q,u⟩:=MH b;have f:atM k s=(⟨k,if k=1 then s-s%86400 else s⟩,0):=by unfold atM;rw[if_neg (by simp[b])]
  rw[f];rw[if_neg (by omega),if_neg (by omega)]at a;by_cases c:k=1
  ·by_cases l:s%86400=0
   ·rw[if_neg (by omega)]at a;subst a;simp(disch:=omega)[Go.Vs.wl,c,l,eX]
   ·rw[if_pos ⟨c,l⟩]at a;subst a;have e:¬s-s%86400=s:=by omega
    simp(disch:=omega)[Go.Vs.wl,c,e,eX]
  ·rw[if_neg (fun h=>c h.1)]at a;subst a;simp(disch:=omega)[Go.Vs.wl,c,eX]
 ·have f:atM k s=(⟨0,0⟩,GD k s):=by unfold atM;rw[if_pos b]
  rw[f]
  have g:R=GD k s:=by
   rw[<-a];unfold GD at b |-;by_cases d:k<1\/3<k
   ·rw[if_pos d,if_pos d]
   ·rw[if_neg d,if_neg d];by_cases i:s<0\/315537897599<s
    ·rw[if_pos i,if_pos i]
    ·rw[if_neg d,if_neg i]at b;exact absurd rfl b
  rw[g];simp(disch:=omega)[Go.Vs.wl,b,eX]
theorem EH(v:Mom)(d:0<=v.k):Fn G2 T_ 127 [eX v] (.int .i64 (jI v)):=by
 refine ae hm IS (by simp) ?_;obtain⟨k,s⟩:=v;obtain⟨R,a⟩:∃R,jI ⟨k,s⟩=R:=⟨_,rfl⟩;rw[a];unfold jI at a;simp only at a d;simp[zE,eX];by_cases f:k<1
 ·rw[if_pos (.inl f)]at a;subst a;simp(disch:=omega)[Go.Vs.wl]
 ·by_cases g:3<k
  ·rw[if_pos (.inr g)]at a;subst a;simp(disch:=omega)[Go.Vs.wl]
  ·rw[if_neg (by omega)]at a;by_cases i:s<0
   ·rw[if_pos (.inl i)]at a;subst a;simp(disch:=omega)[Go.Vs.wl]
   ·by_cases j:315537897599<s
    ·rw[if_pos (.inr j)]at a;subst a;simp(disch:=omega)[Go.Vs.wl]
    ·rw[if_neg (by omega)]at a;have e:s.tmod 86400=s%86400:=Int.tmod_eq_emod_of_nonneg (by omega);by_cases b:k=1
     ·by_cases c:s%86400=0
      ·rw[if_neg (by omega)]at a;subst a;simp(disch:=omega)[Go.Vs.wl,b,c,e]
      ·rw[if_pos ⟨b,c⟩]at a;subst a;simp(disch:=omega)[Go.Vs.wl,b,c,e]
     ·rw[if_neg (fun h=>b h.1)]at a;subst a;simp(disch:=omega)[Go.Vs.wl,b]
theorem VD(v:Mom)(d:0<=v.k)(c:jI v=0):Fn G2 T_ 121 [eX v] (.tuple [.int .i64 (v.s/86400),.int .i64 (v.s%86400)]):=by
 refine ae hm Gx (by simp) ?_;have a:=tN v d;rw[c]at a;obtain⟨_,_,b,e,_⟩:=EE c;obtain⟨k,s⟩:=v;simp only at b e;simp only[eX]at a;have e1:s.tmod 86400=s%86400:=Int.tmod_eq_emod_of_nonneg b;have e2:s.tdiv 86400=s/86400:=Int.tdiv_eq_ediv_of_nonneg b;simp[x9,eX];refine aa a ?_;simp(disch:=omega)[Go.Vs.wl,e1,e2]
theorem uO(s:Str):(nZ s=1/\s.length=8)\/(nZ s=2/\s.length=15/\s[8]?=some 84)\/(nZ s=3/\s.length=16/\s[8]?=some 84/\s[15]?=some 90)\/(nZ s=0/\s.length≠8/\¬(s.length=15/\s[8]?=some 84)/\¬(s.length=16/\s[8]?=some 84/\s[15]?=some 90)):=by
 unfold nZ;by_cases a:s.length=8
 ·rw[if_pos a];exact .inl ⟨rfl,a⟩
 ·rw[if_neg a];by_cases b:s.length=15/\s[8]?=some 84
  ·rw[if_pos b];exact .inr (.inl ⟨rfl,b⟩)
  ·rw[if_neg b];by_cases c:s.length=16/\s[8]?=some 84/\s[15]?=some 90
   ·rw[if_pos c];exact .inr (.inr (.inl ⟨rfl,c⟩))
   ·rw[if_neg c];exact .inr (.inr (.inr ⟨rfl,a,b,c⟩))
def U2(s:Str):IV:=if nZ s=0 then .tuple [.int .u8 0,.str [],.str [],.bool false]else .tuple [.int .u8 (nZ s),.str (s.take 8),.str (o0 s),.bool true]
theorem lZ{s:Str}{i:Nat}{c:UInt8}(h:i<s.length):s[i]?=some c↔s[i].toNat=c.toNat:=by
 rw[List.getElem?_eq_getElem h,E_];exact⟨fun e=>by rw[e],fun e=>UInt8.toNat_inj.1 e⟩
theorem aaZ(s:Str)(m:s.length<1000000):Fn G2 T_ 275 [.str s] (U2 s):=by
 refine ae hm IZ (by simp) ?_;obtain⟨R,c⟩:∃R,U2 s=R:=⟨_,rfl⟩;rw[c];unfold U2 o0 at c;simp[zQ];rcases uO s with⟨d,l⟩|⟨d,a,hT⟩|⟨d,b,hT,g⟩|⟨d,h,i,j⟩
 ·rw[d,if_neg (by omega),if_pos rfl]at c;subst c;have:s.take 8=s:=List.take_of_length_le (by omega);simp(disch:=omega)[Go.Vs.wl,l,this]
 ·rw[d,if_neg (by omega),if_neg (by omega)]at c;subst c;rw[lZ (by omega)]at hT;have f:(s[8]'(by omega)).toNat=84:=hT;have e1:(s.drop 9).take 6=s.drop 9:=List.take_of_length_le (by rw[List.length_drop];omega);have e2:(s.take 15).drop 9=s.drop 9:=by rw[List.take_of_length_le (by omega)]
  simp(disch:=omega)[Go.Vs.wl,a,f,e1,e2]
 ·rw[d,if_neg (by omega),if_neg (by omega)]at c;subst c;rw[lZ (by omega)]at hT g;have f:(s[8]'(by omega)).toNat=84:=hT;have k:(s[15]'(by omega)).toNat=90:=g;have e1:(s.drop 9).take 6=(s.take 15).drop 9:=by rw[List.drop_take]
  simp(disch:=omega)[Go.Vs.wl,b,f,k,e1]
 ·rw[if_pos d]at c;subst c;by_cases a:s.length=15
  ·have hT:¬(s[8]'(by omega)).toNat=84:=fun e=>i ⟨a,(lZ (by omega)).2 e⟩
   simp(disch:=omega)[Go.Vs.wl,h,a,hT]
  ·by_cases b:s.length=16
   ·by_cases hT:(s[8]'(by omega)).toNat=84
    ·have g:¬(s[15]'(by omega)).toNat=90:=fun e=>j ⟨b,(lZ (by omega)).2 hT,(lZ (by omega)).2 e⟩
     simp(disch:=omega)[Go.Vs.wl,h,a,b,hT,g]
    ·simp(disch:=omega)[Go.Vs.wl,h,a,b,hT]
   ·simp(disch:=omega)[Go.Vs.wl,h,a,b]
def FX:Str->List Nat->List Int->Option (List Int×Str)
 |s,[],a=>some (a,s)
 |s,w::wl,a=>if w<=s.length/\(s.take w).all d7=true then FX (s.drop w) wl (a++[((bt 0 (s.take w):Nat):Int)])else none
def KL:Option (List Int×Str)->IV
 |none=>.tuple [.slice [],.bool false]
 |some (l,r)=>.tuple [.slice (is l),.bool (decide (r=[]))]
def wsI(wl:List Nat):List Int:=wl.map fun w:Nat=>(w:Int)
theorem aa0{wl:List Nat}{i w:Nat}(h:i<wl.length)(a:wl[i]=w):(is (wsI wl))[i]?=some [.int .i64 (w:Int)]:=by simp[is,wsI,h,a]
theorem U3(wl:List Nat):(is (wsI wl)).length=wl.length:=by simp[is,wsI]
theorem MI(s:Str)(wl:List Nat)(D:∀w∈wl,w<=9)(M:wl.length<=100)(N:s.length<1000000):Fn G2 T_ 276 [.str s,.slice (is (wsI wl))] (KL (FX s wl [])):=by
 refine ae hm EG (by simp) ?_;obtain⟨R,z⟩:∃R,FX s wl []=R:=⟨_,rfl⟩;rw[z];simp[vI,U3];refine be hm [] (fun x:Str×List Int=>[(12,.val (.int .i64 x.2.length)),(0,.val (.str x.1)),(6,.own 6 x.2.length)]) (fun x=>[(6,.arr x.2.length 1 (is x.2))]) (fun x=>x.2.length<=wl.length/\x.1.length<=s.length/\FX x.1 (wl.drop x.2.length) x.2=R) (fun x=>wl.length-x.2.length) (s,[]) ⟨by simp,by simp,by simpa using z⟩ ?_ ?_
 ·simp[is];exact cH.trans (ct (k:=6) 6 1 (by simp) (by simp[ap,ac])) (ag rfl rfl (by simp[St.adopt,aI,ap,ac,put,cS,SV.erase]) (by simp[St.adopt,bD,ac,put,ck,Ob.erase]) (by simp[St.adopt,bB]))
 rintro⟨t,a⟩ ⟨E,F,b⟩;simp only at E F b;simp[U3];by_cases h:a.length<wl.length
 ·obtain⟨w,g⟩:∃w,wl[a.length]=w:=⟨_,rfl⟩;have H:=aa0 h g;have I:=D w (g▸List.getElem_mem h);rw[List.drop_eq_getElem_cons h,g,FX]at b;simp(disch:=omega)[Go.Vs.wl,H];refine be hm [] (fun j:Nat=>[(8,.val (.int .i64 ((w-j:Nat):Int))),(9,.val (.int .i64 ((bt 0 (t.take j):Nat):Int))),(0,.val (.str (t.drop j)))]) (fun _=>[]) (fun j=>j<=w/\j<=t.length/\(t.take j).all d7=true) (fun j=>w-j) 0 ⟨by omega,by omega,by simp⟩ ?_ ?_
  ·have e:bt 0 ([]:Str)=0:=rfl;simp[e];exact bp
  rintro j ⟨O,J,v⟩;simp;by_cases P:j<w
  ·obtain⟨d,n⟩:∃d,t.drop j=d:=⟨_,rfl⟩;rw[n];cases d with
   |nil=>
    have A:t.length=j:=by
     have:=congrArg List.length n;rw[List.length_drop]at this;simp at this;omega
    rw[if_neg (fun h=>by omega)]at b;subst b;simp(disch:=omega)[Go.Vs.wl];simp[KL]
   |cons c r=>
    have o:j<t.length:=by
     have:=congrArg List.length n;rw[List.length_drop]at this;simp at this;omega
    have i:t[j]=c/\t.drop (j+1)=r:=by
     rw[List.drop_eq_getElem_cons o]at n;exact⟨(List.cons.inj n).1,(List.cons.inj n).2⟩
    have p:t.take (j+1)=t.take j++[c]:=by rw[List.take_succ_eq_append_getElem o,i.1]
    by_cases f:d7 c=true
    ·obtain⟨d1,Q⟩:=wQ f;have l:(t.take (j+1)).all d7=true:=by rw[p,List.all_append,v,TJ f];rfl
     have K:bt 0 (t.take (j+1))=10*bt 0 (t.take j)+(c.toNat-48):=by rw[p,tG]
     have y:bt 0 (t.take j)<10 ^ 9:=Go.Vs.YtcjeehebikeghaaGreatDoor.val_bd v (by rw[List.length_take];omega);obtain⟨V,B⟩:∃V,bt 0 (t.take j)=V:=⟨_,rfl⟩;obtain⟨W,C⟩:∃W,bt 0 (t.take (j+1))=W:=⟨_,rfl⟩;rw[B,C]at K;rw[B]at y |-;have e:((V:Int)*10+((c.toNat:Int)-48))=(W:Int):=by omega
     simp(disch:=omega)[Go.Vs.wl,e];refine⟨by omega,?_⟩;refine ai (j+1) ⟨by omega,by omega,l⟩ (by omega) ?_;simp[C,i.2];exact ag rfl rfl (by simp[aI,ap,ac];omega) (by simp[bD,ac]) (by simp[bB])
    ·have q:¬(w<=t.length/\(t.take w).all d7=true):=fun L=>by
      have u:c∈t.take w:=by
       rw[List.mem_take_iff_getElem];exact⟨j,by omega,i.1⟩
      exact f (List.all_eq_true.1 L.2 c u)
     rw[if_neg q]at b;subst b
     have m:c.toNat<48\/57<c.toNat:=by
      simp[d7]at f;omega
     rcases m with m|m
     ·simp(disch:=omega)[Go.Vs.wl];simp[KL]
     ·simp(disch:=omega)[Go.Vs.wl];simp[KL]
  ·obtain rfl:j=w:=by omega
   rw[if_pos ⟨J,v⟩]at b;simp(disch:=omega)[Go.Vs.wl,is_len];refine⟨by omega,?_⟩;refine ai (t.drop j,a++[((bt 0 (t.take j):Nat):Int)]) ⟨by simp;omega,by simp;omega,by simpa using b⟩ (by simp;omega) ?_;simp[NX];exact bp
 ·have e:wl.drop a.length=[]:=List.drop_eq_nil_of_le (by omega);rw[e,FX]at b;subst b;have e2:a.length=wl.length:=by omega
  simp(disch:=omega)[Go.Vs.wl,is_len];simp[KL]
theorem VE{s:Str}{a b c:Nat}(m:s.length=a+b+c):FX s [a,b,c] []=if s.all d7=true then some ([((bt 0 (s.take a):Nat):Int),((bt 0 ((s.drop a).take b):Nat):Int),((bt 0 (s.drop (a+b)):Nat):Int)],[])else none:=by
 have i:(s.drop a).length=b+c:=by rw[List.length_drop];omega
 have j:((s.drop a).drop b).length=c:=by rw[List.length_drop];omega
 have k:((s.drop a).drop b).take c=s.drop (a+b):=by rw[List.take_of_length_le (by omega),List.drop_drop]
 have e4:((s.drop a).drop b).drop c=[]:=List.drop_eq_nil_of_le (by omega)
 have l:s=s.take a++((s.drop a).take b++s.drop (a+b)):=by
  rw[<-List.drop_drop,List.take_append_drop,List.take_append_drop]
 have d:s.all d7=((s.take a).all d7&&(((s.drop a).take b).all d7&&(s.drop (a+b)).all d7)):=by
  conv=>lhs;rw[l]
  rw[List.all_append,List.all_append]
 simp only[FX,i,j,k,e4,d];by_cases e:(s.take a).all d7=true
 ·rw[if_pos ⟨by omega,e⟩];by_cases f:((s.drop a).take b).all d7=true
  ·rw[if_pos ⟨by omega,f⟩];by_cases g:(s.drop (a+b)).all d7=true
   ·rw[if_pos ⟨by omega,g⟩,if_pos (by simp[e,f,g])];rfl
   ·rw[if_neg (fun h=>g h.2),if_neg (by simp[g])]
  ·rw[if_neg (fun h=>f h.2),if_neg (by simp[f])]
 ·rw[if_neg (fun h=>e h.2),if_neg (by simp[e])]
theorem Oh{y m d:Nat}(b:y<=9999):QI y m d=if ij y m d=true then (nY y m d,0)else (0,8):=by
 unfold QI ij;by_cases h:1<=y/\1<=m/\m<=12/\1<=d/\d<=oy y m
 ·have a:k9 y m=oy y m:=by unfold k9;rw[if_pos (by omega)]
  rw[if_neg (by omega),if_pos (by simpa using h)]
 ·rw[if_neg (c:=decide _=true) (by simpa using h)];by_cases q:1<=y/\y<=9999/\1<=m/\m<=12
  ·have a:k9 y m=oy y m:=by unfold k9;rw[if_pos q]
   rw[if_pos (by omega)]
  ·have a:k9 y m=0:=by unfold k9;rw[if_neg q]
   rw[if_pos (by omega)]
theorem eh{s:Str}(h:s.all d7=true)(n:Nat):(s.take n).all d7=true:=by
 rw[List.all_eq_true]at h |-;exact fun c a=>h c (List.mem_of_mem_take a)
theorem eK{s:Str}(h:s.all d7=true)(n:Nat):(s.drop n).all d7=true:=by
 rw[List.all_eq_true]at h |-;exact fun c a=>h c (List.mem_of_mem_drop a)
theorem EI{s:Str}(h:s.all d7=true)(a:s.length<=2):bt 0 s<100:=by
 have:=Go.Vs.YtcjeehebikeghaaGreatDoor.val_bd h a;simpa using this
theorem aea{s:Str}(h:s.all d7=true)(a:s.length<=4):bt 0 s<10000:=by
 have:=Go.Vs.YtcjeehebikeghaaGreatDoor.val_bd h a;simpa using this
theorem Yt{s:Str}(h:nZ s≠0):(s.take 8).length=8/\(o0 s).length=6/\1<=nZ s/\nZ s<=3:=by
 unfold o0;rcases uO s with⟨a,d⟩|⟨a,b,_⟩|⟨a,c,_⟩|⟨a,_⟩
 ·rw[a,if_pos rfl];exact⟨by rw[List.length_take];omega,rfl,by omega,by omega⟩
 ·rw[a,if_neg (by omega)];exact⟨by rw[List.length_take];omega,by rw[List.length_take,List.length_drop];omega,by omega,by omega⟩
 ·rw[a,if_neg (by omega)];exact⟨by rw[List.length_take];omega,by rw[List.length_take,List.length_drop];omega,by omega,by omega⟩
 ·exact absurd a h
theorem yl(s:Str)(Q:s.length<1000000):Fn G2 T_ 211 [.str s] (.tuple [eX (fu s).1,.int .i64 (fu s).2]):=by
 refine ae hm Gz (by simp) ?_;have A:=aaZ s Q;obtain⟨R,a⟩:∃R,fu s=R:=⟨_,rfl⟩;rw[a];unfold fu at a;unfold U2 at A;simp[xd];by_cases B:nZ s=0
 ·rw[if_pos (.inl B)]at a;rw[if_pos B]at A;subst a;refine aa A ?_;simp(disch:=omega)[Go.Vs.wl,eX]
 ·rw[if_neg B]at A;obtain⟨S,U,V,W⟩:=Yt B;obtain⟨k,O⟩:∃k,nZ s=k:=⟨_,rfl⟩;obtain⟨D,P⟩:∃D,s.take 8=D:=⟨_,rfl⟩;obtain⟨T,hT⟩:∃T,o0 s=T:=⟨_,rfl⟩;rw[O,P,hT]at A a;rw[O]at B V W;rw[P]at S;rw[hT]at U;have o:=MI D [4,2,2] (by simp) (by simp) (by omega);have p:=MI T [2,2,2] (by simp) (by simp) (by omega);rw[VE (by omega)]at o p;simp only[wsI,is,List.map_cons,List.map_nil,Int.cast_ofNat_Int,Nat.reduceAdd]at o p;refine aa A ?_;simp(disch:=omega)[Go.Vs.wl];refine aa o ?_;by_cases q:D.all d7=true
  ·rw[if_pos q];obtain⟨y,I⟩:∃y,bt 0 (D.take 4)=y:=⟨_,rfl⟩;obtain⟨m,e⟩:∃m,bt 0 ((D.drop 4).take 2)=m:=⟨_,rfl⟩;obtain⟨d,g⟩:∃d,bt 0 (D.drop 6)=d:=⟨_,rfl⟩;have Pe:y<10000:=I▸aea (eh q 4) (by rw[List.length_take];omega);have bm:m<100:=e▸EI (eh (eK q 4) 2) (by rw[List.length_take];omega);have bd:d<100:=g▸EI (eK q 6) (by rw[List.length_drop];omega);rw[I,e,g];simp(disch:=omega)[Go.Vs.wl,KL,is];refine aa p ?_;by_cases x:T.all d7=true
   ·rw[if_pos x];rw[if_neg (by simp[B,q,x])]at a;obtain⟨h,J⟩:∃h,bt 0 (T.take 2)=h:=⟨_,rfl⟩;obtain⟨C,j⟩:∃C,bt 0 ((T.drop 2).take 2)=C:=⟨_,rfl⟩;obtain⟨E,l⟩:∃E,bt 0 (T.drop 4)=E:=⟨_,rfl⟩;have bh:h<100:=J▸EI (eh x 2) (by rw[List.length_take];omega);have X:C<100:=j▸EI (eh (eK x 2) 2) (by rw[List.length_take];omega);have Y:E<100:=l▸EI (eK x 4) (by rw[List.length_drop];omega);rw[J,j,l];have b:=ac8 y m d (by omega) (by omega) (by omega);have z:QG D T=(ij y m d&&decide (h<=23/\C<=59/\E<=59)):=by unfold QG;rw[I,e,g,J,j,l]
    have n:KG D T=nY y m d*86400+(h*3600+C*60+E):=by unfold KG;rw[I,e,g,J,j,l]
    rw[z]at a;rw[Oh (by omega)]at b;by_cases H:ij y m d=true
    ·rw[if_pos H]at b
     have Ef:nY y m d<=3652058:=by
      have F:=H;simp only[ij,decide_eq_true_eq]at F;exact SJ F.1 (by omega) F.2.1 F.2.2.1 F.2.2.2.1 F.2.2.2.2
     rw[H,Bool.true_and]at a;obtain⟨N,Z⟩:∃N,nY y m d=N:=⟨_,rfl⟩;rw[Z]at b n Ef;simp only[oK]at b;simp(disch:=omega)[Go.Vs.wl,KL,is];refine aa b ?_;by_cases a1:23<h
     ·rw[if_pos (by simp;omega)]at a;subst a;simp(disch:=omega)[Go.Vs.wl];refine⟨rfl,?_⟩;simp(disch:=omega)[Go.Vs.wl,eX]
     ·by_cases a2:59<C
      ·rw[if_pos (by simp;omega)]at a;subst a;simp(disch:=omega)[Go.Vs.wl];refine⟨rfl,?_⟩;simp(disch:=omega)[Go.Vs.wl,eX]
      ·by_cases a3:59<E
       ·rw[if_pos (by simp;omega)]at a;subst a;simp(disch:=omega)[Go.Vs.wl];refine⟨rfl,?_⟩;simp(disch:=omega)[Go.Vs.wl,eX]
       ·rw[if_neg (by simp;omega),n]at a;subst a;simp(disch:=omega)[Go.Vs.wl];refine⟨rfl,?_⟩;simp(disch:=omega)[Go.Vs.wl,eX];omega
    ·have K:ij y m d=false:=by simpa using H
     rw[if_neg H]at b;rw[K,Bool.false_and,if_pos rfl]at a;subst a;simp only[oK]at b;simp(disch:=omega)[Go.Vs.wl,KL,is];refine aa b ?_;simp(disch:=omega)[Go.Vs.wl];refine⟨rfl,?_⟩;simp(disch:=omega)[Go.Vs.wl,eX]
   ·have L:T.all d7=false:=by simpa using x
    rw[if_neg x];rw[if_pos (.inr (.inr L))]at a;subst a;simp(disch:=omega)[Go.Vs.wl,KL,eX]
  ·have M:D.all d7=false:=by simpa using q
   rw[if_neg q];rw[if_pos (.inr (.inl M))]at a;subst a;simp(disch:=omega)[Go.Vs.wl,KL,eX]
theorem EJ(s:Str)(k:s.length<1000000):Fn G2 T_ 227 [.str s] (.bool (s.all d7)):=by
 refine ae hm GA (by simp) ?_;obtain⟨R,g⟩:∃R,s.all d7=R:=⟨_,rfl⟩;rw[g];simp[xf];refine be hm [] (fun i:Nat=>[(3,.val (.int .i64 i))]) (fun _=>[]) (fun i=>i<=s.length/\(s.drop i).all d7=R) (fun i=>s.length-i) 0 ⟨by omega,by simpa using g⟩ ?_ ?_
 ·simp;exact bp
 rintro i ⟨l,a⟩;simp;by_cases h:i<s.length
 ·obtain⟨c,d⟩:∃c,s[i]=c:=⟨_,rfl⟩;have j:s.drop i=c::s.drop (i+1):=by rw[<-d];exact List.drop_eq_getElem_cons h
  rw[j,List.all_cons]at a;by_cases e:d7 c=true
  ·obtain⟨d1,m⟩:=wQ e;rw[e,Bool.true_and]at a;simp(disch:=omega)[Go.Vs.wl,d];refine ai (i+1) ⟨by omega,a⟩ (by omega) ?_;simp;exact bp
  ·have f:d7 c=false:=by simpa using e
   rw[f,Bool.false_and]at a;subst a
   have b:c.toNat<48\/57<c.toNat:=by
    simp[d7]at e;omega
   rcases b with b|b
   ·simp(disch:=omega)[Go.Vs.wl,d]
   ·simp(disch:=omega)[Go.Vs.wl,d]
 ·obtain rfl:i=s.length:=by omega
  rw[List.drop_length]at a;subst a;simp(disch:=omega)[Go.Vs.wl]
theorem fn_dnumber(s:Str)(p:s.length<=4)(j:s.all d7=true):Fn G2 T_ 229 [.str s] (.int .i64 (bt 0 s:Nat)):=by
 refine ae hm GB (by simp) ?_;simp[xh];refine be hm [] (fun i:Nat=>[(4,.val (.int .i64 i)),(3,.val (.int .i64 ((bt 0 (s.take i):Nat):Int)))]) (fun _=>[]) (fun i=>i<=s.length) (fun i=>s.length-i) 0 (by omega) ?_ ?_
 ·have e:bt 0 ([]:Str)=0:=rfl;simp[e];exact bp
 intro i q;simp;by_cases h:i<s.length
 ·obtain⟨c,b⟩:∃c,s[i]=c:=⟨_,rfl⟩;have n:d7 c=true:=List.all_eq_true.1 j c (b▸List.getElem_mem h);obtain⟨d1,v⟩:=wQ n;have f:s.take (i+1)=s.take i++[c]:=by rw[List.take_succ_eq_append_getElem h,b]
  have o:bt 0 (s.take (i+1))=10*bt 0 (s.take i)+(c.toNat-48):=by rw[f,tG]
  have g:bt 0 (s.take i)<10 ^ 4:=Go.Vs.YtcjeehebikeghaaGreatDoor.val_bd (eh j i) (by rw[List.length_take];omega);obtain⟨V,k⟩:∃V,bt 0 (s.take i)=V:=⟨_,rfl⟩;obtain⟨W,l⟩:∃W,bt 0 (s.take (i+1))=W:=⟨_,rfl⟩;rw[k,l]at o;rw[k]at g |-;have e:((V:Int)*10+((c.toNat:Int)-48))=(W:Int):=by omega
  simp(disch:=omega)[Go.Vs.wl,b,e];refine ai (i+1) (by omega) (by omega) ?_;simp[l];exact bp
 ·obtain rfl:i=s.length:=by omega
  simp(disch:=omega)[Go.Vs.wl]
theorem ym(s:Str)(hs:s.length<1000000):Fn G2 T_ 160 [.str s] (.tuple [eX (fu s).1,.int .i64 (fu s).2]):=by
 refine ae hm IT (by simp) ?_;obtain⟨R,g⟩:∃R,fu s=R:=⟨_,rfl⟩;rw[g];unfold fu at g;simp[zG];have hk:=uO s;by_cases hL:s.length=8\/s.length=15\/s.length=16
 ·obtain⟨D,L⟩:∃D,s.take 8=D:=⟨_,rfl⟩;have lD:D.length=8:=by rw[<-L,List.length_take];omega
  have c1:s.take 4=D.take 4:=by rw[<-L,List.take_take];rfl
  have c2:(s.take 6).drop 4=(D.drop 4).take 2:=by rw[<-L,List.take_drop,List.take_take];rfl
  have M:=EJ D (by omega);have q:=fun h=>fn_dnumber (D.take 4) (by rw[List.length_take];omega) (eh h 4)
  have x:=fun h=>fn_dnumber ((D.drop 4).take 2) (by rw[List.length_take];omega) (eh (eK h 4) 2)
  have z:=fun h=>fn_dnumber (D.drop 6) (by rw[List.length_drop];omega) (eK h 6)
  obtain⟨T,hT⟩:∃T,(s.take 15).drop 9=T:=⟨_,rfl⟩;have c':(s.drop 9).take 6=T:=by rw[<-hT,List.drop_take]
  have t1:(s.take 11).drop 9=T.take 2:=by rw[<-hT,List.take_drop,List.take_take];rfl
  have t2:(s.take 13).drop 11=(T.drop 2).take 2:=by rw[<-hT,List.drop_drop,List.take_drop,List.take_take];rfl
  have t3:(s.take 15).drop 13=T.drop 4:=by rw[<-hT,List.drop_drop]
  rw[L]at g
  have K:∀h:D.all d7=true,bt 0 (D.take 4)<10000/\bt 0 ((D.drop 4).take 2)<100/\bt 0 (D.drop 6)<100:=fun h=>
   ⟨aea (eh h 4) (by rw[List.length_take];omega),EI (eh (eK h 4) 2) (by rw[List.length_take];omega),EI (eK h 6) (by rw[List.length_drop];omega)⟩
  obtain⟨y,hy⟩:∃y,bt 0 (D.take 4)=y:=⟨_,rfl⟩;obtain⟨m,O⟩:∃m,bt 0 ((D.drop 4).take 2)=m:=⟨_,rfl⟩;obtain⟨d,P⟩:∃d,bt 0 (D.drop 6)=d:=⟨_,rfl⟩;obtain⟨h,hh⟩:∃h,bt 0 (T.take 2)=h:=⟨_,rfl⟩;obtain⟨mi,V⟩:∃mi,bt 0 ((T.drop 2).take 2)=mi:=⟨_,rfl⟩;obtain⟨se,W⟩:∃se,bt 0 (T.drop 4)=se:=⟨_,rfl⟩;have Q:QG D T=(ij y m d&&decide (h<=23/\mi<=59/\se<=59)):=by unfold QG;rw[hy,O,P,hh,V,W]
  have X:KG D T=nY y m d*86400+(h*3600+mi*60+se):=by unfold KG;rw[hy,O,P,hh,V,W]
  have Ef:ij y m d=true->y<10000->nY y m d<=3652058:=fun q4 hb=>by
   simp only[ij,decide_eq_true_eq]at q4;exact SJ q4.1 (by omega) q4.2.1 q4.2.2.1 q4.2.2.2.1 q4.2.2.2.2
  have j:=fun(a:y<10000) (b:m<100) (c:d<100)=>aaY y m d (by omega) (by omega) (by omega)
  rw[hy]at q K;rw[O]at x K;rw[P]at z K;by_cases L8:s.length=8
  ·have d':nZ s=1:=by omega
   have hz:o0 s=[48,48,48,48,48,48]:=by unfold o0;rw[if_pos d']
   have f':QG D [48,48,48,48,48,48]=ij y m d:=by
    unfold QG;rw[hy,O,P];show(ij y m d&&true)=_;rw[Bool.and_true]
   have g':KG D [48,48,48,48,48,48]=nY y m d*86400:=by
    unfold KG;rw[hy,O,P];show nY y m d*86400+0=_;omega
   rw[hz,d',f',g']at g;simp(disch:=omega)[Go.Vs.wl,L8,L];refine aa M ?_;by_cases n:D.all d7=true
   ·rw[if_neg (by rw[n];decide)]at g;rw[n];obtain⟨Y,b2,b3⟩:=K n;have q:=q n;have x:=x n;have z:=z n;have j:=j Y b2 b3;rw[Oh (by omega)]at j;simp(disch:=omega)[Go.Vs.wl,L8,c1];refine aa q ?_;simp(disch:=omega)[Go.Vs.wl,L8,c2];refine aa x ?_;simp(disch:=omega)[Go.Vs.wl,L8,L];refine aa z ?_;simp(disch:=omega)[Go.Vs.wl];refine aa j ?_;by_cases F:ij y m d=true
    ·have Ef:=Ef F Y;rw[F,if_neg (by decide)]at g;obtain⟨N,hN⟩:∃N,nY y m d=N:=⟨_,rfl⟩;rw[if_pos F];rw[hN]at Ef g |-;subst g;simp(disch:=omega)[Go.Vs.wl,oK];refine⟨rfl,?_⟩;simp(disch:=omega)[Go.Vs.wl,eX]
    ·have S:ij y m d=false:=by simpa using F
     rw[S,if_pos rfl]at g;subst g;rw[if_neg F];simp(disch:=omega)[Go.Vs.wl,oK];refine⟨rfl,?_⟩;simp(disch:=omega)[Go.Vs.wl,eX]
   ·have H:D.all d7=false:=by simpa using n
    rw[H,if_pos (.inr (.inl rfl))]at g;subst g;rw[H];simp(disch:=omega)[Go.Vs.wl,eX]
  by_cases o:s.length=15
  ·have Z:=EJ T (by rw[<-hT,List.length_drop,List.length_take];omega);have lT:T.length=6:=by rw[<-hT,List.length_drop,List.length_take];omega
   have A:=fun h=>fn_dnumber (T.take 2) (by rw[List.length_take];omega) (eh h 2)
   have B:=fun h=>fn_dnumber ((T.drop 2).take 2) (by rw[List.length_take];omega) (eh (eK h 2) 2)
   have C:=fun h=>fn_dnumber (T.drop 4) (by rw[List.length_drop];omega) (eK h 4)
   have E:∀h:T.all d7=true,bt 0 (T.take 2)<100/\bt 0 ((T.drop 2).take 2)<100/\bt 0 (T.drop 4)<100:=fun h=>
    ⟨EI (eh h 2) (by rw[List.length_take];omega),EI (eh (eK h 2) 2) (by rw[List.length_take];omega),EI (eK h 4) (by rw[List.length_drop];omega)⟩
   rw[hh]at A E;rw[V]at B E;rw[W]at C E;by_cases a':nZ s=2
   ·have g8:s[8]?=some 84:=by rcases hk with⟨a,b⟩|⟨a,b,c⟩|⟨a,b,c⟩|⟨a,b⟩<;>first|exact c|omega
    have j8:8<s.length:=by omega
    have p:(s[8]'j8).toNat=84:=(lZ j8).1 g8;have hz:o0 s=T:=by unfold o0;rw[if_neg (by omega),c']
    rw[hz,a',Q,X]at g;simp(disch:=omega)[Go.Vs.wl,o,p,L];refine aa M ?_;by_cases n:D.all d7=true
    ·rw[n];obtain⟨Y,b2,b3⟩:=K n;have q:=q n;have x:=x n;have z:=z n;have j:=j Y b2 b3;rw[Oh (by omega)]at j;simp(disch:=omega)[Go.Vs.wl,o,p,hT];refine aa Z ?_;by_cases I:T.all d7=true
     ·rw[if_neg (by rw[n,I];decide)]at g;rw[I];obtain⟨b4,b5,b6⟩:=E I;have A:=A I;have B:=B I;have C:=C I;simp(disch:=omega)[Go.Vs.wl,o,c1];refine aa q ?_;simp(disch:=omega)[Go.Vs.wl,o,c2];refine aa x ?_;simp(disch:=omega)[Go.Vs.wl,o,L];refine aa z ?_;simp(disch:=omega)[Go.Vs.wl];refine aa j ?_;by_cases F:ij y m d=true
      ·have Ef:=Ef F Y;rw[F,Bool.true_and]at g;obtain⟨N,hN⟩:∃N,nY y m d=N:=⟨_,rfl⟩;rw[if_pos F];rw[hN]at Ef g |-;simp(disch:=omega)[Go.Vs.wl,oK];refine⟨rfl,?_⟩;simp(disch:=omega)[Go.Vs.wl,o,t1];refine aa A ?_;simp(disch:=omega)[Go.Vs.wl,o,t2];refine aa B ?_;simp(disch:=omega)[Go.Vs.wl,o,t3];refine aa C ?_;by_cases a1:23<h
       ·rw[if_pos (by simp;omega)]at g;subst g;simp(disch:=omega)[Go.Vs.wl];refine⟨rfl,?_⟩;simp(disch:=omega)[Go.Vs.wl,eX]
       ·by_cases a2:59<mi
        ·rw[if_pos (by simp;omega)]at g;subst g;simp(disch:=omega)[Go.Vs.wl];refine⟨rfl,?_⟩;simp(disch:=omega)[Go.Vs.wl,eX]
        ·by_cases a3:59<se
         ·rw[if_pos (by simp;omega)]at g;subst g;simp(disch:=omega)[Go.Vs.wl];refine⟨rfl,?_⟩;simp(disch:=omega)[Go.Vs.wl,eX]
         ·rw[if_neg (by simp;omega)]at g;subst g;simp(disch:=omega)[Go.Vs.wl];refine⟨rfl,?_⟩;simp(disch:=omega)[Go.Vs.wl,eX];omega
      ·have S:ij y m d=false:=by simpa using F
       rw[S,Bool.false_and,if_pos rfl]at g;subst g;rw[if_neg F];simp(disch:=omega)[Go.Vs.wl,oK];refine⟨rfl,?_⟩;simp(disch:=omega)[Go.Vs.wl,eX]
     ·have U:T.all d7=false:=by simpa using I
      rw[U,if_pos (.inr (.inr rfl))]at g;subst g;rw[U];simp(disch:=omega)[Go.Vs.wl,eX]
    ·have H:D.all d7=false:=by simpa using n
     rw[H,if_pos (.inr (.inl rfl))]at g;subst g;rw[H];simp(disch:=omega)[Go.Vs.wl,eX]
   ·have h0:nZ s=0:=by omega
    rw[if_pos (.inl h0)]at g;subst g;have b':¬(s[8]'(by omega)).toNat=84:=fun e=>by rcases hk with⟨a,b⟩|⟨a,b,c⟩|⟨a,b,c⟩|⟨a,b,c,f⟩<;>first|omega|exact c ⟨o,(lZ (by omega)).2 e⟩
    simp(disch:=omega)[Go.Vs.wl,o,L];refine aa M ?_;cases D.all d7 with
    |false=>simp(disch:=omega)[Go.Vs.wl,eX]
    |true=>simp(disch:=omega)[Go.Vs.wl,o,b',eX]
  ·have l:s.length=16:=by omega
   have Z:=EJ T (by rw[<-hT,List.length_drop,List.length_take];omega);have lT:T.length=6:=by rw[<-hT,List.length_drop,List.length_take];omega
   have A:=fun h=>fn_dnumber (T.take 2) (by rw[List.length_take];omega) (eh h 2)
   have B:=fun h=>fn_dnumber ((T.drop 2).take 2) (by rw[List.length_take];omega) (eh (eK h 2) 2)
   have C:=fun h=>fn_dnumber (T.drop 4) (by rw[List.length_drop];omega) (eK h 4)
   have E:∀h:T.all d7=true,bt 0 (T.take 2)<100/\bt 0 ((T.drop 2).take 2)<100/\bt 0 (T.drop 4)<100:=fun h=>
    ⟨EI (eh h 2) (by rw[List.length_take];omega),EI (eh (eK h 2) 2) (by rw[List.length_take];omega),EI (eK h 4) (by rw[List.length_drop];omega)⟩
   rw[hh]at A E;rw[V]at B E;rw[W]at C E;by_cases a':nZ s=3
   ·have g8:s[8]?=some 84/\s[15]?=some 90:=by rcases hk with⟨a,b⟩|⟨a,b,c⟩|⟨a,b,c⟩|⟨a,b⟩<;>first|exact c|omega
    have j8:8<s.length:=by omega
    have e':15<s.length:=by omega
    have p:(s[8]'j8).toNat=84:=(lZ j8).1 g8.1;have J:(s[15]'e').toNat=90:=(lZ e').1 g8.2;have hz:o0 s=T:=by unfold o0;rw[if_neg (by omega),c']
    rw[hz,a',Q,X]at g;simp(disch:=omega)[Go.Vs.wl,l,p,J,L];refine aa M ?_;by_cases n:D.all d7=true
    ·rw[n];obtain⟨Y,b2,b3⟩:=K n;have q:=q n;have x:=x n;have z:=z n;have j:=j Y b2 b3;rw[Oh (by omega)]at j;simp(disch:=omega)[Go.Vs.wl,l,p,J,hT];refine aa Z ?_;by_cases I:T.all d7=true
     ·rw[if_neg (by rw[n,I];decide)]at g;rw[I];obtain⟨b4,b5,b6⟩:=E I;have A:=A I;have B:=B I;have C:=C I;simp(disch:=omega)[Go.Vs.wl,l,c1];refine aa q ?_;simp(disch:=omega)[Go.Vs.wl,l,c2];refine aa x ?_;simp(disch:=omega)[Go.Vs.wl,l,L];refine aa z ?_;simp(disch:=omega)[Go.Vs.wl];refine aa j ?_;by_cases F:ij y m d=true
      ·have Ef:=Ef F Y;rw[F,Bool.true_and]at g;obtain⟨N,hN⟩:∃N,nY y m d=N:=⟨_,rfl⟩;rw[if_pos F];rw[hN]at Ef g |-;simp(disch:=omega)[Go.Vs.wl,oK];refine⟨rfl,?_⟩;simp(disch:=omega)[Go.Vs.wl,l,t1];refine aa A ?_;simp(disch:=omega)[Go.Vs.wl,l,t2];refine aa B ?_;simp(disch:=omega)[Go.Vs.wl,l,t3];refine aa C ?_;by_cases a1:23<h
       ·rw[if_pos (by simp;omega)]at g;subst g;simp(disch:=omega)[Go.Vs.wl];refine⟨rfl,?_⟩;simp(disch:=omega)[Go.Vs.wl,eX]
       ·by_cases a2:59<mi
        ·rw[if_pos (by simp;omega)]at g;subst g;simp(disch:=omega)[Go.Vs.wl];refine⟨rfl,?_⟩;simp(disch:=omega)[Go.Vs.wl,eX]
        ·by_cases a3:59<se
         ·rw[if_pos (by simp;omega)]at g;subst g;simp(disch:=omega)[Go.Vs.wl];refine⟨rfl,?_⟩;simp(disch:=omega)[Go.Vs.wl,eX]
         ·rw[if_neg (by simp;omega)]at g;subst g;simp(disch:=omega)[Go.Vs.wl];refine⟨rfl,?_⟩;simp(disch:=omega)[Go.Vs.wl,eX];omega
      ·have S:ij y m d=false:=by simpa using F
       rw[S,Bool.false_and,if_pos rfl]at g;subst g;rw[if_neg F];simp(disch:=omega)[Go.Vs.wl,oK];refine⟨rfl,?_⟩;simp(disch:=omega)[Go.Vs.wl,eX]
     ·have U:T.all d7=false:=by simpa using I
      rw[U,if_pos (.inr (.inr rfl))]at g;subst g;rw[U];simp(disch:=omega)[Go.Vs.wl,eX]
    ·have H:D.all d7=false:=by simpa using n
     rw[H,if_pos (.inr (.inl rfl))]at g;subst g;rw[H];simp(disch:=omega)[Go.Vs.wl,eX]
   ·have h0:nZ s=0:=by omega
    rw[if_pos (.inl h0)]at g;subst g;by_cases hZ:(s[15]'(by omega)).toNat=90
    ·have b':¬(s[8]'(by omega)).toNat=84:=fun e=>by rcases hk with⟨a,b⟩|⟨a,b,c⟩|⟨a,b,c⟩|⟨a,b,c,f⟩<;>first|omega|exact f ⟨l,(lZ (by omega)).2 e,(lZ (by omega)).2 hZ⟩
     simp(disch:=omega)[Go.Vs.wl,l,hZ,L];refine aa M ?_;cases D.all d7 with
     |false=>simp(disch:=omega)[Go.Vs.wl,eX]
     |true=>simp(disch:=omega)[Go.Vs.wl,l,b',eX]
    ·simp(disch:=omega)[Go.Vs.wl,l,hZ,eX]
 ·have h0:nZ s=0:=by omega
  rw[if_pos (.inl h0)]at g;subst g;have n8:¬s.length=8:=by omega
  have h':¬s.length=15:=by omega
  have i':¬s.length=16:=by omega
  simp(disch:=omega)[Go.Vs.wl,n8,h',i',eX]
theorem MJ:∀(k n:Nat),wide (k+1) n=UInt8.ofNat (48+n/10 ^ k%10)::wide k n
 |0,n=>by simp[wide]
 |k+1,n=>by
  rw[wide,MJ k (n/10),wide];simp only[List.cons_append,Nat.pow_succ];rw[Nat.div_div_eq_div_mul,Nat.mul_comm 10]
def dv(n k:Nat):Nat:=n/10 ^ k
def zs(k:Nat):Str:=List.replicate k 48
def uP(x:Str)(w n k:Nat):Str:=x++(zs (w-k)++wide k n)
theorem QJ(x:Str){w k:Nat}(n:Nat)(h:k<=w):(uP x w n k).length=x.length+w:=by simp[uP,zs,jm];omega
theorem MK(x:Str)(w n:Nat):uP x w n 0=x++zs w:=by simp[uP,wide]
theorem QK(x:Str)(w n:Nat):uP x w n w=x++wide w n:=by simp[uP,zs]
theorem QL(x:Str){w k:Nat}(n:Nat)(h:k<w):(uP x w n k).set (x.length+w-1-k) (UInt8.ofNat (48+n/10 ^ k%10))=uP x w n (k+1):=by
 obtain⟨j,a⟩:∃j,w-k=j+1:=⟨w-k-1,by omega⟩;have e1:x.length+w-1-k=x.length+j:=by omega
 have e2:w-(k+1)=j:=by omega
 unfold uP;rw[e1,e2,a,MJ,zs,List.replicate_succ',List.append_assoc,List.set_append_right _ _ (by omega),Nat.add_sub_cancel_left,List.set_append_right _ _ (by simp)];simp[zs]
theorem CO(v:Nat)(x:Str)(n w:Nat)(y:x.length<100)(z:w<=4)(A:n<1000000):jL G2 T_ 123
  {args:=[.own 1000 v,.val (.int .i64 n),.val (.int .i64 w)],objs:=[(1000,.arr v 1 (an x))],res:=.own 1000 (v+1),objs':=[(1000,.arr (v+1) 1 (an (x++wide w n)))],ro':=[] }:=by
 refine aN hm zD (by simp) rfl ?_
 have j:([48,48,48,48]:Str).take w=zs w:=by
  have:w=0\/w=1\/w=2\/w=3\/w=4:=by omega
  rcases this with rfl|rfl|rfl|rfl|rfl<;>rfl
 have l:(an x).length=x.length:=by simp[an]
 simp[uM,ji,j,l];refine nu hm ?_;simp[j,l];refine⟨by omega,by simp[zs];omega,?_⟩;simp(disch:=omega)[Go.Vs.wl,<-Gr];refine be hm [] (fun k:Nat=>[(8,.val (.int .i64 ((x.length:Int)+w-1-k))),(0,.own 1000 (v+1)),(1,.val (.int .i64 ((dv n k:Nat):Int)))]) (fun k=>[(1000,.arr (v+1) 1 (an (uP x w n k)))]) (fun k=>k<=w) (fun k=>w-k) 0 (by omega) ?_ ?_
 ·simp[MK,dv];exact bp
 intro k o;have c:(an (uP x w n k)).length=x.length+w:=by simp[an,QJ x n o]
 simp;by_cases h:k<w
 ·have a:=QL x n h;obtain⟨V,d⟩:∃V,dv n k=V:=⟨_,rfl⟩;have e:dv n (k+1)=V/10:=by rw[<-d,dv,dv,Nat.pow_succ,Nat.div_div_eq_div_mul]
  have p:V<=n:=d▸Nat.div_le_self _ _;rw[show n/10 ^ k=V from d]at a;have q:(V:Int).tdiv 10=((V/10:Nat):Int):=by rw[Int.tdiv_eq_ediv_of_nonneg (by omega)];omega
  have s:(V:Int).tmod 10=((V%10:Nat):Int):=by rw[Int.tmod_eq_emod_of_nonneg (by omega)];omega
  have f:(k:Int)<=(x.length:Int)+w-1:=by omega
  have u:((x.length:Int)+w).toNat=x.length+w:=by omega
  have g:(((UInt8.ofNat (48+V%10)).toNat:Nat):Int)=48+(V:Int)%10:=by
   have:(UInt8.ofNat (48+V%10)).toNat=48+V%10:=by simp;omega
   omega
  have b:(an (uP x w n k)).set (x.length+w-1-k) [.int .u8 (48+(V:Int)%10)]=an (uP x w n (k+1)):=by
   rw[<-a,<-g];simp only[an,List.map_set]
  have i:∀m,((an (uP x w n k))[x.length+w-1-k]'m).tail=[]:=fun m=>by simp[an]
  simp(disch:=omega)[Go.Vs.wl,c,d,q,s,f,u];refine⟨by omega,by simp[an],?_⟩;simp only[i,b];refine ai (k+1) (by omega) (by omega) ?_;simp[e];exact ag rfl rfl (by simp[aI,ap,ac];omega) (by simp[bD,ac]) (by simp[bB])
 ·obtain rfl:k=w:=by omega
  simp(disch:=omega)[Go.Vs.wl,c,QK];simp[dc];exact⟨⟨[(6,.own 1000 (v+1))],[(1000,.arr (v+1) 1 (an (x++wide k n)))],[],34,G2⟩,ag rfl rfl (by simp[aI,ap,ac]) (by simp[bD,ac]) (by simp[bB]),by simp,[],rfl,rfl,rfl⟩
theorem Yu(n w:Nat)(u:w<=4)(v:n<1000000):jL G2 T_ 123
  {args:=[.nils,.val (.int .i64 n),.val (.int .i64 w)],objs:=[],res:=.own 5 1,objs':=[(5,.arr 1 1 (an (wide w n)))],ro':=[] }:=by
 refine aN hm zD (by simp) rfl ?_
 have j:([48,48,48,48]:Str).take w=zs w:=by
  have:w=0\/w=1\/w=2\/w=3\/w=4:=by omega
  rcases this with rfl|rfl|rfl|rfl|rfl<;>rfl
 simp[uM,ji,j];refine Xr hm (fun _:Unit=>⟨[(0,.own 5 0),(6,.nils),(1,.val (.int .i64 n)),(2,.val (.int .i64 w))],[(5,.arr 0 1 [])],[],34,G2⟩) (fun _=>True) (fun _=>rfl) ?_ ?_
 ·simp;refine bE () trivial ?_;exact cH.trans (ct (k:=0) 5 1 (by simp) (by simp[ap,ac])) (ag rfl rfl (by simp[St.adopt,aI,ap,ac,put,cS,SV.erase]) (by simp[St.adopt,bD,ac,put,ck,Ob.erase]) (by simp[St.adopt,bB]))
 intro _ _;simp[j];refine⟨by omega,by simp[zs];omega,?_⟩;simp(disch:=omega)[Go.Vs.wl];refine be hm [] (fun k:Nat=>[(8,.val (.int .i64 ((w:Int)-1-k))),(0,.own 5 1),(1,.val (.int .i64 ((dv n k:Nat):Int)))]) (fun k=>[(5,.arr 1 1 (an (uP [] w n k)))]) (fun k=>k<=w) (fun k=>w-k) 0 (by omega) ?_ ?_
 ·simp[MK,dv];exact bp
 intro k m;have c:(an (uP [] w n k)).length=w:=by simp[an,QJ [] n m]
 simp;by_cases h:k<w
 ·have a:=QL [] n h;obtain⟨V,d⟩:∃V,dv n k=V:=⟨_,rfl⟩;have e:dv n (k+1)=V/10:=by rw[<-d,dv,dv,Nat.pow_succ,Nat.div_div_eq_div_mul]
  have o:V<=n:=d▸Nat.div_le_self _ _;rw[show n/10 ^ k=V from d,show([]:Str).length+w-1-k=w-1-k by simp]at a;have p:(V:Int).tdiv 10=((V/10:Nat):Int):=by rw[Int.tdiv_eq_ediv_of_nonneg (by omega)];omega
  have q:(V:Int).tmod 10=((V%10:Nat):Int):=by rw[Int.tmod_eq_emod_of_nonneg (by omega)];omega
  have f:(k:Int)<=(w:Int)-1:=by omega
  have s:((w:Int)).toNat=w:=by omega
  have g:(((UInt8.ofNat (48+V%10)).toNat:Nat):Int)=48+(V:Int)%10:=by
   have:(UInt8.ofNat (48+V%10)).toNat=48+V%10:=by simp;omega
   omega
  have b:(an (uP [] w n k)).set (w-1-k) [.int .u8 (48+(V:Int)%10)]=an (uP [] w n (k+1)):=by
   rw[<-a,<-g];simp only[an,List.map_set]
  have i:∀l,((an (uP [] w n k))[w-1-k]'l).tail=[]:=fun l=>by simp[an]
  simp(disch:=omega)[Go.Vs.wl,c,d,p,q,f,s];refine⟨by omega,by simp[an],?_⟩;simp only[i,b];refine ai (k+1) (by omega) (by omega) ?_;simp[e];exact ag rfl rfl (by simp[aI,ap,ac];omega) (by simp[bD,ac]) (by simp[bB])
 ·obtain rfl:k=w:=by omega
  simp(disch:=omega)[Go.Vs.wl,c,QK];simp[dc];exact⟨⟨[(6,.own 5 1)],[(5,.arr 1 1 (an (wide k n)))],[],34,G2⟩,ag rfl rfl (by simp[aI,ap,ac]) (by simp[bD,ac]) (by simp[bB]),by simp,[],rfl,rfl,rfl⟩
theorem adS(n w:Nat)(o:n<1000000)(p:w<=4):Fn G2 T_ 129 [.int .i64 n,.int .i64 w] (.str (wide w n)):=by
 refine ae hm afW (by simp) ?_;simp[aeK];refine be hm [] (fun k:Nat=>[(6,.val (.int .i64 k)),(0,.val (.int .i64 ((dv n k:Nat):Int))),(5,.val (.str (wide k n)))]) (fun _=>[]) (fun k=>k<=w) (fun k=>w-k) 0 (by omega) ?_ ?_
 ·simp[dv,wide];exact bp
 intro k q;simp;by_cases h:k<w
 ·have e:=MJ k n;obtain⟨V,d⟩:∃V,dv n k=V:=⟨_,rfl⟩;have f:dv n (k+1)=V/10:=by rw[<-d,dv,dv,Nat.pow_succ,Nat.div_div_eq_div_mul]
  have i:V<=n:=d▸Nat.div_le_self _ _;rw[show n/10 ^ k=V from d]at e;have j:(V:Int).tdiv 10=((V/10:Nat):Int):=by rw[Int.tdiv_eq_ediv_of_nonneg (by omega)];omega
  have l:(V:Int).tmod 10=((V%10:Nat):Int):=by rw[Int.tmod_eq_emod_of_nonneg (by omega)];omega
  have a:=jm k n
  have c:48+(V:Int)%10=(((UInt8.ofNat (48+V%10)).toNat:Nat):Int):=by
   have:(UInt8.ofNat (48+V%10)).toNat=48+V%10:=by simp;omega
   omega
  obtain⟨b,m⟩:∃b,UInt8.ofNat (48+V%10)=b:=⟨_,rfl⟩;rw[m]at e c;have g:nk [[.int .u8 (b.toNat:Int)]]=some [b]:=by simp[nk]
  simp(disch:=omega)[Go.Vs.wl,d,j,l,a,c,g];refine⟨by omega,?_⟩;refine ai (k+1) (by omega) (by omega) ?_;simp[f,e];exact bp
 ·obtain rfl:k=w:=by omega
  simp(disch:=omega)[Go.Vs.wl]
def aa1(v:Mom):IV:=.tuple [.str (if jI v=0 then KF v else []),.int .i64 (jI v)]
theorem ML(v:Mom)(E:0<=v.k):Fn G2 T_ 62 [eX v] (aa1 v):=by
 refine ae hm Gv (by simp) ?_;have h:=tN v E;obtain⟨e,q⟩:∃e,jI v=e:=⟨_,rfl⟩;unfold aa1;rw[q]at h |-;simp[x5];by_cases o:e=0
 ·rw[if_pos o];subst o;obtain⟨b1,b2,b3,b4,b5⟩:=EE q;have s:=VD v E q;obtain⟨N,X⟩:∃N,(v.s/86400).toNat=N:=⟨_,rfl⟩;obtain⟨T,hT⟩:∃T,(v.s%86400).toNat=T:=⟨_,rfl⟩;have Y:v.s/86400=(N:Int):=by omega
  have eT:v.s%86400=(T:Int):=by omega
  have F:=aaX N (by omega);obtain⟨y,m,d,g1,g2,g3,g4,g5,g6,g7,H⟩:=QF (n:=N) (by omega)
  have Z:oy y m<=31:=by
   unfold oy ox
   repeat' split
   all_goals omega
  have I:KF v=(wide 4 y++wide 2 m++wide 2 d)++(if v.k=1 then []else 84::((wide 2 (T/3600)++(wide 2 (T/60%60)++wide 2 (T%60)))++if v.k=3 then [90]else [])):=by
   unfold KF Mo.dayT Yd;rw[X,hT,H];simp only[List.append_assoc]
  rw[Y,eT]at s;rw[H]at F;have J:=jm 4 y;have K:=jm 2 m;have l3:=jm 2 d;unfold eX at h s |-;simp(disch:=omega)[Go.Vs.wl];refine aa h ?_;simp(disch:=omega)[Go.Vs.wl];refine aa s ?_;simp(disch:=omega)[Go.Vs.wl];refine aa F ?_;simp(disch:=omega)[Go.Vs.wl];refine callM [(5,33)] [] (Yu y 4 (by omega) (by omega)) rfl rfl trivial ⟨rfl,[],[],rfl,⟨[],[],rfl,rfl,rfl⟩,rfl⟩ rfl ?_;simp(disch:=omega)[Go.Vs.wl];refine callM [(1000,33)] [] (CO 1 (wide 4 y) m 2 (by omega) (by omega) (by omega)) rfl rfl ⟨rfl,trivial⟩ ⟨rfl,[],[],rfl,⟨[],[],rfl,rfl,rfl⟩,rfl⟩ rfl ?_;simp(disch:=omega)[Go.Vs.wl];have lp:(wide 4 y++wide 2 m).length=6:=by simp[J,K]
  refine callM [(1000,33)] [] (CO 2 (wide 4 y++wide 2 m) d 2 (by omega) (by omega) (by omega)) rfl rfl ⟨rfl,trivial⟩ ⟨rfl,[],[],rfl,⟨[],[],rfl,rfl,rfl⟩,rfl⟩ rfl ?_;obtain⟨P,L⟩:∃P,wide 4 y++wide 2 m++wide 2 d=P:=⟨_,rfl⟩;have M:P.length=8:=by rw[<-L];simp[J,K,l3]
  rw[L]at I |-;rw[I];have u:(an P).length=8:=by simp[an,M]
  by_cases p:v.k=1
  ·rw[if_pos p,List.append_nil];have a:nk (an P)=some P:=jE P;simp(disch:=omega)[Go.Vs.wl,p,a]
  ·rw[if_neg p];obtain⟨g,b⟩:∃g,P++[84]=g:=⟨_,rfl⟩;have w:an P++[[.int .u8 84]]=an g:=by rw[<-b];simp[an]
   have O:(T:Int).tdiv 3600=((T/3600:Nat):Int):=by rw[Int.tdiv_eq_ediv_of_nonneg (by omega)];omega
   have q2:(T:Int).tdiv 60=(T:Int)/60:=by rw[Int.tdiv_eq_ediv_of_nonneg (by omega)]
   have Q:((T:Int)/60).tmod 60=((T/60%60:Nat):Int):=by rw[Int.tmod_eq_emod_of_nonneg (by omega)];omega
   have S:(T:Int).tmod 60=((T%60:Nat):Int):=by rw[Int.tmod_eq_emod_of_nonneg (by omega)];omega
   obtain⟨A,U⟩:∃A,T/3600=A:=⟨_,rfl⟩;obtain⟨B,V⟩:∃B,T/60%60=B:=⟨_,rfl⟩;obtain⟨D,i⟩:∃D,T%60=D:=⟨_,rfl⟩;rw[U]at O;rw[V]at Q;rw[i]at S;rw[U,V,i];have a2:=jm 2 A;have a3:=jm 2 B;have a4:=jm 2 D;simp(disch:=omega)[Go.Vs.wl,p,u,w,O];have l4:g.length=9:=by rw[<-b];simp[M]
   refine callM [(1000,33)] [] (CO 4 g A 2 (by omega) (by omega) (by omega)) rfl rfl ⟨rfl,trivial⟩ ⟨rfl,[],[],rfl,⟨[],[],rfl,rfl,rfl⟩,rfl⟩ rfl ?_;obtain⟨j,c⟩:∃j,g++wide 2 A=j:=⟨_,rfl⟩;have l5:j.length=11:=by rw[<-c];simp[l4,a2]
   rw[c];simp(disch:=omega)[Go.Vs.wl,q2,Q];refine callM [(1000,33)] [] (CO 5 j B 2 (by omega) (by omega) (by omega)) rfl rfl ⟨rfl,trivial⟩ ⟨rfl,[],[],rfl,⟨[],[],rfl,rfl,rfl⟩,rfl⟩ rfl ?_;obtain⟨k,f⟩:∃k,j++wide 2 B=k:=⟨_,rfl⟩;have l6:k.length=13:=by rw[<-f];simp[l5,a3]
   rw[f];simp(disch:=omega)[Go.Vs.wl,S];refine callM [(1000,33)] [] (CO 6 k D 2 (by omega) (by omega) (by omega)) rfl rfl ⟨rfl,trivial⟩ ⟨rfl,[],[],rfl,⟨[],[],rfl,rfl,rfl⟩,rfl⟩ rfl ?_;obtain⟨R,x⟩:∃R,k++wide 2 D=R:=⟨_,rfl⟩;have lR:R.length=15:=by rw[<-x];simp[l6,a4]
   have z:P++84::((wide 2 A++(wide 2 B++wide 2 D))++if v.k=3 then [90]else [])=R++if v.k=3 then [90]else []:=by rw[<-x,<-f,<-c,<-b];simp
   rw[z,x];have l:(an R).length=15:=by simp[an,lR]
   by_cases W:v.k=3
   ·have C:an R++[[.int .u8 90]]=an (R++[90]):=by simp[an]
    have a:nk (an (R++[90]))=some (R++[90]):=jE (R++[90]);simp(disch:=omega)[Go.Vs.wl,W,l,C,a]
   ·have a:nk (an R)=some R:=jE R;simp(disch:=omega)[Go.Vs.wl,W,l,a]
 ·rw[if_neg o];unfold eX at h |-;simp(disch:=omega)[Go.Vs.wl];refine aa h ?_;simp(disch:=omega)[Go.Vs.wl,o]
theorem age(v:Mom)(I:0<=v.k):Fn G2 T_ 77 [eX v] (aa1 v):=by
 refine ae hm afw (by simp) ?_;have a:=EH v I;obtain⟨e,p⟩:∃e,jI v=e:=⟨_,rfl⟩;unfold aa1;rw[p]at a |-;simp[ael];by_cases f:e=0
 ·rw[if_pos f];subst f;obtain⟨Q,R,S,U,V⟩:=EE p;obtain⟨N,J⟩:∃N,(v.s/86400).toNat=N:=⟨_,rfl⟩;obtain⟨T,hT⟩:∃T,(v.s%86400).toNat=T:=⟨_,rfl⟩;have K:v.s.tdiv 86400=(N:Int):=by rw[Int.tdiv_eq_ediv_of_nonneg (by omega)];omega
  have eT:v.s.tmod 86400=(T:Int):=by rw[Int.tmod_eq_emod_of_nonneg (by omega)];omega
  have q:=agm N (by omega);obtain⟨y,m,d,W,X,Y,Z,g5,g6,g7,s⟩:=QF (n:=N) (by omega)
  have L:oy y m<=31:=by
   unfold oy ox
   repeat' split
   all_goals omega
  have M:KF v=(wide 4 y++wide 2 m++wide 2 d)++(if v.k=1 then []else 84::((wide 2 (T/3600)++(wide 2 (T/60%60)++wide 2 (T%60)))++if v.k=3 then [90]else [])):=by
   unfold KF Mo.dayT Yd;rw[J,hT,s];simp only[List.append_assoc]
  rw[s]at q;have g:=jm 4 y;have h:=jm 2 m;have k:=jm 2 d;rw[M];unfold eX at a |-;simp(disch:=omega)[Go.Vs.wl];refine aa a ?_;simp(disch:=omega)[Go.Vs.wl,K];refine aa q ?_;simp(disch:=omega)[Go.Vs.wl];refine aa (adS y 4 (by omega) (by omega)) ?_;simp(disch:=omega)[Go.Vs.wl];refine aa (adS m 2 (by omega) (by omega)) ?_;simp(disch:=omega)[Go.Vs.wl,g,h];refine aa (adS d 2 (by omega) (by omega)) ?_;obtain⟨P,l⟩:∃P,wide 4 y++wide 2 m++wide 2 d=P:=⟨_,rfl⟩;have u:P.length=8:=by rw[<-l];simp[g,h,k]
  have b:wide 4 y++(wide 2 m++wide 2 d)=P:=by rw[<-l];simp
  rw[l];by_cases i:v.k=1
  ·rw[if_pos i,List.append_nil];simp(disch:=omega)[Go.Vs.wl,g,h,k,i,b]
  ·rw[if_neg i];have w:(T:Int).tdiv 3600=((T/3600:Nat):Int):=by rw[Int.tdiv_eq_ediv_of_nonneg (by omega)];omega
   have O:(T:Int).tdiv 60=(T:Int)/60:=by rw[Int.tdiv_eq_ediv_of_nonneg (by omega)]
   have x:((T:Int)/60).tmod 60=((T/60%60:Nat):Int):=by rw[Int.tmod_eq_emod_of_nonneg (by omega)];omega
   have z:(T:Int).tmod 60=((T%60:Nat):Int):=by rw[Int.tmod_eq_emod_of_nonneg (by omega)];omega
   obtain⟨A,C⟩:∃A,T/3600=A:=⟨_,rfl⟩;obtain⟨B,E⟩:∃B,T/60%60=B:=⟨_,rfl⟩;obtain⟨D,c⟩:∃D,T%60=D:=⟨_,rfl⟩;rw[C]at w;rw[E]at x;rw[c]at z;rw[C,E,c];have j:=jm 2 A;have o:=jm 2 B;have F:=jm 2 D;simp(disch:=omega)[Go.Vs.wl,g,h,k,i,b,eT,w];refine aa (adS A 2 (by omega) (by omega)) ?_;simp(disch:=omega)[Go.Vs.wl,j,O,x];refine aa (adS B 2 (by omega) (by omega)) ?_;simp(disch:=omega)[Go.Vs.wl,j,o,z];refine aa (adS D 2 (by omega) (by omega)) ?_;by_cases H:v.k=3
   ·simp(disch:=omega)[Go.Vs.wl,j,o,F,u,H]
   ·simp(disch:=omega)[Go.Vs.wl,j,o,F,u,H]
 ·rw[if_neg f];unfold eX at a |-;simp(disch:=omega)[Go.Vs.wl];refine aa a ?_;simp(disch:=omega)[Go.Vs.wl,f]
end Go.Vs.YtcjeehebikeghaaGreatDoor.Rc
