/- A part of a proof. No conditions. -/
import Derived.Test.YtnhbiolfmeeniaaGreatDoorRDz
import Derived.Test.YtnhbiolfmeeniaaGreatDoorNDz
set_option linter.all false
set_option maxRecDepth 100000
set_option maxHeartbeats 16000000
namespace Go.Vs.Y.Rc
open Go.Proofs Go.Vs.Cv Go.Vs.Mo Go.Vs.Nu
abbrev Str:=List UInt8
def Mo.Mom.iv(v:Mom):IV:=.agg [.int .u8 v.k,.int .i64 v.s]
def ma(v:Mom):IV:=.agg [.int .u8 v.k,.int .i64 v.s]
def Dk(k s:Int):Int:=if k<1\/3<k then 11 else if s<0\/315537897599<s then 8 else 0
theorem ZE(k s:Int)(f:0<=k):Fn G2 T_ 59 [.int .u8 k,.int .i64 s] (.int .i64 (Dk k s)):=by
 refine ae hm IA (by simp) ?_;obtain⟨R,a⟩:=A_ (Dk k s);rw[a];unfold Dk at a;simp[zF];by_cases b:k=0
 .rw[if_pos (.inl (by omega))]at a;subst a;simp(disch:=omega)[Go.Vs.wl,b]
 by_cases c:3<k
 .rw[if_pos (.inr c)]at a;subst a;simp(disch:=omega)[Go.Vs.wl,b]
 rw[if_neg (by omega)]at a;by_cases d:s<0
 .rw[if_pos (.inl d)]at a;subst a;simp(disch:=omega)[Go.Vs.wl,b]
 by_cases e:315537897599<s
 .rw[if_pos (.inr e)]at a;subst a;simp(disch:=omega)[Go.Vs.wl,b]
 rw[if_neg (by omega)]at a;subst a;simp(disch:=omega)[Go.Vs.wl,b]
def atM(k s:Int):Mom×Int:=if Dk k s≠0 then (⟨0,0⟩,Dk k s)else (⟨k,if k=1 then s-s%86400 else s⟩,0)
theorem Po{k s:Int}(h:Dk k s=0):1<=k/\k<=3/\0<=s/\s<=315537897599:=by
 unfold Dk at h;split at h
 .cases h
 split at h
 .cases h
 omega
theorem fn_At(k s:Int)(f:0<=k):Fn G2 T_ 28 [.int .u8 k,.int .i64 s] (.tuple [ma (atM k s).1,.int .i64 (atM k s).2]):=by
 refine ae hm R0 (by simp) ?_;have g:=ZE k s f;obtain⟨R,a⟩:=A_ (atM k s);rw[a];unfold atM at a;simp[HT];refine aa g ?_;by_cases b:Dk k s=0
 .rw[if_neg (by simp[b])]at a;subst a;obtain⟨i,j,h,l⟩:=Po b;have e:s.tmod 86400=s%86400:=Int.tmod_eq_emod_of_nonneg h;by_cases d:k=1
  .subst d;simp(disch:=omega)[Go.Vs.wl,b,e,ma]
  simp(disch:=omega)[Go.Vs.wl,b,d,ma]
 rw[if_pos b]at a;subst a;simp(disch:=omega)[Go.Vs.wl,b,ma]
theorem pQ(v:Mom)(j:0<=v.k):Fn G2 T_ 66 [ma v] (.int .i64 (dm v)):=by
 refine ae hm IB (by simp) ?_;obtain⟨k,s⟩:=v;have m:=fn_At k s j;obtain⟨R,a⟩:=A_ (dm ⟨k,s⟩);rw[a];unfold dm at a;simp only at a j;simp[zH,ma];refine aa m ?_;by_cases b:Dk k s=0
 .obtain⟨o,p,q,u⟩:=Po b;have f:atM k s=(⟨k,if k=1 then s-s%86400 else s⟩,0):=by unfold atM;rw[if_neg (by simp[b])]
  rw[f];rw[if_neg (by omega),if_neg (by omega)]at a;by_cases c:k=1
  .by_cases l:s%86400=0
   .rw[if_neg (by omega)]at a;subst a;simp(disch:=omega)[Go.Vs.wl,c,l,ma]
   rw[if_pos ⟨c,l⟩]at a;subst a;have e:¬s-s%86400=s:=by omega
   simp(disch:=omega)[Go.Vs.wl,c,e,ma]
  rw[if_neg (fun h=>c h.1)]at a;subst a;simp(disch:=omega)[Go.Vs.wl,c,ma]
 have f:atM k s=(⟨0,0⟩,Dk k s):=by unfold atM;rw[if_pos b]
 rw[f]
 have g:R=Dk k s:=by
  rw[<-a];unfold Dk at b |-;by_cases d:k<1\/3<k
  .rw[if_pos d,if_pos d]
  rw[if_neg d,if_neg d];by_cases i:s<0\/315537897599<s
  .rw[if_pos i,if_pos i]
  rw[if_neg d,if_neg i]at b;exact absurd rfl b
 rw[g];simp(disch:=omega)[Go.Vs.wl,b,ma]
theorem ZF(v:Mom)(d:0<=v.k)(c:dm v=0):Fn G2 T_ 68 [ma v] (.tuple [.int .i64 (v.s/86400),.int .i64 (v.s%86400)]):=by
 refine ae hm IC (by simp) ?_;have a:=pQ v d;rw[c]at a;obtain⟨_,_,b,e,_⟩:=AQ c;obtain⟨k,s⟩:=v;simp only at b e;simp only[ma]at a;have e1:s.tmod 86400=s%86400:=Int.tmod_eq_emod_of_nonneg b;have e2:s.tdiv 86400=s/86400:=Int.tdiv_eq_ediv_of_nonneg b;simp[zJ,ma];refine aa a ?_;simp(disch:=omega)[Go.Vs.wl,e1,e2]
theorem Dl(s:Str):(qZ s=1/\s.length=8)\/(qZ s=2/\s.length=15/\s[8]?=some 84)\/(qZ s=3/\s.length=16/\s[8]?=some 84/\s[15]?=some 90)\/(qZ s=0/\s.length≠8/\¬(s.length=15/\s[8]?=some 84)/\¬(s.length=16/\s[8]?=some 84/\s[15]?=some 90)):=by
 unfold qZ;by_cases a:s.length=8
 .rw[if_pos a];exact .inl ⟨rfl,a⟩
 rw[if_neg a];by_cases b:s.length=15/\s[8]?=some 84
 .rw[if_pos b];exact .inr (.inl ⟨rfl,b⟩)
 rw[if_neg b];by_cases c:s.length=16/\s[8]?=some 84/\s[15]?=some 90
 .rw[if_pos c];exact .inr (.inr (.inl ⟨rfl,c⟩))
 rw[if_neg c];exact .inr (.inr (.inr ⟨rfl,a,b,c⟩))
def XC(s:Str):IV:=if qZ s=0 then .tuple [.int .u8 0,.str [],.str [],.bool false]else .tuple [.int .u8 (qZ s),.str (s.take 8),.str (uM s),.bool true]
theorem EU{s:Str}{i:Nat}{c:UInt8}(h:i<s.length):s[i]?=some c↔s[i].toNat=c.toNat:=by
 rw[List.getElem?_eq_getElem h,E_];exact⟨fun e=>by rw[e],fun e=>UInt8.toNat_inj.1 e⟩
theorem afz(s:Str)(m:s.length<1000000):Fn G2 T_ 192 [.str s] (XC s):=by
 refine ae hm Ll (by simp) ?_;obtain⟨R,c⟩:=A_ (XC s);rw[c];unfold XC uM at c;simp[BU];rcases Dl s with⟨d,l⟩|⟨d,a,hT⟩|⟨d,b,hT,g⟩|⟨d,h,i,j⟩
 .rw[d,if_neg (by omega),if_pos rfl]at c;subst c;have:s.take 8=s:=List.take_of_length_le (by omega);simp(disch:=omega)[Go.Vs.wl,l,this]
 .rw[d,if_neg (by omega),if_neg (by omega)]at c;subst c;rw[EU (by omega)]at hT;have f:(s[8]'(by omega)).toNat=84:=hT;have e1:(s.drop 9).take 6=s.drop 9:=List.take_of_length_le (by rw[List.length_drop];omega);have e2:(s.take 15).drop 9=s.drop 9:=by rw[List.take_of_length_le (by omega)]
  simp(disch:=omega)[Go.Vs.wl,a,f,e1,e2]
 .rw[d,if_neg (by omega),if_neg (by omega)]at c;subst c;rw[EU (by omega)]at hT g;have f:(s[8]'(by omega)).toNat=84:=hT;have k:(s[15]'(by omega)).toNat=90:=g;have e1:(s.drop 9).take 6=(s.take 15).drop 9:=by rw[List.drop_take]
  simp(disch:=omega)[Go.Vs.wl,b,f,k,e1]
 rw[if_pos d]at c;subst c;by_cases a:s.length=15
 .have hT:¬(s[8]'(by omega)).toNat=84:=fun e=>i ⟨a,(EU (by omega)).2 e⟩
  simp(disch:=omega)[Go.Vs.wl,h,a,hT]
 by_cases b:s.length=16
 .by_cases hT:(s[8]'(by omega)).toNat=84
  .have g:¬(s[15]'(by omega)).toNat=90:=fun e=>j ⟨b,(EU (by omega)).2 hT,(EU (by omega)).2 e⟩
   simp(disch:=omega)[Go.Vs.wl,h,a,b,hT,g]
  simp(disch:=omega)[Go.Vs.wl,h,a,b,hT]
 simp(disch:=omega)[Go.Vs.wl,h,a,b]
def I1:Str->List Nat->List Int->Option (List Int×Str)
 |s,[],a=>some (a,s)
 |s,w::wl,a=>if w<=s.length/\(s.take w).all eI=true then I1 (s.drop w) wl (a++[((bE 0 (s.take w):Nat):Int)])else none
def NA:Option (List Int×Str)->IV
 |none=>.tuple [.slice [],.bool false]
 |some (l,r)=>.tuple [.slice (is l),.bool (decide (r=[]))]
def wsI(wl:List Nat):List Int:=wl.map fun w:Nat=>(w:Int)
theorem afA{wl:List Nat}{i w:Nat}(h:i<wl.length)(a:wl[i]=w):(is (wsI wl))[i]?=some [.int .i64 (w:Int)]:=by simp[is,wsI,h,a]
theorem XD(wl:List Nat):(is (wsI wl)).length=wl.length:=by simp[is,wsI]
theorem Pp(s:Str)(wl:List Nat)(D:∀w∈wl,w<=9)(M:wl.length<=100)(N:s.length<1000000):Fn G2 T_ 193 [.str s,.slice (is (wsI wl))] (NA (I1 s wl [])):=by
 refine ae hm GK (by simp) ?_;obtain⟨R,z⟩:=A_ (I1 s wl []);rw[z];simp[yk,XD];refine bx hm [] (fun x:Str×List Int=>[(12,.val (.int .i64 x.2.length)),(0,.val (.str x.1)),(6,.own 6 x.2.length)]) (fun x=>[(6,.arr x.2.length 1 (is x.2))]) (fun x=>x.2.length<=wl.length/\x.1.length<=s.length/\I1 x.1 (wl.drop x.2.length) x.2=R) (fun x=>wl.length-x.2.length) (s,[]) ⟨by simp,by simp,by simpa using z⟩ ?_ ?_
 .simp[is];exact cJ.trans (fu (k:=6) 6 1 (by simp) (by simp[aE,ac])) (an rfl rfl (by simp[St.adopt,bj,aE,ac,put,dB,SV.erase]) (by simp[St.adopt,bZ,ac,put,cp,Ob.erase]) (by simp[St.adopt,bX]))
 rintro⟨t,a⟩ ⟨E,F,b⟩;simp only at E F b;simp[XD];by_cases h:a.length<wl.length
 .obtain⟨w,g⟩:=A_ (wl[a.length]);have H:=afA h g;have I:=D w (g▸List.getElem_mem h);rw[List.drop_eq_getElem_cons h,g,I1]at b;simp(disch:=omega)[Go.Vs.wl,H];refine bx hm [] (fun j:Nat=>[(8,.val (.int .i64 ((w-j:Nat):Int))),(9,.val (.int .i64 ((bE 0 (t.take j):Nat):Int))),(0,.val (.str (t.drop j)))]) (fun _=>[]) (fun j=>j<=w/\j<=t.length/\(t.take j).all eI=true) (fun j=>w-j) 0 ⟨by omega,by omega,by simp⟩ ?_ ?_
  .have e:bE 0 ([]:Str)=0:=rfl;simp[e];exact bA
  rintro j ⟨O,J,v⟩;simp;by_cases P:j<w
  .obtain⟨d,n⟩:=A_ (t.drop j);rw[n];cases d with
   |nil=>
    have A:t.length=j:=by
     have:=congrArg List.length n;rw[List.length_drop]at this;simp at this;omega
    rw[if_neg (fun h=>by omega)]at b;subst b;simp(disch:=omega)[Go.Vs.wl];simp[NA]
   |cons c r=>
    have o:j<t.length:=by
     have:=congrArg List.length n;rw[List.length_drop]at this;simp at this;omega
    have i:t[j]=c/\t.drop (j+1)=r:=by
     rw[List.drop_eq_getElem_cons o]at n;exact⟨(List.cons.inj n).1,(List.cons.inj n).2⟩
    have p:t.take (j+1)=t.take j++[c]:=by rw[List.take_succ_eq_append_getElem o,i.1]
    by_cases f:eI c=true
    .obtain⟨d1,Q⟩:=QN f;have l:(t.take (j+1)).all eI=true:=by rw[p,List.all_append,v,J8 f];rfl
     have K:bE 0 (t.take (j+1))=10*bE 0 (t.take j)+(c.toNat-48):=by rw[p,KQ]
     have y:bE 0 (t.take j)<10 ^ 9:=Go.Vs.Y.val_bd v (by rw[List.length_take];omega);obtain⟨V,B⟩:=A_ (bE 0 (t.take j));obtain⟨W,C⟩:=A_ (bE 0 (t.take (j+1)));rw[B,C]at K;rw[B]at y |-;have e:((V:Int)*10+((c.toNat:Int)-48))=(W:Int):=by omega
     simp(disch:=omega)[Go.Vs.wl,e];refine⟨by omega,?_⟩;refine aj (j+1) ⟨by omega,by omega,l⟩ (by omega) ?_;simp[C,i.2];exact an rfl rfl (by simp[bj,aE,ac];omega) (by simp[bZ,ac]) (by simp[bX])
    have q:¬(w<=t.length/\(t.take w).all eI=true):=fun L=>by
     have u:c∈t.take w:=by
      rw[List.mem_take_iff_getElem];exact⟨j,by omega,i.1⟩
     exact f (List.all_eq_true.1 L.2 c u)
    rw[if_neg q]at b;subst b
    have m:c.toNat<48\/57<c.toNat:=by
     simp[eI]at f;omega
    rcases m with m|m
    .simp(disch:=omega)[Go.Vs.wl];simp[NA]
    simp(disch:=omega)[Go.Vs.wl];simp[NA]
  obtain rfl:j=w:=by omega
  rw[if_pos ⟨J,v⟩]at b;simp(disch:=omega)[Go.Vs.wl,is_len];refine⟨by omega,?_⟩;refine aj (t.drop j,a++[((bE 0 (t.take j):Nat):Int)]) ⟨by simp;omega,by simp;omega,by simpa using b⟩ (by simp;omega) ?_;simp[Xq];exact bA
 have e:wl.drop a.length=[]:=List.drop_eq_nil_of_le (by omega);rw[e,I1]at b;subst b;have e2:a.length=wl.length:=by omega
 simp(disch:=omega)[Go.Vs.wl,is_len];simp[NA]
theorem ZG{s:Str}{a b c:Nat}(m:s.length=a+b+c):I1 s [a,b,c] []=if s.all eI=true then some ([((bE 0 (s.take a):Nat):Int),((bE 0 ((s.drop a).take b):Nat):Int),((bE 0 (s.drop (a+b)):Nat):Int)],[])else none:=by
 have i:(s.drop a).length=b+c:=by rw[List.length_drop];omega
 have j:((s.drop a).drop b).length=c:=by rw[List.length_drop];omega
 have k:((s.drop a).drop b).take c=s.drop (a+b):=by rw[List.take_of_length_le (by omega),List.drop_drop]
 have e4:((s.drop a).drop b).drop c=[]:=List.drop_eq_nil_of_le (by omega)
 have l:s=s.take a++((s.drop a).take b++s.drop (a+b)):=by
  rw[<-List.drop_drop,List.take_append_drop,List.take_append_drop]
 have d:s.all eI=((s.take a).all eI&&(((s.drop a).take b).all eI&&(s.drop (a+b)).all eI)):=by
  conv=>lhs;rw[l]
  rw[List.all_append,List.all_append]
 simp only[I1,i,j,k,e4,d];by_cases e:(s.take a).all eI=true
 .rw[if_pos ⟨by omega,e⟩];by_cases f:((s.drop a).take b).all eI=true
  .rw[if_pos ⟨by omega,f⟩];by_cases g:(s.drop (a+b)).all eI=true
   .rw[if_pos ⟨by omega,g⟩,if_pos (by simp[e,f,g])];rfl
   rw[if_neg (fun h=>g h.2),if_neg (by simp[g])]
  rw[if_neg (fun h=>f h.2),if_neg (by simp[f])]
 rw[if_neg (fun h=>e h.2),if_neg (by simp[e])]
theorem ah9{y m d:Nat}(b:y<=9999):R4 y m d=if rc y m d=true then (dO y m d,0)else (0,8):=by
 unfold R4 rc;by_cases h:1<=y/\1<=m/\m<=12/\1<=d/\d<=jF y m
 .have a:re y m=jF y m:=by unfold re;rw[if_pos (by omega)]
  rw[if_neg (by omega),if_pos (by simpa using h)]
 rw[if_neg (c:=decide _=true) (by simpa using h)];by_cases q:1<=y/\y<=9999/\1<=m/\m<=12
 .have a:re y m=jF y m:=by unfold re;rw[if_pos q]
  rw[if_pos (by omega)]
 have a:re y m=0:=by unfold re;rw[if_neg q]
 rw[if_pos (by omega)]
theorem EV{s:Str}(h:s.all eI=true)(n:Nat):(s.take n).all eI=true:=by
 rw[List.all_eq_true]at h |-;exact fun c a=>h c (List.mem_of_mem_take a)
theorem EW{s:Str}(h:s.all eI=true)(n:Nat):(s.drop n).all eI=true:=by
 rw[List.all_eq_true]at h |-;exact fun c a=>h c (List.mem_of_mem_drop a)
theorem acG{s:Str}(h:s.all eI=true)(a:s.length<=2):bE 0 s<100:=by
 have:=Go.Vs.Y.val_bd h a;simpa using this
theorem aj5{s:Str}(h:s.all eI=true)(a:s.length<=4):bE 0 s<10000:=by
 have:=Go.Vs.Y.val_bd h a;simpa using this
theorem acH{s:Str}(h:qZ s≠0):(s.take 8).length=8/\(uM s).length=6/\1<=qZ s/\qZ s<=3:=by
 unfold uM;rcases Dl s with⟨a,d⟩|⟨a,b,_⟩|⟨a,c,_⟩|⟨a,_⟩
 .rw[a,if_pos rfl];exact⟨by rw[List.length_take];omega,rfl,by omega,by omega⟩
 .rw[a,if_neg (by omega)];exact⟨by rw[List.length_take];omega,by rw[List.length_take,List.length_drop];omega,by omega,by omega⟩
 .rw[a,if_neg (by omega)];exact⟨by rw[List.length_take];omega,by rw[List.length_take,List.length_drop];omega,by omega,by omega⟩
 exact absurd a h
theorem AS(s:Str)(Q:s.length<1000000):Fn G2 T_ 136 [.str s] (.tuple [ma (iw s).1,.int .i64 (iw s).2]):=by
 refine ae hm ID (by simp) ?_;have A:=afz s Q;obtain⟨R,a⟩:=A_ (iw s);rw[a];unfold iw at a;unfold XC at A;simp[zL];by_cases B:qZ s=0
 .rw[if_pos (.inl B)]at a;rw[if_pos B]at A;subst a;refine aa A ?_;simp(disch:=omega)[Go.Vs.wl,ma]
 rw[if_neg B]at A;obtain⟨S,U,V,W⟩:=acH B;obtain⟨k,O⟩:=A_ (qZ s);obtain⟨D,P⟩:=A_ (s.take 8);obtain⟨T,hT⟩:=A_ (uM s);rw[O,P,hT]at A a;rw[O]at B V W;rw[P]at S;rw[hT]at U;have o:=Pp D [4,2,2] (by simp) (by simp) (by omega);have p:=Pp T [2,2,2] (by simp) (by simp) (by omega);rw[ZG (by omega)]at o p;simp only[wsI,is,List.map_cons,List.map_nil,Int.cast_ofNat_Int,Nat.reduceAdd]at o p;refine aa A ?_;simp(disch:=omega)[Go.Vs.wl];refine aa o ?_;by_cases q:D.all eI=true
 .rw[if_pos q];obtain⟨y,F⟩:=A_ (bE 0 (D.take 4));obtain⟨m,e⟩:=A_ (bE 0 ((D.drop 4).take 2));obtain⟨d,g⟩:=A_ (bE 0 (D.drop 6));have S7:y<10000:=F▸aj5 (EV q 4) (by rw[List.length_take];omega);have bm:m<100:=e▸acG (EV (EW q 4) 2) (by rw[List.length_take];omega);have bd:d<100:=g▸acG (EW q 6) (by rw[List.length_drop];omega);rw[F,e,g];simp(disch:=omega)[Go.Vs.wl,NA,is];refine aa p ?_;by_cases x:T.all eI=true
  .rw[if_pos x];rw[if_neg (by simp[B,q,x])]at a;obtain⟨h,H⟩:=A_ (bE 0 (T.take 2));obtain⟨I,j⟩:=A_ (bE 0 ((T.drop 2).take 2));obtain⟨J,l⟩:=A_ (bE 0 (T.drop 4));have bh:h<100:=H▸acG (EV x 2) (by rw[List.length_take];omega);have X:I<100:=j▸acG (EV (EW x 2) 2) (by rw[List.length_take];omega);have Y:J<100:=l▸acG (EW x 4) (by rw[List.length_drop];omega);rw[H,j,l];have b:=Wj y m d (by omega) (by omega) (by omega);have z:Zu D T=(rc y m d&&decide (h<=23/\I<=59/\J<=59)):=by unfold Zu;rw[F,e,g,H,j,l]
   have n:secs D T=dO y m d*86400+(h*3600+I*60+J):=by unfold secs;rw[F,e,g,H,j,l]
   rw[z]at a;rw[ah9 (by omega)]at b;by_cases E:rc y m d=true
   .rw[if_pos E]at b
    have N7:dO y m d<=3652058:=by
     have C:=E;simp only[rc,decide_eq_true_eq]at C;exact GH C.1 (by omega) C.2.1 C.2.2.1 C.2.2.2.1 C.2.2.2.2
    rw[E,Bool.true_and]at a;obtain⟨N,Z⟩:=A_ (dO y m d);rw[Z]at b n N7;simp only[I0]at b;simp(disch:=omega)[Go.Vs.wl,NA,is];refine aa b ?_;by_cases a1:23<h
    .rw[if_pos (by simp;omega)]at a;subst a;simp(disch:=omega)[Go.Vs.wl];refine⟨rfl,?_⟩;simp(disch:=omega)[Go.Vs.wl,ma]
    by_cases a2:59<I
    .rw[if_pos (by simp;omega)]at a;subst a;simp(disch:=omega)[Go.Vs.wl];refine⟨rfl,?_⟩;simp(disch:=omega)[Go.Vs.wl,ma]
    by_cases a3:59<J
    .rw[if_pos (by simp;omega)]at a;subst a;simp(disch:=omega)[Go.Vs.wl];refine⟨rfl,?_⟩;simp(disch:=omega)[Go.Vs.wl,ma]
    rw[if_neg (by simp;omega),n]at a;subst a;simp(disch:=omega)[Go.Vs.wl];refine⟨rfl,?_⟩;simp(disch:=omega)[Go.Vs.wl,ma];omega
   have K:rc y m d=false:=by simpa using E
   rw[if_neg E]at b;rw[K,Bool.false_and,if_pos rfl]at a;subst a;simp only[I0]at b;simp(disch:=omega)[Go.Vs.wl,NA,is];refine aa b ?_;simp(disch:=omega)[Go.Vs.wl];refine⟨rfl,?_⟩;simp(disch:=omega)[Go.Vs.wl,ma]
  have L:T.all eI=false:=by simpa using x
  rw[if_neg x];rw[if_pos (.inr (.inr L))]at a;subst a;simp(disch:=omega)[Go.Vs.wl,NA,ma]
 have M:D.all eI=false:=by simpa using q
 rw[if_neg q];rw[if_pos (.inr (.inl M))]at a;subst a;simp(disch:=omega)[Go.Vs.wl,NA,ma]
theorem Pq:∀(k n:Nat),wide (k+1) n=UInt8.ofNat (48+n/10 ^ k%10)::wide k n
 |0,n=>by simp[wide]
 |k+1,n=>by
  rw[wide,Pq k (n/10),wide];simp only[List.cons_append,Nat.pow_succ];rw[Nat.div_div_eq_div_mul,Nat.mul_comm 10]
def dv(n k:Nat):Nat:=n/10 ^ k
def zs(k:Nat):Str:=List.replicate k 48
def xE(x:Str)(w n k:Nat):Str:=x++(zs (w-k)++wide k n)
theorem TL(x:Str){w k:Nat}(n:Nat)(h:k<=w):(xE x w n k).length=x.length+w:=by simp[xE,zs,jh];omega
theorem Pr(x:Str)(w n:Nat):xE x w n 0=x++zs w:=by simp[xE,wide]
theorem TM(x:Str)(w n:Nat):xE x w n w=x++wide w n:=by simp[xE,zs]
theorem TN(x:Str){w k:Nat}(n:Nat)(h:k<w):(xE x w n k).set (x.length+w-1-k) (UInt8.ofNat (48+n/10 ^ k%10))=xE x w n (k+1):=by
 obtain⟨j,a⟩:∃j,w-k=j+1:=⟨w-k-1,by omega⟩;have e1:x.length+w-1-k=x.length+j:=by omega
 have e2:w-(k+1)=j:=by omega
 unfold xE;rw[e1,e2,a,Pq,zs,List.replicate_succ',List.append_assoc,List.set_append_right _ _ (by omega),Nat.add_sub_cancel_left,List.set_append_right _ _ (by simp)];simp[zs]
theorem EX(v:Nat)(x:Str)(n w:Nat)(y:x.length<100)(z:w<=4)(A:n<1000000):lB G2 T_ 70
  {args:=[.own 1000 v,.val (.int .i64 n),.val (.int .i64 w)],objs:=[(1000,.arr v 1 (av x))],res:=.own 1000 (v+1),objs':=[(1000,.arr (v+1) 1 (av (x++wide w n)))],ro':=[] }:=by
 refine aK hm BN (by simp) rfl ?_
 have j:([48,48,48,48]:Str).take w=zs w:=by
  have:w=0\/w=1\/w=2\/w=3\/w=4:=by omega
  rcases this with rfl|rfl|rfl|rfl|rfl<;>rfl
 have l:(av x).length=x.length:=by simp[av]
 simp[xB,rq,j,l];refine uF hm ?_;simp[j,l];refine⟨by omega,by simp[zs];omega,?_⟩;simp(disch:=omega)[Go.Vs.wl,<-n9];refine bx hm [] (fun k:Nat=>[(8,.val (.int .i64 ((x.length:Int)+w-1-k))),(0,.own 1000 (v+1)),(1,.val (.int .i64 ((dv n k:Nat):Int)))]) (fun k=>[(1000,.arr (v+1) 1 (av (xE x w n k)))]) (fun k=>k<=w) (fun k=>w-k) 0 (by omega) ?_ ?_
 .simp[Pr,dv];exact bA
 intro k o;have c:(av (xE x w n k)).length=x.length+w:=by simp[av,TL x n o]
 simp;by_cases h:k<w
 .have a:=TN x n h;obtain⟨V,d⟩:=A_ (dv n k);have e:dv n (k+1)=V/10:=by rw[<-d,dv,dv,Nat.pow_succ,Nat.div_div_eq_div_mul]
  have p:V<=n:=d▸Nat.div_le_self _ _;rw[show n/10 ^ k=V from d]at a;have q:(V:Int).tdiv 10=((V/10:Nat):Int):=by rw[Int.tdiv_eq_ediv_of_nonneg (by omega)];omega
  have s:(V:Int).tmod 10=((V%10:Nat):Int):=by rw[Int.tmod_eq_emod_of_nonneg (by omega)];omega
  have f:(k:Int)<=(x.length:Int)+w-1:=by omega
  have u:((x.length:Int)+w).toNat=x.length+w:=by omega
  have g:(((UInt8.ofNat (48+V%10)).toNat:Nat):Int)=48+(V:Int)%10:=by
   have:(UInt8.ofNat (48+V%10)).toNat=48+V%10:=by simp;omega
   omega
  have b:(av (xE x w n k)).set (x.length+w-1-k) [.int .u8 (48+(V:Int)%10)]=av (xE x w n (k+1)):=by
   rw[<-a,<-g];simp only[av,List.map_set]
  have i:∀m,((av (xE x w n k))[x.length+w-1-k]'m).tail=[]:=fun m=>by simp[av]
  simp(disch:=omega)[Go.Vs.wl,c,d,q,s,f,u];refine⟨by omega,by simp[av],?_⟩;simp only[i,b];refine aj (k+1) (by omega) (by omega) ?_;simp[e];exact an rfl rfl (by simp[bj,aE,ac];omega) (by simp[bZ,ac]) (by simp[bX])
 obtain rfl:k=w:=by omega
 simp(disch:=omega)[Go.Vs.wl,c,TM];simp[cI];exact⟨⟨[(6,.own 1000 (v+1))],[(1000,.arr (v+1) 1 (av (x++wide k n)))],[],34,G2⟩,an rfl rfl (by simp[bj,aE,ac]) (by simp[bZ,ac]) (by simp[bX]),by simp,[],rfl,rfl,rfl⟩
theorem acI(n w:Nat)(u:w<=4)(v:n<1000000):lB G2 T_ 70
  {args:=[.nils,.val (.int .i64 n),.val (.int .i64 w)],objs:=[],res:=.own 5 1,objs':=[(5,.arr 1 1 (av (wide w n)))],ro':=[] }:=by
 refine aK hm BN (by simp) rfl ?_
 have j:([48,48,48,48]:Str).take w=zs w:=by
  have:w=0\/w=1\/w=2\/w=3\/w=4:=by omega
  rcases this with rfl|rfl|rfl|rfl|rfl<;>rfl
 simp[xB,rq,j];refine Qo hm (fun _:Unit=>⟨[(0,.own 5 0),(6,.nils),(1,.val (.int .i64 n)),(2,.val (.int .i64 w))],[(5,.arr 0 1 [])],[],34,G2⟩) (fun _=>True) (fun _=>rfl) ?_ ?_
 .simp;refine cz () trivial ?_;exact cJ.trans (fu (k:=0) 5 1 (by simp) (by simp[aE,ac])) (an rfl rfl (by simp[St.adopt,bj,aE,ac,put,dB,SV.erase]) (by simp[St.adopt,bZ,ac,put,cp,Ob.erase]) (by simp[St.adopt,bX]))
 intro _ _;simp[j];refine⟨by omega,by simp[zs];omega,?_⟩;simp(disch:=omega)[Go.Vs.wl];refine bx hm [] (fun k:Nat=>[(8,.val (.int .i64 ((w:Int)-1-k))),(0,.own 5 1),(1,.val (.int .i64 ((dv n k:Nat):Int)))]) (fun k=>[(5,.arr 1 1 (av (xE [] w n k)))]) (fun k=>k<=w) (fun k=>w-k) 0 (by omega) ?_ ?_
 .simp[Pr,dv];exact bA
 intro k m;have c:(av (xE [] w n k)).length=w:=by simp[av,TL [] n m]
 simp;by_cases h:k<w
 .have a:=TN [] n h;obtain⟨V,d⟩:=A_ (dv n k);have e:dv n (k+1)=V/10:=by rw[<-d,dv,dv,Nat.pow_succ,Nat.div_div_eq_div_mul]
  have o:V<=n:=d▸Nat.div_le_self _ _;rw[show n/10 ^ k=V from d,show([]:Str).length+w-1-k=w-1-k by simp]at a;have p:(V:Int).tdiv 10=((V/10:Nat):Int):=by rw[Int.tdiv_eq_ediv_of_nonneg (by omega)];omega
  have q:(V:Int).tmod 10=((V%10:Nat):Int):=by rw[Int.tmod_eq_emod_of_nonneg (by omega)];omega
  have f:(k:Int)<=(w:Int)-1:=by omega
  have s:((w:Int)).toNat=w:=by omega
  have g:(((UInt8.ofNat (48+V%10)).toNat:Nat):Int)=48+(V:Int)%10:=by
   have:(UInt8.ofNat (48+V%10)).toNat=48+V%10:=by simp;omega
   omega
  have b:(av (xE [] w n k)).set (w-1-k) [.int .u8 (48+(V:Int)%10)]=av (xE [] w n (k+1)):=by
   rw[<-a,<-g];simp only[av,List.map_set]
  have i:∀l,((av (xE [] w n k))[w-1-k]'l).tail=[]:=fun l=>by simp[av]
  simp(disch:=omega)[Go.Vs.wl,c,d,p,q,f,s];refine⟨by omega,by simp[av],?_⟩;simp only[i,b];refine aj (k+1) (by omega) (by omega) ?_;simp[e];exact an rfl rfl (by simp[bj,aE,ac];omega) (by simp[bZ,ac]) (by simp[bX])
 obtain rfl:k=w:=by omega
 simp(disch:=omega)[Go.Vs.wl,c,TM];simp[cI];exact⟨⟨[(6,.own 5 1)],[(5,.arr 1 1 (av (wide k n)))],[],34,G2⟩,an rfl rfl (by simp[bj,aE,ac]) (by simp[bZ,ac]) (by simp[bX]),by simp,[],rfl,rfl,rfl⟩
def TO(v:Mom):IV:=.tuple [.str (if dm v=0 then dn v else []),.int .i64 (dm v)]
theorem sE(v:Mom)(I:0<=v.k):Fn G2 T_ 35 [ma v] (TO v):=by
 refine ae hm Iz (by simp) ?_;have h:=pQ v I;obtain⟨e,s⟩:=A_ (dm v);unfold TO;rw[s]at h |-;simp[zD];by_cases o:e=0
 .rw[if_pos o];subst o;obtain⟨b1,b2,b3,b4,b5⟩:=AQ s;have u:=ZF v I s;obtain⟨N,hN⟩:=A_ ((v.s/86400).toNat);obtain⟨T,hT⟩:=A_ ((v.s%86400).toNat);have eN:v.s/86400=(N:Int):=by omega
  have eT:v.s%86400=(T:Int):=by omega
  have J:=Jg N (by omega);obtain⟨y,m,d,g1,g2,g3,g4,g5,g6,g7,K⟩:=EI (n:=N) (by omega)
  have a':jF y m<=31:=by
   unfold jF fO
   repeat' split
   all_goals omega
  have L:dn v=(wide 4 y++wide 2 m++wide 2 d)++(if v.k=1 then []else 84::((wide 2 (T/3600)++(wide 2 (T/60%60)++wide 2 (T%60)))++if v.k=3 then [90]else [])):=by
   unfold dn Mo.dayT BM;rw[hN,hT,K];simp only[List.append_assoc]
  rw[eN,eT]at u;rw[K]at J;have M:=jh 4 y;have O:=jh 2 m;have l3:=jh 2 d;unfold ma at h u |-;simp(disch:=omega)[Go.Vs.wl];refine aa h ?_;simp(disch:=omega)[Go.Vs.wl];refine aa u ?_;simp(disch:=omega)[Go.Vs.wl];refine aa J ?_;simp(disch:=omega)[Go.Vs.wl];refine callM [(5,33)] [] (acI y 4 (by omega) (by omega)) rfl rfl trivial ⟨rfl,[],[],rfl,⟨[],[],rfl,rfl,rfl⟩,rfl⟩ rfl ?_;simp(disch:=omega)[Go.Vs.wl];refine callM [(1000,33)] [] (EX 1 (wide 4 y) m 2 (by omega) (by omega) (by omega)) rfl rfl ⟨rfl,trivial⟩ ⟨rfl,[],[],rfl,⟨[],[],rfl,rfl,rfl⟩,rfl⟩ rfl ?_;simp(disch:=omega)[Go.Vs.wl];have lp:(wide 4 y++wide 2 m).length=6:=by simp[M,O]
  refine callM [(1000,33)] [] (EX 2 (wide 4 y++wide 2 m) d 2 (by omega) (by omega) (by omega)) rfl rfl ⟨rfl,trivial⟩ ⟨rfl,[],[],rfl,⟨[],[],rfl,rfl,rfl⟩,rfl⟩ rfl ?_;obtain⟨P,Q⟩:=A_ (wide 4 y++wide 2 m++wide 2 d);have S:P.length=8:=by rw[<-Q];simp[M,O,l3]
  rw[Q]at L |-;rw[L];have w:(av P).length=8:=by simp[av,S]
  by_cases p:v.k=1
  .rw[if_pos p,List.append_nil];have a:pZ (av P)=some P:=xm P;simp(disch:=omega)[Go.Vs.wl,p,a]
  rw[if_neg p];obtain⟨q,b⟩:=A_ (P++[84]);have x:av P++[[.int .u8 84]]=av q:=by rw[<-b];simp[av]
  have U:(T:Int).tdiv 3600=((T/3600:Nat):Int):=by rw[Int.tdiv_eq_ediv_of_nonneg (by omega)];omega
  have q2:(T:Int).tdiv 60=(T:Int)/60:=by rw[Int.tdiv_eq_ediv_of_nonneg (by omega)]
  have V:((T:Int)/60).tmod 60=((T/60%60:Nat):Int):=by rw[Int.tmod_eq_emod_of_nonneg (by omega)];omega
  have W:(T:Int).tmod 60=((T%60:Nat):Int):=by rw[Int.tmod_eq_emod_of_nonneg (by omega)];omega
  obtain⟨A,X⟩:=A_ (T/3600);obtain⟨B,Y⟩:=A_ (T/60%60);obtain⟨D,i⟩:=A_ (T%60);rw[X]at U;rw[Y]at V;rw[i]at W;rw[X,Y,i];have a2:=jh 2 A;have a3:=jh 2 B;have a4:=jh 2 D;simp(disch:=omega)[Go.Vs.wl,p,w,x,U];have l4:q.length=9:=by rw[<-b];simp[S]
  refine callM [(1000,33)] [] (EX 4 q A 2 (by omega) (by omega) (by omega)) rfl rfl ⟨rfl,trivial⟩ ⟨rfl,[],[],rfl,⟨[],[],rfl,rfl,rfl⟩,rfl⟩ rfl ?_;obtain⟨z,f⟩:=A_ (q++wide 2 A);have l5:z.length=11:=by rw[<-f];simp[l4,a2]
  rw[f];simp(disch:=omega)[Go.Vs.wl,q2,V];refine callM [(1000,33)] [] (EX 5 z B 2 (by omega) (by omega) (by omega)) rfl rfl ⟨rfl,trivial⟩ ⟨rfl,[],[],rfl,⟨[],[],rfl,rfl,rfl⟩,rfl⟩ rfl ?_;obtain⟨C,g⟩:=A_ (z++wide 2 B);have l6:C.length=13:=by rw[<-g];simp[l5,a3]
  rw[g];simp(disch:=omega)[Go.Vs.wl,W];refine callM [(1000,33)] [] (EX 6 C D 2 (by omega) (by omega) (by omega)) rfl rfl ⟨rfl,trivial⟩ ⟨rfl,[],[],rfl,⟨[],[],rfl,rfl,rfl⟩,rfl⟩ rfl ?_;obtain⟨R,E⟩:=A_ (C++wide 2 D);have lR:R.length=15:=by rw[<-E];simp[l6,a4]
  have F:P++84::((wide 2 A++(wide 2 B++wide 2 D))++if v.k=3 then [90]else [])=R++if v.k=3 then [90]else []:=by rw[<-E,<-g,<-f,<-b];simp
  rw[F,E];have j:(av R).length=15:=by simp[av,lR]
  by_cases Z:v.k=3
  .have H:av R++[[.int .u8 90]]=av (R++[90]):=by simp[av]
   have a:pZ (av (R++[90]))=some (R++[90]):=xm (R++[90]);simp(disch:=omega)[Go.Vs.wl,Z,j,H,a]
  have a:pZ (av R)=some R:=xm R;simp(disch:=omega)[Go.Vs.wl,Z,j,a]
 rw[if_neg o];unfold ma at h |-;simp(disch:=omega)[Go.Vs.wl];refine aa h ?_;simp(disch:=omega)[Go.Vs.wl,o]
end Go.Vs.Y.Rc
