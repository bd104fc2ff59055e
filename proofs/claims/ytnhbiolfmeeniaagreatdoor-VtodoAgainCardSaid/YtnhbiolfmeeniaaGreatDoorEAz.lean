/- A part of a proof. No conditions. -/
import Derived.Test.YtnhbiolfmeeniaaGreatDoorNKz
import Derived.Test.YtnhbiolfmeeniaaGreatDoorCCz
set_option linter.all false
set_option maxRecDepth 100000
set_option maxHeartbeats 8000000
namespace Go.Vs.Y
open Go.Proofs
def EE:VCode:=Q_ 2 [.K (cb false)] (.seq (C_ 6 11 [.m 0,.t [],.w,.m 0,.h,.i .gtr 24,.O] (Q_ 2 [.K (cb false)] .ret) .skip) (.seq (Q_ 3 [.n 0] (.block 0 (.loop (.seq (C_ 13 15 [.m 3,.m 0,.h,.b .lss] .skip (.exit 0)) (.seq (.block 1 (R_ 19 21 [.m 0,.m 3,.y,.a 4] (R_ 22 35 [.m 4,.U .geq 97,.z,.m 4,.U .leq 122,.A,.w,.m 4,.U .geq 65,.z,.m 4,.U .leq 90,.A,.O,.a 5] (C_ 36 46 [.m 5,.u,.z,.m 4,.c1 108,.u,.A,.z,.m 4,.g (.call 109 [cs [45,46,95,64],tm 44]),.i .lss 0,.A] (Q_ 2 [.K (cb false)] .ret) .skip)))) (X_ 17 18 [.m 3,.P 1,.a 3])))))) (Q_ 2 [.K (cb true)] .ret)))
theorem Nr:FnOk T_ 65 EE [.tmp 2] 48:=fK_ Tryz.func65
def BI:VCode:=Q_ 1 [.X 0,.Z (z_ [.u,.s]),.n 0] (.seq (C_ 7 8 [.F 0 1,.l,.g (.bin .neq (tm 8) (cs [82,69,76,65,84,69,68,45,84,79]))] (R_ 10 10 [.D (z_ [.u,.s]),.s 2 2,.j 3 11] .ret) .skip) (V_ 12 16 [.F 1 1,.l,.g (.call 87 [tm 13,cs [82,69,76,84,89,80,69]]),.a 11,.e 11 0,.e 11 1,.Y 4 z_8,.T 2 4 15,.a 5] (.seq (C_ 17 22 [.m 5,.z,.F 1 4,.l,.v,.N 1,.A] (R_ 24 24 [.D (z_ [.u,.s]),.s 2 2,.j 3 20] .ret) .skip) (.seq (C_ 25 27 [.F 2 1,.l,.c1 65,.u] (R_ 29 29 [.D (z_ [.u,.s]),.s 2 2,.j 3 4] .ret) .skip) (R_ 30 32 [.F 2 1,.l,.g (.build (z_ [.u,.s]) [(0,1,cu 0),(1,1,tm 31)]),.Y 6 (z_ [.u,.s]),.s 2 6] (.seq (Q_ 33 [.m 5] (c_ 33 (X_ 34 39 [.F 1 4,.l,.g (.indexAddr 1 (tm 35) (ci 0)),.l,.c1 147,.F 0 6,.T 1 39 38]) .skip)) (R_ 40 40 [.W 2 6,.s 2 2,.j 3 0] .ret)))))))
theorem L0:FnOk T_ 97 BI [.cell 2 (some 2),.tmp 3] 41:=fK_ Tryz.func97
def BK:VCode:=Q_ 2 [.K (cs [])] (R_ 6 7 [.m 0,.g (.call 148 [tm 6,cs [48,49,50,51,52,53,54,55,56,57]]),.a 3] (V_ 9 12 [.m 3,.g (.call 149 [tm 9,cs [46]]),.a 8,.e 8 0,.e 8 1,.M 4 11,.a 5] (.seq (C_ 13 29 [.m 0,.c1 65,.u,.w,.m 3,.h,.m 0,.h,.b .eql,.O,.w,.m 5,.u,.O,.w,.m 4,.t [],.O] (R_ 31 31 [.m 0,.a 2] .ret) .skip) (R_ 32 32 [.m 4,.a 2] .ret))))
theorem L1:FnOk T_ 99 BK [.tmp 2] 33:=fK_ Tryz.func99
def wC:VCode:=Q_ 2 [.K (cb false)] (R_ 3 8 [.m 0,.U .geq 48,.z,.m 0,.U .leq 57,.A,.a 2] .ret)
theorem EG:FnOk T_ 108 wC [.tmp 2] 9:=fK_ Tryz.func108
def yg:VCode:=Q_ 2 [.K (cu 0)] (R_ 4 5 [.m 0,.c1 85,.a 0] (.seq (Q_ 3 [.K (cu 0)] (.block 0 (.loop (.seq (C_ 6 6 [.m 3,.U .lss 4] .skip (.exit 0)) (.seq (.block 1 (C_ 10 12 [.m 3,.c1 205,.m 0,.b .eql] (R_ 14 14 [.m 3,.a 2] .ret) .skip)) (X_ 8 9 [.m 3,.U .add 1,.a 3])))))) (Q_ 2 [.K (cu 4)] .ret)))
theorem GE:FnOk T_ 147 yg [.tmp 2] 15:=fK_ Tryz.func147
def uK:VCode:=Q_ 2 [.K (cs [])] (.seq (Q_ 3 [.m 0] (.block 0 (R_ 5 5 [.g (.bin .eql (tm 3) (cu 0)),.a 4] (c_ 4 (Q_ 2 [.K (cs [80,65,82,69,78,84])] .ret) (R_ 7 7 [.g (.bin .eql (tm 3) (cu 1)),.a 6] (c_ 6 (Q_ 2 [.K (cs [67,72,73,76,68])] .ret) (R_ 9 9 [.g (.bin .eql (tm 3) (cu 2)),.a 8] (c_ 8 (Q_ 2 [.K (cs [83,73,66,76,73,78,71])] .ret) .skip)))))))) (Q_ 2 [.K (cs [68,69,80,69,78,68,83,45,79,78])] .ret))
theorem Dh:FnOk T_ 205 uK [.tmp 2] 10:=fK_ Tryz.func205
open Go.Vs.U8 Go.Vs.Pa Go.Vs.Nu
abbrev Rl:=Int×Str
def acm:Str:=[82,69,76,65,84,69,68,45,84,79]
def QU:Str:=[82,69,76,84,89,80,69]
def TA:List Str:=[[80,65,82,69,78,84],[67,72,73,76,68],[83,73,66,76,73,78,71],[68,69,80,69,78,68,83,45,79,78]]
def QV(s:Str):Int:=(TA.idxOf (upper s):Nat)
def L2(k:Int):Str:=if k=0 then [80,65,82,69,78,84]else if k=1 then [67,72,73,76,68]else if k=2 then [83,73,66,76,73,78,71]else [68,69,80,69,78,68,83,45,79,78]
def acn(x:Ln):Int:=match ij x.p QU with
 |some p=>QV (p.v.getD 0 [])
 |none=>0
def Iy(x:Ln):Int:=if x.n≠acm then 11 else match ij x.p QU with
 |some p=>if p.v.length≠1 then 20 else if ti x.v=true then 0 else 4
 |none=>if ti x.v=true then 0 else 4
def aco(x:Ln):Rl×Int:=if Iy x=0 then ((acn x,x.v),0)else ((0,[]),Iy x)
open Go.Lib
theorem VZ(c:UInt8):Fn G T_ 108 [.int .u8 c.toNat] (.bool (eI c)):=by
 refine ae hm EG (by simp) ?_;simp[wC];by_cases b:48<=c.toNat
 .by_cases d:c.toNat<=57
  .have a:eI c=true:=by simp[eI];omega
   rw[a];simp(disch:=omega)[wl,b,d];omega
  have a:eI c=false:=by simp[eI];omega
  rw[a];simp(disch:=omega)[wl,b,d];omega
 have a:eI c=false:=by simp[eI];omega
 rw[a];simp(disch:=omega)[wl,b]
theorem acp(c:UInt8):0<=qT [45,46,95,64] c↔(c.toNat=45\/c.toNat=46\/c.toNat=95\/c.toNat=64):=by
 have h:=Ks [45,46,95,64] c
 have e:c∈([45,46,95,64]:Str)↔(c.toNat=45\/c.toNat=46\/c.toNat=95\/c.toNat=64):=by
  simp only[List.mem_cons,List.not_mem_nil,or_false];constructor
  .rintro(rfl|rfl|rfl|rfl)<;>simp
  rintro(h|h|h|h)
  .exact .inl (UInt8.toNat_inj.1 h)
  .exact .inr (.inl (UInt8.toNat_inj.1 h))
  .exact .inr (.inr (.inl (UInt8.toNat_inj.1 h)))
  exact .inr (.inr (.inr (UInt8.toNat_inj.1 h)))
 rw[<-e];by_cases a:c∈([45,46,95,64]:Str)
 .have:¬qT [45,46,95,64] c<0:=fun b=>(h.1 b) a
  exact⟨fun _=>a,fun _=>by omega⟩
 have:qT [45,46,95,64] c<0:=h.2 a;exact⟨fun b=>by omega,fun b=>absurd b a⟩
theorem L3(s:Str)(A:s.length<1000000):Fn G T_ 65 [.str s] (.bool (ti s)):=by
 refine ae hm Nr (by simp) ?_;simp[EE];by_cases j:s=[]
 .have:ti s=false:=by rw[j];rfl
  rw[this];simp(disch:=omega)[wl,j]
 by_cases B:24<s.length
 .have:ti s=false:=by
   cases e:ti s with
   |false=>rfl
   |true=>have:=(ab0 s).1 e;omega
  rw[this];simp(disch:=omega)[wl,j]
 have v:1<=s.length:=List.length_pos_iff.2 j
 have w:ti s=s.all nu:=by
  have x:s.length<=24:=by omega
  unfold ti;rw[decide_eq_true v,decide_eq_true x];rfl
 rw[w];simp(disch:=omega)[wl,j];refine bx hm [] (fun i:Nat=>[(3,.val (.int .i64 i))]) (fun _=>[]) (fun i=>i<=s.length/\(s.drop i).all nu=s.all nu) (fun i=>s.length-i) 0 ⟨by omega,by simp⟩ ?_ ?_
 .simp;exact bA
 rintro i ⟨C,o⟩;simp;by_cases h:i<s.length
 .obtain⟨c,m⟩:=A_ (s[i]);have y:s.drop i=c::s.drop (i+1):=by rw[<-m];exact List.drop_eq_getElem_cons h
  rw[y,List.all_cons]at o;have next:nu c=true->(s.drop (i+1)).all nu=s.all nu:=fun e=>by rw[<-o,e,Bool.true_and]
  have k:nu c=false->s.all nu=false:=fun e=>by rw[<-o,e];rfl
  have u:=VZ c;have p:=El [45,46,95,64] c;have d:=acp c;obtain⟨q,z⟩:=A_ (qT [45,46,95,64] c);rw[z]at p d;have n:(65<=c.toNat/\c.toNat<=90)\/(97<=c.toNat/\c.toNat<=122)\/c.toNat<65\/(90<c.toNat/\c.toNat<97)\/122<c.toNat:=by omega
  rcases n with r|r|r|r|r
  .have b:nu c=true:=by simp[nu];omega
   simp(disch:=omega)[wl,m];refine aj (i+1) ⟨by omega,next b⟩ (by omega) ?_;simp;exact bA
  .have b:nu c=true:=by simp[nu];omega
   simp(disch:=omega)[wl,m];refine aj (i+1) ⟨by omega,next b⟩ (by omega) ?_;simp;exact bA
  .simp(disch:=omega)[wl,m];refine aa u ?_;by_cases g:eI c=true
   .have b:nu c=true:=abZ g;simp(disch:=omega)[wl,g];refine aj (i+1) ⟨by omega,next b⟩ (by omega) ?_;simp;exact bA
   have a:eI c=false:=by simpa using g
   have D:¬(48<=c.toNat/\c.toNat<=57):=fun e=>g (by simp[eI];omega)
   simp(disch:=omega)[wl,a];refine aa p ?_;by_cases f:0<=q
   .have l:=d.1 f;have b:nu c=true:=by simp[nu];omega
    simp(disch:=omega)[wl];refine aj (i+1) ⟨by omega,next b⟩ (by omega) ?_;simp;exact bA
   have l:¬(c.toNat=45\/c.toNat=46\/c.toNat=95\/c.toNat=64):=fun e=>f (d.2 e)
   have b:nu c=false:=by
    cases e:nu c with
    |false=>rfl
    |true=>simp[nu]at e;omega
   rw[k b];simp(disch:=omega)[wl]
  .have a:eI c=false:=by
    cases e:eI c with
    |false=>rfl
    |true=>simp[eI]at e;omega
   simp(disch:=omega)[wl,m];refine aa u ?_;simp(disch:=omega)[wl,a];refine aa p ?_;by_cases f:0<=q
   .have l:=d.1 f;have b:nu c=true:=by simp[nu];omega
    simp(disch:=omega)[wl];refine aj (i+1) ⟨by omega,next b⟩ (by omega) ?_;simp;exact bA
   have l:¬(c.toNat=45\/c.toNat=46\/c.toNat=95\/c.toNat=64):=fun e=>f (d.2 e)
   have b:nu c=false:=by
    cases e:nu c with
    |false=>rfl
    |true=>simp[nu]at e;omega
   rw[k b];simp(disch:=omega)[wl]
  have a:eI c=false:=by
   cases e:eI c with
   |false=>rfl
   |true=>simp[eI]at e;omega
  have f:q<0:=by
   by_cases j:0<=q
   .have:=d.1 j;omega
   omega
  have b:nu c=false:=by
   cases e:nu c with
   |false=>rfl
   |true=>simp[nu]at e;omega
  simp(disch:=omega)[wl,m];refine aa u ?_;simp(disch:=omega)[wl,a];refine aa p ?_;rw[k b];simp(disch:=omega)[wl]
 obtain rfl:i=s.length:=by omega
 have:s.all nu=true:=by rw[<-o];simp
 rw[this];simp(disch:=omega)[wl]
def qY(s:Str):Bool:=decide (s.getLast?=some 46)
theorem acq(s:Str):s.drop (s.length-1)=[46]↔s.getLast?=some 46:=by
 rcases List.eq_nil_or_concat s with rfl|⟨l,x,rfl⟩
 .simp
 simp
theorem QW(s:Str)(d:s.length<1000000):Fn G T_ 247 [.str s,.str [46]] (.bool (qY s)):=by
 refine ae hm o5 (by simp) ?_;simp[iq];by_cases h:1<=s.length
 .obtain⟨k,e⟩:∃k,s.length=k+1:=⟨s.length-1,by omega⟩;have e0:(s.length:Int)-1=(k:Int):=by omega
  have c:=acq s;rw[show s.length-1=k by omega]at c;have a:qY s=decide (s.drop k=[46]):=by unfold qY;rw[decide_eq_decide];exact c.symm
  have b:(s.drop k).take (s.length-k)=s.drop k:=List.take_of_length_le (by rw[List.length_drop];omega);rw[a];simp(disch:=omega)[wl,e0,b];omega
 have:s=[]:=List.length_eq_zero_iff.1 (by omega);subst this;simp(disch:=omega)[wl];rfl
theorem L4(s:Str)(a:s.length<1000000):Fn G T_ 210 [.str s,.str [46]] (.tuple [.str (if qY s=true then s.dropLast else s),.bool (qY s)]):=by
 refine ae hm o4 (by simp) ?_;have b:=QW s a;simp[io];refine aa b ?_;cases d:qY s with
 |false=>simp(disch:=omega)[wl]
 |true=>
  have e:1<=s.length:=by
   cases s with
   |nil=>simp[qY]at d
   |cons c r=>simp
  have e0:((s.length:Int)-1).toNat=s.length-1:=by omega
  have e1:s.take (s.length-1)=s.dropLast:=List.dropLast_eq_take.symm;simp(disch:=omega)[wl,e0,e1]
  try omega
theorem QX(s:Str)(a:s.length<1000000):Fn G T_ 149 [.str s,.str [46]] (.tuple [.str (if qY s=true then s.dropLast else s),.bool (qY s)]):=by
 refine ae hm zp (by simp) ?_;simp[rC];refine aa (L4 s a) ?_;simp
theorem afr(s:Str)(i:s.length<1000000):Fn G T_ 99 [.str s] (.str (Em s)):=by
 refine ae hm L1 (by simp) ?_;have hT:=QL s i;have f:=Pe s;have j:=QX (fi s) (by omega);have l:=L3 s i;obtain⟨t,m⟩:=A_ (fi s);obtain⟨R,a⟩:=A_ (Em s);rw[a];unfold Em at a;rw[m]at hT f j a;simp[BK];refine aa hT ?_;simp(disch:=omega)[wl];refine aa j ?_;simp(disch:=omega)[wl];refine aa l ?_;by_cases b:ti s=true
 .by_cases d:t.length=s.length
  .rw[if_neg (fun h=>h.2.1 d)]at a;subst a;simp(disch:=omega)[wl,b,d]
  cases k:qY t with
  |false=>
   have c:¬t.getLast?=some 46:=by simpa[qY]using k
   rw[if_neg (fun h=>c h.2.2.1)]at a;subst a;simp(disch:=omega)[wl,b,d]
  |true=>
   have c:t.getLast?=some 46:=by simpa[qY]using k
   by_cases e:t.dropLast=[]
   .rw[if_neg (fun h=>h.2.2.2 e)]at a;subst a;simp(disch:=omega)[wl,b,d,e]
   rw[if_pos ⟨b,d,c,e⟩]at a;subst a;simp(disch:=omega)[wl,b,d,e]
 have g:ti s=false:=by simpa using b
 rw[if_neg (fun h=>b h.1)]at a;subst a;simp(disch:=omega)[wl,g]
theorem TB(k:Int):Fn G T_ 205 [.int .u8 k] (.str (L2 k)):=by
 refine ae hm Dh (by simp) ?_;simp[uK];unfold L2;by_cases a:k=0
 .rw[if_pos a];simp(disch:=omega)[wl,a]
 rw[if_neg a];by_cases b:k=1
 .rw[if_pos b];simp(disch:=omega)[wl,a,b]
 rw[if_neg b];by_cases c:k=2
 .rw[if_pos c];simp(disch:=omega)[wl,a,b,c]
 rw[if_neg c];simp(disch:=omega)[wl,a,b,c]
theorem Zs{u:Str}{i:Nat}(h:i<4)(b:∀j:Nat,j<i->L2 j≠u)(a:L2 i=u):TA.idxOf u=i:=by
 have:i=0\/i=1\/i=2\/i=3:=by omega
 subst a;rcases this with rfl|rfl|rfl|rfl<;>decide
theorem TC{u:Str}(a:∀j:Nat,j<4->L2 j≠u):TA.idxOf u=4:=by
 have:u∉TA:=by
  intro h;simp only[TA,List.mem_cons,List.not_mem_nil,or_false]at h;rcases h with h|h|h|h
  .exact a 0 (by omega) (by rw[h];rfl)
  .exact a 1 (by omega) (by rw[h];rfl)
  .exact a 2 (by omega) (by rw[h];rfl)
  exact a 3 (by omega) (by rw[h];rfl)
 exact List.idxOf_eq_length this
theorem Zt(s:Str)(f:s.length<1000000):Fn G T_ 147 [.str s] (.int .u8 (QV s)):=by
 refine ae hm GE (by simp) ?_;have d:=Kw s f;unfold QV;obtain⟨u,a⟩:=A_ (upper s);have g:Pa.upper s=u:=a;rw[a]at d;simp[yg];refine aa d ?_;simp(disch:=omega)[wl];refine bx hm [] (fun i:Nat=>[(3,.val (.int .u8 i)),(0,.val (.str u))]) (fun _=>[]) (fun i=>i<=4/\∀j:Nat,j<i->L2 j≠u) (fun i=>4-i) 0 ⟨by omega,fun j k=>by omega⟩ ?_ ?_
 .simp;exact bA
 rintro i ⟨m,c⟩;simp;have l:=TB (i:Int);by_cases h:i<4
 .simp(disch:=omega)[wl];refine aa l ?_;by_cases b:L2 i=u
  .have:=Zs h c b;simp(disch:=omega)[wl,b];simp[a,this]
  simp(disch:=omega)[wl,b]
  refine aj (i+1) ⟨by omega,fun j k=>by
   by_cases e:j=i
   .rw[e];exact b
   exact c j (by omega)⟩ (by omega) ?_
  simp;exact bA
 obtain rfl:i=4:=by omega
 have:=TC c;simp(disch:=omega)[wl];simp[a,this]
def HQ(p:Rl×Int):IV:=.tuple [.agg [.int .u8 p.1.1,.str p.1.2],.int .i64 p.2]
theorem afs(x:Ln)(i:FitX x):Fn G T_ 97 [x.iv] (HQ (aco x)):=by
 obtain⟨R,a⟩:=A_ (aco x);rw[a];unfold aco at a;have c:=Ja x.p QU (by have:=i.p;omega) (fun p o=>by have:=i.f.v p o;omega);have n:=L3 x.v (by have:=i.v;omega);refine ae hm L0 (by simp) ?_;simp[BI,Ln.iv];by_cases f:x.n=acm
 .have g:x.n=[82,69,76,65,84,69,68,45,84,79]:=f;cases d:ij x.p QU with
  |none=>
   have j:acn x=0:=by unfold acn;rw[d]
   have b:Iy x=if ti x.v=true then 0 else 4:=by unfold Iy;rw[if_neg (by simp[f]),d]
   rw[d]at c;simp only[tr,Pm.iv]at c;simp(disch:=omega)[wl,g];refine aa c ?_;simp(disch:=omega)[wl];refine aa n ?_;cases h:ti x.v with
   |true=>
    rw[b,if_pos h,if_pos rfl,j]at a;subst a;simp(disch:=omega)[wl,HQ]
   |false=>
    have e:Iy x=4:=by rw[b,if_neg (by simp[h])]
    rw[e,if_neg (show ¬((4:Int)=0) by decide)]at a;subst a;simp(disch:=omega)[wl,HQ]
  |some p=>
   have k:p∈x.p:=List.mem_of_find?_eq_some d;rw[d]at c;simp only[tr,Pm.iv]at c;by_cases l:p.v.length=1
   .have b:Iy x=if ti x.v=true then 0 else 4:=by unfold Iy;rw[if_neg (by simp[f]),d];simp only;rw[if_neg (by simp[l])]
    obtain⟨v,m⟩:∃v,p.v=[v]:=List.length_eq_one_iff.1 l;have j:acn x=QV v:=by unfold acn;rw[d];simp only[m];rfl
    have q:=Zt v (by have:=i.f.t p k v (by rw[m];simp);omega);have e1:ts p.v=[[.str v]]:=by rw[m];rfl
    rw[e1]at c;simp(disch:=omega)[wl,g];refine aa c ?_;simp(disch:=omega)[wl];refine aa n ?_;cases h:ti x.v with
    |true=>
     rw[b,if_pos h,if_pos rfl,j]at a;subst a;simp(disch:=omega)[wl];refine aa q ?_;simp(disch:=omega)[wl,HQ]
    |false=>
     have e:Iy x=4:=by rw[b,if_neg (by simp[h])]
     rw[e,if_neg (show ¬((4:Int)=0) by decide)]at a;subst a;simp(disch:=omega)[wl,HQ]
   have b:Iy x=20:=by unfold Iy;rw[if_neg (by simp[f]),d];simp only;rw[if_pos l]
   rw[b,if_neg (by omega)]at a;subst a;simp(disch:=omega)[wl,g];refine aa c ?_;simp(disch:=omega)[wl,bO,HQ]
 have g:¬x.n=[82,69,76,65,84,69,68,45,84,79]:=f;have b:Iy x=11:=by unfold Iy;rw[if_pos f]
 rw[b,if_neg (by omega)]at a;subst a;simp(disch:=omega)[wl,g,HQ]
end Go.Vs.Y
namespace Go.Vs.Y
open Go.Proofs Go.Vs.U8 Go.Vs.Pa Go.Vs.Nu
theorem Pj:∀(n:Nat) (l:Str),l.length<=n->(∀c∈l,32<=c.toNat/\c.toNat<127)->Hx l=none
 |n,[],_,_=>rfl
 |0,c::r,h,_=>by simp at h
 |n+1,c::r,h,a=>by
  obtain⟨g,i⟩:=a c (by simp);have b:gh (c::r)=1:=by simp only[gh];rw[if_pos (by omega)]
  have e:rr (c::r)=false:=by
   simp only[rr,b];simp;omega
  rw[Ei (by simp),if_neg (by simp[e]),b];have:=Pj n r (by simp at h;omega) (fun d f=>a d (by simp[f]));simp[this]
end Go.Vs.Y
