/- A part of a proof. No conditions. -/
import Derived.Test.YtcjeehebikeghaaGreatDoorNKz
import Derived.Test.YtcjeehebikeghaaGreatDoorCCz
set_option linter.unusedVariables false
set_option linter.unusedSimpArgs false
set_option maxRecDepth 100000
set_option maxHeartbeats 8000000
namespace Go.Vs.YtcjeehebikeghaaGreatDoor
open Go.Proofs
def CD:VCode:=Q_ 2 [.K (cb false)] (.seq (C_ 6 11 [.m 0,.t [],.w,.m 0,.h,.i .gtr 24,.O] (Q_ 2 [.K (cb false)] .ret) .skip) (.seq (Q_ 3 [.n 0] (.block 0 (.loop (.seq (C_ 13 15 [.m 3,.m 0,.h,.b .lss] .skip (.exit 0)) (.seq (.block 1 (R_ 19 21 [.m 0,.m 3,.y,.a 4] (R_ 22 35 [.m 4,.U .geq 97,.z,.m 4,.U .leq 122,.A,.w,.m 4,.U .geq 65,.z,.m 4,.U .leq 90,.A,.O,.a 5] (C_ 36 46 [.m 5,.u,.z,.m 4,.c1 199,.u,.A,.z,.m 4,.g (.call 200 [cs [45,46,95,64],tm 44]),.i .lss 0,.A] (Q_ 2 [.K (cb false)] .ret) .skip)))) (X_ 17 18 [.m 3,.P 1,.a 3])))))) (Q_ 2 [.K (cb true)] .ret)))
theorem KE:FnOk T_ 138 CD [.tmp 2] 48:=fK_ Tryz.func138
def zy:VCode:=Q_ 1 [.X 0,.Z z_8,.n 0] (.seq (C_ 7 8 [.F 0 1,.l,.g (.bin .neq (tm 8) (cs [82,69,76,65,84,69,68,45,84,79]))] (R_ 10 10 [.D z_8,.s 2 2,.j 3 11] .ret) .skip) (V_ 12 16 [.F 1 1,.l,.g (.call 143 [tm 13,cs [82,69,76,84,89,80,69]]),.a 11,.e 11 0,.e 11 1,.Y 4 z_6,.T 2 4 15,.a 5] (.seq (C_ 17 22 [.m 5,.z,.F 1 4,.l,.v,.N 1,.A] (R_ 24 24 [.D z_8,.s 2 2,.j 3 20] .ret) .skip) (.seq (C_ 25 27 [.F 2 1,.l,.c1 138,.u] (R_ 29 29 [.D z_8,.s 2 2,.j 3 4] .ret) .skip) (R_ 30 32 [.F 2 1,.l,.g (.build z_8 [(0,1,cu 0),(1,1,tm 31)]),.Y 6 z_8,.s 2 6] (.seq (Q_ 33 [.m 5] (c_ 33 (X_ 34 39 [.F 1 4,.l,.g (.indexAddr 1 (tm 35) (ci 0)),.l,.c1 222,.F 0 6,.T 1 39 38]) .skip)) (R_ 40 40 [.W 2 6,.s 2 2,.j 3 0] .ret)))))))
theorem IK:FnOk T_ 153 zy [.cell 2 (some 2),.tmp 3] 41:=fK_ Tryz.func153
def zA:VCode:=Q_ 2 [.K (cs [])] (R_ 6 7 [.m 0,.g (.call 223 [tm 6,cs [48,49,50,51,52,53,54,55,56,57]]),.a 3] (V_ 9 12 [.m 3,.g (.call 224 [tm 9,cs [46]]),.a 8,.e 8 0,.e 8 1,.M 4 11,.a 5] (.seq (C_ 13 29 [.m 0,.c1 138,.u,.w,.m 3,.h,.m 0,.h,.b .eql,.O,.w,.m 5,.u,.O,.w,.m 4,.t [],.O] (R_ 31 31 [.m 0,.a 2] .ret) .skip) (R_ 32 32 [.m 4,.a 2] .ret))))
theorem IL:FnOk T_ 155 zA [.tmp 2] 33:=fK_ Tryz.func155
def tJ:VCode:=Q_ 2 [.K (cb false)] (R_ 3 8 [.m 0,.U .geq 48,.z,.m 0,.U .leq 57,.A,.a 2] .ret)
theorem CF:FnOk T_ 199 tJ [.tmp 2] 9:=fK_ Tryz.func199
def vD:VCode:=Q_ 2 [.K (cu 0)] (R_ 4 5 [.m 0,.c1 141,.a 0] (.seq (Q_ 3 [.K (cu 0)] (.block 0 (.loop (.seq (C_ 6 6 [.m 3,.U .lss 4] .skip (.exit 0)) (.seq (.block 1 (C_ 10 12 [.m 3,.c1 288,.m 0,.b .eql] (R_ 14 14 [.m 3,.a 2] .ret) .skip)) (X_ 8 9 [.m 3,.U .add 1,.a 3])))))) (Q_ 2 [.K (cu 4)] .ret)))
theorem EB:FnOk T_ 222 vD [.tmp 2] 15:=fK_ Tryz.func222
def rl:VCode:=Q_ 2 [.K (cs [])] (.seq (Q_ 3 [.m 0] (.block 0 (R_ 5 5 [.g (.bin .eql (tm 3) (cu 0)),.a 4] (c_ 4 (Q_ 2 [.K (cs [80,65,82,69,78,84])] .ret) (R_ 7 7 [.g (.bin .eql (tm 3) (cu 1)),.a 6] (c_ 6 (Q_ 2 [.K (cs [67,72,73,76,68])] .ret) (R_ 9 9 [.g (.bin .eql (tm 3) (cu 2)),.a 8] (c_ 8 (Q_ 2 [.K (cs [83,73,66,76,73,78,71])] .ret) .skip)))))))) (Q_ 2 [.K (cs [68,69,80,69,78,68,83,45,79,78])] .ret))
theorem Bd:FnOk T_ 288 rl [.tmp 2] 10:=fK_ Tryz.func288
open Go.Vs.U8 Go.Vs.Pa Go.Vs.Nu
abbrev Rl:=Int×Str
def SH:Str:=[82,69,76,65,84,69,68,45,84,79]
def EC:Str:=[82,69,76,84,89,80,69]
def lc:List Str:=[[80,65,82,69,78,84],[67,72,73,76,68],[83,73,66,76,73,78,71],[68,69,80,69,78,68,83,45,79,78]]
def lV(s:Str):Int:=(lc.idxOf (upper s):Nat)
def vF(k:Int):Str:=if k=0 then [80,65,82,69,78,84]else if k=1 then [67,72,73,76,68]else if k=2 then [83,73,66,76,73,78,71]else [68,69,80,69,78,68,83,45,79,78]
def O4(x:Ln):Int:=match gB x.p EC with
 |some p=>lV (p.v.getD 0 [])
 |none=>0
def qR(x:Ln):Int:=if x.n≠SH then 11 else match gB x.p EC with
 |some p=>if p.v.length≠1 then 20 else if jF x.v=true then 0 else 4
 |none=>if jF x.v=true then 0 else 4
def O5(x:Ln):Rl×Int:=if qR x=0 then ((O4 x,x.v),0)else ((0,[]),qR x)
open Go.Lib
theorem SI(c:UInt8):Fn G T_ 199 [.int .u8 c.toNat] (.bool (d7 c)):=by
 refine ae hm CF (by simp) ?_;simp[tJ];by_cases b:48<=c.toNat
 ·by_cases d:c.toNat<=57
  ·have a:d7 c=true:=by simp[d7];omega
   rw[a];simp(disch:=omega)[wl,b,d];omega
  ·have a:d7 c=false:=by simp[d7];omega
   rw[a];simp(disch:=omega)[wl,b,d];omega
 ·have a:d7 c=false:=by simp[d7];omega
  rw[a];simp(disch:=omega)[wl,b]
theorem Y7(c:UInt8):0<=oq [45,46,95,64] c↔(c.toNat=45\/c.toNat=46\/c.toNat=95\/c.toNat=64):=by
 have h:=I7 [45,46,95,64] c
 have e:c∈([45,46,95,64]:Str)↔(c.toNat=45\/c.toNat=46\/c.toNat=95\/c.toNat=64):=by
  simp only[List.mem_cons,List.not_mem_nil,or_false];constructor
  ·rintro(rfl|rfl|rfl|rfl)<;>simp
  ·rintro(h|h|h|h)
   ·exact .inl (UInt8.toNat_inj.1 h)
   ·exact .inr (.inl (UInt8.toNat_inj.1 h))
   ·exact .inr (.inr (.inl (UInt8.toNat_inj.1 h)))
   ·exact .inr (.inr (.inr (UInt8.toNat_inj.1 h)))
 rw[<-e];by_cases a:c∈([45,46,95,64]:Str)
 ·have:¬oq [45,46,95,64] c<0:=fun b=>(h.1 b) a
  exact⟨fun _=>a,fun _=>by omega⟩
 ·have:oq [45,46,95,64] c<0:=h.2 a;exact⟨fun b=>by omega,fun b=>absurd b a⟩
theorem O6(s:Str)(A:s.length<1000000):Fn G T_ 138 [.str s] (.bool (jF s)):=by
 refine ae hm KE (by simp) ?_;simp[CD];by_cases j:s=[]
 ·have:jF s=false:=by rw[j];rfl
  rw[this];simp(disch:=omega)[wl,j]
 ·by_cases B:24<s.length
  ·have:jF s=false:=by
    cases e:jF s with
    |false=>rfl
    |true=>have:=(Qg s).1 e;omega
   rw[this];simp(disch:=omega)[wl,j]
  ·have v:1<=s.length:=List.length_pos_iff.2 j
   have w:jF s=s.all jb:=by
    have x:s.length<=24:=by omega
    unfold jF;rw[decide_eq_true v,decide_eq_true x];rfl
   rw[w];simp(disch:=omega)[wl,j];refine be hm [] (fun i:Nat=>[(3,.val (.int .i64 i))]) (fun _=>[]) (fun i=>i<=s.length/\(s.drop i).all jb=s.all jb) (fun i=>s.length-i) 0 ⟨by omega,by simp⟩ ?_ ?_
   ·simp;exact bp
   rintro i ⟨C,o⟩;simp;by_cases h:i<s.length
   ·obtain⟨c,m⟩:∃c,s[i]=c:=⟨_,rfl⟩;have y:s.drop i=c::s.drop (i+1):=by rw[<-m];exact List.drop_eq_getElem_cons h
    rw[y,List.all_cons]at o;have next:jb c=true->(s.drop (i+1)).all jb=s.all jb:=fun e=>by rw[<-o,e,Bool.true_and]
    have k:jb c=false->s.all jb=false:=fun e=>by rw[<-o,e];rfl
    have u:=SI c;have p:=C1 [45,46,95,64] c;have d:=Y7 c;obtain⟨q,z⟩:∃q,oq [45,46,95,64] c=q:=⟨_,rfl⟩;rw[z]at p d;have n:(65<=c.toNat/\c.toNat<=90)\/(97<=c.toNat/\c.toNat<=122)\/c.toNat<65\/(90<c.toNat/\c.toNat<97)\/122<c.toNat:=by omega
    rcases n with r|r|r|r|r
    ·have b:jb c=true:=by simp[jb];omega
     simp(disch:=omega)[wl,m];refine ai (i+1) ⟨by omega,next b⟩ (by omega) ?_;simp;exact bp
    ·have b:jb c=true:=by simp[jb];omega
     simp(disch:=omega)[wl,m];refine ai (i+1) ⟨by omega,next b⟩ (by omega) ?_;simp;exact bp
    ·simp(disch:=omega)[wl,m];refine aa u ?_;by_cases g:d7 c=true
     ·have b:jb c=true:=XS g;simp(disch:=omega)[wl,g];refine ai (i+1) ⟨by omega,next b⟩ (by omega) ?_;simp;exact bp
     ·have a:d7 c=false:=by simpa using g
      have D:¬(48<=c.toNat/\c.toNat<=57):=fun e=>g (by simp[d7];omega)
      simp(disch:=omega)[wl,a];refine aa p ?_;by_cases f:0<=q
      ·have l:=d.1 f;have b:jb c=true:=by simp[jb];omega
       simp(disch:=omega)[wl];refine ai (i+1) ⟨by omega,next b⟩ (by omega) ?_;simp;exact bp
      ·have l:¬(c.toNat=45\/c.toNat=46\/c.toNat=95\/c.toNat=64):=fun e=>f (d.2 e)
       have b:jb c=false:=by
        cases e:jb c with
        |false=>rfl
        |true=>simp[jb]at e;omega
       rw[k b];simp(disch:=omega)[wl]
    ·have a:d7 c=false:=by
      cases e:d7 c with
      |false=>rfl
      |true=>simp[d7]at e;omega
     simp(disch:=omega)[wl,m];refine aa u ?_;simp(disch:=omega)[wl,a];refine aa p ?_;by_cases f:0<=q
     ·have l:=d.1 f;have b:jb c=true:=by simp[jb];omega
      simp(disch:=omega)[wl];refine ai (i+1) ⟨by omega,next b⟩ (by omega) ?_;simp;exact bp
     ·have l:¬(c.toNat=45\/c.toNat=46\/c.toNat=95\/c.toNat=64):=fun e=>f (d.2 e)
      have b:jb c=false:=by
       cases e:jb c with
       |false=>rfl
       |true=>simp[jb]at e;omega
      rw[k b];simp(disch:=omega)[wl]
    ·have a:d7 c=false:=by
      cases e:d7 c with
      |false=>rfl
      |true=>simp[d7]at e;omega
     have f:q<0:=by
      by_cases j:0<=q
      ·have:=d.1 j;omega
      ·omega
     have b:jb c=false:=by
      cases e:jb c with
      |false=>rfl
      |true=>simp[jb]at e;omega
     simp(disch:=omega)[wl,m];refine aa u ?_;simp(disch:=omega)[wl,a];refine aa p ?_;rw[k b];simp(disch:=omega)[wl]
   ·obtain rfl:i=s.length:=by omega
    have:s.all jb=true:=by rw[<-o];simp
    rw[this];simp(disch:=omega)[wl]
def ow(s:Str):Bool:=decide (s.getLast?=some 46)
theorem Y8(s:Str):s.drop (s.length-1)=[46]↔s.getLast?=some 46:=by
 rcases List.eq_nil_or_concat s with rfl|⟨l,x,rfl⟩
 ·simp
 ·simp
theorem O7(s:Str)(d:s.length<1000000):Fn G T_ 335 [.str s,.str [46]] (.bool (ow s)):=by
 refine ae hm ll (by simp) ?_;simp[gj];by_cases h:1<=s.length
 ·obtain⟨k,e⟩:∃k,s.length=k+1:=⟨s.length-1,by omega⟩;have e0:(s.length:Int)-1=(k:Int):=by omega
  have c:=Y8 s;rw[show s.length-1=k by omega]at c;have a:ow s=decide (s.drop k=[46]):=by unfold ow;rw[decide_eq_decide];exact c.symm
  have b:(s.drop k).take (s.length-k)=s.drop k:=List.take_of_length_le (by rw[List.length_drop];omega);rw[a];simp(disch:=omega)[wl,e0,b];omega
 ·have:s=[]:=List.length_eq_zero_iff.1 (by omega);subst this;simp(disch:=omega)[wl];rfl
theorem IM(s:Str)(a:s.length<1000000):Fn G T_ 293 [.str s,.str [46]] (.tuple [.str (if ow s=true then s.dropLast else s),.bool (ow s)]):=by
 refine ae hm lk (by simp) ?_;have b:=O7 s a;simp[gh];refine aa b ?_;cases d:ow s with
 |false=>simp(disch:=omega)[wl]
 |true=>
  have e:1<=s.length:=by
   cases s with
   |nil=>simp[ow]at d
   |cons c r=>simp
  have e0:((s.length:Int)-1).toNat=s.length-1:=by omega
  have e1:s.take (s.length-1)=s.dropLast:=List.dropLast_eq_take.symm;simp(disch:=omega)[wl,e0,e1]
  try omega
theorem O8(s:Str)(a:s.length<1000000):Fn G T_ 224 [.str s,.str [46]] (.tuple [.str (if ow s=true then s.dropLast else s),.bool (ow s)]):=by
 refine ae hm wK (by simp) ?_;simp[oH];refine aa (IM s a) ?_;simp
theorem aaT(s:Str)(i:s.length<1000000):Fn G T_ 155 [.str s] (.str (jj s)):=by
 refine ae hm IL (by simp) ?_;have hT:=NW s i;have f:=Mz s;have j:=O8 (dk s) (by omega);have l:=O6 s i;obtain⟨t,m⟩:∃t,dk s=t:=⟨_,rfl⟩;obtain⟨R,a⟩:∃R,jj s=R:=⟨_,rfl⟩;rw[a];unfold jj at a;rw[m]at hT f j a;simp[zA];refine aa hT ?_;simp(disch:=omega)[wl];refine aa j ?_;simp(disch:=omega)[wl];refine aa l ?_;by_cases b:jF s=true
 ·by_cases d:t.length=s.length
  ·rw[if_neg (fun h=>h.2.1 d)]at a;subst a;simp(disch:=omega)[wl,b,d]
  ·cases k:ow t with
   |false=>
    have c:¬t.getLast?=some 46:=by simpa[ow]using k
    rw[if_neg (fun h=>c h.2.2.1)]at a;subst a;simp(disch:=omega)[wl,b,d]
   |true=>
    have c:t.getLast?=some 46:=by simpa[ow]using k
    by_cases e:t.dropLast=[]
    ·rw[if_neg (fun h=>h.2.2.2 e)]at a;subst a;simp(disch:=omega)[wl,b,d,e]
    ·rw[if_pos ⟨b,d,c,e⟩]at a;subst a;simp(disch:=omega)[wl,b,d,e]
 ·have g:jF s=false:=by simpa using b
  rw[if_neg (fun h=>b h.1)]at a;subst a;simp(disch:=omega)[wl,g]
theorem QC(k:Int):Fn G T_ 288 [.int .u8 k] (.str (vF k)):=by
 refine ae hm Bd (by simp) ?_;simp[rl];unfold vF;by_cases a:k=0
 ·rw[if_pos a];simp(disch:=omega)[wl,a]
 rw[if_neg a];by_cases b:k=1
 ·rw[if_pos b];simp(disch:=omega)[wl,a,b]
 rw[if_neg b];by_cases c:k=2
 ·rw[if_pos c];simp(disch:=omega)[wl,a,b,c]
 rw[if_neg c];simp(disch:=omega)[wl,a,b,c]
theorem Vy{u:Str}{i:Nat}(h:i<4)(b:∀j:Nat,j<i->vF j≠u)(a:vF i=u):lc.idxOf u=i:=by
 have:i=0\/i=1\/i=2\/i=3:=by omega
 subst a;rcases this with rfl|rfl|rfl|rfl<;>decide
theorem QD{u:Str}(a:∀j:Nat,j<4->vF j≠u):lc.idxOf u=4:=by
 have:u∉lc:=by
  intro h;simp only[lc,List.mem_cons,List.not_mem_nil,or_false]at h;rcases h with h|h|h|h
  ·exact a 0 (by omega) (by rw[h];rfl)
  ·exact a 1 (by omega) (by rw[h];rfl)
  ·exact a 2 (by omega) (by rw[h];rfl)
  ·exact a 3 (by omega) (by rw[h];rfl)
 exact List.idxOf_eq_length this
theorem Vz(s:Str)(f:s.length<1000000):Fn G T_ 222 [.str s] (.int .u8 (lV s)):=by
 refine ae hm EB (by simp) ?_;have d:=Ic s f;unfold lV;obtain⟨u,a⟩:∃u,upper s=u:=⟨_,rfl⟩;have g:Pa.upper s=u:=a;rw[a]at d;simp[vD];refine aa d ?_;simp(disch:=omega)[wl];refine be hm [] (fun i:Nat=>[(3,.val (.int .u8 i)),(0,.val (.str u))]) (fun _=>[]) (fun i=>i<=4/\∀j:Nat,j<i->vF j≠u) (fun i=>4-i) 0 ⟨by omega,fun j k=>by omega⟩ ?_ ?_
 ·simp;exact bp
 rintro i ⟨m,c⟩;simp;have l:=QC (i:Int);by_cases h:i<4
 ·simp(disch:=omega)[wl];refine aa l ?_;by_cases b:vF i=u
  ·have:=Vy h c b;simp(disch:=omega)[wl,b];simp[a,this]
  ·simp(disch:=omega)[wl,b]
   refine ai (i+1) ⟨by omega,fun j k=>by
    by_cases e:j=i
    ·rw[e];exact b
    ·exact c j (by omega)⟩ (by omega) ?_
   simp;exact bp
 ·obtain rfl:i=4:=by omega
  have:=QD c;simp(disch:=omega)[wl];simp[a,this]
def nX(p:Rl×Int):IV:=.tuple [.agg [.int .u8 p.1.1,.str p.1.2],.int .i64 p.2]
theorem aaU(x:Ln)(i:FitX x):Fn G T_ 153 [x.iv] (nX (O5 x)):=by
 obtain⟨R,a⟩:∃R,O5 x=R:=⟨_,rfl⟩;rw[a];unfold O5 at a;have c:=GY x.p EC (by have:=i.p;omega) (fun p o=>by have:=i.f.v p o;omega);have n:=O6 x.v (by have:=i.v;omega);refine ae hm IK (by simp) ?_;simp[zy,Ln.iv];by_cases f:x.n=SH
 ·have g:x.n=[82,69,76,65,84,69,68,45,84,79]:=f;cases d:gB x.p EC with
  |none=>
   have j:O4 x=0:=by unfold O4;rw[d]
   have b:qR x=if jF x.v=true then 0 else 4:=by unfold qR;rw[if_neg (by simp[f]),d]
   rw[d]at c;simp only[gP,Pm.iv]at c;simp(disch:=omega)[wl,g];refine aa c ?_;simp(disch:=omega)[wl];refine aa n ?_;cases h:jF x.v with
   |true=>
    rw[b,if_pos h,if_pos rfl,j]at a;subst a;simp(disch:=omega)[wl,nX]
   |false=>
    have e:qR x=4:=by rw[b,if_neg (by simp[h])]
    rw[e,if_neg (show ¬((4:Int)=0) by decide)]at a;subst a;simp(disch:=omega)[wl,nX]
  |some p=>
   have k:p∈x.p:=List.mem_of_find?_eq_some d;rw[d]at c;simp only[gP,Pm.iv]at c;by_cases l:p.v.length=1
   ·have b:qR x=if jF x.v=true then 0 else 4:=by unfold qR;rw[if_neg (by simp[f]),d];simp only;rw[if_neg (by simp[l])]
    obtain⟨v,m⟩:∃v,p.v=[v]:=List.length_eq_one_iff.1 l;have j:O4 x=lV v:=by unfold O4;rw[d];simp only[m];rfl
    have q:=Vz v (by have:=i.f.t p k v (by rw[m];simp);omega);have e1:ts p.v=[[.str v]]:=by rw[m];rfl
    rw[e1]at c;simp(disch:=omega)[wl,g];refine aa c ?_;simp(disch:=omega)[wl];refine aa n ?_;cases h:jF x.v with
    |true=>
     rw[b,if_pos h,if_pos rfl,j]at a;subst a;simp(disch:=omega)[wl];refine aa q ?_;simp(disch:=omega)[wl,nX]
    |false=>
     have e:qR x=4:=by rw[b,if_neg (by simp[h])]
     rw[e,if_neg (show ¬((4:Int)=0) by decide)]at a;subst a;simp(disch:=omega)[wl,nX]
   ·have b:qR x=20:=by unfold qR;rw[if_neg (by simp[f]),d];simp only;rw[if_pos l]
    rw[b,if_neg (by omega)]at a;subst a;simp(disch:=omega)[wl,g];refine aa c ?_;simp(disch:=omega)[wl,aQ,nX]
 ·have g:¬x.n=[82,69,76,65,84,69,68,45,84,79]:=f;have b:qR x=11:=by unfold qR;rw[if_pos f]
  rw[b,if_neg (by omega)]at a;subst a;simp(disch:=omega)[wl,g,nX]
end Go.Vs.YtcjeehebikeghaaGreatDoor
