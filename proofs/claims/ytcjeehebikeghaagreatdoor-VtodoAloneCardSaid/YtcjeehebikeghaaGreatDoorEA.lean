/- A part of a proof. No conditions. -/
import Derived.Test.YtcjeehebikeghaaGreatDoorNI
import Derived.Test.YtcjeehebikeghaaGreatDoorCG
set_option linter.unusedVariables false
set_option linter.unusedSimpArgs false
set_option maxRecDepth 100000
set_option maxHeartbeats 8000000
namespace Go.Vs.YtcjeehebikeghaaGreatDoor
open Go.Proofs
def ye:VCode:=Q_ 2 [.K (cb false)] (.seq (C_ 6 11 [.m 0,.t [],.w,.m 0,.h,.i .gtr 24,.O] (Q_ 2 [.K (cb false)] .ret) .skip) (.seq (Q_ 3 [.n 0] (.block 0 (.loop (.seq (C_ 13 15 [.m 3,.m 0,.h,.b .lss] .skip (.exit 0)) (.seq (.block 1 (R_ 19 21 [.m 0,.m 3,.y,.a 4] (R_ 22 35 [.m 4,.U .geq 97,.z,.m 4,.U .leq 122,.A,.w,.m 4,.U .geq 65,.z,.m 4,.U .leq 90,.A,.O,.a 5] (C_ 36 46 [.m 5,.u,.z,.m 4,.c1 199,.u,.A,.z,.m 4,.g (.call 200 [cs [45,46,95,64],tm 44]),.i .lss 0,.A] (Q_ 2 [.K (cb false)] .ret) .skip)))) (X_ 17 18 [.m 3,.P 1,.a 3])))))) (Q_ 2 [.K (cb true)] .ret)))
theorem EP:FnOk T_ 138 ye [.tmp 2] 48:=fK_ Tryz.func138
def vI:VCode:=Q_ 1 [.X 0,.Z z_9,.n 0] (.seq (C_ 7 8 [.F 0 1,.l,.g (.bin .neq (tm 8) (cs [82,69,76,65,84,69,68,45,84,79]))] (R_ 10 10 [.D z_9,.s 2 2,.j 3 11] .ret) .skip) (V_ 12 16 [.F 1 1,.l,.g (.call 143 [tm 13,cs [82,69,76,84,89,80,69]]),.a 11,.e 11 0,.e 11 1,.Y 4 z_5,.T 2 4 15,.a 5] (.seq (C_ 17 22 [.m 5,.z,.F 1 4,.l,.v,.N 1,.A] (R_ 24 24 [.D z_9,.s 2 2,.j 3 20] .ret) .skip) (.seq (C_ 25 27 [.F 2 1,.l,.c1 138,.u] (R_ 29 29 [.D z_9,.s 2 2,.j 3 4] .ret) .skip) (R_ 30 32 [.F 2 1,.l,.g (.build z_9 [(0,1,cu 0),(1,1,tm 31)]),.Y 6 z_9,.s 2 6] (.seq (Q_ 33 [.m 5] (c_ 33 (X_ 34 39 [.F 1 4,.l,.g (.indexAddr 1 (tm 35) (ci 0)),.l,.c1 222,.F 0 6,.T 1 39 38]) .skip)) (R_ 40 40 [.W 2 6,.s 2 2,.j 3 0] .ret)))))))
theorem Dc:FnOk T_ 153 vI [.cell 2 (some 2),.tmp 3] 41:=fK_ Tryz.func153
def vK:VCode:=Q_ 2 [.K (cs [])] (R_ 6 7 [.m 0,.g (.call 223 [tm 6,cs [48,49,50,51,52,53,54,55,56,57]]),.a 3] (V_ 9 12 [.m 3,.g (.call 224 [tm 9,cs [46]]),.a 8,.e 8 0,.e 8 1,.M 4 11,.a 5] (.seq (C_ 13 29 [.m 0,.c1 138,.u,.w,.m 3,.h,.m 0,.h,.b .eql,.O,.w,.m 5,.u,.O,.w,.m 4,.t [],.O] (R_ 31 31 [.m 0,.a 2] .ret) .skip) (R_ 32 32 [.m 4,.a 2] .ret))))
theorem Dd:FnOk T_ 155 vK [.tmp 2] 33:=fK_ Tryz.func155
def qv:VCode:=Q_ 2 [.K (cb false)] (R_ 3 8 [.m 0,.U .geq 48,.z,.m 0,.U .leq 57,.A,.a 2] .ret)
theorem yg:FnOk T_ 199 qv [.tmp 2] 9:=fK_ Tryz.func199
def rU:VCode:=Q_ 2 [.K (cu 0)] (R_ 4 5 [.m 0,.c1 141,.a 0] (.seq (Q_ 3 [.K (cu 0)] (.block 0 (.loop (.seq (C_ 6 6 [.m 3,.U .lss 4] .skip (.exit 0)) (.seq (.block 1 (C_ 10 12 [.m 3,.c1 288,.m 0,.b .eql] (R_ 14 14 [.m 3,.a 2] .ret) .skip)) (X_ 8 9 [.m 3,.U .add 1,.a 3])))))) (Q_ 2 [.K (cu 4)] .ret)))
theorem zN:FnOk T_ 222 rU [.tmp 2] 15:=fK_ Tryz.func222
def pc:VCode:=Q_ 2 [.K (cs [])] (.seq (Q_ 3 [.m 0] (.block 0 (R_ 5 5 [.g (.bin .eql (tm 3) (cu 0)),.a 4] (c_ 4 (Q_ 2 [.K (cs [80,65,82,69,78,84])] .ret) (R_ 7 7 [.g (.bin .eql (tm 3) (cu 1)),.a 6] (c_ 6 (Q_ 2 [.K (cs [67,72,73,76,68])] .ret) (R_ 9 9 [.g (.bin .eql (tm 3) (cu 2)),.a 8] (c_ 8 (Q_ 2 [.K (cs [83,73,66,76,73,78,71])] .ret) .skip)))))))) (Q_ 2 [.K (cs [68,69,80,69,78,68,83,45,79,78])] .ret))
theorem wZ:FnOk T_ 288 pc [.tmp 2] 10:=fK_ Tryz.func288
open Go.Vs.U8 Go.Vs.Pa Go.Vs.Nu
abbrev Rl:=Int×Str
def QJ:Str:=[82,69,76,65,84,69,68,45,84,79]
def HB:Str:=[82,69,76,84,89,80,69]
def JJ:List Str:=[[80,65,82,69,78,84],[67,72,73,76,68],[83,73,66,76,73,78,71],[68,69,80,69,78,68,83,45,79,78]]
def HD(s:Str):Int:=(JJ.idxOf (upper s):Nat)
def De(k:Int):Str:=if k=0 then [80,65,82,69,78,84]else if k=1 then [67,72,73,76,68]else if k=2 then [83,73,66,76,73,78,71]else [68,69,80,69,78,68,83,45,79,78]
def QK(x:Ln):Int:=match gK x.p HB with
 |some p=>HD (p.v.getD 0 [])
 |none=>0
def B8(x:Ln):Int:=if x.n≠QJ then 11 else match gK x.p HB with
 |some p=>if p.v.length≠1 then 20 else if pz x.v=true then 0 else 4
 |none=>if pz x.v=true then 0 else 4
def QL(x:Ln):Rl×Int:=if B8 x=0 then ((QK x,x.v),0)else ((0,[]),B8 x)
open Go.Lib
theorem Lr(c:UInt8):Fn G T_ 199 [.int .u8 c.toNat] (.bool (dL c)):=by
 refine ag hm yg (by simp) ?_;simp[qv];by_cases h1:48<=c.toNat
 ·by_cases h2:c.toNat<=57
  ·have hd:dL c=true:=by simp[dL];omega
   rw[hd];simp(disch:=omega)[wl,h1,h2];omega
  ·have hd:dL c=false:=by simp[dL];omega
   rw[hd];simp(disch:=omega)[wl,h1,h2];omega
 ·have hd:dL c=false:=by simp[dL];omega
  rw[hd];simp(disch:=omega)[wl,h1]
theorem QM(c:UInt8):0<=mB [45,46,95,64] c↔(c.toNat=45\/c.toNat=46\/c.toNat=95\/c.toNat=64):=by
 have h:=CJ [45,46,95,64] c
 have e:c∈([45,46,95,64]:Str)↔(c.toNat=45\/c.toNat=46\/c.toNat=95\/c.toNat=64):=by
  simp only[List.mem_cons,List.not_mem_nil,or_false];constructor
  ·rintro(rfl|rfl|rfl|rfl)<;>simp
  ·rintro(h|h|h|h)
   ·exact .inl (UInt8.toNat_inj.1 h)
   ·exact .inr (.inl (UInt8.toNat_inj.1 h))
   ·exact .inr (.inr (.inl (UInt8.toNat_inj.1 h)))
   ·exact .inr (.inr (.inr (UInt8.toNat_inj.1 h)))
 rw[<-e];by_cases hc:c∈([45,46,95,64]:Str)
 ·have:¬mB [45,46,95,64] c<0:=fun h'=>(h.1 h') hc
  exact⟨fun _=>hc,fun _=>by omega⟩
 ·have:mB [45,46,95,64] c<0:=h.2 hc;exact⟨fun h'=>by omega,fun h'=>absurd h' hc⟩
theorem HE(s:Str)(hs:s.length<1000000):Fn G T_ 138 [.str s] (.bool (pz s)):=by
 refine ag hm EP (by simp) ?_;simp[ye];by_cases h0:s=[]
 ·have:pz s=false:=by rw[h0];rfl
  rw[this];simp(disch:=omega)[wl,h0]
 ·by_cases h1:24<s.length
  ·have:pz s=false:=by
    cases e:pz s with
    |false=>rfl
    |true=>have:=(Qp s).1 e;omega
   rw[this];simp(disch:=omega)[wl,h0]
  ·have hp:1<=s.length:=List.length_pos_iff.2 h0
   have hR:pz s=s.all jS:=by
    have h2:s.length<=24:=by omega
    unfold pz;rw[decide_eq_true hp,decide_eq_true h2];rfl
   rw[hR];simp(disch:=omega)[wl,h0];refine ce hm [] (fun i:Nat=>[(3,.val (.int .i64 i))]) (fun _=>[]) (fun i=>i<=s.length/\(s.drop i).all jS=s.all jS) (fun i=>s.length-i) 0 ⟨by omega,by simp⟩ ?_ ?_
   ·simp;exact bQ
   rintro i ⟨hi,hc⟩;simp;by_cases h:i<s.length
   ·obtain⟨c,hx⟩:∃c,s[i]=c:=⟨_,rfl⟩;have hd:s.drop i=c::s.drop (i+1):=by rw[<-hx];exact List.drop_eq_getElem_cons h
    rw[hd,List.all_cons]at hc;have next:jS c=true->(s.drop (i+1)).all jS=s.all jS:=fun e=>by rw[<-hc,e,Bool.true_and]
    have bad:jS c=false->s.all jS=false:=fun e=>by rw[<-hc,e];rfl
    have hD:=Lr c;have hI:=xX [45,46,95,64] c;have hix:=QM c;obtain⟨q,hq⟩:∃q,mB [45,46,95,64] c=q:=⟨_,rfl⟩;rw[hq]at hI hix;have hreg:(65<=c.toNat/\c.toNat<=90)\/(97<=c.toNat/\c.toNat<=122)\/c.toNat<65\/(90<c.toNat/\c.toNat<97)\/122<c.toNat:=by omega
    rcases hreg with r|r|r|r|r
    ·have hu:jS c=true:=by simp[jS];omega
     simp(disch:=omega)[wl,hx];refine au (i+1) ⟨by omega,next hu⟩ (by omega) ?_;simp;exact bQ
    ·have hu:jS c=true:=by simp[jS];omega
     simp(disch:=omega)[wl,hx];refine au (i+1) ⟨by omega,next hu⟩ (by omega) ?_;simp;exact bQ
    ·simp(disch:=omega)[wl,hx];refine aa hD ?_;by_cases hdg:dL c=true
     ·have hu:jS c=true:=Qo hdg;simp(disch:=omega)[wl,hdg];refine au (i+1) ⟨by omega,next hu⟩ (by omega) ?_;simp;exact bQ
     ·have hdg':dL c=false:=by simpa using hdg
      have hn:¬(48<=c.toNat/\c.toNat<=57):=fun e=>hdg (by simp[dL];omega)
      simp(disch:=omega)[wl,hdg'];refine aa hI ?_;by_cases hqs:0<=q
      ·have hs4:=hix.1 hqs;have hu:jS c=true:=by simp[jS];omega
       simp(disch:=omega)[wl];refine au (i+1) ⟨by omega,next hu⟩ (by omega) ?_;simp;exact bQ
      ·have hs4:¬(c.toNat=45\/c.toNat=46\/c.toNat=95\/c.toNat=64):=fun e=>hqs (hix.2 e)
       have hu:jS c=false:=by
        cases e:jS c with
        |false=>rfl
        |true=>simp[jS]at e;omega
       rw[bad hu];simp(disch:=omega)[wl]
    ·have hdg':dL c=false:=by
      cases e:dL c with
      |false=>rfl
      |true=>simp[dL]at e;omega
     simp(disch:=omega)[wl,hx];refine aa hD ?_;simp(disch:=omega)[wl,hdg'];refine aa hI ?_;by_cases hqs:0<=q
     ·have hs4:=hix.1 hqs;have hu:jS c=true:=by simp[jS];omega
      simp(disch:=omega)[wl];refine au (i+1) ⟨by omega,next hu⟩ (by omega) ?_;simp;exact bQ
     ·have hs4:¬(c.toNat=45\/c.toNat=46\/c.toNat=95\/c.toNat=64):=fun e=>hqs (hix.2 e)
      have hu:jS c=false:=by
       cases e:jS c with
       |false=>rfl
       |true=>simp[jS]at e;omega
      rw[bad hu];simp(disch:=omega)[wl]
    ·have hdg':dL c=false:=by
      cases e:dL c with
      |false=>rfl
      |true=>simp[dL]at e;omega
     have hqs:q<0:=by
      by_cases h0:0<=q
      ·have:=hix.1 h0;omega
      ·omega
     have hu:jS c=false:=by
      cases e:jS c with
      |false=>rfl
      |true=>simp[jS]at e;omega
     simp(disch:=omega)[wl,hx];refine aa hD ?_;simp(disch:=omega)[wl,hdg'];refine aa hI ?_;rw[bad hu];simp(disch:=omega)[wl]
   ·obtain rfl:i=s.length:=by omega
    have:s.all jS=true:=by rw[<-hc];simp
    rw[this];simp(disch:=omega)[wl]
def mG(s:Str):Bool:=decide (s.getLast?=some 46)
theorem QN(s:Str):s.drop (s.length-1)=[46]↔s.getLast?=some 46:=by
 rcases List.eq_nil_or_concat s with rfl|⟨l,x,rfl⟩
 ·simp
 ·simp
theorem HF(s:Str)(hs:s.length<1000000):Fn G T_ 335 [.str s,.str [46]] (.bool (mG s)):=by
 refine ag hm kn (by simp) ?_;simp[fG];by_cases h:1<=s.length
 ·obtain⟨k,hk⟩:∃k,s.length=k+1:=⟨s.length-1,by omega⟩;have e0:(s.length:Int)-1=(k:Int):=by omega
  have hd:=QN s;rw[show s.length-1=k by omega]at hd;have hdk:mG s=decide (s.drop k=[46]):=by unfold mG;rw[decide_eq_decide];exact hd.symm
  have htk:(s.drop k).take (s.length-k)=s.drop k:=List.take_of_length_le (by rw[List.length_drop];omega);rw[hdk];simp(disch:=omega)[wl,e0,htk];omega
 ·have:s=[]:=List.length_eq_zero_iff.1 (by omega);subst this;simp(disch:=omega)[wl];rfl
theorem Df(s:Str)(hs:s.length<1000000):Fn G T_ 293 [.str s,.str [46]] (.tuple [.str (if mG s=true then s.dropLast else s),.bool (mG s)]):=by
 refine ag hm kl (by simp) ?_;have hH:=HF s hs;simp[fE];refine aa hH ?_;cases hd:mG s with
 |false=>simp(disch:=omega)[wl]
 |true=>
  have hl:1<=s.length:=by
   cases s with
   |nil=>simp[mG]at hd
   |cons c r=>simp
  have e0:((s.length:Int)-1).toNat=s.length-1:=by omega
  have e1:s.take (s.length-1)=s.dropLast:=List.dropLast_eq_take.symm;simp(disch:=omega)[wl,e0,e1]
  try omega
theorem HG(s:Str)(hs:s.length<1000000):Fn G T_ 224 [.str s,.str [46]] (.tuple [.str (if mG s=true then s.dropLast else s),.bool (mG s)]):=by
 refine ag hm ti (by simp) ?_;simp[mW];refine aa (Df s hs) ?_;simp
theorem Tf(s:Str)(hs:s.length<1000000):Fn G T_ 155 [.str s] (.str (xY s)):=by
 refine ag hm Dd (by simp) ?_;have hT:=Ht s hs;have htl:=Gb s;have hC:=HG (dS s) (by omega);have hU:=HE s hs;obtain⟨t,ht⟩:∃t,dS s=t:=⟨_,rfl⟩;obtain⟨R,hR⟩:∃R,xY s=R:=⟨_,rfl⟩;rw[hR];unfold xY at hR;rw[ht]at hT htl hC hR;simp[vK];refine aa hT ?_;simp(disch:=omega)[wl];refine aa hC ?_;simp(disch:=omega)[wl];refine aa hU ?_;by_cases h1:pz s=true
 ·by_cases h2:t.length=s.length
  ·rw[if_neg (fun h=>h.2.1 h2)]at hR;subst hR;simp(disch:=omega)[wl,h1,h2]
  ·cases h3:mG t with
   |false=>
    have h3':¬t.getLast?=some 46:=by simpa[mG]using h3
    rw[if_neg (fun h=>h3' h.2.2.1)]at hR;subst hR;simp(disch:=omega)[wl,h1,h2]
   |true=>
    have h3':t.getLast?=some 46:=by simpa[mG]using h3
    by_cases h4:t.dropLast=[]
    ·rw[if_neg (fun h=>h.2.2.2 h4)]at hR;subst hR;simp(disch:=omega)[wl,h1,h2,h4]
    ·rw[if_pos ⟨h1,h2,h3',h4⟩]at hR;subst hR;simp(disch:=omega)[wl,h1,h2,h4]
 ·have h1':pz s=false:=by simpa using h1
  rw[if_neg (fun h=>h1 h.1)]at hR;subst hR;simp(disch:=omega)[wl,h1']
theorem JK(k:Int):Fn G T_ 288 [.int .u8 k] (.str (De k)):=by
 refine ag hm wZ (by simp) ?_;simp[pc];unfold De;by_cases h0:k=0
 ·rw[if_pos h0];simp(disch:=omega)[wl,h0]
 rw[if_neg h0];by_cases h1:k=1
 ·rw[if_pos h1];simp(disch:=omega)[wl,h0,h1]
 rw[if_neg h1];by_cases h2:k=2
 ·rw[if_pos h2];simp(disch:=omega)[wl,h0,h1,h2]
 rw[if_neg h2];simp(disch:=omega)[wl,h0,h1,h2]
theorem O6{u:Str}{i:Nat}(h:i<4)(hn:∀j:Nat,j<i->De j≠u)(he:De i=u):JJ.idxOf u=i:=by
 have:i=0\/i=1\/i=2\/i=3:=by omega
 subst he;rcases this with rfl|rfl|rfl|rfl<;>decide
theorem JL{u:Str}(hn:∀j:Nat,j<4->De j≠u):JJ.idxOf u=4:=by
 have:u∉JJ:=by
  intro h;simp only[JJ,List.mem_cons,List.not_mem_nil,or_false]at h;rcases h with h|h|h|h
  ·exact hn 0 (by omega) (by rw[h];rfl)
  ·exact hn 1 (by omega) (by rw[h];rfl)
  ·exact hn 2 (by omega) (by rw[h];rfl)
  ·exact hn 3 (by omega) (by rw[h];rfl)
 exact List.idxOf_eq_length this
theorem O7(s:Str)(hs:s.length<1000000):Fn G T_ 222 [.str s] (.int .u8 (HD s)):=by
 refine ag hm zN (by simp) ?_;have hU:=CN s hs;unfold HD;obtain⟨u,hu⟩:∃u,upper s=u:=⟨_,rfl⟩;have hu2:Pa.upper s=u:=hu;rw[hu]at hU;simp[rU];refine aa hU ?_;simp(disch:=omega)[wl];refine ce hm [] (fun i:Nat=>[(3,.val (.int .u8 i)),(0,.val (.str u))]) (fun _=>[]) (fun i=>i<=4/\∀j:Nat,j<i->De j≠u) (fun i=>4-i) 0 ⟨by omega,fun j hj=>by omega⟩ ?_ ?_
 ·simp;exact bQ
 rintro i ⟨hi,hn⟩;simp;have hK:=JK (i:Int);by_cases h:i<4
 ·simp(disch:=omega)[wl];refine aa hK ?_;by_cases he:De i=u
  ·have:=O6 h hn he;simp(disch:=omega)[wl,he];simp[hu,this]
  ·simp(disch:=omega)[wl,he]
   refine au (i+1) ⟨by omega,fun j hj=>by
    by_cases e:j=i
    ·rw[e];exact he
    ·exact hn j (by omega)⟩ (by omega) ?_
   simp;exact bQ
 ·obtain rfl:i=4:=by omega
  have:=JL hn;simp(disch:=omega)[wl];simp[hu,this]
def AI(p:Rl×Int):IV:=.tuple [.agg [.int .u8 p.1.1,.str p.1.2],.int .i64 p.2]
theorem Tg(x:Ln)(fx:FitX x):Fn G T_ 153 [x.iv] (AI (QL x)):=by
 obtain⟨R,hR⟩:∃R,QL x=R:=⟨_,rfl⟩;rw[hR];unfold QL at hR;have hF:=By x.p HB (by have:=fx.p;omega) (fun p hp=>by have:=fx.f.v p hp;omega);have hU:=HE x.v (by have:=fx.v;omega);refine ag hm Dc (by simp) ?_;simp[vI,Ln.iv];by_cases h1:x.n=QJ
 ·have hn:x.n=[82,69,76,65,84,69,68,45,84,79]:=h1;cases ho:gK x.p HB with
  |none=>
   have hK:QK x=0:=by unfold QK;rw[ho]
   have hE:B8 x=if pz x.v=true then 0 else 4:=by unfold B8;rw[if_neg (by simp[h1]),ho]
   rw[ho]at hF;simp only[o7,Pm.iv]at hF;simp(disch:=omega)[wl,hn];refine aa hF ?_;simp(disch:=omega)[wl];refine aa hU ?_;cases hu:pz x.v with
   |true=>
    rw[hE,if_pos hu,if_pos rfl,hK]at hR;subst hR;simp(disch:=omega)[wl,AI]
   |false=>
    have hE':B8 x=4:=by rw[hE,if_neg (by simp[hu])]
    rw[hE',if_neg (show ¬((4:Int)=0) by decide)]at hR;subst hR;simp(disch:=omega)[wl,AI]
  |some p=>
   have hpm:p∈x.p:=List.mem_of_find?_eq_some ho;rw[ho]at hF;simp only[o7,Pm.iv]at hF;by_cases hl:p.v.length=1
   ·have hE:B8 x=if pz x.v=true then 0 else 4:=by unfold B8;rw[if_neg (by simp[h1]),ho];simp only;rw[if_neg (by simp[hl])]
    obtain⟨v,hv⟩:∃v,p.v=[v]:=List.length_eq_one_iff.1 hl;have hK:QK x=HD v:=by unfold QK;rw[ho];simp only[hv];rfl
    have hO:=O7 v (by have:=fx.f.t p hpm v (by rw[hv];simp);omega);have e1:ts p.v=[[.str v]]:=by rw[hv];rfl
    rw[e1]at hF;simp(disch:=omega)[wl,hn];refine aa hF ?_;simp(disch:=omega)[wl];refine aa hU ?_;cases hu:pz x.v with
    |true=>
     rw[hE,if_pos hu,if_pos rfl,hK]at hR;subst hR;simp(disch:=omega)[wl];refine aa hO ?_;simp(disch:=omega)[wl,AI]
    |false=>
     have hE':B8 x=4:=by rw[hE,if_neg (by simp[hu])]
     rw[hE',if_neg (show ¬((4:Int)=0) by decide)]at hR;subst hR;simp(disch:=omega)[wl,AI]
   ·have hE:B8 x=20:=by unfold B8;rw[if_neg (by simp[h1]),ho];simp only;rw[if_pos hl]
    rw[hE,if_neg (by omega)]at hR;subst hR;simp(disch:=omega)[wl,hn];refine aa hF ?_;simp(disch:=omega)[wl,bE,AI]
 ·have hn:¬x.n=[82,69,76,65,84,69,68,45,84,79]:=h1;have hE:B8 x=11:=by unfold B8;rw[if_pos h1]
  rw[hE,if_neg (by omega)]at hR;subst hR;simp(disch:=omega)[wl,hn,AI]
end Go.Vs.YtcjeehebikeghaaGreatDoor
namespace Go.Vs.YtcjeehebikeghaaGreatDoor
open Go.Proofs Go.Vs.U8 Go.Vs.Pa Go.Vs.Nu
theorem Ge:∀(n:Nat) (l:Str),l.length<=n->(∀c∈l,32<=c.toNat/\c.toNat<127)->zz l=none
 |n,[],_,_=>rfl
 |0,c::r,h,_=>by simp at h
 |n+1,c::r,h,hc=>by
  obtain⟨h1,h2⟩:=hc c (by simp);have hs:eo (c::r)=1:=by simp only[eo];rw[if_pos (by omega)]
  have ho:mg (c::r)=false:=by
   simp only[mg,hs];simp;omega
  rw[xU (by simp),if_neg (by simp[ho]),hs];have:=Ge n r (by simp at h;omega) (fun d hd=>hc d (by simp[hd]));simp[this]
end Go.Vs.YtcjeehebikeghaaGreatDoor
