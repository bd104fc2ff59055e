/- The code of the seat's functions in the small typed code; printed by a program of the prover's. -/
import Derived.Test.YtcjeehebikeghaaGreatDoorNI
import Derived.Test.YtcjeehebikeghaaGreatDoorCG
set_option linter.unusedVariables false
set_option linter.unusedSimpArgs false
set_option maxRecDepth 100000
set_option maxHeartbeats 8000000
namespace Go.Vs.YtcjeehebikeghaaGreatDoor
open Go.Proofs
def jN:Nat:=138
def rp:Nat:=153
def rq:Nat:=155
def n7:Nat:=199
def nZ:Nat:=222
def m4:Nat:=288
def As:VCode:=
 r_ [k_ 2 false] [] (.seq (r_ [m_ 6 0,t_ 7 6 [],m_ 8 7,M_ 9 0 8 false,o2 10 (.lenS (tm 9)) 8 false,I_ 11 .gtr 10 24 8 false,q_ 12 8 11] [6,11] (c_ 12 (r_ [k_ 2 false] [] (.ret)) (.skip))) (.seq (r_ [j_ 3 0] [] (.block 0 (.loop (.seq (r_ [m_ 13 3,m_ 14 0,o1 15 (.lenS (tm 14)),b_ 16 .lss 13 15] [13,15] (c_ 16 (.skip) (.exit 0))) (.seq (.block 1 (r_ [m_ 19 0,m_ 20 3,o1 21 (.indexS (tm 19) (tm 20)),m_ 4 21] [19,21] (r_ [m_ 22 4,o1 23 (.bin (.geq) (tm 22) (cu 97)),m_ 24 23,M_ 25 4 24 true,o2 26 (.bin (.leq) (tm 25) (cu 122)) 24 true,p_ 27 24 26,m_ 28 27,M_ 29 4 28 false,o2 30 (.bin (.geq) (tm 29) (cu 65)) 28 false,M_ 31 30 28 false,M_ 32 4 31 true,o2 33 (.bin (.leq) (tm 32) (cu 90)) 31 true,o2 34 (.pick (tm 31) (tm 33) (cb false)) 28 false,q_ 35 28 34,m_ 5 35] [22,35] (r_ [m_ 36 5,u_ 37 36,m_ 38 37,M_ 39 4 38 true,o2 40 (.call n7 [tm 39]) 38 true,o2 41 (.un (.not) (tm 40)) 38 true,p_ 42 38 41,m_ 43 42,M_ 44 4 43 true,o2 45 (.call gL [cs [45,46,95,64],tm 44]) 43 true,I_ 46 .lss 45 0 43 true,p_ 47 43 46] [36,46] (c_ 47 (r_ [k_ 2 false] [] (.ret)) (.skip)))))) (rt [m_ 17 3,i_ 18 .add 17 1,m_ 3 18] [17,18])))))) (r_ [k_ 2 true] [] (.ret))))
def Au:List VRes:=[.tmp 2]
theorem HO:FnOk Tryz.prog jN As Au 48:=
 ⟨⟨Tryz.f138,_,Tryz.func138,by decide,rfl,by kernel_rfl,by kernel_rfl,by kernel_rfl,rfl⟩⟩

def xI:VCode:=
 r_ [o1 1 (.box (tm 0)),o1 2 (.alloc [.val (.int (.u8) 0),.val (.str [])]),j_ 3 0] [] (.seq (r_ [f_ 7 0 1,l_ 8 7,o1 9 (.bin (.neq) (tm 8) (cs [82,69,76,65,84,69,68,45,84,79]))] [7,8] (c_ 9 (r_ [o1 10 (.build [.val (.int (.u8) 0),.val (.str [])] []),o3 (.store 2 (tm 2) (tm 10)),j_ 3 11] [10,10] (.ret)) (.skip))) (r_ [f_ 12 1 1,l_ 13 12,o1 14 (.call jM [tm 13,cs [82,69,76,84,89,80,69]]),m_ 11 14,e_ 15 11 0,e_ 16 11 1,o1 4 (.alloc [.val (.str []),.nils]),o3 (.store 2 (tm 4) (tm 15)),m_ 5 16] [11,16] (.seq (r_ [m_ 17 5,m_ 18 17,F_ 19 1 4 18 true,L_ 20 19 18 true,o2 21 (.lenV (tm 20)) 18 true,I_ 22 .neq 21 1 18 true,p_ 23 18 22] [17,22] (c_ 23 (r_ [o1 24 (.build [.val (.int (.u8) 0),.val (.str [])] []),o3 (.store 2 (tm 2) (tm 24)),j_ 3 20] [24,24] (.ret)) (.skip))) (.seq (r_ [f_ 25 2 1,l_ 26 25,o1 27 (.call jN [tm 26]),u_ 28 27] [25,27] (c_ 28 (r_ [o1 29 (.build [.val (.int (.u8) 0),.val (.str [])] []),o3 (.store 2 (tm 2) (tm 29)),j_ 3 4] [29,29] (.ret)) (.skip))) (r_ [f_ 30 2 1,l_ 31 30,o1 32 (.build [.val (.int (.u8) 0),.val (.str [])] [(0,1,cu 0),(1,1,tm 31)]),o1 6 (.alloc [.val (.int (.u8) 0),.val (.str [])]),o3 (.store 2 (tm 6) (tm 32))] [30,32] (.seq (r_ [m_ 33 5] [] (c_ 33 (rt [f_ 34 1 4,l_ 35 34,o1 36 (.indexAddr 1 (tm 35) (ci 0)),l_ 37 36,o1 38 (.call nZ [tm 37]),f_ 39 0 6,o3 (.store 1 (tm 39) (tm 38))] [34,39]) (.skip))) (r_ [s_ 40 2 6,o3 (.store 2 (tm 2) (tm 40)),j_ 3 0] [40,40] (.ret))))))))
def xJ:List VRes:=[.cell 2 (some 2),.tmp 3]
theorem FO:FnOk Tryz.prog rp xI xJ 41:=
 ⟨⟨Tryz.f153,_,Tryz.func153,by decide,rfl,by kernel_rfl,by kernel_rfl,by kernel_rfl,rfl⟩⟩

def xK:VCode:=
 r_ [o1 2 (.move (cs []))] [] (r_ [m_ 6 0,o1 7 (.call ke [tm 6,cs [48,49,50,51,52,53,54,55,56,57]]),m_ 3 7] [6,7] (r_ [m_ 9 3,o1 10 (.call kf [tm 9,cs [46]]),m_ 8 10,e_ 11 8 0,e_ 12 8 1,m_ 4 11,m_ 5 12] [8,12] (.seq (r_ [m_ 13 0,o1 14 (.call jN [tm 13]),u_ 15 14,m_ 16 15,M_ 17 3 16 false,o2 18 (.lenS (tm 17)) 16 false,M_ 19 0 16 false,o2 20 (.lenS (tm 19)) 16 false,B_ 21 .eql 18 20 16 false,q_ 22 16 21,m_ 23 22,M_ 24 5 23 false,o2 25 (.un (.not) (tm 24)) 23 false,q_ 26 23 25,m_ 27 26,M_ 28 4 27 false,o2 29 (.bin (.eql) (tm 28) (cs [])) 27 false,q_ 30 27 29] [13,29] (c_ 30 (r_ [m_ 31 0,m_ 2 31] [31,31] (.ret)) (.skip))) (r_ [m_ 32 4,m_ 2 32] [32,32] (.ret)))))
def xL:List VRes:=[.tmp 2]
theorem FP:FnOk Tryz.prog rq xK xL 33:=
 ⟨⟨Tryz.f155,_,Tryz.func155,by decide,rfl,by kernel_rfl,by kernel_rfl,by kernel_rfl,rfl⟩⟩

def sj:VCode:=
 r_ [k_ 2 false] [] (r_ [m_ 3 0,o1 4 (.bin (.geq) (tm 3) (cu 48)),m_ 5 4,M_ 6 0 5 true,o2 7 (.bin (.leq) (tm 6) (cu 57)) 5 true,p_ 8 5 7,m_ 2 8] [3,8] (.ret))
def sl:List VRes:=[.tmp 2]
theorem Av:FnOk Tryz.prog n7 sj sl 9:=
 ⟨⟨Tryz.f199,_,Tryz.func199,by decide,rfl,by kernel_rfl,by kernel_rfl,by kernel_rfl,rfl⟩⟩

def u3:VCode:=
 r_ [o1 2 (.move (cu 0))] [] (r_ [m_ 4 0,o1 5 (.call nI [tm 4]),m_ 0 5] [4,5] (.seq (r_ [o1 3 (.move (cu 0))] [] (.block 0 (.loop (.seq (r_ [m_ 6 3,o1 7 (.bin (.lss) (tm 6) (cu 4))] [6,6] (c_ 7 (.skip) (.exit 0))) (.seq (.block 1 (r_ [m_ 10 3,o1 11 (.call m4 [tm 10]),m_ 12 0,b_ 13 .eql 11 12] [10,12] (c_ 13 (r_ [m_ 14 3,m_ 2 14] [14,14] (.ret)) (.skip)))) (rt [m_ 8 3,o1 9 (.bin (.add) (tm 8) (cu 1)),m_ 3 9] [8,9])))))) (r_ [o1 2 (.move (cu 4))] [] (.ret))))
def u6:List VRes:=[.tmp 2]
theorem C3:FnOk Tryz.prog nZ u3 u6 15:=
 ⟨⟨Tryz.f222,_,Tryz.func222,by decide,rfl,by kernel_rfl,by kernel_rfl,by kernel_rfl,rfl⟩⟩

def qG:VCode:=
 r_ [o1 2 (.move (cs []))] [] (.seq (r_ [m_ 3 0] [] (.block 0 (r_ [o1 5 (.bin (.eql) (tm 3) (cu 0)),m_ 4 5] [5,5] (c_ 4 (r_ [o1 2 (.move (cs [80,65,82,69,78,84]))] [] (.ret)) (r_ [o1 7 (.bin (.eql) (tm 3) (cu 1)),m_ 6 7] [7,7] (c_ 6 (r_ [o1 2 (.move (cs [67,72,73,76,68]))] [] (.ret)) (r_ [o1 9 (.bin (.eql) (tm 3) (cu 2)),m_ 8 9] [9,9] (c_ 8 (r_ [o1 2 (.move (cs [83,73,66,76,73,78,71]))] [] (.ret)) (.skip))))))))) (r_ [o1 2 (.move (cs [68,69,80,69,78,68,83,45,79,78]))] [] (.ret)))
def qH:List VRes:=[.tmp 2]
theorem yU:FnOk Tryz.prog m4 qG qH 10:=
 ⟨⟨Tryz.f288,_,Tryz.func288,by decide,rfl,by kernel_rfl,by kernel_rfl,by kernel_rfl,rfl⟩⟩

open Go.Vs.U8 Go.Vs.Pa Go.Vs.Nu
abbrev Rl:=Int×Str
def Vf:Str:=[82,69,76,65,84,69,68,45,84,79]
def Li:Str:=[82,69,76,84,89,80,69]
def NU:List Str:=[[80,65,82,69,78,84],[67,72,73,76,68],[83,73,66,76,73,78,71],[68,69,80,69,78,68,83,45,79,78]]
def Lj(s:Str):Int:=(NU.idxOf (upper s):Nat)
def FQ(k:Int):Str:=if k=0 then [80,65,82,69,78,84]else if k=1 then [67,72,73,76,68]else if k=2 then [83,73,66,76,73,78,71]else [68,69,80,69,78,68,83,45,79,78]
def Vg(x:Ln):Int:=match iw x.p Li with
 |some p=>Lj (p.v.getD 0 [])
 |none=>0
def Dy(x:Ln):Int:=if x.n≠Vf then 11 else match iw x.p Li with
 |some p=>if p.v.length≠1 then 20 else if ra x.v=true then 0 else 4
 |none=>if ra x.v=true then 0 else 4
def Vh(x:Ln):Rl×Int:=if Dy x=0 then ((Vg x,x.v),0)else ((0,[]),Dy x)
open Go.Lib
theorem PJ(c:UInt8):Fn G Tryz.prog n7 [.int .u8 c.toNat] (.bool (dS c)):=by
 refine ag hm Av (by simp) ?_;simp[sj,sl];by_cases h1:48≤c.toNat
 ·by_cases h2:c.toNat≤57
  ·have hd:dS c=true:=by simp[dS];omega
   rw[hd];simp(disch:=omega)[wl,h1,h2];omega
  ·have hd:dS c=false:=by simp[dS];omega
   rw[hd];simp(disch:=omega)[wl,h1,h2];omega
 ·have hd:dS c=false:=by simp[dS];omega
  rw[hd];simp(disch:=omega)[wl,h1]
theorem Vi(c:UInt8):0≤nW [45,46,95,64] c↔(c.toNat=45∨c.toNat=46∨c.toNat=95∨c.toNat=64):=by
 have h:=Fi [45,46,95,64] c
 have e:c∈([45,46,95,64]:Str)↔(c.toNat=45∨c.toNat=46∨c.toNat=95∨c.toNat=64):=by
  simp only[List.mem_cons,List.not_mem_nil,or_false];constructor
  ·rintro(rfl|rfl|rfl|rfl)<;>simp
  ·rintro(h|h|h|h)
   ·exact .inl (UInt8.toNat_inj.1 h)
   ·exact .inr (.inl (UInt8.toNat_inj.1 h))
   ·exact .inr (.inr (.inl (UInt8.toNat_inj.1 h)))
   ·exact .inr (.inr (.inr (UInt8.toNat_inj.1 h)))
 rw[←e];by_cases hc:c∈([45,46,95,64]:Str)
 ·have:¬nW [45,46,95,64] c<0:=fun h'=>(h.1 h') hc
  exact⟨fun _=>hc,fun _=>by omega⟩
 ·have:nW [45,46,95,64] c<0:=h.2 hc;exact⟨fun h'=>by omega,fun h'=>absurd h' hc⟩
theorem Lk(s:Str)(hs:s.length<1000000):Fn G Tryz.prog jN [.str s] (.bool (ra s)):=by
 refine ag hm HO (by simp) ?_;simp[As,Au];by_cases h0:s=[]
 ·have:ra s=false:=by rw[h0];rfl
  rw[this];simp(disch:=omega)[wl,h0]
 ·by_cases h1:24<s.length
  ·have:ra s=false:=by
    cases e:ra s with
    |false=>rfl
    |true=>have:=(UP s).1 e;omega
   rw[this];simp(disch:=omega)[wl,h0]
  ·have hp:1≤s.length:=List.length_pos_iff.2 h0
   have hR:ra s=s.all kP:=by
    have h2:s.length≤24:=by omega
    unfold ra;rw[decide_eq_true hp,decide_eq_true h2];rfl
   rw[hR];simp(disch:=omega)[wl,h0];refine bS hm [] (fun i:Nat=>[(3,.val (.int .i64 i))]) (fun _=>[]) (fun i=>i≤s.length∧(s.drop i).all kP=s.all kP) (fun i=>s.length-i) 0 ⟨by omega,by simp⟩ ?_ ?_
   ·simp;exact bT
   rintro i ⟨hi,hc⟩;simp;by_cases h:i<s.length
   ·obtain⟨c,hx⟩:∃c,s[i]=c:=⟨_,rfl⟩;have hd:s.drop i=c::s.drop (i+1):=by rw[←hx];exact List.drop_eq_getElem_cons h
    rw[hd,List.all_cons]at hc;have next:kP c=true→(s.drop (i+1)).all kP=s.all kP:=fun e=>by rw[←hc,e,Bool.true_and]
    have bad:kP c=false→s.all kP=false:=fun e=>by rw[←hc,e];rfl
    have hD:=PJ c;have hI:=A3 [45,46,95,64] c;have hix:=Vi c;obtain⟨q,hq⟩:∃q,nW [45,46,95,64] c=q:=⟨_,rfl⟩;rw[hq]at hI hix;have hreg:(65≤c.toNat∧c.toNat≤90)∨(97≤c.toNat∧c.toNat≤122)∨c.toNat<65∨(90<c.toNat∧c.toNat<97)∨122<c.toNat:=by omega
    rcases hreg with r|r|r|r|r
    ·have hu:kP c=true:=by simp[kP];omega
     simp(disch:=omega)[wl,hx];refine aq (i+1) ⟨by omega,next hu⟩ (by omega) ?_;simp;exact bT
    ·have hu:kP c=true:=by simp[kP];omega
     simp(disch:=omega)[wl,hx];refine aq (i+1) ⟨by omega,next hu⟩ (by omega) ?_;simp;exact bT
    ·simp(disch:=omega)[wl,hx];refine aa hD ?_;by_cases hdg:dS c=true
     ·have hu:kP c=true:=UO hdg;simp(disch:=omega)[wl,hdg];refine aq (i+1) ⟨by omega,next hu⟩ (by omega) ?_;simp;exact bT
     ·have hdg':dS c=false:=by simpa using hdg
      have hn:¬(48≤c.toNat∧c.toNat≤57):=fun e=>hdg (by simp[dS];omega)
      simp(disch:=omega)[wl,hdg'];refine aa hI ?_;by_cases hqs:0≤q
      ·have hs4:=hix.1 hqs;have hu:kP c=true:=by simp[kP];omega
       simp(disch:=omega)[wl];refine aq (i+1) ⟨by omega,next hu⟩ (by omega) ?_;simp;exact bT
      ·have hs4:¬(c.toNat=45∨c.toNat=46∨c.toNat=95∨c.toNat=64):=fun e=>hqs (hix.2 e)
       have hu:kP c=false:=by
        cases e:kP c with
        |false=>rfl
        |true=>simp[kP]at e;omega
       rw[bad hu];simp(disch:=omega)[wl]
    ·have hdg':dS c=false:=by
      cases e:dS c with
      |false=>rfl
      |true=>simp[dS]at e;omega
     simp(disch:=omega)[wl,hx];refine aa hD ?_;simp(disch:=omega)[wl,hdg'];refine aa hI ?_;by_cases hqs:0≤q
     ·have hs4:=hix.1 hqs;have hu:kP c=true:=by simp[kP];omega
      simp(disch:=omega)[wl];refine aq (i+1) ⟨by omega,next hu⟩ (by omega) ?_;simp;exact bT
     ·have hs4:¬(c.toNat=45∨c.toNat=46∨c.toNat=95∨c.toNat=64):=fun e=>hqs (hix.2 e)
      have hu:kP c=false:=by
       cases e:kP c with
       |false=>rfl
       |true=>simp[kP]at e;omega
      rw[bad hu];simp(disch:=omega)[wl]
    ·have hdg':dS c=false:=by
      cases e:dS c with
      |false=>rfl
      |true=>simp[dS]at e;omega
     have hqs:q<0:=by
      by_cases h0:0≤q
      ·have:=hix.1 h0;omega
      ·omega
     have hu:kP c=false:=by
      cases e:kP c with
      |false=>rfl
      |true=>simp[kP]at e;omega
     simp(disch:=omega)[wl,hx];refine aa hD ?_;simp(disch:=omega)[wl,hdg'];refine aa hI ?_;rw[bad hu];simp(disch:=omega)[wl]
   ·obtain rfl:i=s.length:=by omega
    have:s.all kP=true:=by rw[←hc];simp
    rw[this];simp(disch:=omega)[wl]
def o0(s:Str):Bool:=decide (s.getLast?=some 46)
theorem Vj(s:Str):s.drop (s.length-1)=[46]↔s.getLast?=some 46:=by
 rcases List.eq_nil_or_concat s with rfl|⟨l,x,rfl⟩
 ·simp
 ·simp
theorem Ll(s:Str)(hs:s.length<1000000):Fn G Tryz.prog dE [.str s,.str [46]] (.bool (o0 s)):=by
 refine ag hm lz (by simp) ?_;simp[gk,gn];by_cases h:1≤s.length
 ·obtain⟨k,hk⟩:∃k,s.length=k+1:=⟨s.length-1,by omega⟩;have e0:(s.length:Int)-1=(k:Int):=by omega
  have hd:=Vj s;rw[show s.length-1=k by omega]at hd;have hdk:o0 s=decide (s.drop k=[46]):=by unfold o0;rw[decide_eq_decide];exact hd.symm
  have htk:(s.drop k).take (s.length-k)=s.drop k:=List.take_of_length_le (by rw[List.length_drop];omega);rw[hdk];simp(disch:=omega)[wl,e0,htk];omega
 ·have:s=[]:=List.length_eq_zero_iff.1 (by omega);subst this;simp(disch:=omega)[wl];rfl
theorem FR(s:Str)(hs:s.length<1000000):Fn G Tryz.prog dD [.str s,.str [46]] (.tuple [.str (if o0 s=true then s.dropLast else s),.bool (o0 s)]):=by
 refine ag hm ly (by simp) ?_;have hH:=Ll s hs;simp[gi,gj];refine aa hH ?_;cases hd:o0 s with
 |false=>simp(disch:=omega)[wl]
 |true=>
  have hl:1≤s.length:=by
   cases s with
   |nil=>simp[o0]at hd
   |cons c r=>simp
  have e0:((s.length:Int)-1).toNat=s.length-1:=by omega
  have e1:s.take (s.length-1)=s.dropLast:=List.dropLast_eq_take.symm;simp(disch:=omega)[wl,e0,e1]
  try omega
theorem Lm(s:Str)(hs:s.length<1000000):Fn G Tryz.prog kf [.str s,.str [46]] (.tuple [.str (if o0 s=true then s.dropLast else s),.bool (o0 s)]):=by
 refine ag hm vn (by simp) ?_;simp[ov,ow];refine aa (FR s hs) ?_;simp
theorem XM(s:Str)(hs:s.length<1000000):Fn G Tryz.prog rq [.str s] (.str (A4 s)):=by
 refine ag hm FP (by simp) ?_;have hT:=L7 s hs;have htl:=JP s;have hC:=Lm (ez s) (by omega);have hU:=Lk s hs;obtain⟨t,ht⟩:∃t,ez s=t:=⟨_,rfl⟩;obtain⟨R,hR⟩:∃R,A4 s=R:=⟨_,rfl⟩;rw[hR];unfold A4 at hR;rw[ht]at hT htl hC hR;simp[xK,xL];refine aa hT ?_;simp(disch:=omega)[wl];refine aa hC ?_;simp(disch:=omega)[wl];refine aa hU ?_;by_cases h1:ra s=true
 ·by_cases h2:t.length=s.length
  ·rw[if_neg (fun h=>h.2.1 h2)]at hR;subst hR;simp(disch:=omega)[wl,h1,h2]
  ·cases h3:o0 t with
   |false=>
    have h3':¬t.getLast?=some 46:=by simpa[o0]using h3
    rw[if_neg (fun h=>h3' h.2.2.1)]at hR;subst hR;simp(disch:=omega)[wl,h1,h2]
   |true=>
    have h3':t.getLast?=some 46:=by simpa[o0]using h3
    by_cases h4:t.dropLast=[]
    ·rw[if_neg (fun h=>h.2.2.2 h4)]at hR;subst hR;simp(disch:=omega)[wl,h1,h2,h4]
    ·rw[if_pos ⟨h1,h2,h3',h4⟩]at hR;subst hR;simp(disch:=omega)[wl,h1,h2,h4]
 ·have h1':ra s=false:=by simpa using h1
  rw[if_neg (fun h=>h1 h.1)]at hR;subst hR;simp(disch:=omega)[wl,h1']
theorem NV(k:Int):Fn G Tryz.prog m4 [.int .u8 k] (.str (FQ k)):=by
 refine ag hm yU (by simp) ?_;simp[qG,qH];unfold FQ;by_cases h0:k=0
 ·rw[if_pos h0];simp(disch:=omega)[wl,h0]
 rw[if_neg h0];by_cases h1:k=1
 ·rw[if_pos h1];simp(disch:=omega)[wl,h0,h1]
 rw[if_neg h1];by_cases h2:k=2
 ·rw[if_pos h2];simp(disch:=omega)[wl,h0,h1,h2]
 rw[if_neg h2];simp(disch:=omega)[wl,h0,h1,h2]
theorem Su{u:Str}{i:Nat}(h:i<4)(hn:∀j:Nat,j<i→FQ j≠u)(he:FQ i=u):NU.idxOf u=i:=by
 have:i=0∨i=1∨i=2∨i=3:=by omega
 subst he;rcases this with rfl|rfl|rfl|rfl<;>decide
theorem NW{u:Str}(hn:∀j:Nat,j<4→FQ j≠u):NU.idxOf u=4:=by
 have:u∉NU:=by
  intro h;simp only[NU,List.mem_cons,List.not_mem_nil,or_false]at h;rcases h with h|h|h|h
  ·exact hn 0 (by omega) (by rw[h];rfl)
  ·exact hn 1 (by omega) (by rw[h];rfl)
  ·exact hn 2 (by omega) (by rw[h];rfl)
  ·exact hn 3 (by omega) (by rw[h];rfl)
 exact List.idxOf_eq_length this
theorem Sv(s:Str)(hs:s.length<1000000):Fn G Tryz.prog nZ [.str s] (.int .u8 (Lj s)):=by
 refine ag hm C3 (by simp) ?_;have hU:=Fm s hs;unfold Lj;obtain⟨u,hu⟩:∃u,upper s=u:=⟨_,rfl⟩;have hu2:Pa.upper s=u:=hu;rw[hu]at hU;simp[u3,u6];refine aa hU ?_;simp(disch:=omega)[wl];refine bS hm [] (fun i:Nat=>[(3,.val (.int .u8 i)),(0,.val (.str u))]) (fun _=>[]) (fun i=>i≤4∧∀j:Nat,j<i→FQ j≠u) (fun i=>4-i) 0 ⟨by omega,fun j hj=>by omega⟩ ?_ ?_
 ·simp;exact bT
 rintro i ⟨hi,hn⟩;simp;have hK:=NV (i:Int);by_cases h:i<4
 ·simp(disch:=omega)[wl];refine aa hK ?_;by_cases he:FQ i=u
  ·have:=Su h hn he;simp(disch:=omega)[wl,he];simp[hu,this]
  ·simp(disch:=omega)[wl,he]
   refine aq (i+1) ⟨by omega,fun j hj=>by
    by_cases e:j=i
    ·rw[e];exact he
    ·exact hn j (by omega)⟩ (by omega) ?_
   simp;exact bT
 ·obtain rfl:i=4:=by omega
  have:=NW hn;simp(disch:=omega)[wl];simp[hu,this]
def D5(p:Rl×Int):IV:=.tuple [.agg [.int .u8 p.1.1,.str p.1.2],.int .i64 p.2]
theorem XN(x:Ln)(fx:FitX x):Fn G Tryz.prog rp [x.iv] (D5 (Vh x)):=by
 obtain⟨R,hR⟩:∃R,Vh x=R:=⟨_,rfl⟩;rw[hR];unfold Vh at hR;have hF:=E3 x.p Li (by have:=fx.p;omega) (fun p hp=>by have:=fx.f.v p hp;omega);have hU:=Lk x.v (by have:=fx.v;omega);refine ag hm FO (by simp) ?_;simp[xI,xJ,Ln.iv];by_cases h1:x.n=Vf
 ·have hn:x.n=[82,69,76,65,84,69,68,45,84,79]:=h1;cases ho:iw x.p Li with
  |none=>
   have hK:Vg x=0:=by unfold Vg;rw[ho]
   have hE:Dy x=if ra x.v=true then 0 else 4:=by unfold Dy;rw[if_neg (by simp[h1]),ho]
   rw[ho]at hF;simp only[pE,Pm.iv]at hF;simp(disch:=omega)[wl,hn];refine aa hF ?_;simp(disch:=omega)[wl];refine aa hU ?_;cases hu:ra x.v with
   |true=>
    rw[hE,if_pos hu,if_pos rfl,hK]at hR;subst hR;simp(disch:=omega)[wl,D5]
   |false=>
    have hE':Dy x=4:=by rw[hE,if_neg (by simp[hu])]
    rw[hE',if_neg (show ¬((4:Int)=0) by decide)]at hR;subst hR;simp(disch:=omega)[wl,D5]
  |some p=>
   have hpm:p∈x.p:=List.mem_of_find?_eq_some ho;rw[ho]at hF;simp only[pE,Pm.iv]at hF;by_cases hl:p.v.length=1
   ·have hE:Dy x=if ra x.v=true then 0 else 4:=by unfold Dy;rw[if_neg (by simp[h1]),ho];simp only;rw[if_neg (by simp[hl])]
    obtain⟨v,hv⟩:∃v,p.v=[v]:=List.length_eq_one_iff.1 hl;have hK:Vg x=Lj v:=by unfold Vg;rw[ho];simp only[hv];rfl
    have hO:=Sv v (by have:=fx.f.t p hpm v (by rw[hv];simp);omega);have e1:ts p.v=[[.str v]]:=by rw[hv];rfl
    rw[e1]at hF;simp(disch:=omega)[wl,hn];refine aa hF ?_;simp(disch:=omega)[wl];refine aa hU ?_;cases hu:ra x.v with
    |true=>
     rw[hE,if_pos hu,if_pos rfl,hK]at hR;subst hR;simp(disch:=omega)[wl];refine aa hO ?_;simp(disch:=omega)[wl,D5]
    |false=>
     have hE':Dy x=4:=by rw[hE,if_neg (by simp[hu])]
     rw[hE',if_neg (show ¬((4:Int)=0) by decide)]at hR;subst hR;simp(disch:=omega)[wl,D5]
   ·have hE:Dy x=20:=by unfold Dy;rw[if_neg (by simp[h1]),ho];simp only;rw[if_pos hl]
    rw[hE,if_neg (by omega)]at hR;subst hR;simp(disch:=omega)[wl,hn];refine aa hF ?_;simp(disch:=omega)[wl,bI,D5]
 ·have hn:¬x.n=[82,69,76,65,84,69,68,45,84,79]:=h1;have hE:Dy x=11:=by unfold Dy;rw[if_pos h1]
  rw[hE,if_neg (by omega)]at hR;subst hR;simp(disch:=omega)[wl,hn,D5]
end Go.Vs.YtcjeehebikeghaaGreatDoor
namespace Go.Vs.YtcjeehebikeghaaGreatDoor
open Go.Proofs Go.Vs.U8 Go.Vs.Pa Go.Vs.Nu
theorem JS:∀(n:Nat) (l:Str),l.length≤n→(∀c∈l,32≤c.toNat∧c.toNat<127)→BQ l=none
 |n,[],_,_=>rfl
 |0,c::r,h,_=>by simp at h
 |n+1,c::r,h,hc=>by
  obtain⟨h1,h2⟩:=hc c (by simp);have hs:fc (c::r)=1:=by simp only[fc];rw[if_pos (by omega)]
  have ho:nH (c::r)=false:=by
   simp only[nH,hs];simp;omega
  rw[zZ (by simp),if_neg (by simp[ho]),hs];have:=JS n r (by simp at h;omega) (fun d hd=>hc d (by simp[hd]));simp[this]
end Go.Vs.YtcjeehebikeghaaGreatDoor
