/- A part of a proof. No conditions. -/
import Derived.Test.YtcjeehebikeghaaGreatDoorVH
set_option linter.unusedVariables false
set_option linter.unusedSimpArgs false
set_option maxRecDepth 100000
set_option maxHeartbeats 16000000
namespace Go.Vs.YtcjeehebikeghaaGreatDoor.Vt
open Go.Proofs Go.Vs.U8 Go.Vs.Pa Go.Vs.Nu Go.Vs.Mo Go.Vs.Vt Go.Vs.YtcjeehebikeghaaGreatDoor.Rc
theorem nH(x:Int):(x.tmod 86400=0)=(x%86400=0):=by
 rw[<-Int.dvd_iff_tmod_eq_zero,<-Int.dvd_iff_emod_eq_zero]
theorem TQ(f:Fc):Fn G2 T_ 96 [.ref (zf f)] (.int .i64 (eL f)):=by
 refine ag hm nE (by simp) ?_;have hB:=jF f.b.k f.b.s;have hE:=jF f.e.k f.e.s;have hA:=Ry f.b.s f.sp;simp[iX,zf,cells];refine aa hB ?_;simp;refine aa hE ?_;simp;refine⟨rfl,?_⟩;by_cases h1:f.b.k=0
 ·by_cases h2:0<f.sp
  ·have hp:eL f=9:=by unfold eL;rw[if_pos ⟨h2,.inr h1⟩]
   by_cases h3:f.e.k=0
   ·simp(disch:=omega)[wl,h1,h2,h3,hp]
   ·simp(disch:=omega)[wl,h1,h2,h3,hp]
  ·have hp:eL f=0:=by simp[eL,h1,h2]
   simp(disch:=omega)[wl,h1,h2,hp]
 ·by_cases h3:f.e.k=0
  ·by_cases h2:0<f.sp
   ·have hp:eL f=(if f.b.k=1/\f.sp%86400≠0 then 9 else (addS f.b.s f.sp).2):=by simp[eL,h1,h2,h3]
    by_cases h4:f.b.k=1
    ·by_cases h5:f.sp%86400=0
     ·rw[if_neg (by simp[h5])]at hp;simp(disch:=omega)[wl,h1,h2,h3,hp,h4,h5,nH];refine aa hA ?_;simp;exact⟨rfl,hp.symm⟩
     ·rw[if_pos ⟨h4,h5⟩]at hp;simp(disch:=omega)[wl,h1,h2,h3,hp,h4,h5,nH]
    ·rw[if_neg (by simp[h4])]at hp;simp(disch:=omega)[wl,h1,h2,h3,hp,h4,nH];refine aa hA ?_;simp;exact⟨rfl,hp.symm⟩
   ·have hp:eL f=(if f.b.k=1/\f.sp%86400≠0 then 9 else (addS f.b.s f.sp).2):=by simp[eL,h1,h2,h3]
    by_cases h4:f.b.k=1
    ·by_cases h5:f.sp%86400=0
     ·rw[if_neg (by simp[h5])]at hp;simp(disch:=omega)[wl,h1,h2,h3,hp,h4,h5,nH];refine aa hA ?_;simp;exact⟨rfl,hp.symm⟩
     ·rw[if_pos ⟨h4,h5⟩]at hp;simp(disch:=omega)[wl,h1,h2,h3,hp,h4,h5,nH]
    ·rw[if_neg (by simp[h4])]at hp;simp(disch:=omega)[wl,h1,h2,h3,hp,h4,nH];refine aa hA ?_;simp;exact⟨rfl,hp.symm⟩
  ·by_cases h2:0<f.sp
   ·have hp:eL f=9:=by unfold eL;rw[if_pos ⟨h2,.inl h3⟩]
    simp(disch:=omega)[wl,h1,h2,h3,hp]
   ·by_cases hk:f.e.k=f.b.k
    ·by_cases hs:f.e.s<f.b.s
     ·have hp:eL f=8:=by simp[eL,h1,h2,hk,hs]
      simp(disch:=omega)[wl,h1,h2,h3,hk,hs,hp]
     ·have hp:eL f=(if f.b.k=1/\f.sp%86400≠0 then 9 else (addS f.b.s f.sp).2):=by simp[eL,h1,h2,hk,hs]
      by_cases h4:f.b.k=1
      ·by_cases h5:f.sp%86400=0
       ·rw[if_neg (by simp[h5])]at hp;simp(disch:=omega)[wl,h1,h2,h3,hk,hs,hp,h4,h5,nH];refine aa hA ?_;simp;exact⟨rfl,hp.symm⟩
       ·rw[if_pos ⟨h4,h5⟩]at hp;simp(disch:=omega)[wl,h1,h2,h3,hk,hs,hp,h4,h5,nH]
      ·rw[if_neg (by simp[h4])]at hp;simp(disch:=omega)[wl,h1,h2,h3,hk,hs,hp,h4,nH];refine aa hA ?_;simp;exact⟨rfl,hp.symm⟩
    ·have hk':¬f.b.k=f.e.k:=fun e=>hk e.symm
     have hp:eL f=11:=by simp[eL,h1,h2,h3,hk']
     simp(disch:=omega)[wl,h1,h2,h3,hk',hp]
theorem OA(f:Fc)(l:List Ln)(hF:FitF f)(hl:l.length<100000):Fn G2 T_ 97 [.ref (zf f),.slice (ls l)] (.int .i64 (kR f l)):=by
 refine ag hm mw (by simp) ?_;have hB:=jF f.b.k f.b.s;have hT:=jF f.at'.k f.at'.s;have hS:=TP f;have hC:=Ka hF.set;have hN:=up (zM l bM hl);have hU:=up (Tf f.uid (by have:=hF.ul;omega));have hD:=DV f hF;simp only[Fc.iv,zf,cells,List.cons_append,List.nil_append]at hS hD;simp only[bM]at hN;simp[io,zf,cells];refine aa hB ?_;by_cases h1:f.b.k=0
 ·have hp:kR f l=9:=by unfold kR;rw[if_pos h1]
  simp(disch:=omega)[wl,h1,hp]
 simp(disch:=omega)[wl,h1];refine aa hS ?_;simp;refine aa hC ?_;by_cases h2:HS f.b f.ru f.i f.o=0
 case neg=>
  have hp:kR f l=HS f.b f.ru f.i f.o:=by unfold kR;rw[if_neg h1,if_pos h2]
  simp(disch:=omega)[wl,h2,hp]
 have rest:kR f l=(if f.af=true/\0<aV l bM then 9
  else if f.at'.k≠0/\f.at'.k≠f.b.k then 11 else if f.at'.k≠0/\f.at'.s<f.b.s then 8 else if 20<(xY f.uid).length then 5 else if (dX f).2=false then 8 else 0):=by
  unfold kR;rw[if_neg h1,if_neg (by simp[h2])]
 simp(disch:=omega)[wl,h2];by_cases h3:f.af=true
 ·rw[h3]at hD;simp(disch:=omega)[wl,h3];refine aa hN ?_;by_cases h4:0<aV l bM
  ·have hp:kR f l=9:=by rw[rest,if_pos ⟨h3,h4⟩]
   simp only[bM]at h4;simp(disch:=omega)[wl,h4,hp]
  ·rw[if_neg (by simp[h4])]at rest;simp only[bM]at h4;simp(disch:=omega)[wl,h4];refine aa hT ?_;by_cases h5:f.at'.k=0
   ·rw[if_neg (by simp[h5]),if_neg (by simp[h5])]at rest;rw[h5]at hT hD;simp(disch:=omega)[wl,h5];refine⟨rfl,?_⟩;refine aa hT ?_;simp(disch:=omega)[wl,h5];refine⟨rfl,?_⟩;refine aa hU ?_;by_cases h7:20<(xY f.uid).length
    ·have hp:kR f l=5:=by rw[rest,if_pos h7]
     simp(disch:=omega)[wl,h7,hp]
    rw[if_neg h7]at rest;simp(disch:=omega)[wl,h7];refine aa hD ?_;by_cases h8:(dX f).2=false
    ·have hp:kR f l=8:=by rw[rest,if_pos h8]
     simp(disch:=omega)[wl,h8,hp]
    ·have hp:kR f l=0:=by rw[rest,if_neg h8]
     have h8:(dX f).2=true:=by simpa using h8
     simp(disch:=omega)[wl,h8,hp]
   ·by_cases h6:f.at'.k=f.b.k
    ·rw[if_neg (by simp[h6])]at rest;rw[h6]at hT hD;simp(disch:=omega)[wl,h6,h1];refine⟨rfl,?_⟩;refine aa hT ?_;by_cases h9:f.at'.s<f.b.s
     ·have hp:kR f l=8:=by rw[rest,if_pos ⟨h5,h9⟩]
      simp(disch:=omega)[wl,h1,h9,hp];exact rfl
     ·rw[if_neg (by simp[h9])]at rest;simp(disch:=omega)[wl,h1,h9];refine⟨rfl,?_⟩;refine aa hU ?_;by_cases h7:20<(xY f.uid).length
      ·have hp:kR f l=5:=by rw[rest,if_pos h7]
       simp(disch:=omega)[wl,h7,hp]
      rw[if_neg h7]at rest;simp(disch:=omega)[wl,h7];refine aa hD ?_;by_cases h8:(dX f).2=false
      ·have hp:kR f l=8:=by rw[rest,if_pos h8]
       simp(disch:=omega)[wl,h8,hp]
      ·have hp:kR f l=0:=by rw[rest,if_neg h8]
       have h8:(dX f).2=true:=by simpa using h8
       simp(disch:=omega)[wl,h8,hp]
    ·have hp:kR f l=11:=by rw[rest,if_pos ⟨h5,h6⟩]
     simp(disch:=omega)[wl,h5,h6,hp];exact rfl
 ·rw[if_neg (by simp[h3])]at rest;have h3:f.af=false:=by simpa using h3
  rw[h3]at hD;simp(disch:=omega)[wl,h3];refine aa hT ?_;by_cases h5:f.at'.k=0
  ·rw[if_neg (by simp[h5]),if_neg (by simp[h5])]at rest;rw[h5]at hT hD;simp(disch:=omega)[wl,h5];refine⟨rfl,?_⟩;refine aa hT ?_;simp(disch:=omega)[wl,h5];refine⟨rfl,?_⟩;refine aa hU ?_;by_cases h7:20<(xY f.uid).length
   ·have hp:kR f l=5:=by rw[rest,if_pos h7]
    simp(disch:=omega)[wl,h7,hp]
   rw[if_neg h7]at rest;simp(disch:=omega)[wl,h7];refine aa hD ?_;by_cases h8:(dX f).2=false
   ·have hp:kR f l=8:=by rw[rest,if_pos h8]
    simp(disch:=omega)[wl,h8,hp]
   ·have hp:kR f l=0:=by rw[rest,if_neg h8]
    have h8:(dX f).2=true:=by simpa using h8
    simp(disch:=omega)[wl,h8,hp]
  ·by_cases h6:f.at'.k=f.b.k
   ·rw[if_neg (by simp[h6])]at rest;rw[h6]at hT hD;simp(disch:=omega)[wl,h6,h1];refine⟨rfl,?_⟩;refine aa hT ?_;by_cases h9:f.at'.s<f.b.s
    ·have hp:kR f l=8:=by rw[rest,if_pos ⟨h5,h9⟩]
     simp(disch:=omega)[wl,h1,h9,hp];exact rfl
    ·rw[if_neg (by simp[h9])]at rest;simp(disch:=omega)[wl,h1,h9];refine⟨rfl,?_⟩;refine aa hU ?_;by_cases h7:20<(xY f.uid).length
     ·have hp:kR f l=5:=by rw[rest,if_pos h7]
      simp(disch:=omega)[wl,h7,hp]
     rw[if_neg h7]at rest;simp(disch:=omega)[wl,h7];refine aa hD ?_;by_cases h8:(dX f).2=false
     ·have hp:kR f l=8:=by rw[rest,if_pos h8]
      simp(disch:=omega)[wl,h8,hp]
     ·have hp:kR f l=0:=by rw[rest,if_neg h8]
      have h8:(dX f).2=true:=by simpa using h8
      simp(disch:=omega)[wl,h8,hp]
   ·have hp:kR f l=11:=by rw[rest,if_pos ⟨h5,h6⟩]
    simp(disch:=omega)[wl,h5,h6,hp];exact rfl
def rI:List Str:=[bM,bj,fX,dk]
theorem RD(f:Fc)(l:List Ln)(hF:FitF f)(hl:l.length<100000):Fn G2 T_ 43 [.ref (zf f),.slice (ls l)] (.int .i64 (dO f l)):=by
 refine ag hm mO (by simp) ?_;have hN:∀n,Fn G2 T_ 29 [.slice (ls l),.str n] (.int .i64 (aV l n)):=fun n=>up (zM l n hl)
 have hL:=Gw f.li;have hP:=TQ f;have hR:=OA f l hF hl;simp only[zf,cells,List.cons_append,List.nil_append,Lif.iv]at hP hR hL;simp[iE,zf,cells];refine aa (hN _) ?_;by_cases h1:aV l cZ=0
 ·have hp:dO f l=6:=by unfold dO;rw[if_pos (.inl h1)]
  simp only[cZ]at h1;simp(disch:=omega)[wl,h1,hp]
 by_cases h2:aV l be=0
 ·have hp:dO f l=6:=by unfold dO;rw[if_pos (.inr h2)]
  simp only[cZ]at h1;simp(disch:=omega)[wl,h1];refine aa (hN _) ?_;simp only[be]at h2;simp(disch:=omega)[wl,h2,hp]
 have rest:dO f l=(if uQ f.li≠0 then uQ f.li else if eL f≠0 then eL f
  else if f.rd=true then kR f l else if 0<aV l bM\/0<aV l bj\/0<aV l fX\/0<aV l dk then 9 else 0):=by
  unfold dO;rw[if_neg (by simp[h1,h2])]
 simp only[cZ]at h1;simp(disch:=omega)[wl,h1];refine aa (hN _) ?_;simp only[be]at h2;simp(disch:=omega)[wl,h2];refine aa hL ?_;by_cases h3:uQ f.li=0
 case neg=>
  have hp:dO f l=uQ f.li:=by rw[rest,if_pos h3]
  simp(disch:=omega)[wl,h3,hp]
 rw[if_neg (by simp[h3])]at rest;simp(disch:=omega)[wl,h3];refine aa hP ?_;by_cases h4:eL f=0
 case neg=>
  have hp:dO f l=eL f:=by rw[rest,if_pos h4]
  simp(disch:=omega)[wl,h4,hp]
 rw[if_neg (by simp[h4])]at rest;simp(disch:=omega)[wl,h4];by_cases h5:f.rd=true
 ·have hp:dO f l=kR f l:=by rw[rest,if_pos h5]
  rw[h5]at hR;simp(disch:=omega)[wl,h5];refine aa hR ?_;simp[hp]
 rw[if_neg h5]at rest;have h5:f.rd=false:=by simpa using h5
 simp(disch:=omega)[wl,h5];refine ce hm [8] (fun i:Nat=>[(38,.val (.int .i64 i))]) (fun _=>[]) (fun i=>i<=4/\∀n∈rI.take i,aV l n=0) (fun i=>4-i) 0 ⟨by omega,by simp⟩ ?_ ?_
 ·simp;exact bQ
 rintro i ⟨hi,hz⟩;simp;have hcase:i=0\/i=1\/i=2\/i=3\/i=4:=by omega
 rcases hcase with rfl|rfl|rfl|rfl|rfl
 ·simp;refine aa (hN _) ?_;by_cases hc:0<aV l bM
  ·have hp:dO f l=9:=by rw[rest,if_pos (.inl hc)]
   simp only[bM]at hc;simp(disch:=omega)[wl,hc,hp]
  ·have hz':aV l bM=0:=by omega
   have hc':=hc;simp only[bM]at hc;simp(disch:=omega)[wl,hc];refine au 1 ⟨by omega,fun n hn=>?_⟩ (by omega) ?_
   ·simp[rI]at hn;simp[rI]at hz;subst hn;exact hz'
   simp;exact bQ
 ·simp;refine aa (hN _) ?_;by_cases hc:0<aV l bj
  ·have hp:dO f l=9:=by rw[rest,if_pos (.inr (.inl hc))]
   simp only[bj]at hc;simp(disch:=omega)[wl,hc,hp]
  ·have hz':aV l bj=0:=by omega
   simp only[bj]at hc;simp(disch:=omega)[wl,hc];refine au 2 ⟨by omega,fun n hn=>?_⟩ (by omega) ?_
   ·rw[show rI.take 2=rI.take 1++[bj]from rfl]at hn;rcases List.mem_append.1 hn with hn|hn
    ·exact hz n hn
    ·rw[List.mem_singleton.1 hn];exact hz'
   simp;exact bQ
 ·simp;refine aa (hN _) ?_;by_cases hc:0<aV l fX
  ·have hp:dO f l=9:=by rw[rest,if_pos (.inr (.inr (.inl hc)))]
   simp only[fX]at hc;simp(disch:=omega)[wl,hc,hp]
  ·have hz':aV l fX=0:=by omega
   simp only[fX]at hc;simp(disch:=omega)[wl,hc];refine au 3 ⟨by omega,fun n hn=>?_⟩ (by omega) ?_
   ·rw[show rI.take 3=rI.take 2++[fX]from rfl]at hn;rcases List.mem_append.1 hn with hn|hn
    ·exact hz n hn
    ·rw[List.mem_singleton.1 hn];exact hz'
   simp;exact bQ
 ·simp;refine aa (hN _) ?_;by_cases hc:0<aV l dk
  ·have hp:dO f l=9:=by rw[rest,if_pos (.inr (.inr (.inr hc)))]
   simp only[dk]at hc;simp(disch:=omega)[wl,hc,hp]
  ·have hz':aV l dk=0:=by omega
   simp only[dk]at hc;simp(disch:=omega)[wl,hc];refine au 4 ⟨by omega,fun n hn=>?_⟩ (by omega) ?_
   ·rw[show rI.take 4=rI.take 3++[dk]from rfl]at hn;rcases List.mem_append.1 hn with hn|hn
    ·exact hz n hn
    ·rw[List.mem_singleton.1 hn];exact hz'
   simp;exact bQ
 ·have hp:dO f l=0:=by
   rw[rest,if_neg (by rw[hz bM (by decide),hz bj (by decide),hz fX (by decide),hz dk (by decide)];omega)]
  simp[hp]
end Go.Vs.YtcjeehebikeghaaGreatDoor.Vt
