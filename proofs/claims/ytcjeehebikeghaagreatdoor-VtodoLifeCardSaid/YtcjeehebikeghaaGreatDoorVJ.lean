/- The walk of what is wrong with a task as a whole. No conditions. -/
import Derived.Test.YtcjeehebikeghaaGreatDoorVH
set_option linter.unusedVariables false
set_option linter.unusedSimpArgs false
set_option maxRecDepth 100000
set_option maxHeartbeats 16000000
namespace Go.Vs.YtcjeehebikeghaaGreatDoor.Vt
open Go.Proofs Go.Vs.U8 Go.Vs.Pa Go.Vs.Nu Go.Vs.Mo Go.Vs.Vt Go.Vs.YtcjeehebikeghaaGreatDoor.Rc
theorem p5(x:Int):(x.tmod 86400=0)=(x%86400=0):=by
 rw[←Int.dvd_iff_tmod_eq_zero,←Int.dvd_iff_emod_eq_zero]
theorem Ym(f:Fc):Fn G2 Tryz.prog fD [.ref (uf f)] (.int .i64 (fB f)):=by
 refine ag hm oX (by simp) ?_;have hB:=kE f.b.k f.b.s;have hE:=kE f.e.k f.e.s;have hA:=W9 f.b.s f.sp;simp[jC,jD,uf,cells];refine aa hB ?_;simp;refine aa hE ?_;simp;refine⟨rfl,?_⟩;by_cases h1:f.b.k=0
 ·by_cases h2:0<f.sp
  ·have hp:fB f=9:=by unfold fB;rw[if_pos ⟨h2,.inr h1⟩]
   by_cases h3:f.e.k=0
   ·simp(disch:=omega)[wl,h1,h2,h3,hp]
   ·simp(disch:=omega)[wl,h1,h2,h3,hp]
  ·have hp:fB f=0:=by simp[fB,h1,h2]
   simp(disch:=omega)[wl,h1,h2,hp]
 ·by_cases h3:f.e.k=0
  ·by_cases h2:0<f.sp
   ·have hp:fB f=(if f.b.k=1∧f.sp%86400≠0 then 9 else (addS f.b.s f.sp).2):=by simp[fB,h1,h2,h3]
    by_cases h4:f.b.k=1
    ·by_cases h5:f.sp%86400=0
     ·rw[if_neg (by simp[h5])]at hp;simp(disch:=omega)[wl,h1,h2,h3,hp,h4,h5,p5];refine aa hA ?_;simp;exact⟨rfl,hp.symm⟩
     ·rw[if_pos ⟨h4,h5⟩]at hp;simp(disch:=omega)[wl,h1,h2,h3,hp,h4,h5,p5]
    ·rw[if_neg (by simp[h4])]at hp;simp(disch:=omega)[wl,h1,h2,h3,hp,h4,p5];refine aa hA ?_;simp;exact⟨rfl,hp.symm⟩
   ·have hp:fB f=(if f.b.k=1∧f.sp%86400≠0 then 9 else (addS f.b.s f.sp).2):=by simp[fB,h1,h2,h3]
    by_cases h4:f.b.k=1
    ·by_cases h5:f.sp%86400=0
     ·rw[if_neg (by simp[h5])]at hp;simp(disch:=omega)[wl,h1,h2,h3,hp,h4,h5,p5];refine aa hA ?_;simp;exact⟨rfl,hp.symm⟩
     ·rw[if_pos ⟨h4,h5⟩]at hp;simp(disch:=omega)[wl,h1,h2,h3,hp,h4,h5,p5]
    ·rw[if_neg (by simp[h4])]at hp;simp(disch:=omega)[wl,h1,h2,h3,hp,h4,p5];refine aa hA ?_;simp;exact⟨rfl,hp.symm⟩
  ·by_cases h2:0<f.sp
   ·have hp:fB f=9:=by unfold fB;rw[if_pos ⟨h2,.inl h3⟩]
    simp(disch:=omega)[wl,h1,h2,h3,hp]
   ·by_cases hk:f.e.k=f.b.k
    ·by_cases hs:f.e.s<f.b.s
     ·have hp:fB f=8:=by simp[fB,h1,h2,hk,hs]
      simp(disch:=omega)[wl,h1,h2,h3,hk,hs,hp]
     ·have hp:fB f=(if f.b.k=1∧f.sp%86400≠0 then 9 else (addS f.b.s f.sp).2):=by simp[fB,h1,h2,hk,hs]
      by_cases h4:f.b.k=1
      ·by_cases h5:f.sp%86400=0
       ·rw[if_neg (by simp[h5])]at hp;simp(disch:=omega)[wl,h1,h2,h3,hk,hs,hp,h4,h5,p5];refine aa hA ?_;simp;exact⟨rfl,hp.symm⟩
       ·rw[if_pos ⟨h4,h5⟩]at hp;simp(disch:=omega)[wl,h1,h2,h3,hk,hs,hp,h4,h5,p5]
      ·rw[if_neg (by simp[h4])]at hp;simp(disch:=omega)[wl,h1,h2,h3,hk,hs,hp,h4,p5];refine aa hA ?_;simp;exact⟨rfl,hp.symm⟩
    ·have hk':¬f.b.k=f.e.k:=fun e=>hk e.symm
     have hp:fB f=11:=by simp[fB,h1,h2,h3,hk']
     simp(disch:=omega)[wl,h1,h2,h3,hk',hp]
theorem T0(f:Fc)(l:List Ln)(hF:FitF f)(hl:l.length<100000):Fn G2 Tryz.prog eJ [.ref (uf f),.slice (ls l)] (.int .i64 (kg f l)):=by
 refine ag hm nQ (by simp) ?_;have hB:=kE f.b.k f.b.s;have hT:=kE f.at'.k f.at'.s;have hS:=Yl f;have hC:=On hF.set;have hN:=up (wL l bW hl);have hU:=up (XM f.uid (by have:=hF.ul;omega));have hD:=GA f hF;simp only[Fc.iv,uf,cells,List.cons_append,List.nil_append]at hS hD;simp only[bW]at hN;simp[iZ,j0,uf,cells];refine aa hB ?_;by_cases h1:f.b.k=0
 ·have hp:kg f l=9:=by unfold kg;rw[if_pos h1]
  simp(disch:=omega)[wl,h1,hp]
 simp(disch:=omega)[wl,h1];refine aa hS ?_;simp;refine aa hC ?_;by_cases h2:Ly f.b f.ru f.i f.o=0
 case neg=>
  have hp:kg f l=Ly f.b f.ru f.i f.o:=by unfold kg;rw[if_neg h1,if_pos h2]
  simp(disch:=omega)[wl,h2,hp]
 have rest:kg f l=(if f.af=true∧0<aE l bW then 9
  else if f.at'.k≠0∧f.at'.k≠f.b.k then 11 else if f.at'.k≠0∧f.at'.s<f.b.s then 8 else if 20<(A4 f.uid).length then 5 else if (eH f).2=false then 8 else 0):=by
  unfold kg;rw[if_neg h1,if_neg (by simp[h2])]
 simp(disch:=omega)[wl,h2];by_cases h3:f.af=true
 ·rw[h3]at hD;simp(disch:=omega)[wl,h3];refine aa hN ?_;by_cases h4:0<aE l bW
  ·have hp:kg f l=9:=by rw[rest,if_pos ⟨h3,h4⟩]
   simp only[bW]at h4;simp(disch:=omega)[wl,h4,hp]
  ·rw[if_neg (by simp[h4])]at rest;simp only[bW]at h4;simp(disch:=omega)[wl,h4];refine aa hT ?_;by_cases h5:f.at'.k=0
   ·rw[if_neg (by simp[h5]),if_neg (by simp[h5])]at rest;rw[h5]at hT hD;simp(disch:=omega)[wl,h5];refine⟨rfl,?_⟩;refine aa hT ?_;simp(disch:=omega)[wl,h5];refine⟨rfl,?_⟩;refine aa hU ?_;by_cases h7:20<(A4 f.uid).length
    ·have hp:kg f l=5:=by rw[rest,if_pos h7]
     simp(disch:=omega)[wl,h7,hp]
    rw[if_neg h7]at rest;simp(disch:=omega)[wl,h7];refine aa hD ?_;by_cases h8:(eH f).2=false
    ·have hp:kg f l=8:=by rw[rest,if_pos h8]
     simp(disch:=omega)[wl,h8,hp]
    ·have hp:kg f l=0:=by rw[rest,if_neg h8]
     have h8:(eH f).2=true:=by simpa using h8
     simp(disch:=omega)[wl,h8,hp]
   ·by_cases h6:f.at'.k=f.b.k
    ·rw[if_neg (by simp[h6])]at rest;rw[h6]at hT hD;simp(disch:=omega)[wl,h6,h1];refine⟨rfl,?_⟩;refine aa hT ?_;by_cases h9:f.at'.s<f.b.s
     ·have hp:kg f l=8:=by rw[rest,if_pos ⟨h5,h9⟩]
      simp(disch:=omega)[wl,h1,h9,hp];exact rfl
     ·rw[if_neg (by simp[h9])]at rest;simp(disch:=omega)[wl,h1,h9];refine⟨rfl,?_⟩;refine aa hU ?_;by_cases h7:20<(A4 f.uid).length
      ·have hp:kg f l=5:=by rw[rest,if_pos h7]
       simp(disch:=omega)[wl,h7,hp]
      rw[if_neg h7]at rest;simp(disch:=omega)[wl,h7];refine aa hD ?_;by_cases h8:(eH f).2=false
      ·have hp:kg f l=8:=by rw[rest,if_pos h8]
       simp(disch:=omega)[wl,h8,hp]
      ·have hp:kg f l=0:=by rw[rest,if_neg h8]
       have h8:(eH f).2=true:=by simpa using h8
       simp(disch:=omega)[wl,h8,hp]
    ·have hp:kg f l=11:=by rw[rest,if_pos ⟨h5,h6⟩]
     simp(disch:=omega)[wl,h5,h6,hp];exact rfl
 ·rw[if_neg (by simp[h3])]at rest;have h3:f.af=false:=by simpa using h3
  rw[h3]at hD;simp(disch:=omega)[wl,h3];refine aa hT ?_;by_cases h5:f.at'.k=0
  ·rw[if_neg (by simp[h5]),if_neg (by simp[h5])]at rest;rw[h5]at hT hD;simp(disch:=omega)[wl,h5];refine⟨rfl,?_⟩;refine aa hT ?_;simp(disch:=omega)[wl,h5];refine⟨rfl,?_⟩;refine aa hU ?_;by_cases h7:20<(A4 f.uid).length
   ·have hp:kg f l=5:=by rw[rest,if_pos h7]
    simp(disch:=omega)[wl,h7,hp]
   rw[if_neg h7]at rest;simp(disch:=omega)[wl,h7];refine aa hD ?_;by_cases h8:(eH f).2=false
   ·have hp:kg f l=8:=by rw[rest,if_pos h8]
    simp(disch:=omega)[wl,h8,hp]
   ·have hp:kg f l=0:=by rw[rest,if_neg h8]
    have h8:(eH f).2=true:=by simpa using h8
    simp(disch:=omega)[wl,h8,hp]
  ·by_cases h6:f.at'.k=f.b.k
   ·rw[if_neg (by simp[h6])]at rest;rw[h6]at hT hD;simp(disch:=omega)[wl,h6,h1];refine⟨rfl,?_⟩;refine aa hT ?_;by_cases h9:f.at'.s<f.b.s
    ·have hp:kg f l=8:=by rw[rest,if_pos ⟨h5,h9⟩]
     simp(disch:=omega)[wl,h1,h9,hp];exact rfl
    ·rw[if_neg (by simp[h9])]at rest;simp(disch:=omega)[wl,h1,h9];refine⟨rfl,?_⟩;refine aa hU ?_;by_cases h7:20<(A4 f.uid).length
     ·have hp:kg f l=5:=by rw[rest,if_pos h7]
      simp(disch:=omega)[wl,h7,hp]
     rw[if_neg h7]at rest;simp(disch:=omega)[wl,h7];refine aa hD ?_;by_cases h8:(eH f).2=false
     ·have hp:kg f l=8:=by rw[rest,if_pos h8]
      simp(disch:=omega)[wl,h8,hp]
     ·have hp:kg f l=0:=by rw[rest,if_neg h8]
      have h8:(eH f).2=true:=by simpa using h8
      simp(disch:=omega)[wl,h8,hp]
   ·have hp:kg f l=11:=by rw[rest,if_pos ⟨h5,h6⟩]
    simp(disch:=omega)[wl,h5,h6,hp];exact rfl
def tO:List Str:=[bW,bt,gc,dz]
theorem Wf(f:Fc)(l:List Ln)(hF:FitF f)(hl:l.length<100000):Fn G2 Tryz.prog eZ [.ref (uf f),.slice (ls l)] (.int .i64 (cY f l)):=by
 refine ag hm o8 (by simp) ?_;have hN:∀n,Fn G2 Tryz.prog eX [.slice (ls l),.str n] (.int .i64 (aE l n)):=fun n=>up (wL l n hl)
 have hL:=Ce f.li;have hP:=Ym f;have hR:=T0 f l hF hl;simp only[uf,cells,List.cons_append,List.nil_append,Lif.iv]at hP hR hL;simp[jj,jk,uf,cells];refine aa (hN _) ?_;by_cases h1:aE l dc=0
 ·have hp:cY f l=6:=by unfold cY;rw[if_pos (.inl h1)]
  simp only[dc]at h1;simp(disch:=omega)[wl,h1,hp]
 by_cases h2:aE l bn=0
 ·have hp:cY f l=6:=by unfold cY;rw[if_pos (.inr h2)]
  simp only[dc]at h1;simp(disch:=omega)[wl,h1];refine aa (hN _) ?_;simp only[bn]at h2;simp(disch:=omega)[wl,h2,hp]
 have rest:cY f l=(if sx f.li≠0 then sx f.li else if fB f≠0 then fB f
  else if f.rd=true then kg f l else if 0<aE l bW∨0<aE l bt∨0<aE l gc∨0<aE l dz then 9 else 0):=by
  unfold cY;rw[if_neg (by simp[h1,h2])]
 simp only[dc]at h1;simp(disch:=omega)[wl,h1];refine aa (hN _) ?_;simp only[bn]at h2;simp(disch:=omega)[wl,h2];refine aa hL ?_;by_cases h3:sx f.li=0
 case neg=>
  have hp:cY f l=sx f.li:=by rw[rest,if_pos h3]
  simp(disch:=omega)[wl,h3,hp]
 rw[if_neg (by simp[h3])]at rest;simp(disch:=omega)[wl,h3];refine aa hP ?_;by_cases h4:fB f=0
 case neg=>
  have hp:cY f l=fB f:=by rw[rest,if_pos h4]
  simp(disch:=omega)[wl,h4,hp]
 rw[if_neg (by simp[h4])]at rest;simp(disch:=omega)[wl,h4];by_cases h5:f.rd=true
 ·have hp:cY f l=kg f l:=by rw[rest,if_pos h5]
  rw[h5]at hR;simp(disch:=omega)[wl,h5];refine aa hR ?_;simp[hp]
 rw[if_neg h5]at rest;have h5:f.rd=false:=by simpa using h5
 simp(disch:=omega)[wl,h5];refine bS hm [8] (fun i:Nat=>[(38,.val (.int .i64 i))]) (fun _=>[]) (fun i=>i≤4∧∀n∈tO.take i,aE l n=0) (fun i=>4-i) 0 ⟨by omega,by simp⟩ ?_ ?_
 ·simp;exact bT
 rintro i ⟨hi,hz⟩;simp;have hcase:i=0∨i=1∨i=2∨i=3∨i=4:=by omega
 rcases hcase with rfl|rfl|rfl|rfl|rfl
 ·simp;refine aa (hN _) ?_;by_cases hc:0<aE l bW
  ·have hp:cY f l=9:=by rw[rest,if_pos (.inl hc)]
   simp only[bW]at hc;simp(disch:=omega)[wl,hc,hp]
  ·have hz':aE l bW=0:=by omega
   have hc':=hc;simp only[bW]at hc;simp(disch:=omega)[wl,hc];refine aq 1 ⟨by omega,fun n hn=>?_⟩ (by omega) ?_
   ·simp[tO]at hn;simp[tO]at hz;subst hn;exact hz'
   simp;exact bT
 ·simp;refine aa (hN _) ?_;by_cases hc:0<aE l bt
  ·have hp:cY f l=9:=by rw[rest,if_pos (.inr (.inl hc))]
   simp only[bt]at hc;simp(disch:=omega)[wl,hc,hp]
  ·have hz':aE l bt=0:=by omega
   simp only[bt]at hc;simp(disch:=omega)[wl,hc];refine aq 2 ⟨by omega,fun n hn=>?_⟩ (by omega) ?_
   ·rw[show tO.take 2=tO.take 1++[bt]from rfl]at hn;rcases List.mem_append.1 hn with hn|hn
    ·exact hz n hn
    ·rw[List.mem_singleton.1 hn];exact hz'
   simp;exact bT
 ·simp;refine aa (hN _) ?_;by_cases hc:0<aE l gc
  ·have hp:cY f l=9:=by rw[rest,if_pos (.inr (.inr (.inl hc)))]
   simp only[gc]at hc;simp(disch:=omega)[wl,hc,hp]
  ·have hz':aE l gc=0:=by omega
   simp only[gc]at hc;simp(disch:=omega)[wl,hc];refine aq 3 ⟨by omega,fun n hn=>?_⟩ (by omega) ?_
   ·rw[show tO.take 3=tO.take 2++[gc]from rfl]at hn;rcases List.mem_append.1 hn with hn|hn
    ·exact hz n hn
    ·rw[List.mem_singleton.1 hn];exact hz'
   simp;exact bT
 ·simp;refine aa (hN _) ?_;by_cases hc:0<aE l dz
  ·have hp:cY f l=9:=by rw[rest,if_pos (.inr (.inr (.inr hc)))]
   simp only[dz]at hc;simp(disch:=omega)[wl,hc,hp]
  ·have hz':aE l dz=0:=by omega
   simp only[dz]at hc;simp(disch:=omega)[wl,hc];refine aq 4 ⟨by omega,fun n hn=>?_⟩ (by omega) ?_
   ·rw[show tO.take 4=tO.take 3++[dz]from rfl]at hn;rcases List.mem_append.1 hn with hn|hn
    ·exact hz n hn
    ·rw[List.mem_singleton.1 hn];exact hz'
   simp;exact bT
 ·have hp:cY f l=0:=by
   rw[rest,if_neg (by rw[hz bW (by decide),hz bt (by decide),hz gc (by decide),hz dz (by decide)];omega)]
  simp[hp]
end Go.Vs.YtcjeehebikeghaaGreatDoor.Vt
