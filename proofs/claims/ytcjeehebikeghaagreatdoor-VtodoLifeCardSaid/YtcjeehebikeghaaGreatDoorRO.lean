/- The walk of recur: whether two rules are one; rules taken over. No conditions. -/
import Derived.Test.YtcjeehebikeghaaGreatDoorRJ
set_option linter.unusedVariables false
set_option linter.unusedSimpArgs false
set_option maxRecDepth 100000
set_option maxHeartbeats 64000000
namespace Go.Vs.YtcjeehebikeghaaGreatDoor.Rc
open Go.Proofs Go.Vs.U8 Go.Vs.Pa Go.Vs.Cv Go.Vs.Mo Go.Vs.Nu
theorem abq{a b:Ru}(hf:a.f=b.f)(hi:a.i=b.i)(hc:a.c=b.c)(hk:a.u.k=b.u.k)(hs:a.u.s=b.u.s)(hw:a.w=b.w)(h7:a.l7=b.l7)(hl:∀j,j∈cE→j≠7→Wx a j=Wx b j):a=b:=by
 have h4:a.l4=b.l4:=hl 4 (by simp[cE]) (by omega);have h5:a.l5=b.l5:=hl 5 (by simp[cE]) (by omega);have h6:a.l6=b.l6:=hl 6 (by simp[cE]) (by omega);have h8:a.l8=b.l8:=hl 8 (by simp[cE]) (by omega);have h9:a.l9=b.l9:=hl 9 (by simp[cE]) (by omega);have h10:a.l10=b.l10:=hl 10 (by simp[cE]) (by omega);have h11:a.l11=b.l11:=hl 11 (by simp[cE]) (by omega);have h12:a.l12=b.l12:=hl 12 (by simp[cE]) (by omega);obtain⟨f,i,c,⟨uk,us⟩,l4,l5,l6,l7,l8,l9,l10,l11,l12,w⟩:=a;obtain⟨f',i',c',⟨uk',us'⟩,l4',l5',l6',l7',l8',l9',l10',l11',l12',w'⟩:=b;simp only at hf hi hc hk hs hw h7 h4 h5 h6 h8 h9 h10 h11 h12;subst hf hi hc hk hs hw h7 h4 h5 h6 h8 h9 h10 h11 h12;rfl
theorem SI(a b:Ru)(fa:wa a)(fb:wa b):Fn G2 Tryz.prog tE [a.iv,b.iv] (.bool (decide (a=b))):=by
 refine ag hm HS (by simp) ?_;obtain⟨a4,a5,a6,a7,a8,a9,a10,a11,a12⟩:=fa;obtain⟨b4,b5,b6,b7,b8,b9,b10,b11,b12⟩:=fb;have s4:=up (ix a.l4 b.l4 (by omega) (by omega));have s5:=up (ix a.l5 b.l5 (by omega) (by omega));have s6:=up (ix a.l6 b.l6 (by omega) (by omega));have s7:=up (NP a.l7 b.l7 (by omega) (by omega));have s8:=up (ix a.l8 b.l8 (by omega) (by omega));have s9:=up (ix a.l9 b.l9 (by omega) (by omega));have s10:=up (ix a.l10 b.l10 (by omega) (by omega));have s11:=up (ix a.l11 b.l11 (by omega) (by omega));have s12:=up (ix a.l12 b.l12 (by omega) (by omega));unfold Ru.iv cells;simp[AG,AH];by_cases e0:a.f=b.f
 ·skip;by_cases e1:a.i=b.i
  ·skip;by_cases e2:a.c=b.c
   ·skip;by_cases e3:a.u.k=b.u.k
    ·skip;by_cases e4:a.u.s=b.u.s
     ·skip;by_cases e5:a.w=b.w
      ·skip;simp(disch:=omega)[wl,e0,e1,e2,e3,e4,e5];refine aa s4 ?_;by_cases q4:a.l4=b.l4
       ·simp(disch:=omega)[wl,q4];refine aa s5 ?_;by_cases q5:a.l5=b.l5
        ·simp(disch:=omega)[wl,q5];refine aa s6 ?_;by_cases q6:a.l6=b.l6
         ·simp(disch:=omega)[wl,q6];refine aa s7 ?_;by_cases q7:a.l7=b.l7
          ·simp(disch:=omega)[wl,q7];refine aa s8 ?_;by_cases q8:a.l8=b.l8
           ·simp(disch:=omega)[wl,q8];refine aa s9 ?_;by_cases q9:a.l9=b.l9
            ·simp(disch:=omega)[wl,q9];refine aa s10 ?_;by_cases q10:a.l10=b.l10
             ·simp(disch:=omega)[wl,q10];refine aa s11 ?_;by_cases q11:a.l11=b.l11
              ·simp(disch:=omega)[wl,q11];refine aa s12 ?_;by_cases q12:a.l12=b.l12
               ·simp(disch:=omega)[wl,q12];have he:a=b:=abq e0 e1 e2 e3 e4 e5 q7 (fun j h2 h3=>by rcases k8 h2 h3 with rfl|rfl|rfl|rfl|rfl|rfl|rfl|rfl<;>assumption);simp[he]
               ·have hne:¬a=b:=fun e=>q12 (by rw[e])
                simp(disch:=omega)[wl,q12,hne]
              ·have hne:¬a=b:=fun e=>q11 (by rw[e])
               simp(disch:=omega)[wl,q11,hne]
             ·have hne:¬a=b:=fun e=>q10 (by rw[e])
              simp(disch:=omega)[wl,q10,hne]
            ·have hne:¬a=b:=fun e=>q9 (by rw[e])
             simp(disch:=omega)[wl,q9,hne]
           ·have hne:¬a=b:=fun e=>q8 (by rw[e])
            simp(disch:=omega)[wl,q8,hne]
          ·have hne:¬a=b:=fun e=>q7 (by rw[e])
           simp(disch:=omega)[wl,q7,hne]
         ·have hne:¬a=b:=fun e=>q6 (by rw[e])
          simp(disch:=omega)[wl,q6,hne]
        ·have hne:¬a=b:=fun e=>q5 (by rw[e])
         simp(disch:=omega)[wl,q5,hne]
       ·have hne:¬a=b:=fun e=>q4 (by rw[e])
        simp(disch:=omega)[wl,q4,hne]
      ·have hne:¬a=b:=fun e=>e5 (by rw[e])
       simp(disch:=omega)[wl,e0,e1,e2,e3,e4,e5,hne]
     ·have hne:¬a=b:=fun e=>e4 (by rw[e])
      simp(disch:=omega)[wl,e0,e1,e2,e3,e4,hne]
    ·have hne:¬a=b:=fun e=>e3 (by rw[e])
     simp(disch:=omega)[wl,e0,e1,e2,e3,hne]
   ·have hne:¬a=b:=fun e=>e2 (by rw[e])
    simp(disch:=omega)[wl,e0,e1,e2,hne]
  ·have hne:¬a=b:=fun e=>e1 (by rw[e])
   simp(disch:=omega)[wl,e0,e1,hne]
 ·have hne:¬a=b:=fun e=>e0 (by rw[e])
  simp(disch:=omega)[wl,e0,hne]
theorem VN(r:Ru)(hf:wa r):Fn G2 Tryz.prog tF [r.iv] r.iv:=by
 refine ag hm HT (by simp) ?_;obtain⟨f4,f5,f6,f7,f8,f9,f10,f11,f12⟩:=hf;have s7:=up (V7 r.l7 (by omega));unfold Ru.iv cells;simp[AI,AJ];refine aa s7 ?_;simp(disch:=omega)[wl]
 first|rfl|(refine⟨rfl,?_⟩;rfl)|(refine⟨rfl,?_⟩;simp(disch:=omega)[wl])
open Go.Lib
def tx(l:List (Nat×Str)):List Str:=l.map fun p=>eqS p.1 p.2
end Go.Vs.YtcjeehebikeghaaGreatDoor.Rc
