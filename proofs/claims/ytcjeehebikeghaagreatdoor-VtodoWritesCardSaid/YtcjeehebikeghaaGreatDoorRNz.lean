/- A part of a proof. No conditions. -/
import Derived.Test.YtcjeehebikeghaaGreatDoorRJz
set_option linter.unusedVariables false
set_option linter.unusedSimpArgs false
set_option maxRecDepth 100000
set_option maxHeartbeats 64000000
namespace Go.Vs.YtcjeehebikeghaaGreatDoor.Rc
open Go.Proofs Go.Vs.U8 Go.Vs.Pa Go.Vs.Cv Go.Vs.Mo Go.Vs.Nu
theorem adc(r:Ru):(if r.u=⟨0,0⟩then (0:Int)else if r.u.k=0 then 2 else if jI r.u≠0 then jI r.u else if 0<r.c then 9 else 0)=VG r:=by
 unfold VG;by_cases a:r.u.k=0
 ·by_cases b:r.u.s=0
  ·have c:r.u=⟨0,0⟩:=by
    cases d:r.u with
    |mk x y=>
     rw[d]at a b;simp only at a b;rw[a,b]
   rw[if_pos c,if_pos a,if_neg (fun h=>h b)]
  ·have c:¬r.u=⟨0,0⟩:=fun e=>b (by rw[e])
   rw[if_neg c,if_pos a,if_pos a,if_pos b]
 ·have c:¬r.u=⟨0,0⟩:=fun e=>a (by rw[e])
  rw[if_neg c,if_neg a,if_neg a]
theorem aec(r:Ru)(e:Int)(h:FM r=e):(if 6<r.f then (11:Int)else if r.i<1\/1000<r.i\/r.c<0\/1000<r.c\/r.w<0\/6<r.w then 8 else VG r)=e:=by
 rw[<-h,<-adc];rfl
theorem Jc(r:Ru)(L:uW r)(hk:0<=r.u.k):Fn G2 T_ 170 [r.iv] (.int .i64 (jo r)):=by
 refine ae hm J4 (by simp) ?_;have M:=VH r hk;have X:=Oi r.l7 (by have:=L.2.2.2.1;omega);obtain⟨N,s⟩:∃N,jn r.l7=N:=⟨_,rfl⟩;rw[s]at X;obtain⟨R,a⟩:∃R,jo r=R:=⟨_,rfl⟩;rw[a];unfold jo at a;have P:=L;obtain⟨f4,f5,f6,f7,f8,f9,b',c',d'⟩:=L;have Y:=rz r.l4 0 59 false (by omega) (by omega) (by omega) (by omega) (by omega);have Z:=rz r.l5 0 59 false (by omega) (by omega) (by omega) (by omega) (by omega);have s6:=rz r.l6 0 23 false (by omega) (by omega) (by omega) (by omega) (by omega);have s7:=YE r.l7 (by omega);have s8:=rz r.l8 1 31 true (by omega) (by omega) (by omega) (by omega) (by omega);have s9:=rz r.l9 1 366 true (by omega) (by omega) (by omega) (by omega) (by omega);have u:=rz r.l10 1 53 true (by omega) (by omega) (by omega) (by omega) (by omega);have w:=rz r.l11 1 12 false (by omega) (by omega) (by omega) (by omega) (by omega);have z:=rz r.l12 1 366 true (by omega) (by omega) (by omega) (by omega) (by omega);have i:=YA (cC.map (rq r)) (by simp[cC]);have hE:cC.map (rq r)=[eR 0 59 false r.l4,eR 0 59 false r.l5,eR 0 23 false r.l6,sn r.l7,eR 1 31 true r.l8,eR 1 366 true r.l9,eR 1 53 true r.l10,eR 1 12 false r.l11,eR 1 366 true r.l12]:=rfl;obtain⟨F,Q⟩:∃F,n7 (cC.map (rq r))=F:=⟨_,rfl⟩;rw[Q]at i a;rw[hE]at i;simp only[is,List.map_cons,List.map_nil]at i;obtain⟨e4,A⟩:∃e,eR 0 59 false r.l4=e:=⟨_,rfl⟩;obtain⟨e5,B⟩:∃e,eR 0 59 false r.l5=e:=⟨_,rfl⟩;obtain⟨e6,C⟩:∃e,eR 0 23 false r.l6=e:=⟨_,rfl⟩;obtain⟨e7,D⟩:∃e,sn r.l7=e:=⟨_,rfl⟩;obtain⟨e8,E⟩:∃e,eR 1 31 true r.l8=e:=⟨_,rfl⟩;obtain⟨e9,H⟩:∃e,eR 1 366 true r.l9=e:=⟨_,rfl⟩;obtain⟨e',l⟩:∃e,eR 1 53 true r.l10=e:=⟨_,rfl⟩;obtain⟨f',m⟩:∃e,eR 1 12 false r.l11=e:=⟨_,rfl⟩;obtain⟨g',n⟩:∃e,eR 1 366 true r.l12=e:=⟨_,rfl⟩;rw[A,B,C,D,E,H,l,m,n]at i;rw[A]at Y;rw[B]at Z;rw[C]at s6;rw[D]at s7;rw[E]at s8;rw[H]at s9;rw[l]at u;rw[m]at w;rw[n]at z;obtain⟨e,he⟩:∃e,FM r=e:=⟨_,rfl⟩;rw[he]at a;have f:=aec r e he;obtain⟨U,S⟩:∃U,VG r=U:=⟨_,rfl⟩;rw[S]at f M;unfold Ru.iv cells at M |-;have a':(11:Int)≠0:=by decide
 have h':(8:Int)≠0:=by decide
 simp[zY];by_cases j:6<r.f
 ·rw[if_pos j]at f
  have b:R=11:=by
   rw[<-f]at a;rw[if_pos (by first|decide|assumption)]at a;exact a.symm
  subst b;simp(disch:=omega)[wl,j]
 ·rw[if_neg j]at f;by_cases o:r.i<1
  ·rw[if_pos (by omega)]at f
   have b:R=8:=by
    rw[<-f]at a;rw[if_pos (by first|decide|assumption)]at a;exact a.symm
   subst b;simp(disch:=omega)[wl,j,o]
  ·skip;by_cases p:1000<r.i
   ·rw[if_pos (by omega)]at f
    have b:R=8:=by
     rw[<-f]at a;rw[if_pos (by first|decide|assumption)]at a;exact a.symm
    subst b;simp(disch:=omega)[wl,j,o,p]
   ·skip;by_cases I:r.c<0
    ·rw[if_pos (by omega)]at f
     have b:R=8:=by
      rw[<-f]at a;rw[if_pos (by first|decide|assumption)]at a;exact a.symm
     subst b;simp(disch:=omega)[wl,j,o,p,I]
    ·skip;by_cases K:1000<r.c
     ·rw[if_pos (by omega)]at f
      have b:R=8:=by
       rw[<-f]at a;rw[if_pos (by first|decide|assumption)]at a;exact a.symm
      subst b;simp(disch:=omega)[wl,j,o,p,I,K]
     ·skip;by_cases V:r.w<0
      ·rw[if_pos (by omega)]at f
       have b:R=8:=by
        rw[<-f]at a;rw[if_pos (by first|decide|assumption)]at a;exact a.symm
       subst b;simp(disch:=omega)[wl,j,o,p,I,K,V]
      ·skip;by_cases a6:6<r.w
       ·rw[if_pos (by omega)]at f
        have b:R=8:=by
         rw[<-f]at a;rw[if_pos (by first|decide|assumption)]at a;exact a.symm
        subst b;simp(disch:=omega)[wl,j,o,p,I,K,V,a6]
       ·skip;rw[if_neg (by omega)]at f;simp(disch:=omega)[wl,j,o,p,I,K,V,a6];refine aa M ?_;by_cases u0:U=0
        ·subst u0;rw[if_neg (by omega)]at a;simp(disch:=omega)[wl];refine aa Y ?_;simp(disch:=omega)[wl];refine aa Z ?_;simp(disch:=omega)[wl];refine aa s6 ?_;simp(disch:=omega)[wl];refine aa s7 ?_;simp(disch:=omega)[wl];refine aa s8 ?_;simp(disch:=omega)[wl];refine aa s9 ?_;simp(disch:=omega)[wl];refine aa u ?_;simp(disch:=omega)[wl];refine aa w ?_;simp(disch:=omega)[wl];refine aa z ?_;simp(disch:=omega)[wl];refine aa i ?_;by_cases W:F=0
         ·subst W;rw[if_neg (by simp)]at a;have g:Gu r->R=9:=fun h=>by rw[if_pos h]at a;exact a.symm
          have c:¬Gu r->R=0:=fun h=>by rw[if_neg h]at a;exact a.symm
          unfold Gu at g c;rw[s]at g c;have J:IP r=r.l7.length+r.l4.length+r.l5.length+r.l6.length+r.l8.length+r.l9.length+r.l10.length+r.l11.length:=rfl;obtain⟨O,hO⟩:∃O,IP r=O:=⟨_,rfl⟩;rw[hO]at g c J;simp(disch:=omega)[wl,is_len,aH];refine⟨rfl,?_⟩;refine aa X ?_;rcases Bool.eq_false_or_eq_true N with n1|n1<;>subst n1<;>simp only[eq_self,Bool.false_eq_true,true_and,false_and,false_or]at g c
          all_goals simp(disch:=omega)[wl,is_len,aH]
          all_goals repeat' (first|exact(g (by omega)).symm|exact(c (by omega)).symm|(refine Pd (fun h=>?_) (fun h=>?_)<;>simp(disch:=omega)[wl,is_len,aH,h]))
         ·have b:R=F:=by rw[if_pos W]at a;exact a.symm
          subst b;simp(disch:=omega)[wl,W];rfl
        ·have b:R=U:=by rw[<-f,if_pos u0]at a;exact a.symm
         subst b;simp(disch:=omega)[wl,u0]
end Go.Vs.YtcjeehebikeghaaGreatDoor.Rc
