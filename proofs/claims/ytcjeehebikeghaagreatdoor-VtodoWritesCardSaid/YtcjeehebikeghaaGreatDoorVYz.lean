/- A part of a proof. No conditions. -/
import Derived.Test.YtcjeehebikeghaaGreatDoorVUz
import Derived.Test.YtcjeehebikeghaaGreatDoorVPz
set_option linter.unusedVariables false
set_option linter.unusedSimpArgs false
set_option maxRecDepth 100000
set_option maxHeartbeats 16000000
namespace Go.Vs.YtcjeehebikeghaaGreatDoor.Vt
open Go.Proofs Go.Vs.U8 Go.Vs.Pa Go.Vs.Nu Go.Vs.Mo Go.Vs.Vt Go.Vs.YtcjeehebikeghaaGreatDoor.Rc
theorem RA{l:List Ln} : ∀ {r:List Ln} {i:Nat} {f:Fc} {e:Int} {p:Nat},ju l r i f=.no e p->p<=i+r.length
 |[],i,f,e,p,h=>by
  unfold ju at h;split at h
  ·cases h
  ·cases h;omega
 |x::r,i,f,e,p,h=>by
  unfold ju at h;split at h
  ·have:=RA h;simp only[List.length_cons];omega
  ·cases h;omega
theorem Ti{l:List Ln}{e:Int}{p:Nat}(h:mH l=.no e p):p<=l.length+24:=by
 unfold mH at h;split at h
 ·cases h;omega
 ·have:=RA h;omega
theorem Uu:FitF Zv:=by
 refine⟨mj,mj,mj,mj,?_,?_,?_,?_,?_,?_,?_,?_,?_,?_,?_⟩<;>simp[Zv,uW,Ws,SR]
theorem Zs(l:List Ln)(a:Int):Fn G2 T_ 3 [.slice (ls l),.int .i64 a] (.bool true):=by
 refine ae hm yI (by simp) ?_;have A:=up (Vx l);simp[qK];refine aa A ?_;cases z:sh l with
 |false=>
  simp(disch:=omega)[wl];refine aa JL ?_;simp
 |true=>
  obtain⟨D,w⟩:=SG z;have x:=Te z;have B:=up (aaS l (by omega) w);have y:=xX l w x (by omega);have b:=Zr l w x (by omega);simp(disch:=omega)[wl];refine aa B ?_;simp;refine aa y ?_;cases d:mH l with
  |no e p=>
   rw[d]at b;have C:=Un d;have E:=Ti d;have g:=fn_Back Zv Uu;have h:=Rq Zv Uu;have s:=up (uv e [(p:Int)]);have u:=up (Qf e [(p:Int)] (by simp;omega) (by simp));obtain⟨t,v,i⟩:=dD e [(p:Int)];rw[i]at s u;simp only[T9,i];simp only[Wm,Fc.iv,vh,cells,List.cons_append,List.nil_append]at b g h |-;simp(disch:=omega)[wl];refine aa b ?_;simp;refine aa g ?_;simp;refine aa h ?_;simp;refine aa s ?_;simp;refine aa u ?_;simp(disch:=omega)[wl,C];refine⟨rfl,?_⟩;refine aa JL ?_;simp
  |ok f=>
   rw[d]at b;have c:=Zq x d;have g:=fn_Back f c;have h:=Rq f c;have s:=up wA;have u:=up NG;have j:=T4 f c;have k:=Uj f c;have m:=Rd f c a;have n:=EP f c a;have o:=OK f;have q:=Rb f;simp only[Wm,T9,Fc.iv,vh,cells,List.cons_append,List.nil_append]at b g h j k m n o q |-;simp(disch:=omega)[wl];refine aa b ?_;simp;refine aa g ?_;simp;refine aa h ?_;simp;refine aa s ?_;simp;refine aa u ?_;simp(disch:=omega)[wl];refine⟨rfl,?_⟩;refine aa j ?_;simp;refine aa k ?_;simp;refine aa m ?_;simp;refine aa n ?_;simp;refine aa o ?_;simp;refine aa q ?_;simp;refine aa JL ?_;simp;rfl
theorem VtodoReads_true(a:List IV)(h:aaj [.slice scL,.int .i64] a):Fn G2 T_ 3 a (.bool true):=by
 obtain⟨v,b,rfl,⟨i,c,_,g⟩,x,d,rfl,⟨n,f,j⟩,e⟩:=h;have e:d=[]:=e;subst e;simp only[List.cons.injEq,and_true]at c f;subst c f;obtain⟨l,rfl⟩:=lines_of g;exact Zs l n
end Go.Vs.YtcjeehebikeghaaGreatDoor.Vt
