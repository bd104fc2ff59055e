/- A part of a proof. No conditions. -/
import Derived.Test.YtcjeehebikeghaaGreatDoorRR
set_option linter.unusedVariables false
set_option linter.unusedSimpArgs false
set_option maxRecDepth 100000
set_option maxHeartbeats 32000000
namespace Go.Vs.YtcjeehebikeghaaGreatDoor.Rc
open Go.Proofs Go.Vs.U8 Go.Vs.Pa Go.Vs.Cv Go.Vs.Mo Go.Vs.Nu Go.Lib
theorem Ol{r y:Ru}{k:Nat}{v:Str}(hk:k<14)(hF:Fin r)(h:AL r k v=.ok y):Fin y:=by
 by_cases h7:k=7
 ·subst h7;rw[Uv]at h;cases hE:dC y6 v with
  |ok l=>rw[hE]at h;simp only[TkR.ok.injEq]at h;rw[<-h];exact Rk (rC hE) hF
  |no e p=>rw[hE]at h;cases h
 ·by_cases hl:k∈dj
  ·rw[Uu r k hl h7]at h;cases hE:dC (eH 5 (JO k) (JP k) (Oc k)) v with
   |ok l=>rw[hE]at h;simp only[TkR.ok.injEq]at h;rw[<-h];exact Rj (rC hE) hF
   |no e p=>rw[hE]at h;cases h
  ·rw[Rh r k (by simp[dj]at hl;omega)]at h;split at h
   ·simp only[TkR.ok.injEq]at h;rw[<-h];exact Lw k v hF
   ·cases h
theorem AU:∀ {N:Nat} {ps:List Str} {a:Nat} {was:List Nat} {r x:Ru},Fin r->jM N ps a was r=.ok x->Fin x
 |N,[],a,was,r,x,h0,h=>by
  simp only[jM,Ti]at h;split at h
  ·split at h
   ·next h1=>simp only[RuR.ok.injEq]at h;rw[<-h];exact h0
   ·cases h
  ·cases h
 |N,p::ps,a,was,r,x,h0,h=>by
  simp only[jM]at h;split at h
  ·cases h
  ·split at h
   ·cases h
   ·next hk=>
    split at h
    ·cases h
    ·split at h
     ·cases h
     ·next ht=>exact AU (Ol (by omega) h0 ht) h
theorem JX{s:Str}{x:Ru}(h:pg s=.ok x):Fin x/\mJ x=0:=
 ⟨AU ⟨by simp[zT,Th],by simp[Th],by simp[Th]⟩ h,Do h⟩
end Go.Vs.YtcjeehebikeghaaGreatDoor.Rc
