/- The walk of the statements of recur: what is printed is parsed as it was. No conditions. -/
import Derived.Test.YtcjeehebikeghaaGreatDoorRR
set_option linter.unusedVariables false
set_option linter.unusedSimpArgs false
set_option maxRecDepth 100000
set_option maxHeartbeats 32000000
namespace Go.Vs.YtcjeehebikeghaaGreatDoor.Rc
open Go.Proofs Go.Vs.U8 Go.Vs.Pa Go.Vs.Cv Go.Vs.Mo Go.Vs.Nu Go.Lib
theorem SL{r y:Ru}{k:Nat}{v:Str}(hk:k<14)(hF:Fin r)(h:D8 r k v=.ok y):Fin y:=by
 by_cases h7:k=7
 ·subst h7;rw[Z3]at h;cases hE:dW Af v with
  |ok l=>rw[hE]at h;simp only[TkR.ok.injEq]at h;rw[←h];exact VR (tH hE) hF
  |no e p=>rw[hE]at h;cases h
 ·by_cases hl:k∈cE
  ·rw[Z2 r k hl h7]at h;cases hE:dW (dU 5 (O0 k) (O1 k) (SA k)) v with
   |ok l=>rw[hE]at h;simp only[TkR.ok.injEq]at h;rw[←h];exact VQ (tH hE) hF
   |no e p=>rw[hE]at h;cases h
  ·rw[VO r k (by simp[cE]at hl;omega)]at h;split at h
   ·simp only[TkR.ok.injEq]at h;rw[←h];exact PO k v hF
   ·cases h
theorem Dh:∀ {N:Nat} {ps:List Str} {a:Nat} {was:List Nat} {r x:Ru},Fin r→kL N ps a was r=.ok x→Fin x
 |N,[],a,was,r,x,h0,h=>by
  simp only[kL,XP]at h;split at h
  ·split at h
   ·next h1=>simp only[RuR.ok.injEq]at h;rw[←h];exact h0
   ·cases h
  ·cases h
 |N,p::ps,a,was,r,x,h0,h=>by
  simp only[kL]at h;split at h
  ·cases h
  ·split at h
   ·cases h
   ·next hk=>
    split at h
    ·cases h
    ·split at h
     ·cases h
     ·next ht=>exact Dh (SL (by omega) h0 ht) h
theorem O9{s:Str}{x:Ru}(h:qJ s=.ok x):Fin x∧o5 x=0:=
 ⟨Dh ⟨by simp[wa,XO],by simp[XO],by simp[XO]⟩ h,FZ h⟩
end Go.Vs.YtcjeehebikeghaaGreatDoor.Rc
