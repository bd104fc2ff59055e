/- A part of a proof. No conditions. -/
import Derived.Test.YtnhbiolfmeeniaaGreatDoorRRz
set_option linter.all false
set_option maxRecDepth 100000
set_option maxHeartbeats 32000000
namespace Go.Vs.Y.Rc
open Go.Proofs Go.Vs.U8 Go.Vs.Pa Go.Vs.Cv Go.Vs.Mo Go.Vs.Nu Go.Lib
theorem ZK{r y:Ru}{k:Nat}{v:Str}(f:k<14)(b:Fin r)(h:kN r k v=.ok y):Fin y:=by
 by_cases c:k=7
 .subst c;rw[ag0]at h;cases a:cS tw v with
  |ok l=>rw[a]at h;simp only[TkR.ok.injEq]at h;rw[<-h];exact ac2 (xG a) b
  |no e p=>rw[a]at h;cases h
 by_cases d:k∈bq
 .rw[agZ r k d c]at h;cases a:cS (dT 5 (Nt k) (L7 k) (TF k)) v with
  |ok l=>rw[a]at h;simp only[TkR.ok.injEq]at h;rw[<-h];exact ac1 (xG a) b
  |no e p=>rw[a]at h;cases h
 rw[acZ r k (by simp[bq]at d;omega)]at h;split at h
 .simp only[TkR.ok.injEq]at h;rw[<-h];exact Wm k v b
 cases h
theorem I3:∀ {N:Nat} {ps:List Str} {a:Nat} {b:List Nat} {r x:Ru},Fin r->fj N ps a b r=.ok x->Fin x
 |N,[],a,b,r,x,c,h=>by
  simp only[fj,Nw]at h;split at h
  .split at h
   .next e=>simp only[RuR.ok.injEq]at h;rw[<-h];exact c
   cases h
  cases h
 |N,p::ps,a,b,r,x,c,h=>by
  simp only[fj]at h;split at h
  .cases h
  split at h
  .cases h
  next f=>
  split at h
  .cases h
  split at h
  .cases h
  next d=>exact I3 (ZK (by omega) c d) h
theorem TT{s:Str}{x:Ru}(h:iY s=.ok x):Fin x/\cT x=0:=
 ⟨I3 ⟨by simp[Do,Xw],by simp[Xw],by simp[Xw]⟩ h,Lh h⟩
end Go.Vs.Y.Rc
