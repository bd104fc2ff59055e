/- A part of a proof. No conditions. -/
import Derived.Test.YtcjeehebikeghaaGreatDoorVA
set_option linter.unusedVariables false
set_option linter.unusedSimpArgs false
namespace Go.Vs.YtcjeehebikeghaaGreatDoor.Vt
open Go.Lib Go.Vs.U8 Go.Vs.Pa Go.Vs.Nu Go.Vs.Mo Go.Vs.Vt Go.Vs.YtcjeehebikeghaaGreatDoor.Rc
theorem RO{n v:Str}{p:List Pm}(hn:mS n=true)(hp:jv p=0)(hl:v.length<=200)(hc:∀c∈v,32<=c.toNat/\c.toNat<127):fV ⟨n,p,v⟩=0:=by
 unfold fV;rw[if_pos hn,if_pos hp,if_neg (by simp only;omega),Ge v.length v (Nat.le_refl _) hc];rfl
theorem OH{l:Str}(h:l.all dL=true):∀c∈l,32<=c.toNat/\c.toNat<127:=fun c hc=>by
 have:=List.all_eq_true.1 h c hc;simp[dL]at this;omega
theorem LN(v:Mom):∀c∈dQ v,32<=c.toNat/\c.toNat<127:=by
 have hw:∀w n,∀c∈wide w n,32<=c.toNat/\c.toNat<127:=fun w n=>OH (kN w n)
 intro c hc;unfold dQ Mo.dayT Di at hc;simp only[List.mem_append,List.mem_cons]at hc;rcases hc with(h|h|h)|h
 ·exact hw _ _ c h
 ·exact hw _ _ c h
 ·exact hw _ _ c h
 ·split at h
  ·cases h
  ·simp only[List.mem_append,List.mem_cons]at h;rcases h with rfl|(h|h|h)|h
   ·decide
   ·exact hw _ _ c h
   ·exact hw _ _ c h
   ·exact hw _ _ c h
   ·split at h
    ·simp at h;rw[h];decide
    ·cases h
theorem yZ{α:Type}{g g':Str->Option Ln}{n:Str}{h:Ln->α}{d:α}(e:g n=g' n):fo g n h d=fo g' n h d:=by unfold fo;rw[e]
end Go.Vs.YtcjeehebikeghaaGreatDoor.Vt
