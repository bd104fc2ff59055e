/- The walk of the statements of recur: what is printed is parsed as it was. No conditions. -/
import Derived.Test.YtbchceojmblkkaaGreatDoorRU
import Derived.Test.YtbchceojmblkkaaGreatDoorRA
set_option linter.unusedVariables false
set_option linter.unusedSimpArgs false
namespace Go.Vs.U8
end Go.Vs.U8
namespace Go.Vs.Pa
end Go.Vs.Pa
namespace Go.Vs.Cv
end Go.Vs.Cv
namespace Go.Vs.Mo
end Go.Vs.Mo
namespace Go.Vs.Nu
end Go.Vs.Nu
namespace Go.Vs.YtbchceojmblkkaaGreatDoor.Rc
set_option linter.unusedSimpArgs false
set_option linter.unusedVariables false
open Go.Proofs Go.Vs.U8 Go.Vs.Pa Go.Vs.Cv Go.Vs.Mo Go.Vs.Nu Go.Lib
set_option maxRecDepth 100000
set_option maxHeartbeats 32000000
theorem takeR_fin {r y : Ru} {k : Nat} {v : Str} (hk : k < 14) (hF : Fin r) (h : takeR r k v = .ok y) : Fin y := by
 by_cases h7 : k = 7
 ·subst h7
  rw [td_eq] at h
  cases hE : everyR dayR v with
  | ok l => rw [hE] at h; simp only [TkR.ok.injEq] at h; rw [← h]; exact td_fin (everyR_len hE) hF
  | no e p => rw [hE] at h; cases h
 ·by_cases hl : k ∈ listKs
  ·rw [tl_eq r k hl h7] at h
   cases hE : everyR (numR 5 (wlo k) (whi k) (wsg k)) v with
   | ok l => rw [hE] at h; simp only [TkR.ok.injEq] at h; rw [← h]; exact tl_fin (everyR_len hE) hF
   | no e p => rw [hE] at h; cases h
  ·rw [tk_eq r k (by simp [listKs] at hl; omega)] at h
   split at h
   ·simp only [TkR.ok.injEq] at h; rw [← h]; exact tk_fin k v hF
   ·cases h
theorem parseGo_fin : ∀ {N : Nat} {ps : List Str} {a : Nat} {was : List Nat} {r x : Ru}, Fin r → parseGo N ps a was r = .ok x → Fin x
 | N, [], a, was, r, x, h0, h => by
  simp only [parseGo, endR] at h
  split at h
  ·split at h
   ·next h1 => simp only [RuR.ok.injEq] at h; rw [← h]; exact h0
   ·cases h
  ·cases h
 | N, p :: ps, a, was, r, x, h0, h => by
  simp only [parseGo] at h
  split at h
  ·cases h
  ·split at h
   ·cases h
   ·next hk =>
    split at h
    ·cases h
    ·split at h
     ·cases h
     ·next ht => exact parseGo_fin (takeR_fin (by omega) h0 ht) h
theorem parseRu_fin {s : Str} {x : Ru} (h : parseRu s = .ok x) : Fin x ∧ checkR x = 0 :=
 ⟨parseGo_fin ⟨by simp [FitR, ru1], by simp [ru1], by simp [ru1]⟩ h, parseGo_ok h⟩
theorem errR_nn (e : Int) (p : List Int) : ∃ t v, errIV e p = .iface t v := by
 cases p with
 | nil => exact ⟨_, _, rfl⟩
 | cons a l => exact ⟨_, _, rfl⟩
end Go.Vs.YtbchceojmblkkaaGreatDoor.Rc
