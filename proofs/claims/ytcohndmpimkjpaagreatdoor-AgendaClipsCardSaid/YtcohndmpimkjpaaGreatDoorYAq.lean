/- Calls whose answers are known at whatever arguments, beside a table of those that are known at theirs. No conditions. -/
import Derived.Test.YtcohndmpimkjpaaGreatDoorBJq
import Derived.Test.YtcohndmpimkjpaaGreatDoorBFq
set_option linter.unusedVariables false
set_option linter.unusedSimpArgs false
namespace Go.Vs.YtcohndmpimkjpaaGreatDoor.Ag
set_option linter.unusedSimpArgs false
set_option linter.unusedVariables false
open Go.Proofs Go.Vs.U8 Go.Vs.YtcohndmpimkjpaaGreatDoor
set_option maxRecDepth 100000
set_option maxHeartbeats 4000000
theorem fn_CountString (s : Str) (c : UInt8) : Fn G Tryz.prog k_internal_bytealg_CountString [.str s, .int .u8 c.toNat] (.int .i64 (s.count c)) := by
  refine fn_extern ⟨Tryz.f317, Tryz.func317, by decide⟩ ?_
  rintro w S vs ⟨v1, _, rfl, h1, v2, _, rfl, h2, h3⟩
  have h1 : v1 = .string ⟨s.toArray⟩ := h1
  have h2 : v2 = .int .u8 c.toNat := h2
  have h3 : _ = [] := h3
  subst h1; subst h2; subst h3
  refine ⟨.int .i64 (s.count c), ?_, rfl⟩
  have hr := run_callFunc_extern (P := Tryz.prog) Tryz.func317 (by kernel_rfl) (by kernel_rfl) (by kernel_rfl) (e := Extern.BytealgCount.count) (by kernel_rfl) #[.string ⟨s.toArray⟩, .int .u8 c.toNat] w
  rw [Go.Lib.run_countString] at hr
  have e1 : ((c.toNat : Int)).toNat.toUInt8 = c := by simp
  rw [e1] at hr
  exact hr
/-- Calls of texts that are known at whatever text. -/
def natT (k : Nat) : List IV → Option Res
  | [.str s] => bif Nat.blt s.length 1000000 then (bif Nat.beq k k_utf_Upper then some (.imm (.str (upper s))) else bif Nat.beq k k_utf_Odd then some (.imm (.int .i64 (oddI (odd s)))) else none) else none
  | [.str s, .int .u8 (.ofNat c)] => bif Nat.blt c 256 then (bif Nat.beq k k_internal_bytealg_IndexByteString then some (.imm (.int .i64 (idxB s (UInt8.ofNat c)))) else bif Nat.beq k k_internal_bytealg_CountString then some (.imm (.int .i64 (s.count (UInt8.ofNat c)))) else none) else none
  | _ => none
theorem natT_ok {k : Nat} {args : List IV} {r : Res} (h : natT k args = some r) : FnR G2 Tryz.prog k args r := by
  unfold natT at h
  split at h
  · next s =>
    cases hb : Nat.blt s.length 1000000 with
    | false => rw [hb] at h; cases h
    | true =>
      have hs : s.length < 1000000 := Nat.lt_of_succ_le (by simpa [Nat.blt] using hb)
      rw [hb] at h
      cases h1 : Nat.beq k k_utf_Upper with
      | true =>
        rw [h1] at h
        cases h
        rw [Nat.eq_of_beq_eq_true h1]
        exact up (fn_Upper s hs)
      | false =>
        rw [h1] at h
        cases h2 : Nat.beq k k_utf_Odd with
        | false => rw [h2] at h; cases h
        | true =>
          rw [h2] at h
          cases h
          rw [Nat.eq_of_beq_eq_true h2]
          exact up (fn_Odd s hs)
  · next s c =>
    cases hb : Nat.blt c 256 with
    | false => rw [hb] at h; cases h
    | true =>
      have hc : c < 256 := Nat.lt_of_succ_le (by simpa [Nat.blt] using hb)
      have e1 : (UInt8.ofNat c).toNat = c := by simp; omega
      have e2 : (Int.ofNat c) = ((UInt8.ofNat c).toNat : Int) := by rw [e1]; rfl
      rw [hb] at h
      cases h1 : Nat.beq k k_internal_bytealg_IndexByteString with
      | true =>
        rw [h1] at h
        cases h
        rw [Nat.eq_of_beq_eq_true h1, e2]
        exact up (fn_IndexByteString s (UInt8.ofNat c))
      | false =>
        rw [h1] at h
        cases h2 : Nat.beq k k_internal_bytealg_CountString with
        | false => rw [h2] at h; cases h
        | true =>
          rw [h2] at h
          cases h
          rw [Nat.eq_of_beq_eq_true h2, e2]
          exact up (fn_CountString s (UInt8.ofNat c))
  · cases h
def tabY (es : List Ent) : Job → Option Out
  | .fn gl k args => match natT k args with
    | some r => bif eqGl G2 gl then some (.res r) else none
    | none => tabGo G2 gl k args es
  | _ => none
theorem tabY_ok {es : List Ent} (h : ∀ e ∈ es, FnR G2 Tryz.prog e.k e.args e.r) : ∀ j o, tabY es j = some o → JobOk Tryz.prog j o := by
  intro j o hj
  cases j with
  | fn gl' k args =>
    simp only [tabY] at hj
    split at hj
    · next r hr =>
      cases hc : eqGl G2 gl' with
      | false => rw [hc] at hj; cases hj
      | true =>
        rw [hc] at hj
        cases hj
        rw [← eqGl_ok _ _ hc]
        exact natT_ok hr
    · exact tabT_ok (gl := G2) h (.fn gl' k args) o hj
  | mc => simp [tabY] at hj
  | loop => simp [tabY] at hj
  | round => simp [tabY] at hj
def mcY : List Nat := [18, 20, 21, 22, 23, 28, 35, 39, 43, 53, 61, 62, 69, 82, 86, 87, 88, 89, 90, 108, 109, 114, 115, 135, 140, 141, 146, 162, 182, 185, 200, 230, 231, 263, 264]
def mvY : List Nat := [20, 22, 90]
/-- A call, reckoned over a table. -/
theorem yRun {es : List Ent} (h : ∀ e ∈ es, FnR G2 Tryz.prog e.k e.args e.r) (n : Nat) {e : Ent} (hr : xRun (fnOf Tryz.prog mcY mvY) (tabY es) n (.fn G2 e.k e.args) = some (.res e.r)) : FnR G2 Tryz.prog e.k e.args e.r :=
  fn_run hm mcY mvY (tabY_ok h) n hr
theorem noE : ∀ e ∈ ([] : List Ent), FnR G2 Tryz.prog e.k e.args e.r := by simp
end Go.Vs.YtcohndmpimkjpaaGreatDoor.Ag
namespace Go.Vs.YtcohndmpimkjpaaGreatDoor.Ag
set_option linter.unusedSimpArgs false
set_option linter.unusedVariables false
open Go.Proofs Go.Vs.U8 Go.Vs.YtcohndmpimkjpaaGreatDoor
set_option maxRecDepth 100000
set_option maxHeartbeats 16000000
def wRu : IV := .agg [.int .u8 3, .int .i64 1, .int .i64 0, .int .u8 0, .int .i64 0, .slice [], .slice [], .slice [], .slice [], .slice [], .slice [], .slice [], .slice [], .slice [], .int .i64 0]
def wLa : IV := .slice [[.str [85, 73, 68], .slice [], .str [98]], [.str [68, 84, 83, 84, 65, 77, 80], .slice [], .str [50, 48, 50, 52, 48, 49, 48, 49, 84, 48, 48, 48, 48, 48, 48, 90]], [.str [68, 84, 83, 84, 65, 82, 84], .slice [], .str [50, 48, 50, 52, 48, 49, 48, 49, 84, 48, 56, 48, 48, 48, 48, 90]], [.str [68, 85, 82, 65, 84, 73, 79, 78], .slice [], .str [80, 84, 49, 50, 72]], [.str [82, 82, 85, 76, 69], .slice [], .str [70, 82, 69, 81, 61, 68, 65, 73, 76, 89]]]
def wLb : IV := .slice [[.str [85, 73, 68], .slice [], .str [97]], [.str [68, 84, 83, 84, 65, 77, 80], .slice [], .str [50, 48, 50, 52, 48, 49, 48, 49, 84, 48, 48, 48, 48, 48, 48, 90]], [.str [68, 85, 69], .slice [], .str [50, 48, 50, 52, 48, 49, 48, 50, 84, 50, 48, 48, 48, 48, 48, 90]]]
def wFa : IV := .agg [.str [98], .str [], .int .u8 3, .int .i64 63839664000, .int .u8 3, .int .i64 63839692800, .int .u8 0, .int .i64 0, .int .i64 43200, .int .u8 0, .int .i64 (-1), .int .i64 (-1), .int .i64 0, .bool true, .int .u8 3, .int .i64 1, .int .i64 0, .int .u8 0, .int .i64 0, .slice [], .slice [], .slice [], .slice [], .slice [], .slice [], .slice [], .slice [], .slice [], .int .i64 0, .slice [], .slice [], .int .u8 0, .int .i64 0, .bool false]
def wFb : IV := .agg [.str [97], .str [], .int .u8 3, .int .i64 63839664000, .int .u8 0, .int .i64 0, .int .u8 3, .int .i64 63839822400, .int .i64 0, .int .u8 0, .int .i64 (-1), .int .i64 (-1), .int .i64 0, .bool false, .int .u8 0, .int .i64 0, .int .i64 0, .int .u8 0, .int .i64 0, .slice [], .slice [], .slice [], .slice [], .slice [], .slice [], .slice [], .slice [], .slice [], .int .i64 0, .slice [], .slice [], .int .u8 0, .int .i64 0, .bool false]
def wSet : IV := .agg [.int .u8 3, .int .i64 63839692800, .int .u8 3, .int .i64 1, .int .i64 0, .int .u8 0, .int .i64 0, .slice [], .slice [], .slice [], .slice [], .slice [], .slice [], .slice [], .slice [], .slice [], .int .i64 0, .slice [], .slice []]
def wSt : IV := .agg [.slice [[.str [97], wLb], [.str [98], wLa]]]
def wTxt : IV := .str [66, 69, 71, 73, 78, 58, 86, 67, 65, 76, 69, 78, 68, 65, 82, 13, 10, 86, 69, 82, 83, 73, 79, 78, 58, 50, 46, 48, 13, 10, 66, 69, 71, 73, 78, 58, 86, 84, 79, 68, 79, 13, 10, 85, 73, 68, 58, 98, 13, 10, 68, 84, 83, 84, 65, 77, 80, 58, 50, 48, 50, 52, 48, 49, 48, 49, 84, 48, 48, 48, 48, 48, 48, 90, 13, 10, 68, 84, 83, 84, 65, 82, 84, 58, 50, 48, 50, 52, 48, 49, 48, 49, 84, 48, 56, 48, 48, 48, 48, 90, 13, 10, 68, 85, 82, 65, 84, 73, 79, 78, 58, 80, 84, 49, 50, 72, 13, 10, 82, 82, 85, 76, 69, 58, 70, 82, 69, 81, 61, 68, 65, 73, 76, 89, 13, 10, 69, 78, 68, 58, 86, 84, 79, 68, 79, 13, 10, 66, 69, 71, 73, 78, 58, 86, 84, 79, 68, 79, 13, 10, 85, 73, 68, 58, 97, 13, 10, 68, 84, 83, 84, 65, 77, 80, 58, 50, 48, 50, 52, 48, 49, 48, 49, 84, 48, 48, 48, 48, 48, 48, 90, 13, 10, 68, 85, 69, 58, 50, 48, 50, 52, 48, 49, 48, 50, 84, 50, 48, 48, 48, 48, 48, 90, 13, 10, 69, 78, 68, 58, 86, 84, 79, 68, 79, 13, 10, 69, 78, 68, 58, 86, 67, 65, 76, 69, 78, 68, 65, 82, 13, 10]
def wRows : IV := .slice [[.str [66, 69, 71, 73, 78, 58, 86, 67, 65, 76, 69, 78, 68, 65, 82], .slice [[.int .i64 0, .int .i64 0]]], [.str [86, 69, 82, 83, 73, 79, 78, 58, 50, 46, 48], .slice [[.int .i64 0, .int .i64 17]]], [.str [66, 69, 71, 73, 78, 58, 86, 84, 79, 68, 79], .slice [[.int .i64 0, .int .i64 30]]], [.str [85, 73, 68, 58, 98], .slice [[.int .i64 0, .int .i64 43]]], [.str [68, 84, 83, 84, 65, 77, 80, 58, 50, 48, 50, 52, 48, 49, 48, 49, 84, 48, 48, 48, 48, 48, 48, 90], .slice [[.int .i64 0, .int .i64 50]]], [.str [68, 84, 83, 84, 65, 82, 84, 58, 50, 48, 50, 52, 48, 49, 48, 49, 84, 48, 56, 48, 48, 48, 48, 90], .slice [[.int .i64 0, .int .i64 76]]], [.str [68, 85, 82, 65, 84, 73, 79, 78, 58, 80, 84, 49, 50, 72], .slice [[.int .i64 0, .int .i64 102]]], [.str [82, 82, 85, 76, 69, 58, 70, 82, 69, 81, 61, 68, 65, 73, 76, 89], .slice [[.int .i64 0, .int .i64 118]]], [.str [69, 78, 68, 58, 86, 84, 79, 68, 79], .slice [[.int .i64 0, .int .i64 136]]], [.str [66, 69, 71, 73, 78, 58, 86, 84, 79, 68, 79], .slice [[.int .i64 0, .int .i64 147]]], [.str [85, 73, 68, 58, 97], .slice [[.int .i64 0, .int .i64 160]]], [.str [68, 84, 83, 84, 65, 77, 80, 58, 50, 48, 50, 52, 48, 49, 48, 49, 84, 48, 48, 48, 48, 48, 48, 90], .slice [[.int .i64 0, .int .i64 167]]], [.str [68, 85, 69, 58, 50, 48, 50, 52, 48, 49, 48, 50, 84, 50, 48, 48, 48, 48, 48, 90], .slice [[.int .i64 0, .int .i64 193]]], [.str [69, 78, 68, 58, 86, 84, 79, 68, 79], .slice [[.int .i64 0, .int .i64 215]]], [.str [69, 78, 68, 58, 86, 67, 65, 76, 69, 78, 68, 65, 82], .slice [[.int .i64 0, .int .i64 226]]]]
def wNodes : IV := .slice [[.int .i64 (-1), .str [86, 67, 65, 76, 69, 78, 68, 65, 82], .slice [[.str [86, 69, 82, 83, 73, 79, 78], .slice [], .str [50, 46, 48]]]], [.int .i64 0, .str [86, 84, 79, 68, 79], wLa], [.int .i64 0, .str [86, 84, 79, 68, 79], wLb]]
def e2 : Ent := ⟨26, [.str [66, 69, 71, 73, 78, 58, 86, 67, 65, 76, 69, 78, 68, 65, 82]], .imm (.tuple [.agg [.str [66, 69, 71, 73, 78], .slice [], .str [86, 67, 65, 76, 69, 78, 68, 65, 82]], .nili])⟩
theorem y2 : FnR G2 Tryz.prog e2.k e2.args e2.r := yRun noE 300 (by kernel_rfl)
def e3 : Ent := ⟨26, [.str [86, 69, 82, 83, 73, 79, 78, 58, 50, 46, 48]], .imm (.tuple [.agg [.str [86, 69, 82, 83, 73, 79, 78], .slice [], .str [50, 46, 48]], .nili])⟩
theorem y3 : FnR G2 Tryz.prog e3.k e3.args e3.r := yRun noE 300 (by kernel_rfl)
def e4 : Ent := ⟨26, [.str [66, 69, 71, 73, 78, 58, 86, 84, 79, 68, 79]], .imm (.tuple [.agg [.str [66, 69, 71, 73, 78], .slice [], .str [86, 84, 79, 68, 79]], .nili])⟩
theorem y4 : FnR G2 Tryz.prog e4.k e4.args e4.r := yRun noE 300 (by kernel_rfl)
def e5 : Ent := ⟨26, [.str [85, 73, 68, 58, 98]], .imm (.tuple [.agg [.str [85, 73, 68], .slice [], .str [98]], .nili])⟩
theorem y5 : FnR G2 Tryz.prog e5.k e5.args e5.r := yRun noE 300 (by kernel_rfl)
def e6 : Ent := ⟨26, [.str [68, 84, 83, 84, 65, 77, 80, 58, 50, 48, 50, 52, 48, 49, 48, 49, 84, 48, 48, 48, 48, 48, 48, 90]], .imm (.tuple [.agg [.str [68, 84, 83, 84, 65, 77, 80], .slice [], .str [50, 48, 50, 52, 48, 49, 48, 49, 84, 48, 48, 48, 48, 48, 48, 90]], .nili])⟩
theorem y6 : FnR G2 Tryz.prog e6.k e6.args e6.r := yRun noE 300 (by kernel_rfl)
def e7 : Ent := ⟨26, [.str [68, 84, 83, 84, 65, 82, 84, 58, 50, 48, 50, 52, 48, 49, 48, 49, 84, 48, 56, 48, 48, 48, 48, 90]], .imm (.tuple [.agg [.str [68, 84, 83, 84, 65, 82, 84], .slice [], .str [50, 48, 50, 52, 48, 49, 48, 49, 84, 48, 56, 48, 48, 48, 48, 90]], .nili])⟩
theorem y7 : FnR G2 Tryz.prog e7.k e7.args e7.r := yRun noE 300 (by kernel_rfl)
def e8 : Ent := ⟨26, [.str [68, 85, 82, 65, 84, 73, 79, 78, 58, 80, 84, 49, 50, 72]], .imm (.tuple [.agg [.str [68, 85, 82, 65, 84, 73, 79, 78], .slice [], .str [80, 84, 49, 50, 72]], .nili])⟩
theorem y8 : FnR G2 Tryz.prog e8.k e8.args e8.r := yRun noE 300 (by kernel_rfl)
def e9 : Ent := ⟨26, [.str [82, 82, 85, 76, 69, 58, 70, 82, 69, 81, 61, 68, 65, 73, 76, 89]], .imm (.tuple [.agg [.str [82, 82, 85, 76, 69], .slice [], .str [70, 82, 69, 81, 61, 68, 65, 73, 76, 89]], .nili])⟩
theorem y9 : FnR G2 Tryz.prog e9.k e9.args e9.r := yRun noE 300 (by kernel_rfl)
def e10 : Ent := ⟨26, [.str [69, 78, 68, 58, 86, 84, 79, 68, 79]], .imm (.tuple [.agg [.str [69, 78, 68], .slice [], .str [86, 84, 79, 68, 79]], .nili])⟩
theorem y10 : FnR G2 Tryz.prog e10.k e10.args e10.r := yRun noE 300 (by kernel_rfl)
def e11 : Ent := ⟨26, [.str [85, 73, 68, 58, 97]], .imm (.tuple [.agg [.str [85, 73, 68], .slice [], .str [97]], .nili])⟩
theorem y11 : FnR G2 Tryz.prog e11.k e11.args e11.r := yRun noE 300 (by kernel_rfl)
def e12 : Ent := ⟨26, [.str [68, 85, 69, 58, 50, 48, 50, 52, 48, 49, 48, 50, 84, 50, 48, 48, 48, 48, 48, 90]], .imm (.tuple [.agg [.str [68, 85, 69], .slice [], .str [50, 48, 50, 52, 48, 49, 48, 50, 84, 50, 48, 48, 48, 48, 48, 90]], .nili])⟩
theorem y12 : FnR G2 Tryz.prog e12.k e12.args e12.r := yRun noE 300 (by kernel_rfl)
def e13 : Ent := ⟨26, [.str [69, 78, 68, 58, 86, 67, 65, 76, 69, 78, 68, 65, 82]], .imm (.tuple [.agg [.str [69, 78, 68], .slice [], .str [86, 67, 65, 76, 69, 78, 68, 65, 82]], .nili])⟩
theorem y13 : FnR G2 Tryz.prog e13.k e13.args e13.r := yRun noE 300 (by kernel_rfl)
end Go.Vs.YtcohndmpimkjpaaGreatDoor.Ag
