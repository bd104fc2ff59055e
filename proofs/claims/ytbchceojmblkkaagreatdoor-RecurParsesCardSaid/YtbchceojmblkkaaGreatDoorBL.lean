/- The walk of the library's splitting of a text at a byte. No conditions. -/
import Derived.Test.YtbchceojmblkkaaGreatDoorBK
import Derived.Shelf.Strings.Builder1
import Derived.Shelf.Strings.OnBuilder
import Derived.Shelf.LaysM
import Derived.Shelf.Strconv.Itoa3
import Derived.Shelf.Strings.IndexAnyAll
import Derived.Shelf.Unicode.DecodeSlow
import Derived.Shelf.Unicode.DecodeAny
import Derived.Test.YtbchceojmblkkaaGreatDoorProg
set_option linter.unusedVariables false
set_option linter.unusedSimpArgs false
namespace Go.Vs.U8
end Go.Vs.U8
namespace Go.Vs.Pa
end Go.Vs.Pa
namespace Go.Vs.YtbchceojmblkkaaGreatDoor
set_option linter.unusedSimpArgs false
set_option linter.unusedVariables false
open Go.Proofs Go.Vs.U8 Go.Vs.Pa
set_option maxRecDepth 100000
set_option maxHeartbeats 4000000
def parts (c : UInt8) : Str → List Str
 | [] => [[]]
 | x :: r => if x = c then [] :: parts c r else match parts c r with
  | [] => [[x]]
  | p :: ps => (x :: p) :: ps
theorem parts_ne (c : UInt8) (s : Str) : parts c s ≠ [] := by
 cases s with
 | nil => simp [parts]
 | cons x r => simp only [parts]; split; simp; split <;> simp
theorem parts_len (c : UInt8) (s : Str) : (parts c s).length = s.count c + 1 := by
 induction s with
 | nil => rfl
 | cons x r ih =>
  simp only [parts]
  by_cases h : x = c
  ·subst h; simp [ih]
  ·have h1 : (x :: r).count c = r.count c := by rw [List.count_cons]; simp [h]
   rw [if_neg h, h1]
   split
   ·next hp => exact absurd hp (parts_ne c r)
   ·next p ps hp => rw [hp] at ih; simpa using ih
theorem parts_none {c : UInt8} {s : Str} (h : c ∉ s) : parts c s = [s] := by
 induction s with
 | nil => rfl
 | cons x r ih =>
  simp only [List.mem_cons, not_or] at h
  simp [parts, Ne.symm h.1, ih h.2]
theorem parts_at {c : UInt8} {s : Str} {i : Nat} (h1 : s[i]? = some c) (h2 : c ∉ s.take i) : parts c s = s.take i :: parts c (s.drop (i + 1)) := by
 induction s generalizing i with
 | nil => simp at h1
 | cons x r ih =>
  cases i with
  | zero => simp at h1; subst h1; simp [parts]
  | succ i =>
   simp only [List.take_succ_cons, List.mem_cons, not_or] at h2
   rw [List.getElem?_cons_succ] at h1
   simp only [parts, if_neg (Ne.symm h2.1), ih h1 h2.2, List.take_succ_cons, List.drop_succ_cons]
theorem fn_CountString (s : Str) (c : UInt8) : Fn G Tryz.prog k_internal_bytealg_CountString [.str s, .int .u8 c.toNat] (.int .i64 (s.count c)) := by
 refine fn_extern ⟨Tryz.f226, Tryz.func226, by decide⟩ ?_
 rintro w S vs ⟨v1, _, rfl, h1, v2, _, rfl, h2, h3⟩
 have h1 : v1 = .string ⟨s.toArray⟩ := h1
 have h2 : v2 = .int .u8 c.toNat := h2
 have h3 : _ = [] := h3
 subst h1; subst h2; subst h3
 refine ⟨.int .i64 (s.count c), ?_, rfl⟩
 have hr := run_callFunc_extern (P := Tryz.prog) Tryz.func226 (by kernel_rfl) (by kernel_rfl) (by kernel_rfl) (e := Extern.BytealgCount.count) (by kernel_rfl) #[.string ⟨s.toArray⟩, .int .u8 c.toNat] w
 rw [Go.Lib.run_countString] at hr
 have e1 : ((c.toNat : Int)).toNat.toUInt8 = c := by simp
 rw [e1] at hr
 exact hr
theorem fn_Count (s : Str) (c : UInt8) : Fn G Tryz.prog k_strings_Count [.str s, .str [c]] (.int .i64 (s.count c)) := by
 refine fn_intro hm ok_strings_Count (by simp) ?_
 simp [c_strings_Count, r_strings_Count]
 refine callW_imm (fn_CountString s c) ?_
 simp
theorem fn_slIndex (s : Str) (c : UInt8) : Fn G Tryz.prog k_internal_stringslite_Index [.str s, .str [c]] (.int .i64 (idxB s c)) := by
 refine fn_intro hm ok_internal_stringslite_Index (by simp) ?_
 simp [c_internal_stringslite_Index, r_internal_stringslite_Index]
 refine brd (fun h => ?_) (fun h => ?_)
 ·subst h
  have : idxB [c] c = 0 := idxB_of (i := 0) rfl (by simp)
  simp [this]
 ·simp
  refine callW_imm (fn_slIndexByte s c) ?_
  simp
theorem set_rows (d : List Str) (p : Str) (k : Nat) : (ts d ++ List.replicate (k + 1) [IV.str []]).set d.length [.str p] = ts (d ++ [p]) ++ List.replicate k [IV.str []] := by
 have : d.length = (ts d).length := by simp [ts]
 rw [this, List.set_append_right _ _ (Nat.le_refl _)]
 simp [ts, List.replicate_succ]
theorem ts_len (d : List Str) : (ts d).length = d.length := by simp [ts]
theorem get_rows (d : List Str) (k : Nat) : (ts d ++ List.replicate (k + 1) [IV.str []])[d.length]? = some [.str []] := by
 rw [List.getElem?_append_right (by rw [ts_len]; omega), ts_len]
 simp [List.replicate_succ]
theorem fn_Index (s : Str) (c : UInt8) : Fn G Tryz.prog k_strings_Index [.str s, .str [c]] (.int .i64 (idxB s c)) := by
 refine fn_intro hm ok_strings_Index (by simp) ?_
 simp [c_strings_Index, r_strings_Index]
 refine callW_imm (fn_slIndex s c) ?_
 simp
theorem fn_genSplit (s : Str) (c : UInt8) (hs : s.length < 1000000) : Fn G Tryz.prog k_strings_genSplit [.str s, .str [c], .int .i64 0, .int .i64 (-1)] (.slice (ts (parts c s))) := by
 refine fn_intro hm ok_strings_genSplit (by simp) ?_
 simp [c_strings_genSplit, r_strings_genSplit]
 have hk : s.count c ≤ s.length := List.count_le_length
 have hmin : min ((s.count c : Int) + 1) (s.length + 1) = s.count c + 1 := by omega
 refine callW_imm (fn_Count s c) ?_
 simp (disch := omega) [wl, hmin]
 refine ⟨by omega, ?_⟩
 refine loopU hm [] (fun x : List Str × Str => [(0, .val (.str x.2)), (3, .val (.int .i64 (s.count c))), (10, .val (.int .i64 x.1.length))]) (fun x => [(31, .arr 0 1 (ts x.1 ++ List.replicate (x.2.count c + 1) [.str []]))]) (fun x => x.2.length ≤ s.length ∧ x.1.length + x.2.count c = s.count c ∧ x.1 ++ parts c x.2 = parts c s) (fun x => x.2.length) ([], s) ⟨by simp, by simp, by simp⟩ ?_ ?_
 ·simp [ts]
  exact wdr
 rintro ⟨d, t⟩ ⟨hl, hn, hp⟩
 simp at hl hn hp
 simp
 by_cases h : d.length < s.count c
 ·have hpos : 0 < t.count c := by omega
  have hmem : c ∈ t := List.count_pos_iff.1 hpos
  rcases idxB_cases t c with ⟨_, h0⟩ | ⟨m, h1, h2, h3⟩
  ·exact absurd hmem h0
  ·have hI := fn_Index t c
   rw [h1] at hI
   obtain ⟨hm1, _⟩ := List.getElem?_eq_some_iff.1 h2
   have hpa := parts_at h2 h3
   have hsr := set_rows d (t.take m) (t.count c)
   simp (disch := omega) [wl, h]
   refine callW_imm hI ?_
   have hgr := get_rows d (t.count c)
   have hcr : (t.drop (m + 1)).count c + 1 = t.count c := by
    have := parts_len c t
    rw [hpa, List.length_cons, parts_len] at this
    omega
   simp (disch := omega) [wl, ts_len, hgr, hsr]
   refine ⟨by omega, by omega, ?_⟩
   refine loopEnd (d ++ [t.take m], t.drop (m + 1)) ⟨by simp; omega, by simp; omega, ?_⟩ (by simp; omega) ?_
   ·rw [← hp, hpa]; simp
   simp [hcr]
   exact wdr
 ·have h0 : t.count c = 0 := by omega
  have hnm : c ∉ t := List.count_eq_zero.1 h0
  have hpa := parts_none hnm
  have hsr := set_rows d t 0
  have hgr := get_rows d 0
  simp at hsr hgr
  simp (disch := omega) [wl, h, h0, ts_len, hgr, hsr]
  refine ⟨by omega, ?_⟩
  rw [← hp, hpa, List.take_of_length_le (by rw [ts_len]; simp)]
theorem fn_Split (s : Str) (c : UInt8) (hs : s.length < 1000000) : Fn G Tryz.prog k_strings_Split [.str s, .str [c]] (.slice (ts (parts c s))) := by
 refine fn_intro hm ok_strings_Split (by simp) ?_
 simp [c_strings_Split, r_strings_Split]
 refine callW_imm (fn_genSplit s c hs) ?_
 simp
end Go.Vs.YtbchceojmblkkaaGreatDoor
namespace Go.Vs.YtbchceojmblkkaaGreatDoor
set_option linter.unusedSimpArgs false
set_option linter.unusedVariables false
open Go.Proofs Go.Vs.U8 Go.Vs.Pa
set_option maxRecDepth 100000
set_option maxHeartbeats 4000000
theorem parts_short {c : UInt8} : ∀ {v p : Str}, p ∈ parts c v → p.length ≤ v.length
 | [], p, h => by simp [parts] at h; simp [h]
 | x :: r, p, h => by
  simp only [parts] at h
  split at h
  ·rcases List.mem_cons.1 h with rfl | h
   ·simp
   ·have := parts_short h; simp; omega
  ·split at h
   ·next hp => exact absurd hp (parts_ne c r)
   ·next q qs hq =>
    have hr : ∀ p, p ∈ q :: qs → p.length ≤ r.length := fun p hm => parts_short (by rw [hq]; exact hm)
    rcases List.mem_cons.1 h with rfl | h
    ·have := hr q (by simp); simp; omega
    ·have := hr p (by simp [h]); simp; omega
end Go.Vs.YtbchceojmblkkaaGreatDoor
namespace Go.Vs.YtbchceojmblkkaaGreatDoor
set_option linter.unusedSimpArgs false
set_option linter.unusedVariables false
open Go.Proofs Go.Vs.U8 Go.Vs.Pa
set_option maxRecDepth 100000
set_option maxHeartbeats 4000000
structure Pm where
 n : Str
 v : List Str
 deriving DecidableEq
def Pm.iv (p : Pm) : IV := .agg [.str p.n, .slice (ts p.v)]
def ps (l : List Pm) : List (List IV) := l.map fun p => [.str p.n, .slice (ts p.v)]
theorem ts_get {d : List Str} {i : Nat} {x : Str} (h : i < d.length) (hx : d[i] = x) : (ts d)[i]? = some [.str x] := by simp [ts, h, hx]
end Go.Vs.YtbchceojmblkkaaGreatDoor
