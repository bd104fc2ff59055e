/-
  DERIVED: THE SHELF's CONTRACTS AT THIS DUMP, IN PLAIN WORDS (tools/lay-plain.mjs out of 'TryzShelf.lean', which tools/lay-shelf.mjs wrote): THE SAME DECLARATIONS UNDER THE SAME NAMES: 'import', 'namespace', 'open', 'def', 'theorem' AND NOTHING ELSE: no command of the shelf's: FOR A HAND-IN. Each laying: the table of numbers ('.._ren') and one theorem, a field a fact of the dump's own or the kernel's comparison; each contract: ONE APPLICATION.
-/
import Derived.Shelf.Strings.Builder1
import Derived.Shelf.LaysM
import Derived.Shelf.Unicode.DecodeSlow
import Derived.Shelf.Unicode.DecodeAny
import Derived.Test.YtcohndmpimkjpaaGreatDoorProg
import GoSem.Core.Utf8
import Derived.KernelRfl
import Derived.Test.YtcohndmpimkjpaaGreatDoorBHq
import Derived.Laws.Externs
import Derived.Test.YtcohndmpimkjpaaGreatDoorRows
import Derived.Test.YtcohndmpimkjpaaGreatDoorBEq
set_option linter.unusedVariables false
set_option linter.unusedSimpArgs false
namespace Go.Proofs
open Go.Shelf
def Tryz.lays197_ren : Go.Shelf.Ren := ⟨fun | 197 => 157 | 260 => 218 | n => n, fun | 9 => 9 | 21 => 21 | 3 => 3 | 4 => 4 | 5 => 5 | 105 => 274 | 119 => 383 | 0 => 0 | 46 => 260 | 139 => 386 | 138 => 385 | n => n, fun | 3 => 2 | 4 => 3 | n => n⟩
theorem Tryz.lays197 : Go.Proofs.Lays.n197 Tryz.prog Tryz.lays197_ren := {
  mixed := by kernel_rfl
  f197 := Tryz.func157.trans (congrArg some (by kernel_rfl))
  f260 := Tryz.func218.trans (congrArg some (by kernel_rfl))
  t0 := Tryz.underlying0
  a0 := Tryz.isAgg0
  z0 := Tryz.sizeOf0
  v0 := Tryz.zeroValue0
  t3 := Tryz.underlying3
  a3 := Tryz.isAgg3
  z3 := Tryz.sizeOf3
  v3 := Tryz.zeroValue3
  t4 := Tryz.underlying4
  a4 := Tryz.isAgg4
  z4 := Tryz.sizeOf4
  v4 := Tryz.zeroValue4
  t5 := Tryz.underlying5
  a5 := Tryz.isAgg5
  z5 := Tryz.sizeOf5
  v5 := Tryz.zeroValue5
  t9 := Tryz.underlying9
  a9 := Tryz.isAgg9
  z9 := Tryz.sizeOf9
  v9 := Tryz.zeroValue9
  t21 := Tryz.underlying21
  a21 := Tryz.isAgg21
  z21 := Tryz.sizeOf21
  v21 := Tryz.zeroValue21
  t46 := Tryz.underlying260
  a46 := Tryz.isAgg260
  z46 := Tryz.sizeOf260
  v46 := Tryz.zeroValue260
  t105 := Tryz.underlying274
  a105 := Tryz.isAgg274
  z105 := Tryz.sizeOf274
  v105 := Tryz.zeroValue274
  t119 := Tryz.underlying383
  a119 := Tryz.isAgg383
  z119 := Tryz.sizeOf383
  t138 := Tryz.underlying385
  a138 := Tryz.isAgg385
  z138 := Tryz.sizeOf385
  v138 := Tryz.zeroValue385
  t139 := Tryz.underlying386
  a139 := Tryz.isAgg386
  z139 := Tryz.sizeOf386
  v139 := Tryz.zeroValue386
  g3 := by kernel_rfl
  g4 := by kernel_rfl }
open Go.RowKit Go.Lib in
/-- **unicode/utf8.DecodeRuneInString AT EVERY STRING.** (LAID: no walk: one application.) -/
theorem Tryz.utf8_DecodeRuneInString (s : ByteArray) (w : World) (hT : Lib.Utf8Tabs 2 3 w) :
    Calls Tryz.prog 157 #[.string s] w fun e w' => e = .returned (.tuple #[.int .i32 (Lib.decodeGo s).1, .int .i64 (Lib.decodeGo s).2]) ∧ Below w.heap.size w w' := Any.utf8_DecodeRuneInString Tryz.lays197 s w hT
end Go.Proofs
set_option linter.unusedVariables false
set_option linter.unusedSimpArgs false
namespace Go.Vs.U8
open Go
abbrev Str := List UInt8
/-- Is a byte there from one number to another? -/
def tl (l : Str) (k lo hi : Nat) : Bool := match l[k]? with
  | some b => decide (lo ≤ b.toNat) && decide (b.toNat ≤ hi)
  | none => false
def lo1 (n : Nat) : Nat := if n = 224 then 160 else if n = 240 then 144 else 128
def hi1 (n : Nat) : Nat := if n = 237 then 159 else if n = 244 then 143 else 191
/-- How many bytes the first character has; 0: its first byte is bad. -/
def sizeL : Str → Nat
  | [] => 0
  | c :: r =>
    if c.toNat < 128 then 1
    else if (decide (194 ≤ c.toNat) && decide (c.toNat ≤ 223) && tl r 0 128 191) = true then 2
    else if (decide (224 ≤ c.toNat) && decide (c.toNat ≤ 239) && tl r 0 (lo1 c.toNat) (hi1 c.toNat) && tl r 1 128 191) = true then 3
    else if (decide (240 ≤ c.toNat) && decide (c.toNat ≤ 244) && tl r 0 (lo1 c.toNat) (hi1 c.toNat) && tl r 1 128 191 && tl r 2 128 191) = true then 4
    else 0
theorem tl_some {l : Str} {k lo hi : Nat} (h : tl l k lo hi = true) : ∃ b, l[k]? = some b ∧ lo ≤ b.toNat ∧ b.toNat ≤ hi := by
  unfold tl at h
  split at h
  · next b hb => simp at h; exact ⟨b, hb, h.1, h.2⟩
  · simp at h
theorem tl_len {l : Str} {k lo hi : Nat} (h : tl l k lo hi = true) : k < l.length := by
  obtain ⟨b, hb, _⟩ := tl_some h
  exact (List.getElem?_eq_some_iff.1 hb).1
theorem sizeL_le (l : Str) : sizeL l ≤ l.length := by
  cases l with
  | nil => simp [sizeL]
  | cons c r =>
    simp only [sizeL, List.length_cons]
    split
    · omega
    · split
      · next h => simp only [Bool.and_eq_true] at h; have := tl_len h.2; omega
      · split
        · next h => simp only [Bool.and_eq_true] at h; have := tl_len h.2; omega
        · split
          · next h => simp only [Bool.and_eq_true] at h; have := tl_len h.2; omega
          · omega
/-- A bad byte, or a control. -/
def oddAt (l : Str) : Bool := match l with
  | [] => false
  | c :: _ => sizeL l == 0 || (decide (c.toNat < 32) && !decide (c.toNat = 9)) || decide (c.toNat = 127)
def oddF : Nat → Str → Option Nat
  | 0, _ => none
  | f + 1, l => match l with
    | [] => none
    | _ :: _ => if oddAt l then some 0 else (oddF f (l.drop (sizeL l))).map (· + sizeL l)
theorem oddAt_size {l : Str} (h : oddAt l = false) (hne : l ≠ []) : 1 ≤ sizeL l := by
  cases l with
  | nil => exact absurd rfl hne
  | cons c r => simp only [oddAt, Bool.or_eq_false_iff, beq_eq_false_iff_ne] at h; omega
theorem oddF_fuel : ∀ (f g : Nat) (l : Str), l.length ≤ f → l.length ≤ g → oddF f l = oddF g l
  | 0, 0, _, _, _ => rfl
  | 0, g + 1, l, h, _ => by obtain rfl : l = [] := List.length_eq_zero_iff.1 (by omega); rfl
  | f + 1, 0, l, _, h => by obtain rfl : l = [] := List.length_eq_zero_iff.1 (by omega); rfl
  | f + 1, g + 1, l, hf, hg => by
    cases l with
    | nil => rfl
    | cons c r =>
      simp only [oddF]
      split
      · rfl
      · next h =>
        have h1 := oddAt_size (by simpa using h) (by simp)
        rw [oddF_fuel f g _ (by rw [List.length_drop]; omega) (by rw [List.length_drop]; omega)]
/-- The place of the first odd byte. -/
def odd (l : Str) : Option Nat := oddF l.length l
@[simp] theorem odd_nil : odd [] = none := rfl
theorem odd_step {l : Str} (hne : l ≠ []) : odd l = if oddAt l then some 0 else (odd (l.drop (sizeL l))).map (· + sizeL l) := by
  cases l with
  | nil => exact absurd rfl hne
  | cons c r =>
    unfold odd
    simp only [List.length_cons, oddF]
    split
    · rfl
    · next h =>
      have h1 := oddAt_size (by simpa using h) (by simp)
      rw [oddF_fuel r.length ((c :: r).drop (sizeL (c :: r))).length _ (by rw [List.length_drop]; simp; omega) (Nat.le_refl _)]
theorem odd_at {s : Str} {i : Nat} (hi : i < s.length) (h : odd s = (odd (s.drop i)).map (· + i)) : odd s = if oddAt (s.drop i) then some i else (odd (s.drop (i + sizeL (s.drop i)))).map (· + (i + sizeL (s.drop i))) := by
  rw [h, odd_step (by intro e; have := congrArg List.length e; simp at this; omega)]
  split
  · simp
  · rw [List.drop_drop]
    cases odd (s.drop (i + sizeL (s.drop i))) with
    | none => rfl
    | some k => simp; omega
def oddI (o : Option Nat) : Int := match o with
  | some k => k
  | none => -1
/-- What the model's decoder tells of a list. -/
def dec (l : Str) : Nat × Nat := Utf8.decode ⟨l.toArray⟩ 0
theorem get_drop (s : Str) (p k : Nat) : (⟨(s.drop p).toArray⟩ : ByteArray).get! (0 + k) = (⟨s.toArray⟩ : ByteArray).get! (p + k) := by
  show (s.drop p).toArray[0 + k]! = s.toArray[p + k]!
  simp [List.getElem?_drop, getElem!_def]
theorem decode_drop (s : Str) (p : Nat) (hp : p ≤ s.length) : Utf8.decode ⟨s.toArray⟩ p = dec (s.drop p) := by
  unfold dec Utf8.decode
  have hsz : ∀ k, (decide (0 + k < (⟨(s.drop p).toArray⟩ : ByteArray).size)) = decide (p + k < (⟨s.toArray⟩ : ByteArray).size) := by
    intro k
    simp only [ByteArray.size, List.size_toArray, List.length_drop]
    congr 1
    apply propext
    omega
  simp only [get_drop, hsz]
/-- A byte of a list, 0 behind its end. -/
def by' (l : Str) (k : Nat) : Nat := match l[k]? with
  | some b => b.toNat
  | none => 0
theorem get_by (l : Str) (k : Nat) : ((⟨l.toArray⟩ : ByteArray).get! k).toNat = by' l k := by
  show (l.toArray[k]!).toNat = _
  unfold by'
  simp only [getElem!_def, List.getElem?_toArray]
  cases l[k]? <;> rfl
theorem by_lt (l : Str) (k : Nat) : by' l k < 256 := by
  unfold by'
  split
  · next b _ => exact b.toNat_lt
  · omega
theorem tl_by (l : Str) (k lo hi : Nat) (hlo : 0 < lo) : tl l k lo hi = (decide (k < l.length) && decide (lo ≤ by' l k) && decide (by' l k ≤ hi)) := by
  unfold tl by'
  cases h : l[k]? with
  | none =>
    have : ¬ k < l.length := by rw [List.getElem?_eq_none_iff] at h; omega
    simp [this]
  | some b =>
    have : k < l.length := (List.getElem?_eq_some_iff.1 h).1
    simp [this]
theorem dec_cases (x0 x1 x2 x3 n : Nat) (b1 : x1 < 256) (b2 : x2 < 256) (b3 : x3 < 256) (b0 : x0 < 256) (D : Nat × Nat) (S : Nat)
    (hD : D = if x0 < 128 then (x0, 1) else if x0 / 32 = 6 ∧ 1 < n + 1 ∧ x1 / 64 = 2 then if 128 ≤ x0 % 32 * 64 + x1 % 64 then (x0 % 32 * 64 + x1 % 64, 2) else (65533, 1)
      else if (x0 / 16 = 14 ∧ 1 < n + 1 ∧ x1 / 64 = 2) ∧ 2 < n + 1 ∧ x2 / 64 = 2 then
        if 2048 ≤ x0 % 16 * 4096 + x1 % 64 * 64 + x2 % 64 ∧ (0 ≤ ((x0 % 16 * 4096 + x1 % 64 * 64 + x2 % 64 : Nat) : Int) ∧ ((x0 % 16 * 4096 + x1 % 64 * 64 + x2 % 64 : Nat) : Int) < 55296 ∨ 57344 ≤ ((x0 % 16 * 4096 + x1 % 64 * 64 + x2 % 64 : Nat) : Int) ∧ ((x0 % 16 * 4096 + x1 % 64 * 64 + x2 % 64 : Nat) : Int) ≤ 1114111) then (x0 % 16 * 4096 + x1 % 64 * 64 + x2 % 64, 3) else (65533, 1)
      else if ((x0 / 8 = 30 ∧ 1 < n + 1 ∧ x1 / 64 = 2) ∧ 2 < n + 1 ∧ x2 / 64 = 2) ∧ 3 < n + 1 ∧ x3 / 64 = 2 then
        if 65536 ≤ x0 % 8 * 262144 + x1 % 64 * 4096 + x2 % 64 * 64 + x3 % 64 ∧ (0 ≤ ((x0 % 8 * 262144 + x1 % 64 * 4096 + x2 % 64 * 64 + x3 % 64 : Nat) : Int) ∧ ((x0 % 8 * 262144 + x1 % 64 * 4096 + x2 % 64 * 64 + x3 % 64 : Nat) : Int) < 55296 ∨ 57344 ≤ ((x0 % 8 * 262144 + x1 % 64 * 4096 + x2 % 64 * 64 + x3 % 64 : Nat) : Int) ∧ ((x0 % 8 * 262144 + x1 % 64 * 4096 + x2 % 64 * 64 + x3 % 64 : Nat) : Int) ≤ 1114111) then (x0 % 8 * 262144 + x1 % 64 * 4096 + x2 % 64 * 64 + x3 % 64, 4) else (65533, 1)
      else (65533, 1))
    (lo hi : Nat) (hlo : lo = lo1 x0) (hhi : hi = hi1 x0)
    (hS : S = if x0 < 128 then 1 else if (194 ≤ x0 ∧ x0 ≤ 223) ∧ (0 < n ∧ 128 ≤ x1) ∧ x1 ≤ 191 then 2
      else if ((224 ≤ x0 ∧ x0 ≤ 239) ∧ (0 < n ∧ lo ≤ x1) ∧ x1 ≤ hi) ∧ (1 < n ∧ 128 ≤ x2) ∧ x2 ≤ 191 then 3
      else if (((240 ≤ x0 ∧ x0 ≤ 244) ∧ (0 < n ∧ lo ≤ x1) ∧ x1 ≤ hi) ∧ (1 < n ∧ 128 ≤ x2) ∧ x2 ≤ 191) ∧ (2 < n ∧ 128 ≤ x3) ∧ x3 ≤ 191 then 4 else 0) :
    (x0 < 128 ∧ D = (x0, 1) ∧ S = 1) ∨ (¬ x0 < 128 ∧ S = 0 ∧ D = (65533, 1)) ∨ (¬ x0 < 128 ∧ 2 ≤ S ∧ 128 ≤ D.1 ∧ D.2 = S) := by
  have hlo' : (x0 = 224 ∧ lo = 160) ∨ (x0 = 240 ∧ lo = 144) ∨ (x0 ≠ 224 ∧ x0 ≠ 240 ∧ lo = 128) := by
    rw [hlo]; unfold lo1; split
    · next h => exact .inl ⟨h, rfl⟩
    · split
      · next h => exact .inr (.inl ⟨h, rfl⟩)
      · next h1 h2 => exact .inr (.inr ⟨h1, h2, rfl⟩)
  have hhi' : (x0 = 237 ∧ hi = 159) ∨ (x0 = 244 ∧ hi = 143) ∨ (x0 ≠ 237 ∧ x0 ≠ 244 ∧ hi = 191) := by
    rw [hhi]; unfold hi1; split
    · next h => exact .inl ⟨h, rfl⟩
    · split
      · next h => exact .inr (.inl ⟨h, rfl⟩)
      · next h1 h2 => exact .inr (.inr ⟨h1, h2, rfl⟩)
  clear hlo hhi
  by_cases h0 : x0 < 128
  · rw [if_pos h0] at hD hS
    exact .inl ⟨h0, hD, hS⟩
  right
  rw [if_neg h0] at hD hS
  by_cases s2 : (194 ≤ x0 ∧ x0 ≤ 223) ∧ (0 < n ∧ 128 ≤ x1) ∧ x1 ≤ 191
  · right
    rw [if_pos s2] at hS
    rw [if_pos (by omega), if_pos (by omega)] at hD
    subst hD; subst hS
    exact ⟨h0, by omega, by show 128 ≤ x0 % 32 * 64 + x1 % 64; omega, rfl⟩
  rw [if_neg s2] at hS
  by_cases s3 : ((224 ≤ x0 ∧ x0 ≤ 239) ∧ (0 < n ∧ lo ≤ x1) ∧ x1 ≤ hi) ∧ (1 < n ∧ 128 ≤ x2) ∧ x2 ≤ 191
  · right
    rw [if_pos s3] at hS
    rw [if_neg (by omega), if_pos (by omega), if_pos (by omega)] at hD
    subst hD; subst hS
    exact ⟨h0, by omega, by show 128 ≤ x0 % 16 * 4096 + x1 % 64 * 64 + x2 % 64; omega, rfl⟩
  rw [if_neg s3] at hS
  by_cases s4 : (((240 ≤ x0 ∧ x0 ≤ 244) ∧ (0 < n ∧ lo ≤ x1) ∧ x1 ≤ hi) ∧ (1 < n ∧ 128 ≤ x2) ∧ x2 ≤ 191) ∧ (2 < n ∧ 128 ≤ x3) ∧ x3 ≤ 191
  · right
    rw [if_pos s4] at hS
    rw [if_neg (by omega), if_neg (by omega), if_pos (by omega), if_pos (by omega)] at hD
    subst hD; subst hS
    exact ⟨h0, by omega, by show 128 ≤ x0 % 8 * 262144 + x1 % 64 * 4096 + x2 % 64 * 64 + x3 % 64; omega, rfl⟩
  rw [if_neg s4] at hS
  left
  refine ⟨h0, hS, ?_⟩
  rw [hD]
  split
  · rw [if_neg (by omega)]
  · split
    · rw [if_neg (by omega)]
    · split
      · rw [if_neg (by omega)]
      · rfl
theorem dec_sizeL (c : UInt8) (r : Str) : (c.toNat < 128 ∧ dec (c :: r) = (c.toNat, 1) ∧ sizeL (c :: r) = 1) ∨ (¬ c.toNat < 128 ∧ sizeL (c :: r) = 0 ∧ dec (c :: r) = (65533, 1)) ∨ (¬ c.toNat < 128 ∧ 2 ≤ sizeL (c :: r) ∧ 128 ≤ (dec (c :: r)).1 ∧ (dec (c :: r)).2 = sizeL (c :: r)) := by
  refine dec_cases c.toNat (by' r 0) (by' r 1) (by' r 2) r.length (by_lt _ _) (by_lt _ _) (by_lt _ _) c.toNat_lt _ _ ?_ _ _ rfl rfl ?_
  · have hd : dec (c :: r) = Utf8.decode ⟨(c :: r).toArray⟩ 0 := rfl
    unfold Utf8.decode at hd
    simp only [Nat.zero_add, get_by, ByteArray.size, List.size_toArray, List.length_cons] at hd
    rw [show by' (c :: r) 0 = c.toNat from rfl, show by' (c :: r) 1 = by' r 0 from rfl, show by' (c :: r) 2 = by' r 1 from rfl, show by' (c :: r) 3 = by' r 2 from rfl] at hd
    rw [hd]
    simp only [Utf8.valid, Utf8.runeError, Bool.and_eq_true, Bool.or_eq_true, decide_eq_true_eq, beq_iff_eq, ge_iff_le]
  · have hl : 0 < lo1 c.toNat := by
      unfold lo1
      split
      · omega
      · split <;> omega
    simp only [sizeL, tl_by r 0 128 191 (by omega), tl_by r 1 128 191 (by omega), tl_by r 2 128 191 (by omega), tl_by r 0 (lo1 c.toNat) (hi1 c.toNat) hl, Bool.and_eq_true, decide_eq_true_eq]
end Go.Vs.U8
set_option linter.unusedSimpArgs false
set_option linter.unusedVariables false
namespace Go.Vs.YtcohndmpimkjpaaGreatDoor
open Go.Proofs Go.Proofs.YtcohndmpimkjpaaGreatDoor Go.RowKit Go.Lib Go.Vs.U8
set_option maxRecDepth 100000

/-- The place of the first byte of a kind; -1: none. -/
def idxB (s : List UInt8) (c : UInt8) : Int := match s.findIdx? (· == c) with
  | some i => i
  | none => -1
theorem idxB_cases (s : List UInt8) (c : UInt8) : (idxB s c = -1 ∧ c ∉ s) ∨ ∃ i, idxB s c = (i : Nat) ∧ s[i]? = some c ∧ c ∉ s.take i := by
  unfold idxB
  cases h : s.findIdx? (· == c) with
  | none =>
    left
    rw [List.findIdx?_eq_none_iff] at h
    exact ⟨rfl, fun hc => by have := h c hc; simp at this⟩
  | some i =>
    right
    rw [List.findIdx?_eq_some_iff_getElem] at h
    obtain ⟨h1, h2, h3⟩ := h
    refine ⟨i, rfl, ?_, ?_⟩
    · rw [List.getElem?_eq_getElem h1]; simpa using h2
    · intro hc
      obtain ⟨j, hj, he⟩ := List.mem_iff_getElem.1 hc
      rw [List.length_take] at hj
      rw [List.getElem_take] at he
      have := h3 j (by omega)
      simp [he] at this
theorem idxB_of {s : List UInt8} {c : UInt8} {i : Nat} (h1 : s[i]? = some c) (h2 : c ∉ s.take i) : idxB s c = i := by
  rcases idxB_cases s c with ⟨_, h⟩ | ⟨j, h, k1, k2⟩
  · exact absurd (List.mem_of_getElem? h1) h
  · rw [h]
    have a : ¬ i < j := fun hl => k2 (by rw [List.mem_take_iff_getElem]; obtain ⟨hi, e⟩ := List.getElem?_eq_some_iff.1 h1; exact ⟨i, by omega, e⟩)
    have b : ¬ j < i := fun hl => h2 (by rw [List.mem_take_iff_getElem]; obtain ⟨hi, e⟩ := List.getElem?_eq_some_iff.1 k1; exact ⟨j, by omega, e⟩)
    omega
theorem idxB_none {s : List UInt8} {c : UInt8} (h : c ∉ s) : idxB s c = -1 := by
  rcases idxB_cases s c with ⟨h1, _⟩ | ⟨j, _, k1, _⟩
  · exact h1
  · exact absurd (List.mem_of_getElem? k1) h
theorem firstIdx_eq (s : List UInt8) (c : UInt8) : firstIdx ⟨s.toArray⟩ c = idxB s c := by
  unfold firstIdx
  have hsz : (⟨s.toArray⟩ : ByteArray).size = s.length := by simp [ByteArray.size]
  have hget : ∀ i, i < s.length → (⟨s.toArray⟩ : ByteArray)[i]! = s[i]?.getD 0 := by
    intro i hi
    have h1 : i < (⟨s.toArray⟩ : ByteArray).size := by rw [hsz]; exact hi
    rw [getElem!_pos (⟨s.toArray⟩ : ByteArray) i h1]
    show s.toArray[i] = _
    simp [hi]
  rw [hsz]
  cases hf : (List.range s.length).find? fun i => (⟨s.toArray⟩ : ByteArray)[i]! == c with
  | none =>
    rw [List.find?_eq_none] at hf
    refine (idxB_none fun hc => ?_).symm
    obtain ⟨j, hj, he⟩ := List.mem_iff_getElem.1 hc
    have := hf j (List.mem_range.2 hj)
    rw [hget j hj, List.getElem?_eq_getElem hj] at this
    simp [he] at this
  | some i =>
    obtain ⟨h1, xs, ys, h2, h3⟩ := List.find?_eq_some_iff_append.1 hf
    have hi : i < s.length := List.mem_range.1 (by rw [h2]; simp)
    have has : ∀ j, j < i → j ∈ xs := by
      intro j hj
      have e1 : (List.range s.length)[xs.length]? = some i := by rw [h2]; simp
      have hlen : xs.length < s.length := by
        have := congrArg List.length h2
        simp at this
        omega
      rw [List.getElem?_range hlen] at e1
      have e2 : xs.length = i := Option.some.inj e1
      have e3 : (List.range s.length)[j]? = xs[j]? := by rw [h2, List.getElem?_append_left (by omega)]
      rw [List.getElem?_range (by omega)] at e3
      exact List.mem_of_getElem? e3.symm
    rw [hget i hi] at h1
    refine (idxB_of ?_ ?_).symm
    · rw [List.getElem?_eq_getElem hi] at h1 ⊢
      simpa using h1
    · intro hc
      obtain ⟨j, hj, he⟩ := List.mem_iff_getElem.1 hc
      rw [List.length_take] at hj
      rw [List.getElem_take] at he
      have := h3 j (has j (by omega))
      rw [hget j (by omega), List.getElem?_eq_getElem (by omega)] at this
      simp [he] at this
theorem fn_IndexByteString (s : List UInt8) (c : UInt8) : Fn G Tryz.prog k_internal_bytealg_IndexByteString [.str s, .int .u8 c.toNat] (.int .i64 (idxB s c)) := by
  refine fn_extern ⟨Tryz.f153, Tryz.func153, by decide⟩ ?_
  rintro w S vs ⟨v1, _, rfl, h1, v2, _, rfl, h2, h3⟩
  have h1 : v1 = .string ⟨s.toArray⟩ := h1
  have h2 : v2 = .int .u8 c.toNat := h2
  have h3 : _ = [] := h3
  subst h1; subst h2; subst h3
  refine ⟨.int .i64 (idxB s c), ?_, rfl⟩
  have hr := run_callFunc_extern (P := Tryz.prog) Tryz.func153 (by kernel_rfl) (by kernel_rfl) (by kernel_rfl) (e := Extern.BytealgIndexByte.indexByte) (by kernel_rfl) #[.string ⟨s.toArray⟩, .int .u8 c.toNat] w
  rw [run_indexByte_string] at hr
  have e1 : ((c.toNat : Int)).toNat.toUInt8 = c := by simp
  rw [e1, firstIdx_eq] at hr
  exact hr

theorem repCells_get {w : World} {S : Stab} : ∀ {l : List IV} {blk off j : Nat} {x : IV}, RepCells w S l blk off → l[j]? = some x → ∃ v, w.cell? ⟨blk, off + j, none⟩ = some v ∧ Rep w S x v
  | [], _, _, _, _, _, h => by simp at h
  | y :: r, blk, off, 0, x, ⟨_, _, ⟨v, h1, h2⟩, _⟩, h => by
    simp only [List.getElem?_cons_zero, Option.some.injEq] at h
    subst h
    exact ⟨v, h1, h2⟩
  | y :: r, blk, off, j + 1, x, ⟨_, _, _, h3⟩, h => by
    obtain ⟨v, h1, h2⟩ := repCells_get (j := j) h3 (by simpa using h)
    exact ⟨v, by rw [show off + (j + 1) = off + 1 + j by omega]; exact h1, h2⟩
theorem first_tab : ((List.range 256).all fun c => firstZ.getD c 0 == (firstT c : Int)) = true := by kernel_rfl
theorem acc_tab : ((List.range 16).all fun i => accZ.getD (2 * i) 0 == (accLo i : Int) && accZ.getD (2 * i + 1) 0 == (accHi i : Int)) = true := by kernel_rfl
theorem first_len : firstZ.length = 256 := by simp [firstZ]
theorem acc_len : accZ.length = 32 := rfl
theorem map_int_get {zs : List Int} {j : Nat} (h : j < zs.length) : (zs.map (IV.int .u8 ·))[j]? = some (.int .u8 (zs.getD j 0)) := by
  simp [h]
theorem G_tabs {w : World} {S : Stab} (h : ∀ p, p ∈ G → RepGl w S p) : Utf8Tabs 2 3 w := by
  have h1 := h (2, firstZ.map (.int .u8 ·)) (by simp [G])
  have h2 := h (3, accZ.map (.int .u8 ·)) (by simp [G])
  refine ⟨fun c hc => ?_, fun i hi => ⟨?_, ?_⟩⟩
  · obtain ⟨v, k1, k2⟩ := repCells_get h1.1 (map_int_get (j := c) (by rw [first_len]; exact hc))
    have k2 : v = _ := k2
    have ht := List.all_eq_true.1 first_tab c (List.mem_range.2 hc)
    rw [beq_iff_eq] at ht
    rw [k2, ht, Nat.zero_add] at k1
    exact k1
  · obtain ⟨v, k1, k2⟩ := repCells_get h2.1 (map_int_get (j := 2 * i) (by rw [acc_len]; omega))
    have k2 : v = _ := k2
    have ht := List.all_eq_true.1 acc_tab i (List.mem_range.2 hi)
    rw [Bool.and_eq_true, beq_iff_eq, beq_iff_eq] at ht
    rw [k2, ht.1, Nat.zero_add] at k1
    exact k1
  · obtain ⟨v, k1, k2⟩ := repCells_get h2.1 (map_int_get (j := 2 * i + 1) (by rw [acc_len]; omega))
    have k2 : v = _ := k2
    have ht := List.all_eq_true.1 acc_tab i (List.mem_range.2 hi)
    rw [Bool.and_eq_true, beq_iff_eq, beq_iff_eq] at ht
    rw [k2, ht.2, Nat.zero_add] at k1
    exact k1
theorem fn_DecodeRune (s : List UInt8) (hs : s ≠ []) : Fn G Tryz.prog k_unicode_utf8_DecodeRuneInString [.str s] (.tuple [.int .i32 (dec s).1, .int .i64 (dec s).2]) := by
  refine fn_below ⟨Tryz.f157, Tryz.func157, by decide⟩ ?_
  rintro w S vs hS hgl ⟨v1, _, rfl, h1, h3⟩
  have h1 : v1 = .string ⟨s.toArray⟩ := h1
  have h3 : _ = [] := h3
  subst h1; subst h3
  refine callDoes_of Tryz.func157 (by decide) ((Tryz.utf8_DecodeRuneInString ⟨s.toArray⟩ w (G_tabs hgl)).mono ?_)
  rintro e w' ⟨rfl, hb⟩
  have hd : decodeGo ⟨s.toArray⟩ = dec s := by
    unfold decodeGo dec
    rw [if_neg]
    have : (⟨s.toArray⟩ : ByteArray).size = s.length := by simp [ByteArray.size]
    rw [this]
    exact fun h => hs (List.length_eq_zero_iff.1 h)
  rw [hd]
  exact ⟨_, rfl, hb, #[.int .i32 (dec s).1, .int .i64 (dec s).2], rfl, _, _, rfl, rfl, _, _, rfl, rfl, rfl⟩

/-- Texts as rows. -/
def ts (l : List (List UInt8)) : List (List IV) := l.map fun s => [.str s]
end Go.Vs.YtcohndmpimkjpaaGreatDoor
namespace Go.Vs.YtcohndmpimkjpaaGreatDoor
set_option linter.unusedSimpArgs false
set_option linter.unusedVariables false
open Go.Proofs
set_option maxRecDepth 100000
set_option maxHeartbeats 4000000

def k_utf_Odd : Nat := 57
def k_utf_Upper : Nat := 58
def k_utf_broken : Nat := 107
/-- function 57 -/
def c_utf_Odd : VCode :=
  .seq (rt [o1 2 (.move (ci 0))] []) (.seq (.seq (rt [o1 5 (.move (tm 0)), o1 6 (.rangeS (tm 5))] [5, 5]) (.block 0 (.loop (.seq (rt [o1 7 (.nextS (tm 6)), o1 8 (.extract (tm 7) 0)] []) (.seq (.cond (tm 8) (.skip) (.exit 0)) (.block 1 (.seq (rt [o1 9 (.extract (tm 7) 1), o1 10 (.extract (tm 7) 2), o1 3 (.move (tm 9)), o1 4 (.move (tm 10))] [9, 10]) (.seq (rt [o1 11 (.move (tm 0)), o1 12 (.move (tm 3)), o1 13 (.move (tm 4)), o1 14 (.call k_utf_broken [tm 11, tm 12, tm 13]), o1 15 (.move (tm 14)), o2 16 (.move (tm 4)) 15 false, o2 17 (.bin (.lss) (tm 16) (.const (.val (.int (.i32) 32)))) 15 false, o2 18 (.move (tm 17)) 15 false, o2 19 (.move (tm 4)) 18 true, o2 20 (.bin (.neq) (tm 19) (.const (.val (.int (.i32) 9)))) 18 true, o2 21 (.pick (tm 18) (tm 20) (cb false)) 15 false, o1 22 (.pick (tm 15) (cb true) (tm 21)), o1 23 (.move (tm 22)), o2 24 (.move (tm 4)) 23 false, o2 25 (.bin (.eql) (tm 24) (.const (.val (.int (.i32) 127)))) 23 false, o1 26 (.pick (tm 23) (cb true) (tm 25))] [11, 25]) (.cond (tm 26) (.seq (rt [o1 27 (.move (tm 3)), o1 2 (.move (tm 27))] [27, 27]) (.ret)) (.skip)))))))))) (.seq (rt [o1 2 (.move (ci (-1)))] []) (.ret)))
def r_utf_Odd : List VRes := [.tmp 2]
theorem ok_utf_Odd : FnOk Tryz.prog k_utf_Odd c_utf_Odd r_utf_Odd 28 :=
  ⟨⟨Tryz.f57, _, Tryz.func57, by decide, rfl, by kernel_rfl, by kernel_rfl, by kernel_rfl, rfl⟩⟩

/-- function 58 -/
def c_utf_Upper : VCode :=
  .seq (rt [o1 2 (.move (cs []))] []) (.seq (rt [o1 3 (.allocB 215)] []) (.seq (.seq (rt [o1 4 (.move (ci 0))] []) (.block 0 (.loop (.seq (.seq (rt [o1 6 (.move (tm 4)), o1 7 (.move (tm 0)), o1 8 (.lenS (tm 7)), o1 9 (.bin (.lss) (tm 6) (tm 8))] [6, 8]) (.cond (tm 9) (.skip) (.exit 0))) (.seq (.block 1 (.seq (rt [o1 12 (.move (tm 0)), o1 13 (.move (tm 4)), o1 14 (.indexS (tm 12) (tm 13)), o1 5 (.move (tm 14))] [12, 14]) (.seq (.seq (rt [o1 15 (.move (tm 5)), o1 16 (.bin (.leq) (cu 97) (tm 15)), o1 17 (.move (tm 16)), o2 18 (.move (tm 5)) 17 true, o2 19 (.bin (.leq) (tm 18) (cu 122)) 17 true, o1 20 (.pick (tm 17) (tm 19) (cb false))] [15, 19]) (.cond (tm 20) (rt [o1 21 (.move (tm 5)), o1 22 (.bin (.sub) (tm 21) (cu 97)), o1 23 (.bin (.add) (tm 22) (cu 65)), o1 5 (.move (tm 23))] [21, 23]) (.skip))) (rt [o1 24 (.move (tm 5)), o1 25 (.callM k__strings_Builder_WriteByte [tm 3, tm 24])] [24, 25])))) (rt [o1 10 (.move (tm 4)), o1 11 (.bin (.add) (tm 10) (ci 1)), o1 4 (.move (tm 11))] [10, 11])))))) (.seq (rt [o1 26 (.callM k__strings_Builder_String [tm 3]), o1 2 (.move (tm 26))] [26, 26]) (.ret))))
def r_utf_Upper : List VRes := [.tmp 2]
theorem ok_utf_Upper : FnOk Tryz.prog k_utf_Upper c_utf_Upper r_utf_Upper 27 :=
  ⟨⟨Tryz.f58, _, Tryz.func58, by decide, rfl, by kernel_rfl, by kernel_rfl, by kernel_rfl, rfl⟩⟩

/-- function 107 -/
def c_utf_broken : VCode :=
  .seq (rt [o1 6 (.move (cb false))] []) (.seq (.seq (rt [o1 9 (.move (tm 2)), o1 10 (.bin (.neq) (tm 9) (.const (.val (.int (.i32) 65533))))] [9, 9]) (.cond (tm 10) (.seq (rt [o1 6 (.move (cb false))] []) (.ret)) (.skip))) (.seq (rt [o1 12 (.move (tm 0)), o1 13 (.move (tm 1)), o1 14 (.subS (tm 12) (some (tm 13)) none), o1 15 (.call k_unicode_utf8_DecodeRuneInString [tm 14]), o1 11 (.move (tm 15)), o1 16 (.extract (tm 11) 0), o1 17 (.extract (tm 11) 1), o1 7 (.move (tm 16)), o1 8 (.move (tm 17))] [7, 7, 11, 17]) (.seq (rt [o1 18 (.move (tm 8)), o1 19 (.bin (.eql) (tm 18) (ci 1)), o1 6 (.move (tm 19))] [18, 19]) (.ret))))
def r_utf_broken : List VRes := [.tmp 6]
theorem ok_utf_broken : FnOk Tryz.prog k_utf_broken c_utf_broken r_utf_broken 20 :=
  ⟨⟨Tryz.f107, _, Tryz.func107, by decide, rfl, by kernel_rfl, by kernel_rfl, by kernel_rfl, rfl⟩⟩

end Go.Vs.YtcohndmpimkjpaaGreatDoor
namespace Go.Vs.YtcohndmpimkjpaaGreatDoor
set_option linter.unusedSimpArgs false
set_option linter.unusedVariables false
open Go.Proofs
set_option maxRecDepth 100000
set_option maxHeartbeats 4000000
abbrev Str := List UInt8
/-- A small letter's capital. -/
def upB (c : UInt8) : UInt8 := if 97 ≤ c ∧ c ≤ 122 then c - 32 else c
def upper (s : Str) : Str := s.map upB
@[simp] theorem upper_nil : upper [] = [] := rfl
theorem upper_len (s : Str) : (upper s).length = s.length := by simp [upper]
theorem upper_take {s : Str} {i : Nat} (h : i < s.length) : upper (s.take (i + 1)) = upper (s.take i) ++ [upB s[i]] := by
  unfold upper; rw [List.take_succ_eq_append_getElem h, List.map_append]; rfl
theorem upB_yes {c : UInt8} (h1 : 97 ≤ c.toNat) (h2 : c.toNat ≤ 122) : (upB c).toNat = c.toNat - 32 := by
  have a : (97 : UInt8) ≤ c ∧ c ≤ 122 := ⟨by rw [UInt8.le_iff_toNat_le]; simpa using h1, by rw [UInt8.le_iff_toNat_le]; simpa using h2⟩
  rw [upB, if_pos a, UInt8.toNat_sub_of_le]
  · rfl
  · rw [UInt8.le_iff_toNat_le]; simp; omega
theorem upB_no {c : UInt8} (h : ¬ (97 ≤ c.toNat ∧ c.toNat ≤ 122)) : upB c = c := by
  rw [upB, if_neg]
  rintro ⟨a, b⟩
  rw [UInt8.le_iff_toNat_le] at a b
  exact h ⟨by simpa using a, by simpa using b⟩
theorem u8_lt (c : UInt8) : c.toNat < 256 := by have := c.toNat_lt; simpa using this
theorem wrap_succ {i n : Nat} (h : i < n) (hn : n < 1000000) : IntKind.i64.wrap ((i : Int) + 1) = ((i + 1 : Nat) : Int) := by rw [IntKind.wrap_i64]; omega
theorem fn_Upper (s : Str) (hs : s.length < 1000000) : Fn G Tryz.prog k_utf_Upper [.str s] (.str (upper s)) := by
  refine fn_intro hm ok_utf_Upper (by simp) ?_
  simp [c_utf_Upper, r_utf_Upper]
  refine loopU hm [] (fun i : Nat => [(4, .val (.int .i64 i))]) (fun i => [(3, .box [.selfN 3 215 false, .ownT 1 i 5]), (1, .arr i 1 (byteRows (upper (s.take i))))]) (fun i => i ≤ s.length) (fun i => s.length - i) 0 (by omega) ?_ ?_
  · exact Weak.trans (weak_bld (k := 3) (d := 3) (t := 215) 1 5 (by simp) (by simp) (by simp [getE, look]) (by simp [look]) (by simp)) (weak_drop rfl rfl (by simp [St.bld, EnvLe, getE, look, put, eraseE, SV.erase]) (by simp [St.bld, ObLe, look, put, eraseO, eraseL, Ob.erase, SV.erase, byteRows]) (by simp [St.bld, roOk]))
  intro i hi
  simp
  refine brd (fun h => ?_) (fun h => ?_)
  · obtain ⟨c, hc⟩ : ∃ c, c = s[i] := ⟨_, rfl⟩
    have ht := upper_take h
    rw [← hc] at ht
    have hc' : s[i]? = some c := by rw [hc]; exact List.getElem?_eq_getElem h
    have hlt := u8_lt c
    have hwb := fnM_WriteByte i (upper (s.take i)) (upB c) (by rw [upper_len, List.length_take]; omega)
    simp [hc']
    refine brd (fun h1 => ?_) (fun h1 => ?_)
    · simp
      refine brd (fun h2 => ?_) (fun h2 => ?_)
      · have hw : IntKind.u8.wrap (IntKind.u8.wrap ((c.toNat : Int) - 97) + 65) = ((upB c).toNat : Int) := by
          rw [upB_yes (by omega) (by omega), wrap_u8 (x := (c.toNat : Int) - 97) (by omega) (by omega), wrap_u8 (by omega) (by omega)]; omega
        simp [hw]
        refine callM [(1000, 3), (1001, 1)] [] hwb rfl rfl ⟨rfl, rfl, trivial⟩ ⟨rfl, _, _, rfl, rfl, rfl⟩ rfl ?_
        simp [bldObs, wrap_succ h hs]
        refine loopEnd (i + 1) (by omega) (by omega) ?_
        simp [ht]
        exact weak_drop rfl rfl (by simp [EnvLe, getE, look]) (by simp [ObLe, look]) (by simp [roOk])
      · have hw := upB_no (c := c) (by omega)
        rw [hw] at hwb ht
        simp
        refine callM [(1000, 3), (1001, 1)] [] hwb rfl rfl ⟨rfl, rfl, trivial⟩ ⟨rfl, _, _, rfl, rfl, rfl⟩ rfl ?_
        simp [bldObs, wrap_succ h hs]
        refine loopEnd (i + 1) (by omega) (by omega) ?_
        simp [ht]
        exact weak_drop rfl rfl (by simp [EnvLe, getE, look]) (by simp [ObLe, look]) (by simp [roOk])
    · have hw := upB_no (c := c) (by omega)
      rw [hw] at hwb ht
      simp
      refine callM [(1000, 3), (1001, 1)] [] hwb rfl rfl ⟨rfl, rfl, trivial⟩ ⟨rfl, _, _, rfl, rfl, rfl⟩ rfl ?_
      simp [bldObs, wrap_succ h hs]
      refine loopEnd (i + 1) (by omega) (by omega) ?_
      simp [ht]
      exact weak_drop rfl rfl (by simp [EnvLe, getE, look]) (by simp [ObLe, look]) (by simp [roOk])
  · obtain rfl : i = s.length := by omega
    simp
    refine callM [(1000, 3), (1001, 1)] [] (fnM_String s.length (upper s) (by rw [upper_len]; omega)) rfl rfl (by simp [mObjs, bldObs, Vs.ren, look, Ob.ren, SV.ren]) ⟨rfl, rfl⟩ rfl ?_
    simp
end Go.Vs.YtcohndmpimkjpaaGreatDoor
