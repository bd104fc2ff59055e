/-
  DERIVED: THE SHELF's CONTRACTS AT THIS DUMP, IN PLAIN WORDS (tools/lay-plain.mjs out of 'TrydShelf.lean', which tools/lay-shelf.mjs wrote): THE SAME DECLARATIONS UNDER THE SAME NAMES: 'import', 'namespace', 'open', 'def', 'theorem' AND NOTHING ELSE: no command of the shelf's: FOR A HAND-IN. Each laying: the table of numbers ('.._ren') and one theorem, a field a fact of the dump's own or the kernel's comparison; each contract: ONE APPLICATION.
-/
import Derived.Shelf.Strings.Builder1
import Derived.Shelf.Strings.OnBuilder
import Derived.Shelf.LaysM
import Derived.Shelf.Strings.IndexAnyAll
import Derived.Shelf.Unicode.DecodeSlow
import Derived.Shelf.Unicode.DecodeAny
import Derived.Test.YthcljcjkfhiicaaDoorProg
import GoSem.Core.Utf8
import Derived.KernelRfl
import Derived.Test.YthcljcjkfhiicaaDoorBG
import Derived.Laws.Externs
import Derived.Test.YthcljcjkfhiicaaDoorRows
import Derived.Test.YthcljcjkfhiicaaDoorBD
set_option linter.unusedVariables false
set_option linter.unusedSimpArgs false
namespace Go.Proofs
open Go.Shelf
def Tryd.lays156_ren : Go.Shelf.Ren := ⟨fun | 156 => 31 | 165 => 45 | 166 => 17 | 169 => 18 | 240 => 32 | 241 => 58 | 276 => 46 | 277 => 69 | n => n, fun | 31 => 37 | 9 => 9 | 3 => 3 | 4 => 4 | 0 => 0 | 20 => 20 | 72 => 50 | 76 => 52 | 70 => 47 | 37 => 48 | 75 => 31 | 127 => 71 | 164 => 77 | 5 => 5 | 80 => 54 | n => n, fun | n => n⟩
theorem Tryd.lays156 : Go.Proofs.Lays.n156 Tryd.prog Tryd.lays156_ren := {
  mixed := by kernel_rfl
  f156 := Tryd.func31.trans (congrArg some (by kernel_rfl))
  f165 := Tryd.func45.trans (congrArg some (by kernel_rfl))
  f166 := Tryd.func17.trans (congrArg some (by kernel_rfl))
  f169 := Tryd.func18.trans (congrArg some (by kernel_rfl))
  f240 := Tryd.func32.trans (congrArg some (by kernel_rfl))
  f241 := Tryd.func58.trans (congrArg some (by kernel_rfl))
  f276 := Tryd.func46.trans (congrArg some (by kernel_rfl))
  f277 := Tryd.func69.trans (congrArg some (by kernel_rfl))
  t0 := Tryd.underlying0
  a0 := Tryd.isAgg0
  z0 := Tryd.sizeOf0
  v0 := Tryd.zeroValue0
  t3 := Tryd.underlying3
  a3 := Tryd.isAgg3
  z3 := Tryd.sizeOf3
  v3 := Tryd.zeroValue3
  t4 := Tryd.underlying4
  a4 := Tryd.isAgg4
  z4 := Tryd.sizeOf4
  v4 := Tryd.zeroValue4
  t9 := Tryd.underlying9
  a9 := Tryd.isAgg9
  z9 := Tryd.sizeOf9
  v9 := Tryd.zeroValue9
  t20 := Tryd.underlying20
  a20 := Tryd.isAgg20
  z20 := Tryd.sizeOf20
  v20 := Tryd.zeroValue20
  t31 := Tryd.underlying37
  a31 := Tryd.isAgg37
  z31 := Tryd.sizeOf37
  v31 := Tryd.zeroValue37
  t37 := Tryd.underlying48
  a37 := Tryd.isAgg48
  z37 := Tryd.sizeOf48
  v37 := Tryd.zeroValue48
  t70 := Tryd.underlying47
  a70 := Tryd.isAgg47
  z70 := Tryd.sizeOf47
  v70 := Tryd.zeroValue47
  t72 := Tryd.underlying50
  a72 := Tryd.isAgg50
  z72 := Tryd.sizeOf50
  v72 := Tryd.zeroValue50
  t75 := Tryd.underlying31
  a75 := Tryd.isAgg31
  z75 := Tryd.sizeOf31
  v75 := Tryd.zeroValue31
  t76 := Tryd.underlying52
  a76 := Tryd.isAgg52
  z76 := Tryd.sizeOf52
  v76 := Tryd.zeroValue52
  t127 := Tryd.underlying71
  a127 := Tryd.isAgg71
  z127 := Tryd.sizeOf71
  v127 := Tryd.zeroValue71
  t164 := Tryd.underlying77
  a164 := Tryd.isAgg77
  z164 := Tryd.sizeOf77
  v164 := Tryd.zeroValue77 }
theorem Tryd.Builder_Extra_156 : Builder.Extra Tryd.prog Tryd.lays156_ren := {
  sizeBuilder := by kernel_rfl
  liesBuilder := by kernel_rfl
  t5 := Tryd.underlying5
  a5 := Tryd.isAgg5
  z5 := Tryd.sizeOf5
  v5 := Tryd.zeroValue5
  infoByte := by kernel_rfl
  cellsByte := by kernel_rfl
  sizeByte := by kernel_rfl
  neB5 := by decide }
open Go.RowKit in
/-- No element: the empty string; the world is as it was. (Whatever the slice's address and capacity: a nil slice too.) (LAID: no walk: one application.) -/
theorem Tryd.strings_Join_none (a : Option Addr) (c : Nat) (sep : ByteArray) (w : World) :
    Calls Tryd.prog 31 #[.slice a 0 c, .string sep] w fun e w' => e = .returned (.string ⟨#[]⟩) ∧ w' = w := Any.strings_Join_none Tryd.lays156 Tryd.Builder_Extra_156 a c sep w
open Go.RowKit in
/-- strings.Join: "Join concatenates the elements of its first argument to create a single string. The separator string sep is placed between elements in the resulting string.": HOWEVER MANY ELEMENTS. Below the heap's end the world is as it was. (LAID: no walk: one application.) -/
theorem Tryd.strings_Join (bk o c : Nat) (xs : List ByteArray) (sep : ByteArray) (w : World) (hcells : ∀ (j : Nat) x, xs[j]? = some x → w.cell? ⟨bk, o + j, none⟩ = some (.string x)) (hbk : bk < w.heap.size) (hN : xs.length ≤ 140737488355328) (hcap : xs.length ≤ c) (hlen : (Lib.join (xs.map (·.data.toList)) sep.data.toList).length ≤ 140737488355328) :
    Calls Tryd.prog 31 #[.slice (some ⟨bk, o, none⟩) xs.length c, .string sep] w fun e w' => e = .returned (.string ⟨(Lib.join (xs.map (·.data.toList)) sep.data.toList).toArray⟩) ∧ Below w.heap.size w w' := Any.strings_Join Tryd.lays156 Tryd.Builder_Extra_156 bk o c xs sep w hcells hbk hN hcap hlen
def Tryd.lays197_ren : Go.Shelf.Ren := ⟨fun | 197 => 56 | 260 => 64 | n => n, fun | 9 => 9 | 21 => 21 | 3 => 3 | 4 => 4 | 5 => 5 | 105 => 115 | 119 => 128 | 0 => 0 | 46 => 127 | 139 => 131 | 138 => 130 | n => n, fun | 3 => 2 | 4 => 3 | n => n⟩
theorem Tryd.lays197 : Go.Proofs.Lays.n197 Tryd.prog Tryd.lays197_ren := {
  mixed := by kernel_rfl
  f197 := Tryd.func56.trans (congrArg some (by kernel_rfl))
  f260 := Tryd.func64.trans (congrArg some (by kernel_rfl))
  t0 := Tryd.underlying0
  a0 := Tryd.isAgg0
  z0 := Tryd.sizeOf0
  v0 := Tryd.zeroValue0
  t3 := Tryd.underlying3
  a3 := Tryd.isAgg3
  z3 := Tryd.sizeOf3
  v3 := Tryd.zeroValue3
  t4 := Tryd.underlying4
  a4 := Tryd.isAgg4
  z4 := Tryd.sizeOf4
  v4 := Tryd.zeroValue4
  t5 := Tryd.underlying5
  a5 := Tryd.isAgg5
  z5 := Tryd.sizeOf5
  v5 := Tryd.zeroValue5
  t9 := Tryd.underlying9
  a9 := Tryd.isAgg9
  z9 := Tryd.sizeOf9
  v9 := Tryd.zeroValue9
  t21 := Tryd.underlying21
  a21 := Tryd.isAgg21
  z21 := Tryd.sizeOf21
  v21 := Tryd.zeroValue21
  t46 := Tryd.underlying127
  a46 := Tryd.isAgg127
  z46 := Tryd.sizeOf127
  v46 := Tryd.zeroValue127
  t105 := Tryd.underlying115
  a105 := Tryd.isAgg115
  z105 := Tryd.sizeOf115
  v105 := Tryd.zeroValue115
  t119 := Tryd.underlying128
  a119 := Tryd.isAgg128
  z119 := Tryd.sizeOf128
  t138 := Tryd.underlying130
  a138 := Tryd.isAgg130
  z138 := Tryd.sizeOf130
  v138 := Tryd.zeroValue130
  t139 := Tryd.underlying131
  a139 := Tryd.isAgg131
  z139 := Tryd.sizeOf131
  v139 := Tryd.zeroValue131
  g3 := by kernel_rfl
  g4 := by kernel_rfl }
open Go.RowKit Go.Lib in
/-- **unicode/utf8.DecodeRuneInString AT EVERY STRING.** (LAID: no walk: one application.) -/
theorem Tryd.utf8_DecodeRuneInString (s : ByteArray) (w : World) (hT : Lib.Utf8Tabs 2 3 w) :
    Calls Tryd.prog 56 #[.string s] w fun e w' => e = .returned (.tuple #[.int .i32 (Lib.decodeGo s).1, .int .i64 (Lib.decodeGo s).2]) ∧ Below w.heap.size w w' := Any.utf8_DecodeRuneInString Tryd.lays197 s w hT
end Go.Proofs
set_option linter.unusedVariables false
set_option linter.unusedSimpArgs false
namespace Go.Vs.U8
open Go
abbrev Str := List UInt8
/-- Is a byte there from one number to another? -/
def tl (l : Str) (k lo hi : Nat) : Bool := match l[k]? with
  | some b => decide (lo ≤ b.toNat) && decide (b.toNat ≤ hi)
  | none => false
def lo1 (n : Nat) : Nat := if n = 224 then 160 else if n = 240 then 144 else 128
def hi1 (n : Nat) : Nat := if n = 237 then 159 else if n = 244 then 143 else 191
/-- How many bytes the first character has; 0: its first byte is bad. -/
def sizeL : Str → Nat
  | [] => 0
  | c :: r =>
    if c.toNat < 128 then 1
    else if (decide (194 ≤ c.toNat) && decide (c.toNat ≤ 223) && tl r 0 128 191) = true then 2
    else if (decide (224 ≤ c.toNat) && decide (c.toNat ≤ 239) && tl r 0 (lo1 c.toNat) (hi1 c.toNat) && tl r 1 128 191) = true then 3
    else if (decide (240 ≤ c.toNat) && decide (c.toNat ≤ 244) && tl r 0 (lo1 c.toNat) (hi1 c.toNat) && tl r 1 128 191 && tl r 2 128 191) = true then 4
    else 0
theorem tl_some {l : Str} {k lo hi : Nat} (h : tl l k lo hi = true) : ∃ b, l[k]? = some b ∧ lo ≤ b.toNat ∧ b.toNat ≤ hi := by
  unfold tl at h
  split at h
  · next b hb => simp at h; exact ⟨b, hb, h.1, h.2⟩
  · simp at h
theorem tl_len {l : Str} {k lo hi : Nat} (h : tl l k lo hi = true) : k < l.length := by
  obtain ⟨b, hb, _⟩ := tl_some h
  exact (List.getElem?_eq_some_iff.1 hb).1
theorem sizeL_le (l : Str) : sizeL l ≤ l.length := by
  cases l with
  | nil => simp [sizeL]
  | cons c r =>
    simp only [sizeL, List.length_cons]
    split
    · omega
    · split
      · next h => simp only [Bool.and_eq_true] at h; have := tl_len h.2; omega
      · split
        · next h => simp only [Bool.and_eq_true] at h; have := tl_len h.2; omega
        · split
          · next h => simp only [Bool.and_eq_true] at h; have := tl_len h.2; omega
          · omega
/-- A bad byte, or a control. -/
def oddAt (l : Str) : Bool := match l with
  | [] => false
  | c :: _ => sizeL l == 0 || (decide (c.toNat < 32) && !decide (c.toNat = 9)) || decide (c.toNat = 127)
def oddF : Nat → Str → Option Nat
  | 0, _ => none
  | f + 1, l => match l with
    | [] => none
    | _ :: _ => if oddAt l then some 0 else (oddF f (l.drop (sizeL l))).map (· + sizeL l)
theorem oddAt_size {l : Str} (h : oddAt l = false) (hne : l ≠ []) : 1 ≤ sizeL l := by
  cases l with
  | nil => exact absurd rfl hne
  | cons c r => simp only [oddAt, Bool.or_eq_false_iff, beq_eq_false_iff_ne] at h; omega
theorem oddF_fuel : ∀ (f g : Nat) (l : Str), l.length ≤ f → l.length ≤ g → oddF f l = oddF g l
  | 0, 0, _, _, _ => rfl
  | 0, g + 1, l, h, _ => by obtain rfl : l = [] := List.length_eq_zero_iff.1 (by omega); rfl
  | f + 1, 0, l, _, h => by obtain rfl : l = [] := List.length_eq_zero_iff.1 (by omega); rfl
  | f + 1, g + 1, l, hf, hg => by
    cases l with
    | nil => rfl
    | cons c r =>
      simp only [oddF]
      split
      · rfl
      · next h =>
        have h1 := oddAt_size (by simpa using h) (by simp)
        rw [oddF_fuel f g _ (by rw [List.length_drop]; omega) (by rw [List.length_drop]; omega)]
/-- The place of the first odd byte. -/
def odd (l : Str) : Option Nat := oddF l.length l
@[simp] theorem odd_nil : odd [] = none := rfl
theorem odd_step {l : Str} (hne : l ≠ []) : odd l = if oddAt l then some 0 else (odd (l.drop (sizeL l))).map (· + sizeL l) := by
  cases l with
  | nil => exact absurd rfl hne
  | cons c r =>
    unfold odd
    simp only [List.length_cons, oddF]
    split
    · rfl
    · next h =>
      have h1 := oddAt_size (by simpa using h) (by simp)
      rw [oddF_fuel r.length ((c :: r).drop (sizeL (c :: r))).length _ (by rw [List.length_drop]; simp; omega) (Nat.le_refl _)]
theorem odd_at {s : Str} {i : Nat} (hi : i < s.length) (h : odd s = (odd (s.drop i)).map (· + i)) : odd s = if oddAt (s.drop i) then some i else (odd (s.drop (i + sizeL (s.drop i)))).map (· + (i + sizeL (s.drop i))) := by
  rw [h, odd_step (by intro e; have := congrArg List.length e; simp at this; omega)]
  split
  · simp
  · rw [List.drop_drop]
    cases odd (s.drop (i + sizeL (s.drop i))) with
    | none => rfl
    | some k => simp; omega
def oddI (o : Option Nat) : Int := match o with
  | some k => k
  | none => -1
/-- What the model's decoder tells of a list. -/
def dec (l : Str) : Nat × Nat := Utf8.decode ⟨l.toArray⟩ 0
theorem get_drop (s : Str) (p k : Nat) : (⟨(s.drop p).toArray⟩ : ByteArray).get! (0 + k) = (⟨s.toArray⟩ : ByteArray).get! (p + k) := by
  show (s.drop p).toArray[0 + k]! = s.toArray[p + k]!
  simp [List.getElem?_drop, getElem!_def]
theorem decode_drop (s : Str) (p : Nat) (hp : p ≤ s.length) : Utf8.decode ⟨s.toArray⟩ p = dec (s.drop p) := by
  unfold dec Utf8.decode
  have hsz : ∀ k, (decide (0 + k < (⟨(s.drop p).toArray⟩ : ByteArray).size)) = decide (p + k < (⟨s.toArray⟩ : ByteArray).size) := by
    intro k
    simp only [ByteArray.size, List.size_toArray, List.length_drop]
    congr 1
    apply propext
    omega
  simp only [get_drop, hsz]
/-- A byte of a list, 0 behind its end. -/
def by' (l : Str) (k : Nat) : Nat := match l[k]? with
  | some b => b.toNat
  | none => 0
theorem get_by (l : Str) (k : Nat) : ((⟨l.toArray⟩ : ByteArray).get! k).toNat = by' l k := by
  show (l.toArray[k]!).toNat = _
  unfold by'
  simp only [getElem!_def, List.getElem?_toArray]
  cases l[k]? <;> rfl
theorem by_lt (l : Str) (k : Nat) : by' l k < 256 := by
  unfold by'
  split
  · next b _ => exact b.toNat_lt
  · omega
theorem tl_by (l : Str) (k lo hi : Nat) (hlo : 0 < lo) : tl l k lo hi = (decide (k < l.length) && decide (lo ≤ by' l k) && decide (by' l k ≤ hi)) := by
  unfold tl by'
  cases h : l[k]? with
  | none =>
    have : ¬ k < l.length := by rw [List.getElem?_eq_none_iff] at h; omega
    simp [this]
  | some b =>
    have : k < l.length := (List.getElem?_eq_some_iff.1 h).1
    simp [this]
theorem dec_cases (x0 x1 x2 x3 n : Nat) (b1 : x1 < 256) (b2 : x2 < 256) (b3 : x3 < 256) (b0 : x0 < 256) (D : Nat × Nat) (S : Nat)
    (hD : D = if x0 < 128 then (x0, 1) else if x0 / 32 = 6 ∧ 1 < n + 1 ∧ x1 / 64 = 2 then if 128 ≤ x0 % 32 * 64 + x1 % 64 then (x0 % 32 * 64 + x1 % 64, 2) else (65533, 1)
      else if (x0 / 16 = 14 ∧ 1 < n + 1 ∧ x1 / 64 = 2) ∧ 2 < n + 1 ∧ x2 / 64 = 2 then
        if 2048 ≤ x0 % 16 * 4096 + x1 % 64 * 64 + x2 % 64 ∧ (0 ≤ ((x0 % 16 * 4096 + x1 % 64 * 64 + x2 % 64 : Nat) : Int) ∧ ((x0 % 16 * 4096 + x1 % 64 * 64 + x2 % 64 : Nat) : Int) < 55296 ∨ 57344 ≤ ((x0 % 16 * 4096 + x1 % 64 * 64 + x2 % 64 : Nat) : Int) ∧ ((x0 % 16 * 4096 + x1 % 64 * 64 + x2 % 64 : Nat) : Int) ≤ 1114111) then (x0 % 16 * 4096 + x1 % 64 * 64 + x2 % 64, 3) else (65533, 1)
      else if ((x0 / 8 = 30 ∧ 1 < n + 1 ∧ x1 / 64 = 2) ∧ 2 < n + 1 ∧ x2 / 64 = 2) ∧ 3 < n + 1 ∧ x3 / 64 = 2 then
        if 65536 ≤ x0 % 8 * 262144 + x1 % 64 * 4096 + x2 % 64 * 64 + x3 % 64 ∧ (0 ≤ ((x0 % 8 * 262144 + x1 % 64 * 4096 + x2 % 64 * 64 + x3 % 64 : Nat) : Int) ∧ ((x0 % 8 * 262144 + x1 % 64 * 4096 + x2 % 64 * 64 + x3 % 64 : Nat) : Int) < 55296 ∨ 57344 ≤ ((x0 % 8 * 262144 + x1 % 64 * 4096 + x2 % 64 * 64 + x3 % 64 : Nat) : Int) ∧ ((x0 % 8 * 262144 + x1 % 64 * 4096 + x2 % 64 * 64 + x3 % 64 : Nat) : Int) ≤ 1114111) then (x0 % 8 * 262144 + x1 % 64 * 4096 + x2 % 64 * 64 + x3 % 64, 4) else (65533, 1)
      else (65533, 1))
    (lo hi : Nat) (hlo : lo = lo1 x0) (hhi : hi = hi1 x0)
    (hS : S = if x0 < 128 then 1 else if (194 ≤ x0 ∧ x0 ≤ 223) ∧ (0 < n ∧ 128 ≤ x1) ∧ x1 ≤ 191 then 2
      else if ((224 ≤ x0 ∧ x0 ≤ 239) ∧ (0 < n ∧ lo ≤ x1) ∧ x1 ≤ hi) ∧ (1 < n ∧ 128 ≤ x2) ∧ x2 ≤ 191 then 3
      else if (((240 ≤ x0 ∧ x0 ≤ 244) ∧ (0 < n ∧ lo ≤ x1) ∧ x1 ≤ hi) ∧ (1 < n ∧ 128 ≤ x2) ∧ x2 ≤ 191) ∧ (2 < n ∧ 128 ≤ x3) ∧ x3 ≤ 191 then 4 else 0) :
    (x0 < 128 ∧ D = (x0, 1) ∧ S = 1) ∨ (¬ x0 < 128 ∧ S = 0 ∧ D = (65533, 1)) ∨ (¬ x0 < 128 ∧ 2 ≤ S ∧ 128 ≤ D.1 ∧ D.2 = S) := by
  have hlo' : (x0 = 224 ∧ lo = 160) ∨ (x0 = 240 ∧ lo = 144) ∨ (x0 ≠ 224 ∧ x0 ≠ 240 ∧ lo = 128) := by
    rw [hlo]; unfold lo1; split
    · next h => exact .inl ⟨h, rfl⟩
    · split
      · next h => exact .inr (.inl ⟨h, rfl⟩)
      · next h1 h2 => exact .inr (.inr ⟨h1, h2, rfl⟩)
  have hhi' : (x0 = 237 ∧ hi = 159) ∨ (x0 = 244 ∧ hi = 143) ∨ (x0 ≠ 237 ∧ x0 ≠ 244 ∧ hi = 191) := by
    rw [hhi]; unfold hi1; split
    · next h => exact .inl ⟨h, rfl⟩
    · split
      · next h => exact .inr (.inl ⟨h, rfl⟩)
      · next h1 h2 => exact .inr (.inr ⟨h1, h2, rfl⟩)
  clear hlo hhi
  by_cases h0 : x0 < 128
  · rw [if_pos h0] at hD hS
    exact .inl ⟨h0, hD, hS⟩
  right
  rw [if_neg h0] at hD hS
  by_cases s2 : (194 ≤ x0 ∧ x0 ≤ 223) ∧ (0 < n ∧ 128 ≤ x1) ∧ x1 ≤ 191
  · right
    rw [if_pos s2] at hS
    rw [if_pos (by omega), if_pos (by omega)] at hD
    subst hD; subst hS
    exact ⟨h0, by omega, by show 128 ≤ x0 % 32 * 64 + x1 % 64; omega, rfl⟩
  rw [if_neg s2] at hS
  by_cases s3 : ((224 ≤ x0 ∧ x0 ≤ 239) ∧ (0 < n ∧ lo ≤ x1) ∧ x1 ≤ hi) ∧ (1 < n ∧ 128 ≤ x2) ∧ x2 ≤ 191
  · right
    rw [if_pos s3] at hS
    rw [if_neg (by omega), if_pos (by omega), if_pos (by omega)] at hD
    subst hD; subst hS
    exact ⟨h0, by omega, by show 128 ≤ x0 % 16 * 4096 + x1 % 64 * 64 + x2 % 64; omega, rfl⟩
  rw [if_neg s3] at hS
  by_cases s4 : (((240 ≤ x0 ∧ x0 ≤ 244) ∧ (0 < n ∧ lo ≤ x1) ∧ x1 ≤ hi) ∧ (1 < n ∧ 128 ≤ x2) ∧ x2 ≤ 191) ∧ (2 < n ∧ 128 ≤ x3) ∧ x3 ≤ 191
  · right
    rw [if_pos s4] at hS
    rw [if_neg (by omega), if_neg (by omega), if_pos (by omega), if_pos (by omega)] at hD
    subst hD; subst hS
    exact ⟨h0, by omega, by show 128 ≤ x0 % 8 * 262144 + x1 % 64 * 4096 + x2 % 64 * 64 + x3 % 64; omega, rfl⟩
  rw [if_neg s4] at hS
  left
  refine ⟨h0, hS, ?_⟩
  rw [hD]
  split
  · rw [if_neg (by omega)]
  · split
    · rw [if_neg (by omega)]
    · split
      · rw [if_neg (by omega)]
      · rfl
theorem dec_sizeL (c : UInt8) (r : Str) : (c.toNat < 128 ∧ dec (c :: r) = (c.toNat, 1) ∧ sizeL (c :: r) = 1) ∨ (¬ c.toNat < 128 ∧ sizeL (c :: r) = 0 ∧ dec (c :: r) = (65533, 1)) ∨ (¬ c.toNat < 128 ∧ 2 ≤ sizeL (c :: r) ∧ 128 ≤ (dec (c :: r)).1 ∧ (dec (c :: r)).2 = sizeL (c :: r)) := by
  refine dec_cases c.toNat (by' r 0) (by' r 1) (by' r 2) r.length (by_lt _ _) (by_lt _ _) (by_lt _ _) c.toNat_lt _ _ ?_ _ _ rfl rfl ?_
  · have hd : dec (c :: r) = Utf8.decode ⟨(c :: r).toArray⟩ 0 := rfl
    unfold Utf8.decode at hd
    simp only [Nat.zero_add, get_by, ByteArray.size, List.size_toArray, List.length_cons] at hd
    rw [show by' (c :: r) 0 = c.toNat from rfl, show by' (c :: r) 1 = by' r 0 from rfl, show by' (c :: r) 2 = by' r 1 from rfl, show by' (c :: r) 3 = by' r 2 from rfl] at hd
    rw [hd]
    simp only [Utf8.valid, Utf8.runeError, Bool.and_eq_true, Bool.or_eq_true, decide_eq_true_eq, beq_iff_eq, ge_iff_le]
  · have hl : 0 < lo1 c.toNat := by
      unfold lo1
      split
      · omega
      · split <;> omega
    simp only [sizeL, tl_by r 0 128 191 (by omega), tl_by r 1 128 191 (by omega), tl_by r 2 128 191 (by omega), tl_by r 0 (lo1 c.toNat) (hi1 c.toNat) hl, Bool.and_eq_true, decide_eq_true_eq]
end Go.Vs.U8
set_option linter.unusedSimpArgs false
set_option linter.unusedVariables false
namespace Go.Vs.YthcljcjkfhiicaaDoor
open Go.Proofs Go.Proofs.YthcljcjkfhiicaaDoor Go.RowKit Go.Lib Go.Vs.U8
set_option maxRecDepth 100000

/-- The place of the first byte of a kind; -1: none. -/
def idxB (s : List UInt8) (c : UInt8) : Int := match s.findIdx? (· == c) with
  | some i => i
  | none => -1
theorem idxB_nil (c : UInt8) : idxB [] c = -1 := rfl
theorem idxB_cases (s : List UInt8) (c : UInt8) : (idxB s c = -1 ∧ c ∉ s) ∨ ∃ i, idxB s c = (i : Nat) ∧ s[i]? = some c ∧ c ∉ s.take i := by
  unfold idxB
  cases h : s.findIdx? (· == c) with
  | none =>
    left
    rw [List.findIdx?_eq_none_iff] at h
    exact ⟨rfl, fun hc => by have := h c hc; simp at this⟩
  | some i =>
    right
    rw [List.findIdx?_eq_some_iff_getElem] at h
    obtain ⟨h1, h2, h3⟩ := h
    refine ⟨i, rfl, ?_, ?_⟩
    · rw [List.getElem?_eq_getElem h1]; simpa using h2
    · intro hc
      obtain ⟨j, hj, he⟩ := List.mem_iff_getElem.1 hc
      rw [List.length_take] at hj
      rw [List.getElem_take] at he
      have := h3 j (by omega)
      simp [he] at this
theorem idxB_of {s : List UInt8} {c : UInt8} {i : Nat} (h1 : s[i]? = some c) (h2 : c ∉ s.take i) : idxB s c = i := by
  rcases idxB_cases s c with ⟨_, h⟩ | ⟨j, h, k1, k2⟩
  · exact absurd (List.mem_of_getElem? h1) h
  · rw [h]
    have a : ¬ i < j := fun hl => k2 (by rw [List.mem_take_iff_getElem]; obtain ⟨hi, e⟩ := List.getElem?_eq_some_iff.1 h1; exact ⟨i, by omega, e⟩)
    have b : ¬ j < i := fun hl => h2 (by rw [List.mem_take_iff_getElem]; obtain ⟨hi, e⟩ := List.getElem?_eq_some_iff.1 k1; exact ⟨j, by omega, e⟩)
    omega
theorem idxB_none {s : List UInt8} {c : UInt8} (h : c ∉ s) : idxB s c = -1 := by
  rcases idxB_cases s c with ⟨h1, _⟩ | ⟨j, _, k1, _⟩
  · exact h1
  · exact absurd (List.mem_of_getElem? k1) h
theorem idxB_neg (s : List UInt8) (c : UInt8) : idxB s c < 0 ↔ c ∉ s := by
  rcases idxB_cases s c with ⟨h1, h⟩ | ⟨j, h, k1, _⟩
  · rw [h1]; exact ⟨fun _ => h, fun _ => by omega⟩
  · rw [h]; exact ⟨fun h => by omega, fun h => absurd (List.mem_of_getElem? k1) h⟩
theorem firstIdx_eq (s : List UInt8) (c : UInt8) : firstIdx ⟨s.toArray⟩ c = idxB s c := by
  unfold firstIdx
  have hsz : (⟨s.toArray⟩ : ByteArray).size = s.length := by simp [ByteArray.size]
  have hget : ∀ i, i < s.length → (⟨s.toArray⟩ : ByteArray)[i]! = s[i]?.getD 0 := by
    intro i hi
    have h1 : i < (⟨s.toArray⟩ : ByteArray).size := by rw [hsz]; exact hi
    rw [getElem!_pos (⟨s.toArray⟩ : ByteArray) i h1]
    show s.toArray[i] = _
    simp [hi]
  rw [hsz]
  cases hf : (List.range s.length).find? fun i => (⟨s.toArray⟩ : ByteArray)[i]! == c with
  | none =>
    rw [List.find?_eq_none] at hf
    refine (idxB_none fun hc => ?_).symm
    obtain ⟨j, hj, he⟩ := List.mem_iff_getElem.1 hc
    have := hf j (List.mem_range.2 hj)
    rw [hget j hj, List.getElem?_eq_getElem hj] at this
    simp [he] at this
  | some i =>
    obtain ⟨h1, xs, ys, h2, h3⟩ := List.find?_eq_some_iff_append.1 hf
    have hi : i < s.length := List.mem_range.1 (by rw [h2]; simp)
    have has : ∀ j, j < i → j ∈ xs := by
      intro j hj
      have e1 : (List.range s.length)[xs.length]? = some i := by rw [h2]; simp
      have hlen : xs.length < s.length := by
        have := congrArg List.length h2
        simp at this
        omega
      rw [List.getElem?_range hlen] at e1
      have e2 : xs.length = i := Option.some.inj e1
      have e3 : (List.range s.length)[j]? = xs[j]? := by rw [h2, List.getElem?_append_left (by omega)]
      rw [List.getElem?_range (by omega)] at e3
      exact List.mem_of_getElem? e3.symm
    rw [hget i hi] at h1
    refine (idxB_of ?_ ?_).symm
    · rw [List.getElem?_eq_getElem hi] at h1 ⊢
      simpa using h1
    · intro hc
      obtain ⟨j, hj, he⟩ := List.mem_iff_getElem.1 hc
      rw [List.length_take] at hj
      rw [List.getElem_take] at he
      have := h3 j (has j (by omega))
      rw [hget j (by omega), List.getElem?_eq_getElem (by omega)] at this
      simp [he] at this
theorem fn_IndexByteString (s : List UInt8) (c : UInt8) : Fn G Tryd.prog k_internal_bytealg_IndexByteString [.str s, .int .u8 c.toNat] (.int .i64 (idxB s c)) := by
  refine fn_extern ⟨Tryd.f75, Tryd.func75, by decide⟩ ?_
  rintro w S vs ⟨v1, _, rfl, h1, v2, _, rfl, h2, h3⟩
  have h1 : v1 = .string ⟨s.toArray⟩ := h1
  have h2 : v2 = .int .u8 c.toNat := h2
  have h3 : _ = [] := h3
  subst h1; subst h2; subst h3
  refine ⟨.int .i64 (idxB s c), ?_, rfl⟩
  have hr := run_callFunc_extern (P := Tryd.prog) Tryd.func75 (by kernel_rfl) (by kernel_rfl) (by kernel_rfl) (e := Extern.BytealgIndexByte.indexByte) (by kernel_rfl) #[.string ⟨s.toArray⟩, .int .u8 c.toNat] w
  rw [run_indexByte_string] at hr
  have e1 : ((c.toNat : Int)).toNat.toUInt8 = c := by simp
  rw [e1, firstIdx_eq] at hr
  exact hr

theorem repCells_get {w : World} {S : Stab} : ∀ {l : List IV} {blk off j : Nat} {x : IV}, RepCells w S l blk off → l[j]? = some x → ∃ v, w.cell? ⟨blk, off + j, none⟩ = some v ∧ Rep w S x v
  | [], _, _, _, _, _, h => by simp at h
  | y :: r, blk, off, 0, x, ⟨_, _, ⟨v, h1, h2⟩, _⟩, h => by
    simp only [List.getElem?_cons_zero, Option.some.injEq] at h
    subst h
    exact ⟨v, h1, h2⟩
  | y :: r, blk, off, j + 1, x, ⟨_, _, _, h3⟩, h => by
    obtain ⟨v, h1, h2⟩ := repCells_get (j := j) h3 (by simpa using h)
    exact ⟨v, by rw [show off + (j + 1) = off + 1 + j by omega]; exact h1, h2⟩
theorem first_tab : ((List.range 256).all fun c => firstZ.getD c 0 == (firstT c : Int)) = true := by kernel_rfl
theorem acc_tab : ((List.range 16).all fun i => accZ.getD (2 * i) 0 == (accLo i : Int) && accZ.getD (2 * i + 1) 0 == (accHi i : Int)) = true := by kernel_rfl
theorem first_len : firstZ.length = 256 := by simp [firstZ]
theorem acc_len : accZ.length = 32 := rfl
theorem map_int_get {zs : List Int} {j : Nat} (h : j < zs.length) : (zs.map (IV.int .u8 ·))[j]? = some (.int .u8 (zs.getD j 0)) := by
  simp [h]
theorem G_tabs {w : World} {S : Stab} (h : ∀ p, p ∈ G → RepCells w S p.2 p.1 0) : Utf8Tabs 2 3 w := by
  have h1 := h (2, firstZ.map (.int .u8 ·)) (by simp [G])
  have h2 := h (3, accZ.map (.int .u8 ·)) (by simp [G])
  refine ⟨fun c hc => ?_, fun i hi => ⟨?_, ?_⟩⟩
  · obtain ⟨v, k1, k2⟩ := repCells_get h1 (map_int_get (j := c) (by rw [first_len]; exact hc))
    have k2 : v = _ := k2
    have ht := List.all_eq_true.1 first_tab c (List.mem_range.2 hc)
    rw [beq_iff_eq] at ht
    rw [k2, ht, Nat.zero_add] at k1
    exact k1
  · obtain ⟨v, k1, k2⟩ := repCells_get h2 (map_int_get (j := 2 * i) (by rw [acc_len]; omega))
    have k2 : v = _ := k2
    have ht := List.all_eq_true.1 acc_tab i (List.mem_range.2 hi)
    rw [Bool.and_eq_true, beq_iff_eq, beq_iff_eq] at ht
    rw [k2, ht.1, Nat.zero_add] at k1
    exact k1
  · obtain ⟨v, k1, k2⟩ := repCells_get h2 (map_int_get (j := 2 * i + 1) (by rw [acc_len]; omega))
    have k2 : v = _ := k2
    have ht := List.all_eq_true.1 acc_tab i (List.mem_range.2 hi)
    rw [Bool.and_eq_true, beq_iff_eq, beq_iff_eq] at ht
    rw [k2, ht.2, Nat.zero_add] at k1
    exact k1
theorem fn_DecodeRune (s : List UInt8) (hs : s ≠ []) : Fn G Tryd.prog k_unicode_utf8_DecodeRuneInString [.str s] (.tuple [.int .i32 (dec s).1, .int .i64 (dec s).2]) := by
  refine fn_below ⟨Tryd.f56, Tryd.func56, by decide⟩ ?_
  rintro w S vs hS hgl ⟨v1, _, rfl, h1, h3⟩
  have h1 : v1 = .string ⟨s.toArray⟩ := h1
  have h3 : _ = [] := h3
  subst h1; subst h3
  refine callDoes_of Tryd.func56 (by decide) ((Tryd.utf8_DecodeRuneInString ⟨s.toArray⟩ w (G_tabs hgl)).mono ?_)
  rintro e w' ⟨rfl, hb⟩
  have hd : decodeGo ⟨s.toArray⟩ = dec s := by
    unfold decodeGo dec
    rw [if_neg]
    have : (⟨s.toArray⟩ : ByteArray).size = s.length := by simp [ByteArray.size]
    rw [this]
    exact fun h => hs (List.length_eq_zero_iff.1 h)
  rw [hd]
  exact ⟨_, rfl, hb, #[.int .i32 (dec s).1, .int .i64 (dec s).2], rfl, _, _, rfl, rfl, _, _, rfl, rfl, rfl⟩

/-- Texts as rows. -/
def ts (l : List (List UInt8)) : List (List IV) := l.map fun s => [.str s]
theorem ts_cells {w : World} {S : Stab} {blk : Nat} : ∀ {l : List (List UInt8)} {s off : Nat}, RepRows w S (ts l) s blk off → ∀ (j : Nat) x, (l.map fun x => (⟨x.toArray⟩ : ByteArray))[j]? = some x → w.cell? ⟨blk, off + j, none⟩ = some (.string x)
  | [], _, _, _, j, x, h => by simp at h
  | y :: r, s, off, ⟨h1, ⟨_, _, ⟨v, h2, h3⟩, _⟩, h4⟩, 0, x, h => by
    simp only [List.map_cons, List.getElem?_cons_zero, Option.some.injEq] at h
    subst h
    have h3 : v = _ := h3
    rw [h3] at h2
    exact h2
  | y :: r, s, off, ⟨h1, ⟨_, _, _, _⟩, h4⟩, j + 1, x, h => by
    have hs : s = 1 := by rw [← h1]; rfl
    have := ts_cells (l := r) h4 j x (by simpa using h)
    rw [hs] at this
    rw [show off + (j + 1) = off + 1 + j by omega]
    exact this
theorem fn_Join (l : List (List UInt8)) (sep : List UInt8) (hl : l.length < 1000000) (hlen : (join l sep).length < 1000000) : Fn G Tryd.prog k_strings_Join [.slice (ts l), .str sep] (.str (join l sep)) := by
  refine fn_below ⟨Tryd.f31, Tryd.func31, by decide⟩ ?_
  rintro w S vs hS hgl ⟨v1, _, rfl, ⟨a, cap, rfl, hcap, hrows⟩, v2, _, rfl, h2, h3⟩
  have h2 : v2 = .string ⟨sep.toArray⟩ := h2
  have h3 : _ = [] := h3
  subst h2; subst h3
  have hlen0 : (ts l).length = l.length := by simp [ts]
  rw [hlen0] at hcap ⊢
  by_cases hl0 : l = []
  · subst hl0
    refine callDoes_of Tryd.func31 (by decide) ((Tryd.strings_Join_none a cap ⟨sep.toArray⟩ w).mono ?_)
    rintro e w' ⟨rfl, rfl⟩
    exact ⟨_, rfl, Below.refl _ _, rfl⟩
  · obtain ⟨blk, off, s, rfl, hr⟩ := hrows (by simpa [ts] using hl0)
    have hc := ts_cells hr
    have hbk : blk < w.heap.size := by
      obtain ⟨y, r, rfl⟩ := List.exists_cons_of_ne_nil hl0
      exact (cell_old (hc 0 _ rfl)).1
    have e1 : (l.map fun x => (⟨x.toArray⟩ : ByteArray)).map (·.data.toList) = l := by simp [Function.comp_def]
    have hm : (l.map fun x => (⟨x.toArray⟩ : ByteArray)).length = l.length := by simp
    have := Tryd.strings_Join blk off cap (l.map fun x => ⟨x.toArray⟩) ⟨sep.toArray⟩ w hc hbk (by omega) (by omega) (by rw [e1]; simp only; omega)
    rw [e1, hm] at this
    refine callDoes_of Tryd.func31 (by decide) (this.mono ?_)
    rintro e w' ⟨rfl, hb⟩
    exact ⟨_, rfl, hb, rfl⟩
end Go.Vs.YthcljcjkfhiicaaDoor
namespace Go.Vs.YthcljcjkfhiicaaDoor
set_option linter.unusedSimpArgs false
set_option linter.unusedVariables false
open Go.Proofs
set_option maxRecDepth 100000
set_option maxHeartbeats 4000000

def k_fault_Code : Nat := 12
def k_fault_Place : Nat := 13
def k_fault_New : Nat := 19
def k_fault_walk : Nat := 26
def k_utf_Odd : Nat := 29
def k_utf_Upper : Nat := 34
def k_utf_broken : Nat := 41
def k_strings_IndexByte : Nat := 59
def k_internal_stringslite_IndexByte : Nat := 70
/-- function 12 -/
def c_fault_Code : VCode :=
  .seq (.region [⟨some 2, .move (.const (.val (.int (.i64) 0))), none⟩] (.text) []) (.seq (.region [⟨some 3, .alloc [.val (.int (.i64) 0)], none⟩] (.text) []) (.seq (.seq (.region [⟨some 4, .move (.tmp 0), none⟩, ⟨some 5, .eqN false (.tmp 4), none⟩, ⟨some 6, .move (.tmp 5), none⟩, ⟨some 7, .move (.tmp 0), some (6, false)⟩, ⟨some 8, .mkIface 63 (.tmp 3), some (6, false)⟩, ⟨some 9, .callM k_errors_As [.tmp 7, .tmp 8], some (6, false)⟩, ⟨some 10, .un (.not) (.tmp 9), some (6, false)⟩, ⟨some 11, .pick (.tmp 6) (.const (.val (.bool true))) (.tmp 10), none⟩] (.text) [4, 10]) (.cond (.tmp 11) (.seq (.region [⟨some 2, .move (.const (.val (.int (.i64) 0))), none⟩] (.text) []) (.ret)) (.skip))) (.seq (.region [⟨some 12, .load none (.tmp 3), none⟩, ⟨some 2, .move (.tmp 12), none⟩] (.text) [12, 12]) (.ret))))
def r_fault_Code : List VRes := [.tmp 2]
theorem ok_fault_Code : FnOk Tryd.prog k_fault_Code c_fault_Code r_fault_Code 13 :=
  ⟨⟨Tryd.f12, _, Tryd.func12, by decide, rfl, by kernel_rfl, by kernel_rfl, by kernel_rfl, rfl⟩⟩

/-- function 13 -/
def c_fault_Place : VCode :=
  .seq (.region [⟨some 2, .move (.const (.val (.int (.i64) 0))), none⟩] (.text) []) (.seq (.region [⟨some 6, .move (.tmp 0), none⟩, ⟨some 7, .call k_fault_walk [.tmp 6], none⟩, ⟨some 5, .move (.tmp 7), none⟩, ⟨some 8, .extract (.tmp 5) 0, none⟩, ⟨some 9, .extract (.tmp 5) 1, none⟩, ⟨some 3, .move (.tmp 8), none⟩, ⟨some 4, .move (.tmp 9), none⟩] (.text) [4, 9]) (.seq (.region [⟨some 10, .move (.tmp 3), none⟩, ⟨some 2, .move (.tmp 10), none⟩] (.text) [10, 10]) (.ret)))
def r_fault_Place : List VRes := [.tmp 2]
theorem ok_fault_Place : FnOk Tryd.prog k_fault_Place c_fault_Place r_fault_Place 11 :=
  ⟨⟨Tryd.f13, _, Tryd.func13, by decide, rfl, by kernel_rfl, by kernel_rfl, by kernel_rfl, rfl⟩⟩

/-- function 19 -/
def c_fault_New : VCode :=
  .seq (.region [⟨some 4, .move (.const (.val (.nili))), none⟩] (.text) []) (.seq (.seq (.region [⟨some 5, .move (.tmp 0), none⟩, ⟨some 6, .bin (.eql) (.tmp 5) (.const (.val (.int (.i64) 0))), none⟩] (.text) [5, 5]) (.cond (.tmp 6) (.seq (.region [⟨some 4, .move (.const (.val (.nili))), none⟩] (.text) []) (.ret)) (.skip))) (.seq (.region [⟨some 7, .move (.tmp 1), none⟩, ⟨some 8, .move (.tmp 0), none⟩, ⟨some 9, .mkIface 25 (.tmp 8), none⟩, ⟨some 10, .build [.val (.int (.i64) 0), .val (.nili)] [(0, 1, .tmp 7), (1, 1, .tmp 9)], none⟩, ⟨some 11, .box (.tmp 10), none⟩, ⟨some 12, .mkIface 72 (.tmp 11), none⟩, ⟨some 4, .move (.tmp 12), none⟩] (.text) [7, 12]) (.ret)))
def r_fault_New : List VRes := [.tmp 4]
theorem ok_fault_New : FnOk Tryd.prog k_fault_New c_fault_New r_fault_New 13 :=
  ⟨⟨Tryd.f19, _, Tryd.func19, by decide, rfl, by kernel_rfl, by kernel_rfl, by kernel_rfl, rfl⟩⟩

/-- function 26 -/
def c_fault_walk : VCode :=
  .seq (.region [⟨some 2, .move (.const (.val (.int (.i64) 0))), none⟩, ⟨some 3, .move (.const (.val (.int (.i64) 0))), none⟩] (.text) []) (.seq (.region [⟨some 4, .move (.const (.val (.int (.i64) 0))), none⟩, ⟨some 5, .move (.const (.val (.int (.i64) 0))), none⟩] (.text) []) (.seq (.block 0 (.loop (.seq (.seq (.region [⟨some 7, .move (.tmp 0), none⟩, ⟨some 8, .eqN true (.tmp 7), none⟩] (.text) [7, 7]) (.cond (.tmp 8) (.skip) (.exit 0))) (.block 1 (.seq (.region [⟨some 6, .alloc [.val (.nilp)], none⟩] (.text) []) (.seq (.seq (.region [⟨some 9, .move (.tmp 0), none⟩, ⟨some 10, .mkIface 89 (.tmp 6), none⟩, ⟨some 11, .callM k_errors_As [.tmp 9, .tmp 10], none⟩, ⟨some 12, .un (.not) (.tmp 11), none⟩, ⟨some 13, .move (.tmp 12), none⟩, ⟨some 14, .load none (.tmp 6), some (13, false)⟩, ⟨some 15, .eqP false (.tmp 14), some (13, false)⟩, ⟨some 16, .pick (.tmp 13) (.const (.val (.bool true))) (.tmp 15), none⟩] (.text) [9, 15]) (.cond (.tmp 16) (.exit 0) (.skip))) (.region [⟨some 17, .move (.tmp 4), none⟩, ⟨some 18, .load none (.tmp 6), none⟩, ⟨some 19, .nilCheck (.tmp 18), none⟩, ⟨some 20, .fieldAddr 0 (.tmp 19), none⟩, ⟨some 21, .load none (.tmp 20), none⟩, ⟨some 22, .bin (.add) (.tmp 17) (.tmp 21), none⟩, ⟨some 23, .move (.tmp 5), none⟩, ⟨some 24, .bin (.add) (.tmp 23) (.const (.val (.int (.i64) 1))), none⟩, ⟨some 25, .load none (.tmp 6), none⟩, ⟨some 26, .nilCheck (.tmp 25), none⟩, ⟨some 27, .fieldAddr 1 (.tmp 26), none⟩, ⟨some 28, .load none (.tmp 27), none⟩, ⟨some 4, .move (.tmp 22), none⟩, ⟨some 5, .move (.tmp 24), none⟩, ⟨some 0, .move (.tmp 28), none⟩] (.calm) [17, 28]))))))) (.seq (.region [⟨some 29, .move (.tmp 4), none⟩, ⟨some 30, .move (.tmp 5), none⟩, ⟨some 2, .move (.tmp 29), none⟩, ⟨some 3, .move (.tmp 30), none⟩] (.text) [29, 30]) (.ret))))
def r_fault_walk : List VRes := [.tmp 2, .tmp 3]
theorem ok_fault_walk : FnOk Tryd.prog k_fault_walk c_fault_walk r_fault_walk 31 :=
  ⟨⟨Tryd.f26, _, Tryd.func26, by decide, rfl, by kernel_rfl, by kernel_rfl, by kernel_rfl, rfl⟩⟩

/-- function 29 -/
def c_utf_Odd : VCode :=
  .seq (.region [⟨some 2, .move (.const (.val (.int (.i64) 0))), none⟩] (.text) []) (.seq (.seq (.region [⟨some 5, .move (.tmp 0), none⟩, ⟨some 6, .rangeS (.tmp 5), none⟩] (.text) [5, 5]) (.block 0 (.loop (.seq (.region [⟨some 7, .nextS (.tmp 6), none⟩, ⟨some 8, .extract (.tmp 7) 0, none⟩] (.text) []) (.seq (.cond (.tmp 8) (.skip) (.exit 0)) (.block 1 (.seq (.region [⟨some 9, .extract (.tmp 7) 1, none⟩, ⟨some 10, .extract (.tmp 7) 2, none⟩, ⟨some 3, .move (.tmp 9), none⟩, ⟨some 4, .move (.tmp 10), none⟩] (.text) [9, 10]) (.seq (.region [⟨some 11, .move (.tmp 0), none⟩, ⟨some 12, .move (.tmp 3), none⟩, ⟨some 13, .move (.tmp 4), none⟩, ⟨some 14, .call k_utf_broken [.tmp 11, .tmp 12, .tmp 13], none⟩, ⟨some 15, .move (.tmp 14), none⟩, ⟨some 16, .move (.tmp 4), some (15, false)⟩, ⟨some 17, .bin (.lss) (.tmp 16) (.const (.val (.int (.i32) 32))), some (15, false)⟩, ⟨some 18, .move (.tmp 17), some (15, false)⟩, ⟨some 19, .move (.tmp 4), some (18, true)⟩, ⟨some 20, .bin (.neq) (.tmp 19) (.const (.val (.int (.i32) 9))), some (18, true)⟩, ⟨some 21, .pick (.tmp 18) (.tmp 20) (.const (.val (.bool false))), some (15, false)⟩, ⟨some 22, .pick (.tmp 15) (.const (.val (.bool true))) (.tmp 21), none⟩, ⟨some 23, .move (.tmp 22), none⟩, ⟨some 24, .move (.tmp 4), some (23, false)⟩, ⟨some 25, .bin (.eql) (.tmp 24) (.const (.val (.int (.i32) 127))), some (23, false)⟩, ⟨some 26, .pick (.tmp 23) (.const (.val (.bool true))) (.tmp 25), none⟩] (.text) [11, 25]) (.cond (.tmp 26) (.seq (.region [⟨some 27, .move (.tmp 3), none⟩, ⟨some 2, .move (.tmp 27), none⟩] (.text) [27, 27]) (.ret)) (.skip)))))))))) (.seq (.region [⟨some 2, .move (.const (.val (.int (.i64) (-1)))), none⟩] (.text) []) (.ret)))
def r_utf_Odd : List VRes := [.tmp 2]
theorem ok_utf_Odd : FnOk Tryd.prog k_utf_Odd c_utf_Odd r_utf_Odd 28 :=
  ⟨⟨Tryd.f29, _, Tryd.func29, by decide, rfl, by kernel_rfl, by kernel_rfl, by kernel_rfl, rfl⟩⟩

/-- function 34 -/
def c_utf_Upper : VCode :=
  .seq (.region [⟨some 2, .move (.const (.val (.str []))), none⟩] (.text) []) (.seq (.region [⟨some 3, .allocB 50, none⟩] (.text) []) (.seq (.seq (.region [⟨some 4, .move (.const (.val (.int (.i64) 0))), none⟩] (.text) []) (.block 0 (.loop (.seq (.seq (.region [⟨some 6, .move (.tmp 4), none⟩, ⟨some 7, .move (.tmp 0), none⟩, ⟨some 8, .lenS (.tmp 7), none⟩, ⟨some 9, .bin (.lss) (.tmp 6) (.tmp 8), none⟩] (.text) [6, 8]) (.cond (.tmp 9) (.skip) (.exit 0))) (.seq (.block 1 (.seq (.region [⟨some 12, .move (.tmp 0), none⟩, ⟨some 13, .move (.tmp 4), none⟩, ⟨some 14, .indexS (.tmp 12) (.tmp 13), none⟩, ⟨some 5, .move (.tmp 14), none⟩] (.text) [12, 14]) (.seq (.seq (.region [⟨some 15, .move (.tmp 5), none⟩, ⟨some 16, .bin (.leq) (.const (.val (.int (.u8) 97))) (.tmp 15), none⟩, ⟨some 17, .move (.tmp 16), none⟩, ⟨some 18, .move (.tmp 5), some (17, true)⟩, ⟨some 19, .bin (.leq) (.tmp 18) (.const (.val (.int (.u8) 122))), some (17, true)⟩, ⟨some 20, .pick (.tmp 17) (.tmp 19) (.const (.val (.bool false))), none⟩] (.text) [15, 19]) (.cond (.tmp 20) (.region [⟨some 21, .move (.tmp 5), none⟩, ⟨some 22, .bin (.sub) (.tmp 21) (.const (.val (.int (.u8) 97))), none⟩, ⟨some 23, .bin (.add) (.tmp 22) (.const (.val (.int (.u8) 65))), none⟩, ⟨some 5, .move (.tmp 23), none⟩] (.text) [21, 23]) (.skip))) (.region [⟨some 24, .move (.tmp 5), none⟩, ⟨some 25, .callM k__strings_Builder_WriteByte [.tmp 3, .tmp 24], none⟩] (.text) [24, 25])))) (.region [⟨some 10, .move (.tmp 4), none⟩, ⟨some 11, .bin (.add) (.tmp 10) (.const (.val (.int (.i64) 1))), none⟩, ⟨some 4, .move (.tmp 11), none⟩] (.text) [10, 11])))))) (.seq (.region [⟨some 26, .callM k__strings_Builder_String [.tmp 3], none⟩, ⟨some 2, .move (.tmp 26), none⟩] (.text) [26, 26]) (.ret))))
def r_utf_Upper : List VRes := [.tmp 2]
theorem ok_utf_Upper : FnOk Tryd.prog k_utf_Upper c_utf_Upper r_utf_Upper 27 :=
  ⟨⟨Tryd.f34, _, Tryd.func34, by decide, rfl, by kernel_rfl, by kernel_rfl, by kernel_rfl, rfl⟩⟩

/-- function 41 -/
def c_utf_broken : VCode :=
  .seq (.region [⟨some 6, .move (.const (.val (.bool false))), none⟩] (.text) []) (.seq (.seq (.region [⟨some 9, .move (.tmp 2), none⟩, ⟨some 10, .bin (.neq) (.tmp 9) (.const (.val (.int (.i32) 65533))), none⟩] (.text) [9, 9]) (.cond (.tmp 10) (.seq (.region [⟨some 6, .move (.const (.val (.bool false))), none⟩] (.text) []) (.ret)) (.skip))) (.seq (.region [⟨some 12, .move (.tmp 0), none⟩, ⟨some 13, .move (.tmp 1), none⟩, ⟨some 14, .subS (.tmp 12) (some (.tmp 13)) none, none⟩, ⟨some 15, .call k_unicode_utf8_DecodeRuneInString [.tmp 14], none⟩, ⟨some 11, .move (.tmp 15), none⟩, ⟨some 16, .extract (.tmp 11) 0, none⟩, ⟨some 17, .extract (.tmp 11) 1, none⟩, ⟨some 7, .move (.tmp 16), none⟩, ⟨some 8, .move (.tmp 17), none⟩] (.text) [7, 7, 11, 17]) (.seq (.region [⟨some 18, .move (.tmp 8), none⟩, ⟨some 19, .bin (.eql) (.tmp 18) (.const (.val (.int (.i64) 1))), none⟩, ⟨some 6, .move (.tmp 19), none⟩] (.text) [18, 19]) (.ret))))
def r_utf_broken : List VRes := [.tmp 6]
theorem ok_utf_broken : FnOk Tryd.prog k_utf_broken c_utf_broken r_utf_broken 20 :=
  ⟨⟨Tryd.f41, _, Tryd.func41, by decide, rfl, by kernel_rfl, by kernel_rfl, by kernel_rfl, rfl⟩⟩

/-- function 59 -/
def c_strings_IndexByte : VCode :=
  .seq (.region [⟨some 4, .move (.const (.val (.int (.i64) 0))), none⟩] (.text) []) (.seq (.region [⟨some 5, .move (.tmp 0), none⟩, ⟨some 6, .move (.tmp 1), none⟩, ⟨some 7, .call k_internal_stringslite_IndexByte [.tmp 5, .tmp 6], none⟩, ⟨some 4, .move (.tmp 7), none⟩] (.text) [5, 7]) (.ret))
def r_strings_IndexByte : List VRes := [.tmp 4]
theorem ok_strings_IndexByte : FnOk Tryd.prog k_strings_IndexByte c_strings_IndexByte r_strings_IndexByte 8 :=
  ⟨⟨Tryd.f59, _, Tryd.func59, by decide, rfl, by kernel_rfl, by kernel_rfl, by kernel_rfl, rfl⟩⟩

/-- function 70 -/
def c_internal_stringslite_IndexByte : VCode :=
  .seq (.region [⟨some 4, .move (.const (.val (.int (.i64) 0))), none⟩] (.text) []) (.seq (.region [⟨some 5, .move (.tmp 0), none⟩, ⟨some 6, .move (.tmp 1), none⟩, ⟨some 7, .call k_internal_bytealg_IndexByteString [.tmp 5, .tmp 6], none⟩, ⟨some 4, .move (.tmp 7), none⟩] (.text) [5, 7]) (.ret))
def r_internal_stringslite_IndexByte : List VRes := [.tmp 4]
theorem ok_internal_stringslite_IndexByte : FnOk Tryd.prog k_internal_stringslite_IndexByte c_internal_stringslite_IndexByte r_internal_stringslite_IndexByte 8 :=
  ⟨⟨Tryd.f70, _, Tryd.func70, by decide, rfl, by kernel_rfl, by kernel_rfl, by kernel_rfl, rfl⟩⟩

end Go.Vs.YthcljcjkfhiicaaDoor
namespace Go.Vs.YthcljcjkfhiicaaDoor
set_option linter.unusedSimpArgs false
set_option linter.unusedVariables false
open Go.Proofs
set_option maxRecDepth 100000
set_option maxHeartbeats 4000000
abbrev Str := List UInt8
/-- A small letter's capital. -/
def upB (c : UInt8) : UInt8 := if 97 ≤ c ∧ c ≤ 122 then c - 32 else c
def upper (s : Str) : Str := s.map upB
@[simp] theorem upper_nil : upper [] = [] := rfl
theorem upper_len (s : Str) : (upper s).length = s.length := by simp [upper]
theorem upper_take {s : Str} {i : Nat} (h : i < s.length) : upper (s.take (i + 1)) = upper (s.take i) ++ [upB s[i]] := by
  unfold upper; rw [List.take_succ_eq_append_getElem h, List.map_append]; rfl
theorem upB_yes {c : UInt8} (h1 : 97 ≤ c.toNat) (h2 : c.toNat ≤ 122) : (upB c).toNat = c.toNat - 32 := by
  have a : (97 : UInt8) ≤ c ∧ c ≤ 122 := ⟨by rw [UInt8.le_iff_toNat_le]; simpa using h1, by rw [UInt8.le_iff_toNat_le]; simpa using h2⟩
  rw [upB, if_pos a, UInt8.toNat_sub_of_le]
  · rfl
  · rw [UInt8.le_iff_toNat_le]; simp; omega
theorem upB_no {c : UInt8} (h : ¬ (97 ≤ c.toNat ∧ c.toNat ≤ 122)) : upB c = c := by
  rw [upB, if_neg]
  rintro ⟨a, b⟩
  rw [UInt8.le_iff_toNat_le] at a b
  exact h ⟨by simpa using a, by simpa using b⟩
theorem wrap_sm {x : Int} (h1 : -1000000000 < x) (h2 : x < 1000000000) : IntKind.i64.wrap x = x := by rw [IntKind.wrap_i64]; omega
theorem u8_lt (c : UInt8) : c.toNat < 256 := by have := c.toNat_lt; simpa using this
theorem wrap_succ {i n : Nat} (h : i < n) (hn : n < 1000000) : IntKind.i64.wrap ((i : Int) + 1) = ((i + 1 : Nat) : Int) := by rw [IntKind.wrap_i64]; omega
theorem fn_Upper (s : Str) (hs : s.length < 1000000) : Fn G Tryd.prog k_utf_Upper [.str s] (.str (upper s)) := by
  refine fn_intro hm ok_utf_Upper (by simp) ?_
  simp [c_utf_Upper, r_utf_Upper]
  refine loopU hm [] (fun i : Nat => [(4, .val (.int .i64 i))]) (fun i => [(3, .box [.selfN 3 50 false, .ownT 1 i 5]), (1, .arr i 1 (byteRows (upper (s.take i))))]) (fun i => i ≤ s.length) (fun i => s.length - i) 0 (by omega) ?_ ?_
  · exact Weak.trans (weak_bld (k := 3) (d := 3) (t := 50) 1 5 (by simp) (by simp) (by simp [getE, look]) (by simp [look]) (by simp)) (weak_drop rfl rfl (by simp [St.bld, EnvLe, getE, look, put, eraseE, SV.erase]) (by simp [St.bld, ObLe, look, put, eraseO, eraseL, Ob.erase, SV.erase, byteRows]) (by simp [St.bld, roOk]))
  intro i hi
  simp
  refine brd (fun h => ?_) (fun h => ?_)
  · obtain ⟨c, hc⟩ : ∃ c, c = s[i] := ⟨_, rfl⟩
    have ht := upper_take h
    rw [← hc] at ht
    have hc' : s[i]? = some c := by rw [hc]; exact List.getElem?_eq_getElem h
    have hlt := u8_lt c
    have hwb := fnM_WriteByte i (upper (s.take i)) (upB c) (by rw [upper_len, List.length_take]; omega)
    simp [hc']
    refine brd (fun h1 => ?_) (fun h1 => ?_)
    · simp
      refine brd (fun h2 => ?_) (fun h2 => ?_)
      · have hw : IntKind.u8.wrap (IntKind.u8.wrap ((c.toNat : Int) - 97) + 65) = ((upB c).toNat : Int) := by
          rw [upB_yes (by omega) (by omega), wrap_u8 (x := (c.toNat : Int) - 97) (by omega) (by omega), wrap_u8 (by omega) (by omega)]; omega
        simp [hw]
        refine callM [(1000, 3), (1001, 1)] [] hwb rfl rfl ⟨rfl, rfl, trivial⟩ ⟨rfl, _, _, rfl, rfl, rfl⟩ rfl ?_
        simp [bldObs, wrap_succ h hs]
        refine loopEnd (i + 1) (by omega) (by omega) ?_
        simp [ht]
        exact weak_drop rfl rfl (by simp [EnvLe, getE, look]) (by simp [ObLe, look]) (by simp [roOk])
      · have hw := upB_no (c := c) (by omega)
        rw [hw] at hwb ht
        simp
        refine callM [(1000, 3), (1001, 1)] [] hwb rfl rfl ⟨rfl, rfl, trivial⟩ ⟨rfl, _, _, rfl, rfl, rfl⟩ rfl ?_
        simp [bldObs, wrap_succ h hs]
        refine loopEnd (i + 1) (by omega) (by omega) ?_
        simp [ht]
        exact weak_drop rfl rfl (by simp [EnvLe, getE, look]) (by simp [ObLe, look]) (by simp [roOk])
    · have hw := upB_no (c := c) (by omega)
      rw [hw] at hwb ht
      simp
      refine callM [(1000, 3), (1001, 1)] [] hwb rfl rfl ⟨rfl, rfl, trivial⟩ ⟨rfl, _, _, rfl, rfl, rfl⟩ rfl ?_
      simp [bldObs, wrap_succ h hs]
      refine loopEnd (i + 1) (by omega) (by omega) ?_
      simp [ht]
      exact weak_drop rfl rfl (by simp [EnvLe, getE, look]) (by simp [ObLe, look]) (by simp [roOk])
  · obtain rfl : i = s.length := by omega
    simp
    refine callM [(1000, 3), (1001, 1)] [] (fnM_String s.length (upper s) (by rw [upper_len]; omega)) rfl rfl (by simp [mObjs, bldObs, Vs.ren, look, Ob.ren, SV.ren]) ⟨rfl, rfl⟩ rfl ?_
    simp
theorem bytesOf_rows (l : Str) : bytesOf (byteRows l) = some l := by
  induction l with
  | nil => rfl
  | cons c r ih =>
    simp only [byteRows, List.map_cons, bytesOf] at ih ⊢
    rw [ih]
    simp
theorem fn_New (e a : Int) : Fn G Tryd.prog k_fault_New [.int .i64 e, .int .i64 a] (if e = 0 then .nili else errIV e [a]) := by
  refine fn_intro hm ok_fault_New (by simp) ?_
  simp [c_fault_New, r_fault_New]
  refine brd (fun h => ?_) (fun h => ?_)
  · simp [h]
  · simp [h, errIV]
theorem errIV_not_nil (n : Int) (ps : List Int) : ∃ t v, errIV n ps = .iface t v := by
  cases ps with
  | nil => exact ⟨_, _, rfl⟩
  | cons p r => exact ⟨_, _, rfl⟩
theorem fn_Code_nil : Fn G Tryd.prog k_fault_Code [.nili] (.int .i64 0) := by
  refine fn_intro hm ok_fault_Code (by simp) ?_
  simp [c_fault_Code, r_fault_Code]
theorem fn_Code (n : Int) (ps : List Int) : Fn G Tryd.prog k_fault_Code [errIV n ps] (.int .i64 n) := by
  refine fn_intro hm ok_fault_Code (by simp) ?_
  have hA := fnM_As_eno n 0 ps
  obtain ⟨t, v, h⟩ := errIV_not_nil n ps
  rw [h] at hA ⊢
  simp [c_fault_Code, r_fault_Code]
  refine callM [(1000, 3)] [] hA rfl rfl ⟨rfl, trivial⟩ ⟨[], [], rfl, ⟨rfl, rfl⟩, rfl⟩ rfl ?_
  simp
end Go.Vs.YthcljcjkfhiicaaDoor
