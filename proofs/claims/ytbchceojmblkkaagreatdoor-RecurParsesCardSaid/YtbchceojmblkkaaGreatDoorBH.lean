/-
 DERIVED: THE SHELF's CONTRACTS AT THIS DUMP, IN PLAIN WORDS (tools/lay-plain.mjs out of 'TryzShelf.lean', which tools/lay-shelf.mjs wrote): THE SAME DECLARATIONS UNDER THE SAME NAMES: 'import', 'namespace', 'open', 'def', 'theorem' AND NOTHING ELSE: no command of the shelf's: FOR A HAND-IN. Each laying: the table of numbers ('.._ren') and one theorem, a field a fact of the dump's own or the kernel's comparison; each contract: ONE APPLICATION.
-/
import Derived.Shelf.Strings.Builder1
import Derived.Shelf.Strings.OnBuilder
import Derived.Shelf.LaysM
import Derived.Shelf.Strconv.Itoa3
import Derived.Shelf.Strings.IndexAnyAll
import Derived.Shelf.Unicode.DecodeSlow
import Derived.Shelf.Unicode.DecodeAny
import Derived.Test.YtbchceojmblkkaaGreatDoorProg
import GoSem.Core.Utf8
import Derived.KernelRfl
import Derived.Test.YtbchceojmblkkaaGreatDoorBG
import Derived.Laws.Externs
import Derived.Test.YtbchceojmblkkaaGreatDoorRows
import Derived.Test.YtbchceojmblkkaaGreatDoorBD
set_option linter.unusedVariables false
set_option linter.unusedSimpArgs false
namespace Go.Vs.U8
end Go.Vs.U8
namespace Go.Proofs
open Go.Shelf
def Tryz.lays156_ren : Go.Shelf.Ren := ⟨fun | 156 => 115 | 165 => 164 | 166 => 139 | 169 => 140 | 240 => 182 | 241 => 206 | 276 => 213 | 277 => 233 | n => n, fun | 31 => 123 | 9 => 9 | 3 => 3 | 4 => 4 | 0 => 0 | 20 => 20 | 72 => 208 | 76 => 32 | 70 => 205 | 37 => 206 | 75 => 27 | 127 => 266 | 164 => 189 | 5 => 5 | 80 => 211 | n => n, fun | n => n⟩
theorem Tryz.lays156 : Go.Proofs.Lays.n156 Tryz.prog Tryz.lays156_ren := {
 mixed := by kernel_rfl
 f156 := Tryz.func115.trans (congrArg some (by kernel_rfl))
 f165 := Tryz.func164.trans (congrArg some (by kernel_rfl))
 f166 := Tryz.func139.trans (congrArg some (by kernel_rfl))
 f169 := Tryz.func140.trans (congrArg some (by kernel_rfl))
 f240 := Tryz.func182.trans (congrArg some (by kernel_rfl))
 f241 := Tryz.func206.trans (congrArg some (by kernel_rfl))
 f276 := Tryz.func213.trans (congrArg some (by kernel_rfl))
 f277 := Tryz.func233.trans (congrArg some (by kernel_rfl))
 t0 := Tryz.underlying0
 a0 := Tryz.isAgg0
 z0 := Tryz.sizeOf0
 v0 := Tryz.zeroValue0
 t3 := Tryz.underlying3
 a3 := Tryz.isAgg3
 z3 := Tryz.sizeOf3
 v3 := Tryz.zeroValue3
 t4 := Tryz.underlying4
 a4 := Tryz.isAgg4
 z4 := Tryz.sizeOf4
 v4 := Tryz.zeroValue4
 t9 := Tryz.underlying9
 a9 := Tryz.isAgg9
 z9 := Tryz.sizeOf9
 v9 := Tryz.zeroValue9
 t20 := Tryz.underlying20
 a20 := Tryz.isAgg20
 z20 := Tryz.sizeOf20
 v20 := Tryz.zeroValue20
 t31 := Tryz.underlying123
 a31 := Tryz.isAgg123
 z31 := Tryz.sizeOf123
 v31 := Tryz.zeroValue123
 t37 := Tryz.underlying206
 a37 := Tryz.isAgg206
 z37 := Tryz.sizeOf206
 v37 := Tryz.zeroValue206
 t70 := Tryz.underlying205
 a70 := Tryz.isAgg205
 z70 := Tryz.sizeOf205
 v70 := Tryz.zeroValue205
 t72 := Tryz.underlying208
 a72 := Tryz.isAgg208
 z72 := Tryz.sizeOf208
 v72 := Tryz.zeroValue208
 t75 := Tryz.underlying27
 a75 := Tryz.isAgg27
 z75 := Tryz.sizeOf27
 v75 := Tryz.zeroValue27
 t76 := Tryz.underlying32
 a76 := Tryz.isAgg32
 z76 := Tryz.sizeOf32
 v76 := Tryz.zeroValue32
 t127 := Tryz.underlying266
 a127 := Tryz.isAgg266
 z127 := Tryz.sizeOf266
 v127 := Tryz.zeroValue266
 t164 := Tryz.underlying189
 a164 := Tryz.isAgg189
 z164 := Tryz.sizeOf189
 v164 := Tryz.zeroValue189 }
theorem Tryz.Builder_Extra_156 : Builder.Extra Tryz.prog Tryz.lays156_ren := {
 sizeBuilder := by kernel_rfl
 liesBuilder := by kernel_rfl
 t5 := Tryz.underlying5
 a5 := Tryz.isAgg5
 z5 := Tryz.sizeOf5
 v5 := Tryz.zeroValue5
 infoByte := by kernel_rfl
 cellsByte := by kernel_rfl
 sizeByte := by kernel_rfl
 neB5 := by decide }
open Go.RowKit in
theorem Tryz.strings_Join_none (a : Option Addr) (c : Nat) (sep : ByteArray) (w : World) :
  Calls Tryz.prog 115 #[.slice a 0 c, .string sep] w fun e w' => e = .returned (.string ⟨#[]⟩) ∧ w' = w := Any.strings_Join_none Tryz.lays156 Tryz.Builder_Extra_156 a c sep w
open Go.RowKit in
theorem Tryz.strings_Join (bk o c : Nat) (xs : List ByteArray) (sep : ByteArray) (w : World) (hcells : ∀ (j : Nat) x, xs[j]? = some x → w.cell? ⟨bk, o + j, none⟩ = some (.string x)) (hbk : bk < w.heap.size) (hN : xs.length ≤ 140737488355328) (hcap : xs.length ≤ c) (hlen : (Lib.join (xs.map (·.data.toList)) sep.data.toList).length ≤ 140737488355328) :
  Calls Tryz.prog 115 #[.slice (some ⟨bk, o, none⟩) xs.length c, .string sep] w fun e w' => e = .returned (.string ⟨(Lib.join (xs.map (·.data.toList)) sep.data.toList).toArray⟩) ∧ Below w.heap.size w w' := Any.strings_Join Tryz.lays156 Tryz.Builder_Extra_156 bk o c xs sep w hcells hbk hN hcap hlen
def Tryz.lays197_ren : Go.Shelf.Ren := ⟨fun | 197 => 188 | 260 => 224 | n => n, fun | 9 => 9 | 21 => 21 | 3 => 3 | 4 => 4 | 5 => 5 | 105 => 270 | 119 => 310 | 0 => 0 | 46 => 300 | 139 => 313 | 138 => 312 | n => n, fun | 3 => 4 | 4 => 5 | n => n⟩
end Go.Proofs
set_option linter.unusedVariables false
set_option linter.unusedSimpArgs false
namespace Go.Vs.U8
open Go
abbrev Str := List UInt8
def tl (l : Str) (k lo hi : Nat) : Bool := match l[k]? with
 | some b => decide (lo ≤ b.toNat) && decide (b.toNat ≤ hi)
 | none => false
def lo1 (n : Nat) : Nat := if n = 224 then 160 else if n = 240 then 144 else 128
def hi1 (n : Nat) : Nat := if n = 237 then 159 else if n = 244 then 143 else 191
def sizeL : Str → Nat
 | [] => 0
 | c :: r =>
  if c.toNat < 128 then 1
  else if (decide (194 ≤ c.toNat) && decide (c.toNat ≤ 223) && tl r 0 128 191) = true then 2
  else if (decide (224 ≤ c.toNat) && decide (c.toNat ≤ 239) && tl r 0 (lo1 c.toNat) (hi1 c.toNat) && tl r 1 128 191) = true then 3
  else if (decide (240 ≤ c.toNat) && decide (c.toNat ≤ 244) && tl r 0 (lo1 c.toNat) (hi1 c.toNat) && tl r 1 128 191 && tl r 2 128 191) = true then 4
  else 0
def oddAt (l : Str) : Bool := match l with
 | [] => false
 | c :: _ => sizeL l == 0 || (decide (c.toNat < 32) && !decide (c.toNat = 9)) || decide (c.toNat = 127)
def oddF : Nat → Str → Option Nat
 | 0, _ => none
 | f + 1, l => match l with
  | [] => none
  | _ :: _ => if oddAt l then some 0 else (oddF f (l.drop (sizeL l))).map (· + sizeL l)
def odd (l : Str) : Option Nat := oddF l.length l
@[simp] theorem odd_nil : odd [] = none := rfl
def by' (l : Str) (k : Nat) : Nat := match l[k]? with
 | some b => b.toNat
 | none => 0
end Go.Vs.U8
set_option linter.unusedSimpArgs false
set_option linter.unusedVariables false
namespace Go.Vs.YtbchceojmblkkaaGreatDoor
open Go.Proofs Go.Proofs.YtbchceojmblkkaaGreatDoor Go.RowKit Go.Lib Go.Vs.U8
set_option maxRecDepth 100000

def idxB (s : List UInt8) (c : UInt8) : Int := match s.findIdx? (· == c) with
 | some i => i
 | none => -1
theorem idxB_cases (s : List UInt8) (c : UInt8) : (idxB s c = -1 ∧ c ∉ s) ∨ ∃ i, idxB s c = (i : Nat) ∧ s[i]? = some c ∧ c ∉ s.take i := by
 unfold idxB
 cases h : s.findIdx? (· == c) with
 | none =>
  left
  rw [List.findIdx?_eq_none_iff] at h
  exact ⟨rfl, fun hc => by have := h c hc; simp at this⟩
 | some i =>
  right
  rw [List.findIdx?_eq_some_iff_getElem] at h
  obtain ⟨h1, h2, h3⟩ := h
  refine ⟨i, rfl, ?_, ?_⟩
  ·rw [List.getElem?_eq_getElem h1]; simpa using h2
  ·intro hc
   obtain ⟨j, hj, he⟩ := List.mem_iff_getElem.1 hc
   rw [List.length_take] at hj
   rw [List.getElem_take] at he
   have := h3 j (by omega)
   simp [he] at this
theorem idxB_of {s : List UInt8} {c : UInt8} {i : Nat} (h1 : s[i]? = some c) (h2 : c ∉ s.take i) : idxB s c = i := by
 rcases idxB_cases s c with ⟨_, h⟩ | ⟨j, h, k1, k2⟩
 ·exact absurd (List.mem_of_getElem? h1) h
 ·rw [h]
  have a : ¬ i < j := fun hl => k2 (by rw [List.mem_take_iff_getElem]; obtain ⟨hi, e⟩ := List.getElem?_eq_some_iff.1 h1; exact ⟨i, by omega, e⟩)
  have b : ¬ j < i := fun hl => h2 (by rw [List.mem_take_iff_getElem]; obtain ⟨hi, e⟩ := List.getElem?_eq_some_iff.1 k1; exact ⟨j, by omega, e⟩)
  omega
theorem idxB_none {s : List UInt8} {c : UInt8} (h : c ∉ s) : idxB s c = -1 := by
 rcases idxB_cases s c with ⟨h1, _⟩ | ⟨j, _, k1, _⟩
 ·exact h1
 ·exact absurd (List.mem_of_getElem? k1) h
theorem idxB_neg (s : List UInt8) (c : UInt8) : idxB s c < 0 ↔ c ∉ s := by
 rcases idxB_cases s c with ⟨h1, h⟩ | ⟨j, h, k1, _⟩
 ·rw [h1]; exact ⟨fun _ => h, fun _ => by omega⟩
 ·rw [h]; exact ⟨fun h => by omega, fun h => absurd (List.mem_of_getElem? k1) h⟩
theorem firstIdx_eq (s : List UInt8) (c : UInt8) : firstIdx ⟨s.toArray⟩ c = idxB s c := by
 unfold firstIdx
 have hsz : (⟨s.toArray⟩ : ByteArray).size = s.length := by simp [ByteArray.size]
 have hget : ∀ i, i < s.length → (⟨s.toArray⟩ : ByteArray)[i]! = s[i]?.getD 0 := by
  intro i hi
  have h1 : i < (⟨s.toArray⟩ : ByteArray).size := by rw [hsz]; exact hi
  rw [getElem!_pos (⟨s.toArray⟩ : ByteArray) i h1]
  show s.toArray[i] = _
  simp [hi]
 rw [hsz]
 cases hf : (List.range s.length).find? fun i => (⟨s.toArray⟩ : ByteArray)[i]! == c with
 | none =>
  rw [List.find?_eq_none] at hf
  refine (idxB_none fun hc => ?_).symm
  obtain ⟨j, hj, he⟩ := List.mem_iff_getElem.1 hc
  have := hf j (List.mem_range.2 hj)
  rw [hget j hj, List.getElem?_eq_getElem hj] at this
  simp [he] at this
 | some i =>
  obtain ⟨h1, xs, ys, h2, h3⟩ := List.find?_eq_some_iff_append.1 hf
  have hi : i < s.length := List.mem_range.1 (by rw [h2]; simp)
  have has : ∀ j, j < i → j ∈ xs := by
   intro j hj
   have e1 : (List.range s.length)[xs.length]? = some i := by rw [h2]; simp
   have hlen : xs.length < s.length := by
    have := congrArg List.length h2
    simp at this
    omega
   rw [List.getElem?_range hlen] at e1
   have e2 : xs.length = i := Option.some.inj e1
   have e3 : (List.range s.length)[j]? = xs[j]? := by rw [h2, List.getElem?_append_left (by omega)]
   rw [List.getElem?_range (by omega)] at e3
   exact List.mem_of_getElem? e3.symm
  rw [hget i hi] at h1
  refine (idxB_of ?_ ?_).symm
  ·rw [List.getElem?_eq_getElem hi] at h1 ⊢
   simpa using h1
  ·intro hc
   obtain ⟨j, hj, he⟩ := List.mem_iff_getElem.1 hc
   rw [List.length_take] at hj
   rw [List.getElem_take] at he
   have := h3 j (has j (by omega))
   rw [hget j (by omega), List.getElem?_eq_getElem (by omega)] at this
   simp [he] at this
theorem fn_IndexByteString (s : List UInt8) (c : UInt8) : Fn G Tryz.prog k_internal_bytealg_IndexByteString [.str s, .int .u8 c.toNat] (.int .i64 (idxB s c)) := by
 refine fn_extern ⟨Tryz.f185, Tryz.func185, by decide⟩ ?_
 rintro w S vs ⟨v1, _, rfl, h1, v2, _, rfl, h2, h3⟩
 have h1 : v1 = .string ⟨s.toArray⟩ := h1
 have h2 : v2 = .int .u8 c.toNat := h2
 have h3 : _ = [] := h3
 subst h1; subst h2; subst h3
 refine ⟨.int .i64 (idxB s c), ?_, rfl⟩
 have hr := run_callFunc_extern (P := Tryz.prog) Tryz.func185 (by kernel_rfl) (by kernel_rfl) (by kernel_rfl) (e := Extern.BytealgIndexByte.indexByte) (by kernel_rfl) #[.string ⟨s.toArray⟩, .int .u8 c.toNat] w
 rw [run_indexByte_string] at hr
 have e1 : ((c.toNat : Int)).toNat.toUInt8 = c := by simp
 rw [e1, firstIdx_eq] at hr
 exact hr

theorem repCells_get {w : World} {S : Stab} : ∀ {l : List IV} {blk off j : Nat} {x : IV}, RepCells w S l blk off → l[j]? = some x → ∃ v, w.cell? ⟨blk, off + j, none⟩ = some v ∧ Rep w S x v
 | [], _, _, _, _, _, h => by simp at h
 | y :: r, blk, off, 0, x, ⟨_, _, ⟨v, h1, h2⟩, _⟩, h => by
  simp only [List.getElem?_cons_zero, Option.some.injEq] at h
  subst h
  exact ⟨v, h1, h2⟩
 | y :: r, blk, off, j + 1, x, ⟨_, _, _, h3⟩, h => by
  obtain ⟨v, h1, h2⟩ := repCells_get (j := j) h3 (by simpa using h)
  exact ⟨v, by rw [show off + (j + 1) = off + 1 + j by omega]; exact h1, h2⟩
theorem first_tab : ((List.range 256).all fun c => firstZ.getD c 0 == (firstT c : Int)) = true := by kernel_rfl
theorem acc_tab : ((List.range 16).all fun i => accZ.getD (2 * i) 0 == (accLo i : Int) && accZ.getD (2 * i + 1) 0 == (accHi i : Int)) = true := by kernel_rfl
theorem first_len : firstZ.length = 256 := by simp [firstZ]
theorem acc_len : accZ.length = 32 := rfl
def ts (l : List (List UInt8)) : List (List IV) := l.map fun s => [.str s]
theorem ts_cells {w : World} {S : Stab} {blk : Nat} : ∀ {l : List (List UInt8)} {s off : Nat}, RepRows w S (ts l) s blk off → ∀ (j : Nat) x, (l.map fun x => (⟨x.toArray⟩ : ByteArray))[j]? = some x → w.cell? ⟨blk, off + j, none⟩ = some (.string x)
 | [], _, _, _, j, x, h => by simp at h
 | y :: r, s, off, ⟨h1, ⟨_, _, ⟨v, h2, h3⟩, _⟩, h4⟩, 0, x, h => by
  simp only [List.map_cons, List.getElem?_cons_zero, Option.some.injEq] at h
  subst h
  have h3 : v = _ := h3
  rw [h3] at h2
  exact h2
 | y :: r, s, off, ⟨h1, ⟨_, _, _, _⟩, h4⟩, j + 1, x, h => by
  have hs : s = 1 := by rw [← h1]; rfl
  have := ts_cells (l := r) h4 j x (by simpa using h)
  rw [hs] at this
  rw [show off + (j + 1) = off + 1 + j by omega]
  exact this
theorem fn_Join (l : List (List UInt8)) (sep : List UInt8) (hl : l.length < 1000000) (hlen : (join l sep).length < 1000000) : Fn G Tryz.prog k_strings_Join [.slice (ts l), .str sep] (.str (join l sep)) := by
 refine fn_below ⟨Tryz.f115, Tryz.func115, by decide⟩ ?_
 rintro w S vs hS hgl ⟨v1, _, rfl, ⟨a, cap, rfl, hcap, hrows⟩, v2, _, rfl, h2, h3⟩
 have h2 : v2 = .string ⟨sep.toArray⟩ := h2
 have h3 : _ = [] := h3
 subst h2; subst h3
 have hlen0 : (ts l).length = l.length := by simp [ts]
 rw [hlen0] at hcap ⊢
 by_cases hl0 : l = []
 ·subst hl0
  refine callDoes_of Tryz.func115 (by decide) ((Tryz.strings_Join_none a cap ⟨sep.toArray⟩ w).mono ?_)
  rintro e w' ⟨rfl, rfl⟩
  exact ⟨_, rfl, Below.refl _ _, rfl⟩
 ·obtain ⟨blk, off, s, rfl, hr⟩ := hrows (by simpa [ts] using hl0)
  have hc := ts_cells hr
  have hbk : blk < w.heap.size := by
   obtain ⟨y, r, rfl⟩ := List.exists_cons_of_ne_nil hl0
   exact (cell_old (hc 0 _ rfl)).1
  have e1 : (l.map fun x => (⟨x.toArray⟩ : ByteArray)).map (·.data.toList) = l := by simp [Function.comp_def]
  have hm : (l.map fun x => (⟨x.toArray⟩ : ByteArray)).length = l.length := by simp
  have := Tryz.strings_Join blk off cap (l.map fun x => ⟨x.toArray⟩) ⟨sep.toArray⟩ w hc hbk (by omega) (by omega) (by rw [e1]; simp only; omega)
  rw [e1, hm] at this
  refine callDoes_of Tryz.func115 (by decide) (this.mono ?_)
  rintro e w' ⟨rfl, hb⟩
  exact ⟨_, rfl, hb, rfl⟩
end Go.Vs.YtbchceojmblkkaaGreatDoor
namespace Go.Vs.YtbchceojmblkkaaGreatDoor
set_option linter.unusedSimpArgs false
set_option linter.unusedVariables false
open Go.Proofs
set_option maxRecDepth 100000
set_option maxHeartbeats 4000000

def k_fault_Code : Nat := 19
def k_fault_Place : Nat := 20
def k_fault_New : Nat := 66
def k_fault_walk : Nat := 67
def k_strings_IndexByte : Nat := 85
def k_fault_In : Nat := 106
def k_internal_stringslite_IndexByte : Nat := 146
def c_fault_Code : VCode :=
 .seq (rt [o1 2 (.move (ci 0))] []) (.seq (rt [o1 3 (.alloc [.val (.int (.i64) 0)])] []) (.seq (.seq (rt [o1 4 (.move (tm 0)), o1 5 (.eqN false (tm 4)), o1 6 (.move (tm 5)), o2 7 (.move (tm 0)) 6 false, o2 8 (.mkIface 126 (tm 3)) 6 false, o2 9 (.callM k_errors_As [tm 7, tm 8]) 6 false, o2 10 (.un (.not) (tm 9)) 6 false, o1 11 (.pick (tm 6) (cb true) (tm 10))] [4, 10]) (.cond (tm 11) (.seq (rt [o1 2 (.move (ci 0))] []) (.ret)) (.skip))) (.seq (rt [o1 12 (.load none (tm 3)), o1 2 (.move (tm 12))] [12, 12]) (.ret))))
def r_fault_Code : List VRes := [.tmp 2]
theorem ok_fault_Code : FnOk Tryz.prog k_fault_Code c_fault_Code r_fault_Code 13 :=
 ⟨⟨Tryz.f19, _, Tryz.func19, by decide, rfl, by kernel_rfl, by kernel_rfl, by kernel_rfl, rfl⟩⟩

def c_fault_Place : VCode :=
 .seq (rt [o1 2 (.move (ci 0))] []) (.seq (rt [o1 6 (.move (tm 0)), o1 7 (.call k_fault_walk [tm 6]), o1 5 (.move (tm 7)), o1 8 (.extract (tm 5) 0), o1 9 (.extract (tm 5) 1), o1 3 (.move (tm 8)), o1 4 (.move (tm 9))] [4, 9]) (.seq (rt [o1 10 (.move (tm 3)), o1 2 (.move (tm 10))] [10, 10]) (.ret)))
def r_fault_Place : List VRes := [.tmp 2]
theorem ok_fault_Place : FnOk Tryz.prog k_fault_Place c_fault_Place r_fault_Place 11 :=
 ⟨⟨Tryz.f20, _, Tryz.func20, by decide, rfl, by kernel_rfl, by kernel_rfl, by kernel_rfl, rfl⟩⟩

def c_fault_New : VCode :=
 .seq (rt [o1 4 (.move (.const (.val (.nili))))] []) (.seq (.seq (rt [o1 5 (.move (tm 0)), o1 6 (.bin (.eql) (tm 5) (ci 0))] [5, 5]) (.cond (tm 6) (.seq (rt [o1 4 (.move (.const (.val (.nili))))] []) (.ret)) (.skip))) (.seq (rt [o1 7 (.move (tm 1)), o1 8 (.move (tm 0)), o1 9 (.mkIface 37 (tm 8)), o1 10 (.build [.val (.int (.i64) 0), .val (.nili)] [(0, 1, tm 7), (1, 1, tm 9)]), o1 11 (.box (tm 10)), o1 12 (.mkIface 114 (tm 11)), o1 4 (.move (tm 12))] [7, 12]) (.ret)))
def r_fault_New : List VRes := [.tmp 4]
theorem ok_fault_New : FnOk Tryz.prog k_fault_New c_fault_New r_fault_New 13 :=
 ⟨⟨Tryz.f66, _, Tryz.func66, by decide, rfl, by kernel_rfl, by kernel_rfl, by kernel_rfl, rfl⟩⟩

def c_fault_walk : VCode :=
 .seq (rt [o1 2 (.move (ci 0)), o1 3 (.move (ci 0))] []) (.seq (rt [o1 4 (.move (ci 0)), o1 5 (.move (ci 0))] []) (.seq (.block 0 (.loop (.seq (.seq (rt [o1 7 (.move (tm 0)), o1 8 (.eqN true (tm 7))] [7, 7]) (.cond (tm 8) (.skip) (.exit 0))) (.block 1 (.seq (rt [o1 6 (.alloc [.val (.nilp)])] []) (.seq (.seq (rt [o1 9 (.move (tm 0)), o1 10 (.mkIface 116 (tm 6)), o1 11 (.callM k_errors_As [tm 9, tm 10]), o1 12 (.un (.not) (tm 11)), o1 13 (.move (tm 12)), o2 14 (.load none (tm 6)) 13 false, o2 15 (.eqP false (tm 14)) 13 false, o1 16 (.pick (tm 13) (cb true) (tm 15))] [9, 15]) (.cond (tm 16) (.exit 0) (.skip))) (.region [o1 17 (.move (tm 4)), o1 18 (.load none (tm 6)), o1 19 (.nilCheck (tm 18)), o1 20 (.fieldAddr 0 (tm 19)), o1 21 (.load none (tm 20)), o1 22 (.bin (.add) (tm 17) (tm 21)), o1 23 (.move (tm 5)), o1 24 (.bin (.add) (tm 23) (ci 1)), o1 25 (.load none (tm 6)), o1 26 (.nilCheck (tm 25)), o1 27 (.fieldAddr 1 (tm 26)), o1 28 (.load none (tm 27)), o1 4 (.move (tm 22)), o1 5 (.move (tm 24)), o1 0 (.move (tm 28))] (.calm) [17, 28]))))))) (.seq (rt [o1 29 (.move (tm 4)), o1 30 (.move (tm 5)), o1 2 (.move (tm 29)), o1 3 (.move (tm 30))] [29, 30]) (.ret))))
def r_fault_walk : List VRes := [.tmp 2, .tmp 3]
theorem ok_fault_walk : FnOk Tryz.prog k_fault_walk c_fault_walk r_fault_walk 31 :=
 ⟨⟨Tryz.f67, _, Tryz.func67, by decide, rfl, by kernel_rfl, by kernel_rfl, by kernel_rfl, rfl⟩⟩

def c_strings_IndexByte : VCode :=
 .seq (rt [o1 4 (.move (ci 0))] []) (.seq (rt [o1 5 (.move (tm 0)), o1 6 (.move (tm 1)), o1 7 (.call k_internal_stringslite_IndexByte [tm 5, tm 6]), o1 4 (.move (tm 7))] [5, 7]) (.ret))
def r_strings_IndexByte : List VRes := [.tmp 4]
theorem ok_strings_IndexByte : FnOk Tryz.prog k_strings_IndexByte c_strings_IndexByte r_strings_IndexByte 8 :=
 ⟨⟨Tryz.f85, _, Tryz.func85, by decide, rfl, by kernel_rfl, by kernel_rfl, by kernel_rfl, rfl⟩⟩

def c_fault_In : VCode :=
 .seq (rt [o1 4 (.move (.const (.val (.nili))))] []) (.seq (.seq (rt [o1 5 (.move (tm 0)), o1 6 (.eqN false (tm 5))] [5, 5]) (.cond (tm 6) (.seq (rt [o1 4 (.move (.const (.val (.nili))))] []) (.ret)) (.skip))) (.seq (rt [o1 7 (.move (tm 1)), o1 8 (.move (tm 0)), o1 9 (.build [.val (.int (.i64) 0), .val (.nili)] [(0, 1, tm 7), (1, 1, tm 8)]), o1 10 (.box (tm 9)), o1 11 (.mkIface 114 (tm 10)), o1 4 (.move (tm 11))] [7, 11]) (.ret)))
def r_fault_In : List VRes := [.tmp 4]
theorem ok_fault_In : FnOk Tryz.prog k_fault_In c_fault_In r_fault_In 12 :=
 ⟨⟨Tryz.f106, _, Tryz.func106, by decide, rfl, by kernel_rfl, by kernel_rfl, by kernel_rfl, rfl⟩⟩

def c_internal_stringslite_IndexByte : VCode :=
 .seq (rt [o1 4 (.move (ci 0))] []) (.seq (rt [o1 5 (.move (tm 0)), o1 6 (.move (tm 1)), o1 7 (.call k_internal_bytealg_IndexByteString [tm 5, tm 6]), o1 4 (.move (tm 7))] [5, 7]) (.ret))
def r_internal_stringslite_IndexByte : List VRes := [.tmp 4]
theorem ok_internal_stringslite_IndexByte : FnOk Tryz.prog k_internal_stringslite_IndexByte c_internal_stringslite_IndexByte r_internal_stringslite_IndexByte 8 :=
 ⟨⟨Tryz.f146, _, Tryz.func146, by decide, rfl, by kernel_rfl, by kernel_rfl, by kernel_rfl, rfl⟩⟩

end Go.Vs.YtbchceojmblkkaaGreatDoor
namespace Go.Vs.YtbchceojmblkkaaGreatDoor
set_option linter.unusedSimpArgs false
set_option linter.unusedVariables false
open Go.Proofs
set_option maxRecDepth 100000
set_option maxHeartbeats 4000000
abbrev Str := List UInt8
def upB (c : UInt8) : UInt8 := if 97 ≤ c ∧ c ≤ 122 then c - 32 else c
def upper (s : Str) : Str := s.map upB
@[simp] theorem upper_nil : upper [] = [] := rfl
theorem bytesOf_rows (l : Str) : bytesOf (byteRows l) = some l := by
 induction l with
 | nil => rfl
 | cons c r ih =>
  simp only [byteRows, List.map_cons, bytesOf] at ih ⊢
  rw [ih]
  simp
theorem fn_New (e a : Int) : Fn G Tryz.prog k_fault_New [.int .i64 e, .int .i64 a] (if e = 0 then .nili else errIV e [a]) := by
 refine fn_intro hm ok_fault_New (by simp) ?_
 simp [c_fault_New, r_fault_New]
 refine brd (fun h => ?_) (fun h => ?_)
 ·simp [h]
 ·simp [h, errIV]
theorem errIV_not_nil (n : Int) (ps : List Int) : ∃ t v, errIV n ps = .iface t v := by
 cases ps with
 | nil => exact ⟨_, _, rfl⟩
 | cons p r => exact ⟨_, _, rfl⟩
theorem fn_In (n : Int) (ps : List Int) (a : Int) : Fn G Tryz.prog k_fault_In [errIV n ps, .int .i64 a] (errIV n (a :: ps)) := by
 refine fn_intro hm ok_fault_In (by simp) ?_
 obtain ⟨t, v, h⟩ := errIV_not_nil n ps
 simp only [errIV, h]
 simp [c_fault_In, r_fault_In]
theorem fn_Code_nil : Fn G Tryz.prog k_fault_Code [.nili] (.int .i64 0) := by
 refine fn_intro hm ok_fault_Code (by simp) ?_
 simp [c_fault_Code, r_fault_Code]
theorem fn_Code (n : Int) (ps : List Int) : Fn G Tryz.prog k_fault_Code [errIV n ps] (.int .i64 n) := by
 refine fn_intro hm ok_fault_Code (by simp) ?_
 have hA := fnM_As_eno n 0 ps
 obtain ⟨t, v, h⟩ := errIV_not_nil n ps
 rw [h] at hA ⊢
 simp [c_fault_Code, r_fault_Code]
 refine callM [(1000, 3)] [] hA rfl rfl ⟨rfl, trivial⟩ ⟨[], [], rfl, ⟨rfl, rfl⟩, rfl⟩ rfl ?_
 simp
end Go.Vs.YtbchceojmblkkaaGreatDoor
