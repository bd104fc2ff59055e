/-
  DERIVED: THE SHELF's CONTRACTS AT THIS DUMP, IN PLAIN WORDS (tools/lay-plain.mjs out of 'TrydShelf.lean', which tools/lay-shelf.mjs wrote): THE SAME DECLARATIONS UNDER THE SAME NAMES: 'import', 'namespace', 'open', 'def', 'theorem' AND NOTHING ELSE: no command of the shelf's: FOR A HAND-IN. Each laying: the table of numbers ('.._ren') and one theorem, a field a fact of the dump's own or the kernel's comparison; each contract: ONE APPLICATION.
-/
import Derived.Shelf.Strings.Builder1
import Derived.Shelf.LaysM
import Derived.Shelf.Strconv.Itoa3
import Derived.Shelf.Unicode.DecodeSlow
import Derived.Shelf.Unicode.DecodeAny
import Derived.Test.YtbchceojmblkkaaDoorProg
import GoSem.Core.Utf8
import Derived.KernelRfl
import Derived.Test.YtbchceojmblkkaaDoorBG
import Derived.Laws.Externs
import Derived.Test.YtbchceojmblkkaaDoorRows
import Derived.Test.YtbchceojmblkkaaDoorBD
set_option linter.unusedVariables false
set_option linter.unusedSimpArgs false
namespace Go.Proofs
open Go.Shelf
def Tryd.lays197_ren : Go.Shelf.Ren := ⟨fun | 197 => 46 | 260 => 53 | n => n, fun | 9 => 9 | 21 => 21 | 3 => 3 | 4 => 4 | 5 => 5 | 105 => 69 | 119 => 102 | 0 => 0 | 46 => 92 | 139 => 105 | 138 => 104 | n => n, fun | 3 => 2 | 4 => 3 | n => n⟩
end Go.Proofs
set_option linter.unusedVariables false
set_option linter.unusedSimpArgs false
namespace Go.Vs.U8
open Go
abbrev Str := List UInt8
/-- Is a byte there from one number to another? -/
def tl (l : Str) (k lo hi : Nat) : Bool := match l[k]? with
  | some b => decide (lo ≤ b.toNat) && decide (b.toNat ≤ hi)
  | none => false
def lo1 (n : Nat) : Nat := if n = 224 then 160 else if n = 240 then 144 else 128
def hi1 (n : Nat) : Nat := if n = 237 then 159 else if n = 244 then 143 else 191
/-- How many bytes the first character has; 0: its first byte is bad. -/
def sizeL : Str → Nat
  | [] => 0
  | c :: r =>
    if c.toNat < 128 then 1
    else if (decide (194 ≤ c.toNat) && decide (c.toNat ≤ 223) && tl r 0 128 191) = true then 2
    else if (decide (224 ≤ c.toNat) && decide (c.toNat ≤ 239) && tl r 0 (lo1 c.toNat) (hi1 c.toNat) && tl r 1 128 191) = true then 3
    else if (decide (240 ≤ c.toNat) && decide (c.toNat ≤ 244) && tl r 0 (lo1 c.toNat) (hi1 c.toNat) && tl r 1 128 191 && tl r 2 128 191) = true then 4
    else 0
/-- A bad byte, or a control. -/
def oddAt (l : Str) : Bool := match l with
  | [] => false
  | c :: _ => sizeL l == 0 || (decide (c.toNat < 32) && !decide (c.toNat = 9)) || decide (c.toNat = 127)
def oddF : Nat → Str → Option Nat
  | 0, _ => none
  | f + 1, l => match l with
    | [] => none
    | _ :: _ => if oddAt l then some 0 else (oddF f (l.drop (sizeL l))).map (· + sizeL l)
/-- The place of the first odd byte. -/
def odd (l : Str) : Option Nat := oddF l.length l
@[simp] theorem odd_nil : odd [] = none := rfl
end Go.Vs.U8
set_option linter.unusedSimpArgs false
set_option linter.unusedVariables false
namespace Go.Vs.YtbchceojmblkkaaDoor
open Go.Proofs Go.Proofs.YtbchceojmblkkaaDoor Go.RowKit Go.Lib Go.Vs.U8
set_option maxRecDepth 100000

/-- The place of the first byte of a kind; -1: none. -/
def idxB (s : List UInt8) (c : UInt8) : Int := match s.findIdx? (· == c) with
  | some i => i
  | none => -1
theorem idxB_cases (s : List UInt8) (c : UInt8) : (idxB s c = -1 ∧ c ∉ s) ∨ ∃ i, idxB s c = (i : Nat) ∧ s[i]? = some c ∧ c ∉ s.take i := by
  unfold idxB
  cases h : s.findIdx? (· == c) with
  | none =>
    left
    rw [List.findIdx?_eq_none_iff] at h
    exact ⟨rfl, fun hc => by have := h c hc; simp at this⟩
  | some i =>
    right
    rw [List.findIdx?_eq_some_iff_getElem] at h
    obtain ⟨h1, h2, h3⟩ := h
    refine ⟨i, rfl, ?_, ?_⟩
    · rw [List.getElem?_eq_getElem h1]; simpa using h2
    · intro hc
      obtain ⟨j, hj, he⟩ := List.mem_iff_getElem.1 hc
      rw [List.length_take] at hj
      rw [List.getElem_take] at he
      have := h3 j (by omega)
      simp [he] at this
theorem idxB_of {s : List UInt8} {c : UInt8} {i : Nat} (h1 : s[i]? = some c) (h2 : c ∉ s.take i) : idxB s c = i := by
  rcases idxB_cases s c with ⟨_, h⟩ | ⟨j, h, k1, k2⟩
  · exact absurd (List.mem_of_getElem? h1) h
  · rw [h]
    have a : ¬ i < j := fun hl => k2 (by rw [List.mem_take_iff_getElem]; obtain ⟨hi, e⟩ := List.getElem?_eq_some_iff.1 h1; exact ⟨i, by omega, e⟩)
    have b : ¬ j < i := fun hl => h2 (by rw [List.mem_take_iff_getElem]; obtain ⟨hi, e⟩ := List.getElem?_eq_some_iff.1 k1; exact ⟨j, by omega, e⟩)
    omega
theorem idxB_none {s : List UInt8} {c : UInt8} (h : c ∉ s) : idxB s c = -1 := by
  rcases idxB_cases s c with ⟨h1, _⟩ | ⟨j, _, k1, _⟩
  · exact h1
  · exact absurd (List.mem_of_getElem? k1) h
theorem idxB_neg (s : List UInt8) (c : UInt8) : idxB s c < 0 ↔ c ∉ s := by
  rcases idxB_cases s c with ⟨h1, h⟩ | ⟨j, h, k1, _⟩
  · rw [h1]; exact ⟨fun _ => h, fun _ => by omega⟩
  · rw [h]; exact ⟨fun h => by omega, fun h => absurd (List.mem_of_getElem? k1) h⟩
theorem firstIdx_eq (s : List UInt8) (c : UInt8) : firstIdx ⟨s.toArray⟩ c = idxB s c := by
  unfold firstIdx
  have hsz : (⟨s.toArray⟩ : ByteArray).size = s.length := by simp [ByteArray.size]
  have hget : ∀ i, i < s.length → (⟨s.toArray⟩ : ByteArray)[i]! = s[i]?.getD 0 := by
    intro i hi
    have h1 : i < (⟨s.toArray⟩ : ByteArray).size := by rw [hsz]; exact hi
    rw [getElem!_pos (⟨s.toArray⟩ : ByteArray) i h1]
    show s.toArray[i] = _
    simp [hi]
  rw [hsz]
  cases hf : (List.range s.length).find? fun i => (⟨s.toArray⟩ : ByteArray)[i]! == c with
  | none =>
    rw [List.find?_eq_none] at hf
    refine (idxB_none fun hc => ?_).symm
    obtain ⟨j, hj, he⟩ := List.mem_iff_getElem.1 hc
    have := hf j (List.mem_range.2 hj)
    rw [hget j hj, List.getElem?_eq_getElem hj] at this
    simp [he] at this
  | some i =>
    obtain ⟨h1, xs, ys, h2, h3⟩ := List.find?_eq_some_iff_append.1 hf
    have hi : i < s.length := List.mem_range.1 (by rw [h2]; simp)
    have has : ∀ j, j < i → j ∈ xs := by
      intro j hj
      have e1 : (List.range s.length)[xs.length]? = some i := by rw [h2]; simp
      have hlen : xs.length < s.length := by
        have := congrArg List.length h2
        simp at this
        omega
      rw [List.getElem?_range hlen] at e1
      have e2 : xs.length = i := Option.some.inj e1
      have e3 : (List.range s.length)[j]? = xs[j]? := by rw [h2, List.getElem?_append_left (by omega)]
      rw [List.getElem?_range (by omega)] at e3
      exact List.mem_of_getElem? e3.symm
    rw [hget i hi] at h1
    refine (idxB_of ?_ ?_).symm
    · rw [List.getElem?_eq_getElem hi] at h1 ⊢
      simpa using h1
    · intro hc
      obtain ⟨j, hj, he⟩ := List.mem_iff_getElem.1 hc
      rw [List.length_take] at hj
      rw [List.getElem_take] at he
      have := h3 j (has j (by omega))
      rw [hget j (by omega), List.getElem?_eq_getElem (by omega)] at this
      simp [he] at this
theorem fn_IndexByteString (s : List UInt8) (c : UInt8) : Fn G Tryd.prog k_internal_bytealg_IndexByteString [.str s, .int .u8 c.toNat] (.int .i64 (idxB s c)) := by
  refine fn_extern ⟨Tryd.f37, Tryd.func37, by decide⟩ ?_
  rintro w S vs ⟨v1, _, rfl, h1, v2, _, rfl, h2, h3⟩
  have h1 : v1 = .string ⟨s.toArray⟩ := h1
  have h2 : v2 = .int .u8 c.toNat := h2
  have h3 : _ = [] := h3
  subst h1; subst h2; subst h3
  refine ⟨.int .i64 (idxB s c), ?_, rfl⟩
  have hr := run_callFunc_extern (P := Tryd.prog) Tryd.func37 (by kernel_rfl) (by kernel_rfl) (by kernel_rfl) (e := Extern.BytealgIndexByte.indexByte) (by kernel_rfl) #[.string ⟨s.toArray⟩, .int .u8 c.toNat] w
  rw [run_indexByte_string] at hr
  have e1 : ((c.toNat : Int)).toNat.toUInt8 = c := by simp
  rw [e1, firstIdx_eq] at hr
  exact hr

theorem repCells_get {w : World} {S : Stab} : ∀ {l : List IV} {blk off j : Nat} {x : IV}, RepCells w S l blk off → l[j]? = some x → ∃ v, w.cell? ⟨blk, off + j, none⟩ = some v ∧ Rep w S x v
  | [], _, _, _, _, _, h => by simp at h
  | y :: r, blk, off, 0, x, ⟨_, _, ⟨v, h1, h2⟩, _⟩, h => by
    simp only [List.getElem?_cons_zero, Option.some.injEq] at h
    subst h
    exact ⟨v, h1, h2⟩
  | y :: r, blk, off, j + 1, x, ⟨_, _, _, h3⟩, h => by
    obtain ⟨v, h1, h2⟩ := repCells_get (j := j) h3 (by simpa using h)
    exact ⟨v, by rw [show off + (j + 1) = off + 1 + j by omega]; exact h1, h2⟩
theorem first_tab : ((List.range 256).all fun c => firstZ.getD c 0 == (firstT c : Int)) = true := by kernel_rfl
theorem acc_tab : ((List.range 16).all fun i => accZ.getD (2 * i) 0 == (accLo i : Int) && accZ.getD (2 * i + 1) 0 == (accHi i : Int)) = true := by kernel_rfl
theorem first_len : firstZ.length = 256 := by simp [firstZ]
theorem acc_len : accZ.length = 32 := rfl
/-- Texts as rows. -/
def ts (l : List (List UInt8)) : List (List IV) := l.map fun s => [.str s]
end Go.Vs.YtbchceojmblkkaaDoor
namespace Go.Vs.YtbchceojmblkkaaDoor
set_option linter.unusedSimpArgs false
set_option linter.unusedVariables false
open Go.Proofs
set_option maxRecDepth 100000
set_option maxHeartbeats 4000000

def k_strings_IndexByte : Nat := 16
def k_internal_stringslite_IndexByte : Nat := 27
def k_utf_Upper : Nat := 35
/-- function 16 -/
def c_strings_IndexByte : VCode :=
  .seq (rt [o1 4 (.move (ci 0))] []) (.seq (rt [o1 5 (.move (tm 0)), o1 6 (.move (tm 1)), o1 7 (.call k_internal_stringslite_IndexByte [tm 5, tm 6]), o1 4 (.move (tm 7))] [5, 7]) (.ret))
def r_strings_IndexByte : List VRes := [.tmp 4]
theorem ok_strings_IndexByte : FnOk Tryd.prog k_strings_IndexByte c_strings_IndexByte r_strings_IndexByte 8 :=
  ⟨⟨Tryd.f16, _, Tryd.func16, by decide, rfl, by kernel_rfl, by kernel_rfl, by kernel_rfl, rfl⟩⟩

/-- function 27 -/
def c_internal_stringslite_IndexByte : VCode :=
  .seq (rt [o1 4 (.move (ci 0))] []) (.seq (rt [o1 5 (.move (tm 0)), o1 6 (.move (tm 1)), o1 7 (.call k_internal_bytealg_IndexByteString [tm 5, tm 6]), o1 4 (.move (tm 7))] [5, 7]) (.ret))
def r_internal_stringslite_IndexByte : List VRes := [.tmp 4]
theorem ok_internal_stringslite_IndexByte : FnOk Tryd.prog k_internal_stringslite_IndexByte c_internal_stringslite_IndexByte r_internal_stringslite_IndexByte 8 :=
  ⟨⟨Tryd.f27, _, Tryd.func27, by decide, rfl, by kernel_rfl, by kernel_rfl, by kernel_rfl, rfl⟩⟩

/-- function 35 -/
def c_utf_Upper : VCode :=
  .seq (rt [o1 2 (.move (cs []))] []) (.seq (rt [o1 3 (.allocB 77)] []) (.seq (.seq (rt [o1 4 (.move (ci 0))] []) (.block 0 (.loop (.seq (.seq (rt [o1 6 (.move (tm 4)), o1 7 (.move (tm 0)), o1 8 (.lenS (tm 7)), o1 9 (.bin (.lss) (tm 6) (tm 8))] [6, 8]) (.cond (tm 9) (.skip) (.exit 0))) (.seq (.block 1 (.seq (rt [o1 12 (.move (tm 0)), o1 13 (.move (tm 4)), o1 14 (.indexS (tm 12) (tm 13)), o1 5 (.move (tm 14))] [12, 14]) (.seq (.seq (rt [o1 15 (.move (tm 5)), o1 16 (.bin (.leq) (cu 97) (tm 15)), o1 17 (.move (tm 16)), o2 18 (.move (tm 5)) 17 true, o2 19 (.bin (.leq) (tm 18) (cu 122)) 17 true, o1 20 (.pick (tm 17) (tm 19) (cb false))] [15, 19]) (.cond (tm 20) (rt [o1 21 (.move (tm 5)), o1 22 (.bin (.sub) (tm 21) (cu 97)), o1 23 (.bin (.add) (tm 22) (cu 65)), o1 5 (.move (tm 23))] [21, 23]) (.skip))) (rt [o1 24 (.move (tm 5)), o1 25 (.callM k__strings_Builder_WriteByte [tm 3, tm 24])] [24, 25])))) (rt [o1 10 (.move (tm 4)), o1 11 (.bin (.add) (tm 10) (ci 1)), o1 4 (.move (tm 11))] [10, 11])))))) (.seq (rt [o1 26 (.callM k__strings_Builder_String [tm 3]), o1 2 (.move (tm 26))] [26, 26]) (.ret))))
def r_utf_Upper : List VRes := [.tmp 2]
theorem ok_utf_Upper : FnOk Tryd.prog k_utf_Upper c_utf_Upper r_utf_Upper 27 :=
  ⟨⟨Tryd.f35, _, Tryd.func35, by decide, rfl, by kernel_rfl, by kernel_rfl, by kernel_rfl, rfl⟩⟩

end Go.Vs.YtbchceojmblkkaaDoor
namespace Go.Vs.YtbchceojmblkkaaDoor
set_option linter.unusedSimpArgs false
set_option linter.unusedVariables false
open Go.Proofs
set_option maxRecDepth 100000
set_option maxHeartbeats 4000000
abbrev Str := List UInt8
/-- A small letter's capital. -/
def upB (c : UInt8) : UInt8 := if 97 ≤ c ∧ c ≤ 122 then c - 32 else c
def upper (s : Str) : Str := s.map upB
@[simp] theorem upper_nil : upper [] = [] := rfl
theorem upper_len (s : Str) : (upper s).length = s.length := by simp [upper]
theorem upper_take {s : Str} {i : Nat} (h : i < s.length) : upper (s.take (i + 1)) = upper (s.take i) ++ [upB s[i]] := by
  unfold upper; rw [List.take_succ_eq_append_getElem h, List.map_append]; rfl
theorem upB_yes {c : UInt8} (h1 : 97 ≤ c.toNat) (h2 : c.toNat ≤ 122) : (upB c).toNat = c.toNat - 32 := by
  have a : (97 : UInt8) ≤ c ∧ c ≤ 122 := ⟨by rw [UInt8.le_iff_toNat_le]; simpa using h1, by rw [UInt8.le_iff_toNat_le]; simpa using h2⟩
  rw [upB, if_pos a, UInt8.toNat_sub_of_le]
  · rfl
  · rw [UInt8.le_iff_toNat_le]; simp; omega
theorem upB_no {c : UInt8} (h : ¬ (97 ≤ c.toNat ∧ c.toNat ≤ 122)) : upB c = c := by
  rw [upB, if_neg]
  rintro ⟨a, b⟩
  rw [UInt8.le_iff_toNat_le] at a b
  exact h ⟨by simpa using a, by simpa using b⟩
theorem u8_lt (c : UInt8) : c.toNat < 256 := by have := c.toNat_lt; simpa using this
theorem wrap_succ {i n : Nat} (h : i < n) (hn : n < 1000000) : IntKind.i64.wrap ((i : Int) + 1) = ((i + 1 : Nat) : Int) := by rw [IntKind.wrap_i64]; omega
theorem fn_Upper (s : Str) (hs : s.length < 1000000) : Fn G Tryd.prog k_utf_Upper [.str s] (.str (upper s)) := by
  refine fn_intro hm ok_utf_Upper (by simp) ?_
  simp [c_utf_Upper, r_utf_Upper]
  refine loopU hm [] (fun i : Nat => [(4, .val (.int .i64 i))]) (fun i => [(3, .box [.selfN 3 77 false, .ownT 1 i 5]), (1, .arr i 1 (byteRows (upper (s.take i))))]) (fun i => i ≤ s.length) (fun i => s.length - i) 0 (by omega) ?_ ?_
  · exact Weak.trans (weak_bld (k := 3) (d := 3) (t := 77) 1 5 (by simp) (by simp) (by simp [getE, look]) (by simp [look]) (by simp)) (weak_drop rfl rfl (by simp [St.bld, EnvLe, getE, look, put, eraseE, SV.erase]) (by simp [St.bld, ObLe, look, put, eraseO, eraseL, Ob.erase, SV.erase, byteRows]) (by simp [St.bld, roOk]))
  intro i hi
  simp
  refine brd (fun h => ?_) (fun h => ?_)
  · obtain ⟨c, hc⟩ : ∃ c, c = s[i] := ⟨_, rfl⟩
    have ht := upper_take h
    rw [← hc] at ht
    have hc' : s[i]? = some c := by rw [hc]; exact List.getElem?_eq_getElem h
    have hlt := u8_lt c
    have hwb := fnM_WriteByte i (upper (s.take i)) (upB c) (by rw [upper_len, List.length_take]; omega)
    simp [hc']
    refine brd (fun h1 => ?_) (fun h1 => ?_)
    · simp
      refine brd (fun h2 => ?_) (fun h2 => ?_)
      · have hw : IntKind.u8.wrap (IntKind.u8.wrap ((c.toNat : Int) - 97) + 65) = ((upB c).toNat : Int) := by
          rw [upB_yes (by omega) (by omega), wrap_u8 (x := (c.toNat : Int) - 97) (by omega) (by omega), wrap_u8 (by omega) (by omega)]; omega
        simp [hw]
        refine callM [(1000, 3), (1001, 1)] [] hwb rfl rfl ⟨rfl, rfl, trivial⟩ ⟨rfl, _, _, rfl, rfl, rfl⟩ rfl ?_
        simp [bldObs, wrap_succ h hs]
        refine loopEnd (i + 1) (by omega) (by omega) ?_
        simp [ht]
        exact weak_drop rfl rfl (by simp [EnvLe, getE, look]) (by simp [ObLe, look]) (by simp [roOk])
      · have hw := upB_no (c := c) (by omega)
        rw [hw] at hwb ht
        simp
        refine callM [(1000, 3), (1001, 1)] [] hwb rfl rfl ⟨rfl, rfl, trivial⟩ ⟨rfl, _, _, rfl, rfl, rfl⟩ rfl ?_
        simp [bldObs, wrap_succ h hs]
        refine loopEnd (i + 1) (by omega) (by omega) ?_
        simp [ht]
        exact weak_drop rfl rfl (by simp [EnvLe, getE, look]) (by simp [ObLe, look]) (by simp [roOk])
    · have hw := upB_no (c := c) (by omega)
      rw [hw] at hwb ht
      simp
      refine callM [(1000, 3), (1001, 1)] [] hwb rfl rfl ⟨rfl, rfl, trivial⟩ ⟨rfl, _, _, rfl, rfl, rfl⟩ rfl ?_
      simp [bldObs, wrap_succ h hs]
      refine loopEnd (i + 1) (by omega) (by omega) ?_
      simp [ht]
      exact weak_drop rfl rfl (by simp [EnvLe, getE, look]) (by simp [ObLe, look]) (by simp [roOk])
  · obtain rfl : i = s.length := by omega
    simp
    refine callM [(1000, 3), (1001, 1)] [] (fnM_String s.length (upper s) (by rw [upper_len]; omega)) rfl rfl (by simp [mObjs, bldObs, Vs.ren, look, Ob.ren, SV.ren]) ⟨rfl, rfl⟩ rfl ?_
    simp
end Go.Vs.YtbchceojmblkkaaDoor
