/- The walk of the document's nums, part 3: numbers' and weekdays' text; lists of weekdays. No conditions. -/
import Derived.Test.YtbchceojmblkkaaGreatDoorNH
import Derived.Shelf.Strings.Builder1
import Derived.Shelf.Strings.OnBuilder
import Derived.Shelf.LaysM
import Derived.Shelf.Strconv.Itoa3
import Derived.Shelf.Strings.IndexAnyAll
import Derived.Shelf.Unicode.DecodeSlow
import Derived.Shelf.Unicode.DecodeAny
import Derived.Test.YtbchceojmblkkaaGreatDoorProg
import Derived.Test.YtbchceojmblkkaaGreatDoorNB
import Derived.Test.YtbchceojmblkkaaGreatDoorBH
import Derived.Lib.LaidTab
import Derived.Lib.ItoaNum
set_option linter.unusedVariables false
set_option linter.unusedSimpArgs false
namespace Go.Vs.U8
end Go.Vs.U8
namespace Go.Vs.Pa
end Go.Vs.Pa
namespace Go.Vs.Nu
end Go.Vs.Nu
namespace Go.Vs.YtbchceojmblkkaaGreatDoor
set_option linter.unusedSimpArgs false
set_option linter.unusedVariables false
open Go.Proofs Go.Vs.U8 Go.Vs.Pa Go.Vs.Nu Go.Lib
set_option maxRecDepth 100000
set_option maxHeartbeats 8000000
theorem dec_small {u : Nat} (h : u < 10) : decDigits u = [UInt8.ofNat (48 + u)] := by rw [decDigits, dif_pos h]
theorem i64_len {u : Nat} (h : u < 10000000000000000000) : (decDigits u).length ≤ 19 := dec_len 18 u (by simpa using h)
def i64 (n : Int) : Prop := -9223372036854775808 ≤ n ∧ n ≤ 9223372036854775807
theorem itoa_len20 {n : Int} (h : i64 n) : (itoa n).length ≤ 20 := by
 have := i64_len (u := n.natAbs) (by unfold i64 at h; omega)
 unfold itoa
 split
 ·simp; omega
 ·rw [show n.toNat = n.natAbs by omega]; omega
end Go.Vs.YtbchceojmblkkaaGreatDoor
namespace Go.Proofs
open Go.Shelf
def Tryz.laysM171_ren : Go.Shelf.Ren := ⟨fun | 171 => 73 | 243 => 141 | 246 => 183 | 283 => 214 | 284 => 215 | 285 => 216 | 286 => 217 | 129 => 238 | 317 => 237 | 318 => 239 | 319 => 240 | 320 => 241 | 337 => 248 | 338 => 249 | n => n, fun | 3 => 3 | 9 => 9 | 2 => 2 | 4 => 4 | 171 => 289 | 0 => 0 | 53 => 290 | 37 => 206 | 5 => 5 | 173 => 293 | 212 => 306 | 51 => 307 | 20 => 20 | 213 => 308 | 46 => 300 | 232 => 318 | 233 => 319 | n => n, fun | 17 => 3 | 18 => 6 | 19 => 7 | n => n⟩
theorem Tryz.laysM171 : Go.Proofs.LaysM.n171 Tryz.prog Tryz.laysM171_ren := {
 mixed := by kernel_rfl
 f129 := Tryz.func238.trans (congrArg some (by kernel_rfl))
 f171 := Tryz.func73.trans (congrArg some (by kernel_rfl))
 f243 := Tryz.func141.trans (congrArg some (by kernel_rfl))
 f246 := Tryz.func183.trans (congrArg some (by kernel_rfl))
 f283 := Tryz.func214.trans (congrArg some (by kernel_rfl))
 f284 := Tryz.func215.trans (congrArg some (by kernel_rfl))
 f285 := Tryz.func216.trans (congrArg some (by kernel_rfl))
 f286 := Tryz.func217.trans (congrArg some (by kernel_rfl))
 f317 := Tryz.func237.trans (congrArg some (by kernel_rfl))
 f318 := Tryz.func239.trans (congrArg some (by kernel_rfl))
 f319 := Tryz.func240.trans (congrArg some (by kernel_rfl))
 f320 := Tryz.func241.trans (congrArg some (by kernel_rfl))
 f337 := Tryz.func248.trans (congrArg some (by kernel_rfl))
 f338 := Tryz.func249.trans (congrArg some (by kernel_rfl))
 t0 := Tryz.underlying0
 a0 := Tryz.isAgg0
 z0 := Tryz.sizeOf0
 v0 := Tryz.zeroValue0
 t2 := Tryz.underlying2
 a2 := Tryz.isAgg2
 z2 := Tryz.sizeOf2
 v2 := Tryz.zeroValue2
 t3 := Tryz.underlying3
 a3 := Tryz.isAgg3
 z3 := Tryz.sizeOf3
 v3 := Tryz.zeroValue3
 t4 := Tryz.underlying4
 a4 := Tryz.isAgg4
 z4 := Tryz.sizeOf4
 v4 := Tryz.zeroValue4
 t5 := Tryz.underlying5
 a5 := Tryz.isAgg5
 z5 := Tryz.sizeOf5
 v5 := Tryz.zeroValue5
 t9 := Tryz.underlying9
 a9 := Tryz.isAgg9
 z9 := Tryz.sizeOf9
 v9 := Tryz.zeroValue9
 t20 := Tryz.underlying20
 a20 := Tryz.isAgg20
 z20 := Tryz.sizeOf20
 v20 := Tryz.zeroValue20
 t37 := Tryz.underlying206
 a37 := Tryz.isAgg206
 z37 := Tryz.sizeOf206
 v37 := Tryz.zeroValue206
 t46 := Tryz.underlying300
 a46 := Tryz.isAgg300
 z46 := Tryz.sizeOf300
 v46 := Tryz.zeroValue300
 t51 := Tryz.underlying307
 a51 := Tryz.isAgg307
 z51 := Tryz.sizeOf307
 v51 := Tryz.zeroValue307
 t53 := Tryz.underlying290
 a53 := Tryz.isAgg290
 z53 := Tryz.sizeOf290
 v53 := Tryz.zeroValue290
 t171 := Tryz.underlying289
 a171 := Tryz.isAgg289
 z171 := Tryz.sizeOf289
 v171 := Tryz.zeroValue289
 t173 := Tryz.underlying293
 a173 := Tryz.isAgg293
 z173 := Tryz.sizeOf293
 v173 := Tryz.zeroValue293
 t212 := Tryz.underlying306
 a212 := Tryz.isAgg306
 z212 := Tryz.sizeOf306
 v212 := Tryz.zeroValue306
 t213 := Tryz.underlying308
 a213 := Tryz.isAgg308
 z213 := Tryz.sizeOf308
 t232 := Tryz.underlying318
 a232 := Tryz.isAgg318
 z232 := Tryz.sizeOf318
 v232 := Tryz.zeroValue318
 t233 := Tryz.underlying319
 a233 := Tryz.isAgg319
 z233 := Tryz.sizeOf319
 v233 := Tryz.zeroValue319
 g17 := by kernel_rfl
 g18 := by kernel_rfl
 g19 := by kernel_rfl
 i0 := by kernel_rfl
 i2 := by kernel_rfl
 i3 := by kernel_rfl
 i4 := by kernel_rfl
 i5 := by kernel_rfl
 i9 := by kernel_rfl
 i20 := by kernel_rfl
 i37 := by kernel_rfl
 i46 := by kernel_rfl
 i51 := by kernel_rfl
 i53 := by kernel_rfl
 i171 := by kernel_rfl
 i173 := by kernel_rfl
 i212 := by kernel_rfl
 i232 := by kernel_rfl
 i233 := by kernel_rfl
 m17 := by kernel_rfl
 m18 := by kernel_rfl
 m19 := by kernel_rfl }
open Go.RowKit Go.Sort Go.Lib in
theorem Tryz.strconv_Itoa (n : Int) (h0 : -9223372036854775808 ≤ n) (h1 : n ≤ 9223372036854775807) (w : World) (htab : Lib.TabIs Tryz.prog w "internal/strconv.uint64pow10" .u64 Lib.pow10Tab) :
  Calls Tryz.prog 73 #[.int .i64 n] w fun e w' => e = .returned (.string ⟨(Lib.itoa n).toArray⟩) ∧ ∃ k os, w' = grow (w.drewN k) os := Any.strconv_Itoa Tryz.laysM171 n h0 h1 w htab
end Go.Proofs
namespace Go.Vs.YtbchceojmblkkaaGreatDoor
set_option linter.unusedSimpArgs false
set_option linter.unusedVariables false
open Go.Proofs Go.Proofs.YtbchceojmblkkaaGreatDoor Go.RowKit Go.Lib
set_option maxRecDepth 100000
theorem tab_of {P : Program} {w : World} {S : Stab} {name : String} {g : Nat} {k : IntKind} {zs : List Int} (hg : P.globalNamed name = some g) (h : RepGl w S (g, zs.map (.int k ·))) : TabIs P w name k zs := by
 obtain ⟨h1, t, h2⟩ := h
 simp only [List.length_map] at h1 h2
 unfold World.shape? at h2
 split at h2
 ·next cs e fr hh =>
  simp only [Option.some.injEq, Prod.mk.injEq] at h2
  unfold TabIs World.var?
  rw [hg]
  simp only [Option.bind_some, hh, Option.some.injEq]
  apply Array.ext
  ·simpa using h2.2
  ·intro i hi1 hi2
   have hi : i < zs.length := by omega
   obtain ⟨v, k1, k2⟩ := repCells_get (j := i) (x := .int k zs[i]) h1 (by simp [hi])
   have k2 : v = _ := k2
   subst k2
   simp only [World.cell?, hh, Nat.zero_add] at k1
   have : cs[i]? = some (.int k zs[i]) := by simpa using k1
   rw [Array.getElem?_eq_getElem hi1] at this
   simpa using this
 ·cases h2
theorem fn_Itoa (n : Int) (h0 : -9223372036854775808 ≤ n) (h1 : n ≤ 9223372036854775807) : Fn G Tryz.prog k_strconv_Itoa [.int .i64 n] (.str (itoa n)) := by
 refine fn_below ⟨Tryz.f73, Tryz.func73, by decide⟩ ?_
 rintro w S vs hS hgl ⟨v1, _, rfl, h2, h3⟩
 have h2 : v1 = .int .i64 n := h2
 have h3 : _ = [] := h3
 subst h2; subst h3
 have htab : TabIs Tryz.prog w "internal/strconv.uint64pow10" .u64 pow10Tab := tab_of (g := 3) (by kernel_rfl) (hgl (3, powZ.map (.int .u64 ·)) (by simp [G]))
 refine callDoes_of Tryz.func73 (by decide) ((Tryz.strconv_Itoa n h0 h1 w htab).mono ?_)
 rintro e w' ⟨rfl, k, os, rfl⟩
 refine ⟨_, rfl, ?_, rfl⟩
 exact ⟨rfl, rfl, rfl, by simp [Go.Sort.grow, World.drewN], fun j hj => by rw [Go.Sort.grow]; exact Array.getElem?_append_left hj⟩
end Go.Vs.YtbchceojmblkkaaGreatDoor
