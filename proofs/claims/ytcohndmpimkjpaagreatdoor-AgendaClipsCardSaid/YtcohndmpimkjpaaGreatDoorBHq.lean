/- errors.As at the targets **Fault and *Errno: the contracts. No conditions. -/
import Derived.Test.YtcohndmpimkjpaaGreatDoorBGq
import Derived.Test.YtcohndmpimkjpaaGreatDoorRows
import Derived.KernelRfl
import Derived.WalkKit
import Derived.Lib.Builder
import Derived.Lib.UnsafeStr
import Derived.Lib.FrozenHead
import Derived.RegionTactic
import Derived.ChangeAlike
import Derived.BigRegion
set_option linter.unusedVariables false
set_option linter.unusedSimpArgs false
set_option linter.unusedSimpArgs false
set_option linter.unusedVariables false
namespace Go.Vs.YtcohndmpimkjpaaGreatDoor.E
open Go.Proofs Go.Proofs.YtcohndmpimkjpaaGreatDoor Go.RowKit Go.Extern.Stop Go.Stop Go.Extern
set_option maxRecDepth 1000000

theorem ErrV.iface {W : World} {n : Int} {ps : List Int} {E : Value} (h : ErrV W n ps E) : ∃ T v, E = .iface T v := by
  cases ps with
  | nil => exact ⟨_, _, h⟩
  | cons p l => obtain ⟨pb, po, h, _⟩ := h; exact ⟨_, _, h⟩

end Go.Vs.YtcohndmpimkjpaaGreatDoor.E
namespace Go.Vs.YtcohndmpimkjpaaGreatDoor
def k__strings_Builder_copyCheck : Nat := 158
def k__strings_Builder_String : Nat := 109
def k_internal_bytealg_IndexByteString : Nat := 153
def k_internal_bytealg_CountString : Nat := 317
-- none here: strings_Join
def k_unicode_utf8_DecodeRuneInString : Nat := 157
end Go.Vs.YtcohndmpimkjpaaGreatDoor
namespace Go.Vs.YtcohndmpimkjpaaGreatDoor
set_option linter.unusedSimpArgs false
set_option linter.unusedVariables false
open Go.Proofs
set_option maxRecDepth 100000
set_option maxHeartbeats 4000000

def k__strings_Builder_WriteByte : Nat := 108
/-- function 108 -/
def c__strings_Builder_WriteByte : VCode :=
  .seq (rt [o1 4 (.move (.const (.val (.nili))))] []) (.seq (rt [o1 5 (.move (tm 0)), o1 6 (.callM k__strings_Builder_copyCheck [tm 5])] [5, 6]) (.seq (rt [o1 7 (.move (tm 0)), o1 8 (.move (tm 0)), o1 9 (.nilCheck (tm 8)), o1 10 (.fieldAddr 1 (tm 9)), o1 11 (.load none (tm 10)), o1 12 (.move (tm 1)), o1 13 (.buildSlice 1 1 [.val (.int (.u8) 0)] [(0, 1, tm 12)]), o1 14 (.append 5 1 1 (tm 11) (tm 13)), o1 15 (.nilCheck (tm 7)), o1 16 (.fieldAddr 1 (tm 15)), o3 (.store 1 (tm 16) (tm 14))] [7, 16]) (.seq (rt [o1 4 (.move (.const (.val (.nili))))] []) (.ret))))
def r__strings_Builder_WriteByte : List VRes := [.tmp 4]
theorem ok__strings_Builder_WriteByte : FnOk Tryz.prog k__strings_Builder_WriteByte c__strings_Builder_WriteByte r__strings_Builder_WriteByte 17 :=
  ⟨⟨Tryz.f108, _, Tryz.func108, by decide, rfl, by kernel_rfl, by kernel_rfl, by kernel_rfl, rfl⟩⟩

end Go.Vs.YtcohndmpimkjpaaGreatDoor
set_option linter.unusedSimpArgs false
set_option linter.unusedVariables false
namespace Go.Vs.YtcohndmpimkjpaaGreatDoor
open Go.Proofs Go.Proofs.YtcohndmpimkjpaaGreatDoor Go.RowKit Go.Lib
set_option maxRecDepth 100000

end Go.Vs.YtcohndmpimkjpaaGreatDoor
set_option linter.unusedSimpArgs false
set_option linter.unusedVariables false
namespace Go.Vs.YtcohndmpimkjpaaGreatDoor
open Go.Proofs Go.Proofs.YtcohndmpimkjpaaGreatDoor Go.RowKit Go.Lib
set_option maxRecDepth 100000
set_option maxHeartbeats 4000000

theorem sizeSB : (Tryz.prog.info? 215).map (·.size) = some 2 := by kernel_rfl
theorem liesSB : liesAt Tryz.prog Tryz.prog.depth 215 (2 / Tryz.prog.cellsOf 215) 0 215 1 = true := by kernel_rfl
theorem cc_used (b : Nat) (w : World) (h0 : w.cell? ⟨b, 0, none⟩ = some (.pointer (some ⟨b, 0, none⟩))) :
    Calls Tryz.prog 158 #[.pointer (some ⟨b, 0, none⟩)] w fun e w' => e = .returned (.tuple #[]) ∧ w' = w := by
  obtain ⟨j, hj, _⟩ := Option.map_eq_some_iff.1 sizeSB
  go_enter Tryz.func158, Tryz.ntmps158
  go_wp2
  rw [Lib.run_neq_ptr_same w _ Tryz.underlying212 hj]
  go_wp2
  go_end0
  exact ⟨rfl, rfl⟩
theorem cc_fresh (b : Nat) (w : World) (h0 : w.cell? ⟨b, 0, none⟩ = some (.pointer none)) (hsh : w.shape? b = some (215, 2)) (hfz : w.frozen? ⟨b, 0, none⟩ = false) :
    Calls Tryz.prog 158 #[.pointer (some ⟨b, 0, none⟩)] w fun e w' => e = .returned (.tuple #[]) ∧ w' = w.setCell ⟨b, 0, none⟩ (.pointer (some ⟨b, 0, none⟩)) := by
  obtain ⟨j, hj, hjs⟩ := Option.map_eq_some_iff.1 sizeSB
  go_enter Tryz.func158, Tryz.ntmps158
  go_wp2
  rw [Lib.run_to_unsafe w ⟨b, 0, none⟩ Tryz.underlying212 Tryz.underlying226 hj (by rw [hjs]; decide) hsh (Nat.zero_lt_succ 1)]
  simp only [Result.andThen]
  rw [Oper.upon_value]
  go_wp2
  rw [run_callFunc_extern Tryz.func219 (by kernel_rfl) (by kernel_rfl) (by kernel_rfl) (e := Extern.AbiNoEscape.same) (by kernel_rfl)]
  rw [Lib.run_noEscape]
  simp only [Result.andThen]
  rw [Oper.upon_value]
  go_wp2
  rw [Lib.run_from_unsafe w ⟨b, 0, none⟩ Tryz.underlying226 Tryz.underlying212 hj hsh liesSB]
  simp only [Result.andThen]
  rw [Oper.upon_value]
  go_wp2
  go_end0
  exact ⟨rfl, rfl⟩

/-- A builder as it comes in, and as it is left. -/
def bldObs (v : Nat) (l : List UInt8) : List (Nat × Ob) := [(1000, .box [.selfN 1000 215 false, .ownT 1001 v 5]), (1001, .arr v 1 (byteRows l))]
theorem fnM_copyCheck (v : Nat) (rows : List (List IV)) : FnM G Tryz.prog k__strings_Builder_copyCheck
    { args := [.selfN 1000 215 true], objs := [(1000, .box [.selfN 1000 215 false, .ownT 1001 v 5]), (1001, .arr v 1 rows)], res := .val (.tuple []),
      objs' := [(1000, .box [.selfN 1000 215 false, .ownT 1001 v 5]), (1001, .arr v 1 rows)], ro' := [] } := by
  refine fnM_wrote (id := 1000) (cells := [.selfN 1000 215 false, .ownT 1001 v 5]) (cells' := [.selfN 1000 215 false, .ownT 1001 v 5]) ⟨Tryz.f158, Tryz.func158, by decide⟩ rfl ?_
  rintro w S μ β vs b cs e fr hgl ⟨u, _, rfl, hu, rfl⟩ hobj hinj hb hmu hheap hfr hc
  have hc0 := hc
  obtain ⟨v0, _, hcs, _, hv0, v1, _, rfl, _, hv1, rfl⟩ := hc
  obtain ⟨b', hb', hsh, ⟨h, _⟩ | hu'⟩ := hu _ rfl
  · cases h
  rw [hmu] at hb'
  obtain rfl : b = b' := by simpa using hb'
  subst hu'
  obtain ⟨b', hb2, hsh2, hv0⟩ := hv0 _ rfl
  rw [hmu] at hb2
  obtain rfl : b = b' := by simpa using hb2
  have hcell : w.cell? ⟨b, 0, none⟩ = some v0 := cellAt hheap (by rw [← Array.getElem?_toList, hcs]; rfl)
  have hsz : cs.size = 2 := by
    have := congrArg List.length hcs
    simpa using this
  obtain ⟨l⟩ := cs
  simp only at hcs
  subst hcs
  rcases hv0 with ⟨_, rfl⟩ | rfl
  · refine callDoes_of Tryz.func158 (by decide) ((cc_fresh b w hcell hsh (notFrz hheap hfr (by omega))).mono ?_)
    rintro ev w' ⟨rfl, rfl⟩
    refine ⟨.tuple #[], _, _, rfl, Below.refl _ _, setCell_wrote (off := 0) (e := e) (fr := fr) hheap _, by simp, ?_, ⟨#[], rfl, rfl⟩⟩
    exact ⟨_, _, rfl, rfl, fun cells hl => ⟨b, hmu, hsh, .inr rfl⟩, _, _, rfl, by assumption, hv1, rfl⟩
  · refine callDoes_of Tryz.func158 (by decide) ((cc_used b w hcell).mono ?_)
    rintro ev w' ⟨rfl, rfl⟩
    exact ⟨.tuple #[], _, _, rfl, Below.refl _ _, ⟨rfl, rfl, rfl, rfl, fun _ _ => rfl, hheap, fun _ _ h => h⟩, rfl, hc0, ⟨#[], rfl, rfl⟩⟩

theorem byteRows_snoc (a : List UInt8) (c : UInt8) : byteRows (a ++ [c]) = byteRows a ++ [[.int .u8 c.toNat]] := by simp [byteRows]
theorem fnM_WriteByte (v : Nat) (l : List UInt8) (c : UInt8) (hl : l.length < 100000000) : FnM G Tryz.prog k__strings_Builder_WriteByte
    { args := [.selfN 1000 215 true, .val (.int .u8 c.toNat)], objs := bldObs v l, res := .val .nili, objs' := bldObs (v + 1) (l ++ [c]), ro' := [] } := by
  refine fnM_intro hm ok__strings_Builder_WriteByte (by simp) rfl ?_
  simp [c__strings_Builder_WriteByte, r__strings_Builder_WriteByte, bldObs, stM]
  refine callM [] [] (fnM_copyCheck v _) rfl rfl ⟨rfl, rfl, trivial⟩ ⟨rfl, rfl⟩ rfl ?_
  simp
  refine ⟨by simp [byteRows]; omega, ?_⟩
  simp [fnPostM, byteRows_snoc]
  exact ⟨⟨[(4, .val .nili)], bldObs (v + 1) (l ++ [c]), [], 17, G⟩, (by simp only [bldObs, byteRows_snoc]; exact weak_drop rfl rfl (by simp [EnvLe, getE, look]) (by simp [ObLe, look]) (by simp [roOk])), by simp [bldObs, byteRows_snoc], [], rfl, rfl, rfl⟩
end Go.Vs.YtcohndmpimkjpaaGreatDoor
set_option linter.unusedSimpArgs false
set_option linter.unusedVariables false
namespace Go.Vs.YtcohndmpimkjpaaGreatDoor
open Go.Proofs Go.Proofs.YtcohndmpimkjpaaGreatDoor Go.RowKit Go.Lib
set_option maxRecDepth 100000
set_option maxHeartbeats 4000000

theorem cellsByte : Tryz.prog.cellsOf 5 = 1 := by kernel_rfl
theorem str_byte (b g cap : Nat) (p : Value) (cur : Array Value) (l : List UInt8) (w : World) (h0 : l ≠ []) (hbk : w.cell? ⟨b, 1, none⟩ = some (.slice (some ⟨g, 0, none⟩) l.length cap)) (hc0 : l.length ≤ cap) (hg : w.heap[g]? = some (.cells cur 5 (0, 0))) (hcs : cur.size = cap) (hsm : l.length < 100000000)
    (hcell : ∀ j x, l[j]? = some x → w.cell? ((⟨g, 0, none⟩ : Addr).add j) = some (.int .u8 x.toNat)) :
    Calls Tryz.prog 109 #[.pointer (some ⟨b, 0, none⟩)] w fun e w' => e = .returned (.string ⟨l.toArray⟩) ∧ w' = w.drew.freeze ⟨g, 0, none⟩ l.length := by
  have hl0 : l.length ≠ 0 := by simpa using h0
  have c1 : w.drew.cell? ⟨b, 1, none⟩ = some (.slice (some ⟨g, 0, none⟩) l.length cap) := hbk
  have hSD : (Builtin.unsafeSliceData_ #[213] 276 #[.slice (some ⟨g, 0, none⟩) l.length cap]).run Tryz.prog w.drew = .ok (.pointer (some ⟨g, 0, none⟩)) w.drew :=
    Lib.run_unsafeSliceData_row _ _ _ _ _ _ (by omega)
  have hUS : (Builtin.unsafeString_ #[276, 3] 9 #[.pointer (some ⟨g, 0, none⟩), .int .i64 l.length]).run Tryz.prog w.drew = .ok (.string ⟨l.toArray⟩) (w.drew.freeze ⟨g, 0, none⟩ l.length) := by
    refine Lib.run_unsafeString_row w.drew 276 3 9 5 Tryz.underlying276 cellsByte g cur.size (by have hg' : w.drew.heap[g]? = some (.cells cur 5 (0, 0)) := hg; simp [World.shape?, hg']) l h0 (by omega) (by omega) ?_
    intro j x hx
    exact hcell j x hx
  clear hbk hg hcs hc0 hcell h0 hl0 hsm
  go_enter Tryz.func109, Tryz.ntmps109
  go_wp2
  go_region
  all_goals (go_wp2; go_ret; exact ⟨rfl, rfl⟩)
theorem us_none (W : World) (q : Option Addr) : (Builtin.unsafeString_ #[276, 3] 9 #[.pointer q, .int .i64 0]).run Tryz.prog W = .ok (.string .empty) W :=
  Lib.run_unsafeString_none W _ _ _ q
theorem str_nil (b : Nat) (w : World) (hbk : w.cell? ⟨b, 1, none⟩ = some (.slice none 0 0)) :
    Calls Tryz.prog 109 #[.pointer (some ⟨b, 0, none⟩)] w fun e w' => e = .returned (.string ⟨#[]⟩) ∧ w' = w.drew := by
  have hUS := us_none
  have c1 : w.drew.cell? ⟨b, 1, none⟩ = some (.slice none 0 0) := hbk
  have hSD : (Builtin.unsafeSliceData_ #[213] 276 #[.slice none 0 0]).run Tryz.prog w.drew = .ok (.pointer none) w.drew := rfl
  clear hbk
  go_enter Tryz.func109, Tryz.ntmps109
  go_wp2
  go_region
  all_goals (go_wp2; go_ret; exact ⟨rfl, rfl⟩)
theorem str_room (b : Nat) (a : Addr) (cap : Nat) (hc0 : cap ≠ 0) (w : World) (hbk : w.cell? ⟨b, 1, none⟩ = some (.slice (some a) 0 cap)) :
    Calls Tryz.prog 109 #[.pointer (some ⟨b, 0, none⟩)] w fun e w' => e = .returned (.string ⟨#[]⟩) ∧ w' = w.drew := by
  have hUS := us_none
  have c1 : w.drew.cell? ⟨b, 1, none⟩ = some (.slice (some a) 0 cap) := hbk
  have hSD : (Builtin.unsafeSliceData_ #[213] 276 #[.slice (some a) 0 cap]).run Tryz.prog w.drew = .ok (.pointer (some a)) w.drew := Lib.run_unsafeSliceData_row _ _ _ _ _ _ hc0
  clear hbk hc0
  go_enter Tryz.func109, Tryz.ntmps109
  go_wp2
  go_region
  all_goals (go_wp2; go_ret; exact ⟨rfl, rfl⟩)
theorem str_noroom (b : Nat) (a : Addr) (m : Nat) (w : World) (hbk : w.cell? ⟨b, 1, none⟩ = some (.slice (some a) 0 0)) (hsh : w.shape? a.block = some (5, m)) :
    Calls Tryz.prog 109 #[.pointer (some ⟨b, 0, none⟩)] w fun e w' => e = .returned (.string ⟨#[]⟩) ∧ w' = w.drew.alloc (.view a 5) := by
  have hUS := us_none
  have c1 : w.drew.cell? ⟨b, 1, none⟩ = some (.slice (some a) 0 0) := hbk
  have hlt : b < w.heap.size := by
    rcases Nat.lt_or_ge b w.heap.size with h' | h'
    · exact h'
    · simp [World.cell?, Array.getElem?_eq_none h'] at hbk
  have hSD : (Builtin.unsafeSliceData_ #[213] 276 #[.slice (some a) 0 0]).run Tryz.prog w.drew = .ok (.pointer (some ⟨w.drew.heap.size, 0, none⟩)) (w.drew.alloc (.view a 5)) :=
    Lib.run_unsafeSliceData_zero w.drew _ _ 5 Tryz.underlying276 a 0 (5, m) hsh
  have c2 : (w.alloc (.view a 5)).cell? ⟨b, 1, none⟩ = some (.slice (some a) 0 0) := by
    rw [World.cell?_of_block (a := ⟨b, 1, none⟩) (Below.heap_alloc w _ b hlt)]; exact hbk
  clear hbk hlt hsh
  go_enter Tryz.func109, Tryz.ntmps109
  go_wp2
  go_region
  all_goals (go_wp2; go_ret; exact ⟨rfl, rfl⟩)

/-- Behind String, the buffer is given up. -/
theorem fnM_String (v : Nat) (l : List UInt8) (hl : l.length < 100000000) : FnM G Tryz.prog k__strings_Builder_String
    { args := [.selfN 1000 215 true], objs := bldObs v l, res := .val (.str l), objs' := [(1000, .box [.selfN 1000 215 false, .ownT 1001 v 5]), (1001, .arr (v + 1) 1 [])], ro' := [] } := by
  refine ⟨⟨Tryz.f109, Tryz.func109, by decide⟩, fun w S μ β vs hS hgl hrep hobj hinj hunst => ?_⟩
  obtain ⟨u, _, rfl, hu, rfl⟩ := hrep
  obtain ⟨b, cs, e, fr, hb, hmu, hheap, hfr, hc⟩ := hobj 1000 _ rfl
  obtain ⟨v0, _, hcs, h1c, hv0, v1, _, rfl, h2c, ⟨hv1, hv1t⟩, rfl⟩ := hc
  obtain ⟨b', hb', hsh, ⟨h, _⟩ | hu'⟩ := hu _ rfl
  · cases h
  rw [hmu] at hb'
  obtain rfl : b = b' := by simpa using hb'
  subst hu'
  have hvm := (hv1 _ _ _ rfl).2 rfl
  clear hv1
  have hcell : w.cell? ⟨b, 1, none⟩ = some v1 := cellAt hheap (by rw [← Array.getElem?_toList, hcs]; rfl)
  have hblt : b < w.heap.size := (Array.getElem?_eq_some_iff.1 hheap).1
  -- what is left to show, once the call's world is known
  have fin : ∀ w', w'.os = w.os → w'.tape = w.tape → w'.output = w.output → w.heap.size ≤ w'.heap.size → (∀ k, k < w.heap.size → (∀ g, β 1001 = some g → k ≠ g) → w'.heap[k]? = w.heap[k]?) → (∀ a, w'.cell? a = w.cell? a ∨ w.heap.size ≤ a.block) → (∀ k x, w.shape? k = some x → w'.shape? k = some x) →
      ∃ (v' : Value) (S' : Stab) (μ' : Nat → Value) (β' : Nat → Option Nat), Ending.returned (Value.string ⟨l.toArray⟩) = .returned v' ∧ SVRel w' S' μ' [(1000, .box [.selfN 1000 215 false, .ownT 1001 v 5]), (1001, .arr (v + 1) 1 [])] (.val (.str l)) v' ∧
      (∀ id o, look [(1000, .box [.selfN 1000 215 false, .ownT 1001 v 5]), (1001, .arr (v + 1) 1 [])] id = some o → ObRel w' S' μ' [(1000, .box [.selfN 1000 215 false, .ownT 1001 v 5]), (1001, .arr (v + 1) 1 [])] (β' id) (μ' id) o) ∧
      (∀ id id' o o' b, look [(1000, Ob.box [.selfN 1000 215 false, .ownT 1001 v 5]), (1001, .arr (v + 1) 1 [])] id = some o → look [(1000, Ob.box [.selfN 1000 215 false, .ownT 1001 v 5]), (1001, .arr (v + 1) 1 [])] id' = some o' → β' id = some b → β' id' = some b → id = id') ∧
      (∀ id o b, look [(1000, Ob.box [.selfN 1000 215 false, .ownT 1001 v 5]), (1001, .arr (v + 1) 1 [])] id = some o → β' id = some b → w.heap.size ≤ b ∨ ∃ i x, look (bldObs v l) i = some x ∧ β i = some b) ∧
      (∀ id o b off, look [(1000, Ob.box [.selfN 1000 215 false, .ownT 1001 v 5]), (1001, .arr (v + 1) 1 [])] id = some o → β' id = some b → S' b off → id ∈ ([] : List Nat) ∧ ∀ ver s rows, o = .arr ver s rows → off < rows.length * s) ∧
      (∀ b o, S' b o → b < w'.heap.size) ∧ (∀ b o, S b o → S' b o) ∧ (∀ b o, S' b o → S b o ∨ w.heap.size ≤ b ∨ ∃ i x, look (bldObs v l) i = some x ∧ β i = some b) ∧
      Kept (fun b => ∃ i x, look (bldObs v l) i = some x ∧ β i = some b) w w' ∧
      (∀ id o, look (bldObs v l) id = some o → SVRel w' S' μ' [(1000, .box [.selfN 1000 215 false, .ownT 1001 v 5]), (1001, .arr (v + 1) 1 [])] (hdl id o) (μ id)) ∧
      (∀ b o, S b o → w'.cell? ⟨b, o, none⟩ = w.cell? ⟨b, o, none⟩) := by
    intro w' q1 q2 q3 q4 q5 q6 q7
    have two : ∀ id (o : Ob), look [(1000, Ob.box [.selfN 1000 215 false, .ownT 1001 v 5]), (1001, .arr (v + 1) 1 [])] id = some o → (id = 1000 ∧ o = .box [.selfN 1000 215 false, .ownT 1001 v 5]) ∨ (id = 1001 ∧ o = .arr (v + 1) 1 []) := by
      intro id o ho
      simp only [look] at ho
      cases h1 : (1000 : Nat) == id with
      | true => rw [h1] at ho; left; exact ⟨(by simpa using h1 : 1000 = id).symm, (Option.some.inj ho).symm⟩
      | false =>
        rw [h1] at ho
        cases h2 : (1001 : Nat) == id with
        | true => rw [h2] at ho; right; exact ⟨(by simpa using h2 : 1001 = id).symm, (Option.some.inj ho).symm⟩
        | false => rw [h2] at ho; simp at ho
    have hg1 : ∀ g, β 1001 = some g → b ≠ g := fun g hg e1 => by
      have := hinj 1000 1001 _ _ b rfl rfl hb (by rw [hg, e1])
      cases this
    have hbox : w'.heap[b]? = some (.cells cs e fr) := (q5 b hblt hg1).trans hheap
    have hnew : ∀ x, SVRel w' S (fun i => if i = 1001 then .slice none 0 0 else μ i) [(1000, .box [.selfN 1000 215 false, .ownT 1001 v 5]), (1001, .arr (v + 1) 1 [])] (.ownT 1001 v 5) x ↔ ∀ a n c, x = .slice (some a) n c → ∃ m, w'.shape? a.block = some (5, m) := by
      intro x
      refine ⟨fun h => h.2, fun h => ⟨?_, h⟩⟩
      intro cv s rows hl'
      obtain ⟨rfl, rfl, rfl⟩ : v + 1 = cv ∧ 1 = s ∧ [] = rows := by simpa [look] using hl'
      exact ⟨by omega, fun e1 => by omega⟩
    refine ⟨_, S, (fun i => if i = 1001 then .slice none 0 0 else μ i), (fun i => if i = 1001 then none else β i), rfl, rfl, ?_, ?_, ?_, ?_, fun b' o hS' => Nat.lt_of_lt_of_le (hS b' o hS') q4, fun _ _ h => h, fun _ _ h => .inl h, ?_, ?_, fun b' o hS' => (q6 ⟨b', o, none⟩).elim (fun h => h) (fun h => absurd (hS b' o hS') (Nat.not_lt.2 h))⟩
    · intro id o ho
      rcases two id o ho with ⟨rfl, rfl⟩ | ⟨rfl, rfl⟩
      · refine ⟨b, cs, e, fr, hb, hmu, hbox, hfr, ?_⟩
        rw [hcs]
        refine ⟨_, _, rfl, h1c, ?_, _, _, rfl, h2c, ?_, rfl⟩
        · intro cells _
          obtain ⟨b2, hb2, hsh2, hv⟩ := hv0 _ rfl
          exact ⟨b2, hb2, q7 _ _ hsh2, hv⟩
        · exact (hnew _).2 fun a n c hh => let ⟨m, hm⟩ := hv1t a n c hh; ⟨m, q7 _ _ hm⟩
      · exact .inl ⟨rfl, rfl, none, rfl⟩
    · intro id id' o o' b' h1 h2 h3 h4
      rcases two id o h1 with ⟨rfl, _⟩ | ⟨rfl, _⟩ <;> rcases two id' o' h2 with ⟨rfl, _⟩ | ⟨rfl, _⟩ <;> first | rfl | (simp at h3; done) | (simp at h4; done)
    · intro id o b' h1 h2
      right
      rcases two id o h1 with ⟨rfl, _⟩ | ⟨rfl, _⟩
      · exact ⟨1000, _, rfl, by simpa using h2⟩
      · simp at h2
    · intro id o b' off h1 h2 h3
      exfalso
      rcases two id o h1 with ⟨rfl, _⟩ | ⟨rfl, _⟩
      · exact absurd (hunst 1000 _ b' off rfl (by simpa using h2) h3).1 (by simp)
      · simp at h2
    · exact ⟨q1, q2, q3, q4, fun k hk hm => q5 k hk (fun g hg e1 => hm ⟨1001, _, rfl, by rw [e1]; exact hg⟩), q7⟩
    · intro id o ho
      have ho' : (id = 1000 ∧ o = .box [.selfN 1000 215 false, .ownT 1001 v 5]) ∨ (id = 1001 ∧ o = .arr v 1 (byteRows l)) := by
        simp only [bldObs, look] at ho
        cases h1 : (1000 : Nat) == id with
        | true => rw [h1] at ho; left; exact ⟨(by simpa using h1 : 1000 = id).symm, (Option.some.inj ho).symm⟩
        | false =>
          rw [h1] at ho
          cases h2 : (1001 : Nat) == id with
          | true => rw [h2] at ho; right; exact ⟨(by simpa using h2 : 1001 = id).symm, (Option.some.inj ho).symm⟩
          | false => rw [h2] at ho; simp at ho
      rcases ho' with ⟨rfl, rfl⟩ | ⟨rfl, rfl⟩
      · intro cells _
        exact ⟨b, by simpa using hmu, hmu⟩
      · intro cv s rows hl'
        obtain ⟨rfl, rfl, rfl⟩ : v + 1 = cv ∧ 1 = s ∧ [] = rows := by simpa [look] using hl'
        exact ⟨by omega, fun e1 => by omega⟩
  have drewFin : l = [] → ∃ (v' : Value), v' = Value.string ⟨#[]⟩ := fun _ => ⟨_, rfl⟩
  rcases hobj 1001 _ rfl with ⟨hr0, hβ, base, hmu1⟩ | ⟨g, cap, vs, e1, fr1, hβ, hmu1, hh1, hf1, hsz1, hle1, _, hrep1⟩
  · have hl0 : l = [] := by simpa [byteRows] using hr0
    subst hl0
    have hv1' : v1 = .slice base 0 0 := hvm.trans hmu1
    subst hv1'
    cases base with
    | none =>
      refine callDoes_of Tryz.func109 (by decide) ((str_nil b w hcell).mono ?_)
      rintro ev w' ⟨rfl, rfl⟩
      exact fin w.drew rfl rfl rfl (Nat.le_refl _) (fun _ _ _ => rfl) (fun _ => .inl rfl) (fun _ _ h => h)
    | some a =>
      obtain ⟨m, hm⟩ := hv1t a 0 0 rfl
      refine callDoes_of Tryz.func109 (by decide) ((str_noroom b a m w hcell hm).mono ?_)
      rintro ev w' ⟨rfl, rfl⟩
      exact fin (w.drew.alloc _) rfl rfl rfl (by simp) (fun k hk _ => Below.heap_alloc w.drew _ k hk) (fun a => by
        rcases Nat.lt_or_ge a.block w.heap.size with h | h
        · exact .inl (World.cell?_of_block (Below.heap_alloc w.drew _ a.block h))
        · exact .inr h) (fun k x hx => (shape_of_heap (Below.heap_alloc w.drew _ k (shape_lt hx))).trans hx)
  · have hv1' : v1 = .slice (some ⟨g, 0, none⟩) (byteRows l).length cap := hvm.trans hmu1
    subst hv1'
    have hlen : (byteRows l).length = l.length := by simp [byteRows]
    obtain ⟨m, hm⟩ := hv1t ⟨g, 0, none⟩ _ _ rfl
    simp only [World.shape?, hh1, Option.some.injEq, Prod.mk.injEq] at hm
    obtain ⟨rfl, rfl⟩ := hm
    have hf1 : fr1 = (0, 0) := hf1
    subst hf1
    rw [hlen] at hcell hle1 hrep1
    have hglt : g < w.heap.size := (Array.getElem?_eq_some_iff.1 hh1).1
    by_cases hl0 : l = []
    · subst hl0
      by_cases hc0 : cap = 0
      · subst hc0
        refine callDoes_of Tryz.func109 (by decide) ((str_noroom b ⟨g, 0, none⟩ vs.size w hcell (by simp [World.shape?, hh1])).mono ?_)
        rintro ev w' ⟨rfl, rfl⟩
        exact fin (w.drew.alloc _) rfl rfl rfl (by simp) (fun k hk _ => Below.heap_alloc w.drew _ k hk) (fun a => by
          rcases Nat.lt_or_ge a.block w.heap.size with h | h
          · exact .inl (World.cell?_of_block (Below.heap_alloc w.drew _ a.block h))
          · exact .inr h) (fun k x hx => (shape_of_heap (Below.heap_alloc w.drew _ k (shape_lt hx))).trans hx)
      · refine callDoes_of Tryz.func109 (by decide) ((str_room b ⟨g, 0, none⟩ cap hc0 w hcell).mono ?_)
        rintro ev w' ⟨rfl, rfl⟩
        exact fin w.drew rfl rfl rfl (Nat.le_refl _) (fun _ _ _ => rfl) (fun _ => .inl rfl) (fun _ _ h => h)
    · have hbytes : ∀ j x, l[j]? = some x → w.cell? ((⟨g, 0, none⟩ : Addr).add j) = some (.int .u8 x.toNat) := by
        intro j x hx
        have hj : j < l.length := (List.getElem?_eq_some_iff.1 hx).1
        have gen : ∀ (l : List UInt8) (us : List Value) (j : Nat) (x : UInt8), RepOnes w S (byteRows l).flatten us → l[j]? = some x → us[j]? = some (.int .u8 x.toNat) := by
          intro l
          induction l with
          | nil => intro us j x _ h; simp at h
          | cons y r ih =>
            rintro us j x ⟨u, us', rfl, _, hu, hr⟩ h
            cases j with
            | zero =>
              simp only [List.getElem?_cons_zero, Option.some.injEq] at h
              subst h
              have hu : u = _ := hu
              simp [hu]
            | succ j => simpa using ih us' j x hr (by simpa using h)
        have := gen l _ j x hrep1 hx
        rw [Nat.mul_one, List.getElem?_take, if_pos hj, Array.getElem?_toList] at this
        rw [add_spot rfl]
        simpa using cellAt hh1 this
      refine callDoes_of Tryz.func109 (by decide) ((str_byte b g cap v0 vs l w hl0 hcell hle1 hh1 (by omega) hl hbytes).mono ?_)
      rintro ev w' ⟨rfl, rfl⟩
      have hn0 : ¬ l.length = 0 := by simpa using hl0
      have hfz : ∀ k, k ≠ g → (w.drew.freeze ⟨g, 0, none⟩ l.length).heap[k]? = w.heap[k]? := by
        intro k hk
        unfold World.freeze
        rw [if_neg hn0]
        show (w.heap.modify g _)[k]? = _
        rw [Array.getElem?_modify, if_neg (fun e => hk e.symm)]
      have hfg : ∃ fr2, (w.drew.freeze ⟨g, 0, none⟩ l.length).heap[g]? = some (.cells vs 5 fr2) := by
        unfold World.freeze
        rw [if_neg hn0]
        show ∃ fr2, (w.heap.modify g _)[g]? = _
        rw [Array.getElem?_modify, if_pos rfl, hh1]
        exact ⟨_, rfl⟩
      obtain ⟨fr2, hfg⟩ := hfg
      have hos : (w.drew.freeze ⟨g, 0, none⟩ l.length).os = w.os ∧ (w.drew.freeze ⟨g, 0, none⟩ l.length).tape = w.tape ∧ (w.drew.freeze ⟨g, 0, none⟩ l.length).output = w.output ∧ w.heap.size ≤ (w.drew.freeze ⟨g, 0, none⟩ l.length).heap.size := by
        unfold World.freeze
        rw [if_neg hn0]
        refine ⟨rfl, rfl, rfl, ?_⟩
        show _ ≤ (w.heap.modify g _).size
        simp
      refine fin (w.drew.freeze ⟨g, 0, none⟩ l.length) hos.1 hos.2.1 hos.2.2.1 hos.2.2.2 (fun k _ h2 => hfz k (h2 g hβ)) (fun a => .inl ?_) (fun k x hx => ?_)
      · by_cases ha : a.block = g
        · simp only [World.cell?, ha, hfg, hh1]
        · exact World.cell?_of_block (hfz _ ha)
      · by_cases hk : k = g
        · subst hk
          simp only [World.shape?, hfg, hh1] at hx ⊢
          exact hx
        · exact (shape_of_heap (hfz k hk)).trans hx
end Go.Vs.YtcohndmpimkjpaaGreatDoor
