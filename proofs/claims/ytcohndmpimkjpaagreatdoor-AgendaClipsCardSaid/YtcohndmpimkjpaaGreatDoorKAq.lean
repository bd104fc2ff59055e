/- The code of the seat's functions in the small typed code; printed by a program of the prover's. -/
import Derived.Test.YtcohndmpimkjpaaGreatDoorBJq
import Derived.Test.YtcohndmpimkjpaaGreatDoorRows
import Derived.KernelRfl
import Derived.Test.YtcohndmpimkjpaaGreatDoorYHq
import Derived.Test.YtcohndmpimkjpaaGreatDoorBEq
set_option linter.unusedVariables false
set_option linter.unusedSimpArgs false
namespace Go.Vs.YtcohndmpimkjpaaGreatDoor
set_option linter.unusedSimpArgs false
set_option linter.unusedVariables false
open Go.Proofs
set_option maxRecDepth 100000
set_option maxHeartbeats 4000000

def k_law36_AgendaClips : Nat := 3
def k_ref36_Same : Nat := 5
def k_law36_Back : Nat := 6
def k_agenda_Clip : Nat := 7
def k_ref36_Clip : Nat := 8
def k_slices_Clone_Entry : Nat := 13
/-- function 3 -/
def c_law36_AgendaClips : VCode :=
  .seq (rt [o1 4 (.move (cb false))] []) (.seq (.seq (rt [o1 7 (.move (tm 0)), o1 8 (.lenV (tm 7)), o1 9 (.bin (.gtr) (tm 8) (ci 60))] [7, 8]) (.cond (tm 9) (.seq (rt [o1 10 (.call 4 []), o1 4 (.move (tm 10))] [10, 10]) (.ret)) (.skip))) (.seq (rt [o1 5 (.move (.const (.nils)))] []) (.seq (.seq (rt [o1 6 (.move (ci 0))] []) (.block 0 (.loop (.seq (.seq (rt [o1 11 (.move (tm 6)), o1 12 (.move (tm 0)), o1 13 (.lenV (tm 12)), o1 14 (.bin (.lss) (tm 11) (tm 13))] [11, 13]) (.cond (tm 14) (.skip) (.exit 0))) (.seq (.block 1 (.seq (.seq (rt [o1 17 (.move (tm 0)), o1 18 (.move (tm 6)), o1 19 (.indexAddr 3 (tm 17) (tm 18)), o1 20 (.fieldAddr 1 (tm 19)), o1 21 (.load none (tm 20)), o1 22 (.lenS (tm 21)), o1 23 (.bin (.gtr) (tm 22) (ci 40))] [17, 22]) (.cond (tm 23) (.seq (rt [o1 24 (.call 4 []), o1 4 (.move (tm 24))] [24, 24]) (.ret)) (.skip))) (rt [o1 25 (.move (tm 5)), o1 26 (.move (tm 0)), o1 27 (.move (tm 6)), o1 28 (.indexAddr 3 (tm 26) (tm 27)), o1 29 (.load (some 3) (tm 28)), o1 30 (.buildSlice 3 1 [.val (.int (.i64) 0), .val (.str []), .val (.int (.i64) 0)] [(0, 3, tm 29)]), o1 31 (.append 27 3 32 (tm 25) (tm 30)), o1 5 (.move (tm 31))] [25, 31]))) (rt [o1 15 (.move (tm 6)), o1 16 (.bin (.add) (tm 15) (ci 1)), o1 6 (.move (tm 16))] [15, 16])))))) (.seq (rt [o1 32 (.move (tm 5)), o1 33 (.move (tm 1)), o1 34 (.call k_agenda_Clip [tm 32, tm 33]), o1 35 (.call k_law36_Back [tm 34]), o1 36 (.move (tm 0)), o1 37 (.move (tm 1)), o1 38 (.call k_ref36_Clip [tm 36, tm 37]), o1 39 (.call k_ref36_Same [tm 35, tm 38]), o1 40 (.move (tm 39)), o2 41 (.call 4 []) 40 true, o1 42 (.pick (tm 40) (tm 41) (cb false)), o1 4 (.move (tm 42))] [32, 42]) (.ret)))))
def r_law36_AgendaClips : List VRes := [.tmp 4]
theorem ok_law36_AgendaClips : FnOk Tryz.prog k_law36_AgendaClips c_law36_AgendaClips r_law36_AgendaClips 43 :=
  ⟨⟨Tryz.f3, _, Tryz.func3, by decide, rfl, by kernel_rfl, by kernel_rfl, by kernel_rfl, rfl⟩⟩

/-- function 5 -/
def c_ref36_Same : VCode :=
  .seq (rt [o1 4 (.move (cb false))] []) (.seq (.seq (rt [o1 6 (.move (tm 0)), o1 7 (.lenV (tm 6)), o1 8 (.move (tm 1)), o1 9 (.lenV (tm 8)), o1 10 (.bin (.neq) (tm 7) (tm 9))] [6, 9]) (.cond (tm 10) (.seq (rt [o1 4 (.move (cb false))] []) (.ret)) (.skip))) (.seq (.seq (rt [o1 5 (.move (ci 0))] []) (.block 0 (.loop (.seq (.seq (rt [o1 11 (.move (tm 5)), o1 12 (.move (tm 0)), o1 13 (.lenV (tm 12)), o1 14 (.bin (.lss) (tm 11) (tm 13))] [11, 13]) (.cond (tm 14) (.skip) (.exit 0))) (.seq (.block 1 (.seq (.region [o1 17 (.move (tm 0)), o1 18 (.move (tm 5)), o1 19 (.indexAddr 3 (tm 17) (tm 18)), o1 20 (.load (some 3) (tm 19)), o1 21 (.move (tm 1)), o1 22 (.move (tm 5)), o1 23 (.indexAddr 3 (tm 21) (tm 22)), o1 24 (.load (some 3) (tm 23)), o1 25 (.eqA true [.i, .s, .i] (tm 20) (tm 24))] (.calm) [17, 24]) (.cond (tm 25) (.seq (rt [o1 4 (.move (cb false))] []) (.ret)) (.skip)))) (rt [o1 15 (.move (tm 5)), o1 16 (.bin (.add) (tm 15) (ci 1)), o1 5 (.move (tm 16))] [15, 16])))))) (.seq (rt [o1 4 (.move (cb true))] []) (.ret))))
def r_ref36_Same : List VRes := [.tmp 4]
theorem ok_ref36_Same : FnOk Tryz.prog k_ref36_Same c_ref36_Same r_ref36_Same 26 :=
  ⟨⟨Tryz.f5, _, Tryz.func5, by decide, rfl, by kernel_rfl, by kernel_rfl, by kernel_rfl, rfl⟩⟩

/-- function 6 -/
def c_law36_Back : VCode :=
  .seq (rt [o1 2 (.move (.const (.nils)))] []) (.seq (rt [o1 3 (.move (.const (.nils)))] []) (.seq (.seq (rt [o1 4 (.move (ci 0))] []) (.block 0 (.loop (.seq (.seq (rt [o1 5 (.move (tm 4)), o1 6 (.move (tm 0)), o1 7 (.lenV (tm 6)), o1 8 (.bin (.lss) (tm 5) (tm 7))] [5, 7]) (.cond (tm 8) (.skip) (.exit 0))) (.seq (.block 1 (rt [o1 11 (.move (tm 3)), o1 12 (.move (tm 0)), o1 13 (.move (tm 4)), o1 14 (.indexAddr 3 (tm 12) (tm 13)), o1 15 (.load (some 3) (tm 14)), o1 16 (.buildSlice 3 1 [.val (.int (.i64) 0), .val (.str []), .val (.int (.i64) 0)] [(0, 3, tm 15)]), o1 17 (.append 26 3 32 (tm 11) (tm 16)), o1 3 (.move (tm 17))] [11, 17])) (rt [o1 9 (.move (tm 4)), o1 10 (.bin (.add) (tm 9) (ci 1)), o1 4 (.move (tm 10))] [9, 10])))))) (.seq (rt [o1 18 (.move (tm 3)), o1 2 (.move (tm 18))] [18, 18]) (.ret))))
def r_law36_Back : List VRes := [.tmp 2]
theorem ok_law36_Back : FnOk Tryz.prog k_law36_Back c_law36_Back r_law36_Back 19 :=
  ⟨⟨Tryz.f6, _, Tryz.func6, by decide, rfl, by kernel_rfl, by kernel_rfl, by kernel_rfl, rfl⟩⟩

/-- function 7 -/
def c_agenda_Clip : VCode :=
  .seq (rt [o1 4 (.move (.const (.nils)))] []) (.seq (rt [o1 5 (.move (tm 0)), o1 6 (.move (tm 1)), o1 7 (.move (tm 0)), o1 8 (.lenV (tm 7)), o1 9 (.minI (tm 6) (tm 8)), o1 10 (.maxI (ci 0) (tm 9)), o1 11 (.subV 3 (tm 5) none (some (tm 10)) none), o1 12 (.call k_slices_Clone_Entry [tm 11]), o1 4 (.move (tm 12))] [5, 12]) (.ret))
def r_agenda_Clip : List VRes := [.tmp 4]
theorem ok_agenda_Clip : FnOk Tryz.prog k_agenda_Clip c_agenda_Clip r_agenda_Clip 13 :=
  ⟨⟨Tryz.f7, _, Tryz.func7, by decide, rfl, by kernel_rfl, by kernel_rfl, by kernel_rfl, rfl⟩⟩

/-- function 8 -/
def c_ref36_Clip : VCode :=
  .seq (rt [o1 4 (.move (.const (.nils)))] []) (.seq (rt [o1 5 (.move (.const (.nils)))] []) (.seq (.seq (rt [o1 6 (.move (ci 0))] []) (.block 0 (.loop (.seq (.seq (rt [o1 7 (.move (tm 6)), o1 8 (.move (tm 0)), o1 9 (.lenV (tm 8)), o1 10 (.bin (.lss) (tm 7) (tm 9)), o1 11 (.move (tm 10)), o2 12 (.move (tm 6)) 11 true, o2 13 (.move (tm 1)) 11 true, o2 14 (.bin (.lss) (tm 12) (tm 13)) 11 true, o1 15 (.pick (tm 11) (tm 14) (cb false))] [7, 14]) (.cond (tm 15) (.skip) (.exit 0))) (.seq (.block 1 (rt [o1 18 (.move (tm 5)), o1 19 (.move (tm 0)), o1 20 (.move (tm 6)), o1 21 (.indexAddr 3 (tm 19) (tm 20)), o1 22 (.load (some 3) (tm 21)), o1 23 (.buildSlice 3 1 [.val (.int (.i64) 0), .val (.str []), .val (.int (.i64) 0)] [(0, 3, tm 22)]), o1 24 (.append 26 3 32 (tm 18) (tm 23)), o1 5 (.move (tm 24))] [18, 24])) (rt [o1 16 (.move (tm 6)), o1 17 (.bin (.add) (tm 16) (ci 1)), o1 6 (.move (tm 17))] [16, 17])))))) (.seq (rt [o1 25 (.move (tm 5)), o1 4 (.move (tm 25))] [25, 25]) (.ret))))
def r_ref36_Clip : List VRes := [.tmp 4]
theorem ok_ref36_Clip : FnOk Tryz.prog k_ref36_Clip c_ref36_Clip r_ref36_Clip 26 :=
  ⟨⟨Tryz.f8, _, Tryz.func8, by decide, rfl, by kernel_rfl, by kernel_rfl, by kernel_rfl, rfl⟩⟩

/-- function 13 -/
def c_slices_Clone_Entry : VCode :=
  .seq (rt [o1 2 (.move (.const (.nils)))] []) (.seq (.seq (rt [o1 3 (.move (tm 0)), o1 4 (.eqS false (tm 3))] [3, 3]) (.cond (tm 4) (.seq (rt [o1 2 (.move (.const (.nils)))] []) (.ret)) (.skip))) (.seq (rt [o1 5 (.buildSlice 3 0 [.val (.int (.i64) 0), .val (.str []), .val (.int (.i64) 0)] []), o1 6 (.move (tm 0)), o1 7 (.append 27 3 32 (tm 5) (tm 6)), o1 2 (.move (tm 7))] [5, 7]) (.ret)))
def r_slices_Clone_Entry : List VRes := [.tmp 2]
theorem ok_slices_Clone_Entry : FnOk Tryz.prog k_slices_Clone_Entry c_slices_Clone_Entry r_slices_Clone_Entry 8 :=
  ⟨⟨Tryz.f13, _, Tryz.func13, by decide, rfl, by kernel_rfl, by kernel_rfl, by kernel_rfl, rfl⟩⟩

end Go.Vs.YtcohndmpimkjpaaGreatDoor
namespace Go.Vs.YtcohndmpimkjpaaGreatDoor.Ag
set_option linter.unusedSimpArgs false
set_option linter.unusedVariables false
open Go.Proofs Go.Vs.U8 Go.Vs.YtcohndmpimkjpaaGreatDoor
set_option maxRecDepth 100000
set_option maxHeartbeats 16000000
/-- An entry. -/
structure En where
  d : Int
  u : Str
  i : Int
def es (l : List En) : List (List IV) := l.map fun x => [.int .i64 x.d, .str x.u, .int .i64 x.i]
theorem es_len (l : List En) : (es l).length = l.length := by simp [es]
theorem es_get {l : List En} {i : Nat} {x : En} (h : i < l.length) (hx : l[i] = x) : (es l)[i]? = some [.int .i64 x.d, .str x.u, .int .i64 x.i] := by
  simp [es, h, hx]
theorem es_take_succ {l : List En} {i : Nat} {x : En} (h : i < l.length) (hx : l[i] = x) : es (l.take (i + 1)) = es (l.take i) ++ [[.int .i64 x.d, .str x.u, .int .i64 x.i]] := by
  rw [List.take_succ_eq_append_getElem h, hx]
  simp [es]
theorem es_rows {l : List En} : ∀ row ∈ es l, row.length = 3 := by
  intro row h
  simp only [es, List.mem_map] at h
  obtain ⟨x, _, rfl⟩ := h
  rfl
theorem fn_kBack (l : List En) (hl : l.length < 100000) : Fn G2 Tryz.prog k_law36_Back [.slice (es l)] (.slice (es l)) := by
  refine fn_intro hm ok_law36_Back (by simp) ?_
  simp [c_law36_Back, r_law36_Back, es_len]
  refine loopU hm [] (fun i : Nat => [(4, .val (.int .i64 i)), (3, .own 3 i)]) (fun i => [(3, .arr i 3 (es (l.take i)))]) (fun i => i ≤ l.length) (fun i => l.length - i) 0 (by omega) ?_ ?_
  · simp [es]
    exact Weak.trans (weak_adopt (k := 3) 3 3 (by simp) (by simp [getE, look])) (weak_drop rfl rfl (by simp [St.adopt, EnvLe, getE, look, put, eraseE, SV.erase]) (by simp [St.adopt, ObLe, look, put, eraseO, Ob.erase]) (by simp [St.adopt, roOk]))
  intro i hi
  simp [es_len]
  by_cases h : i < l.length
  · obtain ⟨p, hp⟩ : ∃ p, l[i] = p := ⟨_, rfl⟩
    have hg := es_get h hp
    have ht := es_take_succ h hp
    have hlen : (es (l.take i)).length ≤ 100000 := by rw [es_len, List.length_take]; omega
    simp (disch := omega) [br_yes, br_no, wrap_i64, wrap_u8, wrap_i32, List.getElem?_cons_zero, List.getElem?_cons_succ, es_len, hg]
    refine ⟨by omega, ?_⟩
    refine loopEnd (i + 1) (by omega) (by omega) ?_
    simp [ht]
    exact weak_drop rfl rfl (by simp [EnvLe, getE, look]) (by simp [ObLe, look]) (by simp [roOk])
  · obtain rfl : i = l.length := by omega
    simp (disch := omega) [br_yes, br_no, wrap_i64, wrap_u8, wrap_i32, List.getElem?_cons_zero, List.getElem?_cons_succ]
theorem fn_kClone (l : List En) (hl : l.length < 100000) : Fn G2 Tryz.prog k_slices_Clone_Entry [.slice (es l)] (.slice (es l)) := by
  refine fn_intro hm ok_slices_Clone_Entry (by simp) ?_
  simp [c_slices_Clone_Entry, r_slices_Clone_Entry]
  cases l with
  | nil =>
    simp [es]
  | cons x r =>
    have hl' := es_len (x :: r)
    have hr := es_rows (l := x :: r)
    simp only [List.length_cons] at hl' hl
    have e : es (x :: r) = [.int .i64 x.d, .str x.u, .int .i64 x.i] :: es r := rfl
    rw [e] at hl' hr ⊢
    simp at hl'
    simp (disch := omega) [br_yes, br_no, wrap_i64, wrap_u8, wrap_i32, List.getElem?_cons_zero, List.getElem?_cons_succ, hl']
    exact ⟨by omega, fun a ha => hr a (by simp [ha])⟩
theorem fn_kClip (l : List En) (m : Int) (hl : l.length < 100000) (h1 : -9223372036854775808 ≤ m) (h2 : m ≤ 9223372036854775807) : Fn G2 Tryz.prog k_agenda_Clip [.slice (es l), .int .i64 m] (.slice (es (l.take m.toNat))) := by
  refine fn_intro hm ok_agenda_Clip (by simp) ?_
  have hC := fn_kClone (l.take m.toNat) (by rw [List.length_take]; omega)
  have e : ((es l).take (max 0 (min m (l.length : Int))).toNat) = es (l.take m.toNat) := by
    unfold es
    rw [← List.map_take]
    congr 1
    by_cases h : m ≤ (l.length : Int)
    · congr 1; omega
    · rw [List.take_of_length_le (by omega), List.take_of_length_le (by omega)]
  simp [c_agenda_Clip, r_agenda_Clip, es_len, e]
  refine ⟨⟨by omega, es_rows⟩, ?_⟩
  refine callW_imm hC ?_
  simp (disch := omega) [br_yes, br_no, wrap_i64, wrap_u8, wrap_i32, List.getElem?_cons_zero, List.getElem?_cons_succ]
theorem fn_kRef (l : List En) (m : Int) (hl : l.length < 100000) (h1 : -9223372036854775808 ≤ m) (h2 : m ≤ 9223372036854775807) : Fn G2 Tryz.prog k_ref36_Clip [.slice (es l), .int .i64 m] (.slice (es (l.take m.toNat))) := by
  refine fn_intro hm ok_ref36_Clip (by simp) ?_
  simp [c_ref36_Clip, r_ref36_Clip, es_len]
  refine loopU hm [] (fun i : Nat => [(6, .val (.int .i64 i)), (5, .own 5 i)]) (fun i => [(5, .arr i 3 (es (l.take i)))]) (fun i => i ≤ l.length ∧ i ≤ m.toNat) (fun i => l.length - i) 0 (by omega) ?_ ?_
  · simp [es]
    exact Weak.trans (weak_adopt (k := 5) 5 3 (by simp) (by simp [getE, look])) (weak_drop rfl rfl (by simp [St.adopt, EnvLe, getE, look, put, eraseE, SV.erase]) (by simp [St.adopt, ObLe, look, put, eraseO, Ob.erase]) (by simp [St.adopt, roOk]))
  rintro i ⟨hi, him⟩
  simp [es_len]
  have hlen : (es (l.take i)).length ≤ 100000 := by rw [es_len, List.length_take]; omega
  by_cases h : i < l.length
  · by_cases h' : (i : Int) < m
    · obtain ⟨p, hp⟩ : ∃ p, l[i] = p := ⟨_, rfl⟩
      have hg := es_get h hp
      have ht := es_take_succ h hp
      simp (disch := omega) [br_yes, br_no, wrap_i64, wrap_u8, wrap_i32, List.getElem?_cons_zero, List.getElem?_cons_succ, es_len, hg, h, h']
      refine ⟨by omega, ?_⟩
      refine loopEnd (i + 1) ⟨by omega, by omega⟩ (by omega) ?_
      simp [ht]
      exact weak_drop rfl rfl (by simp [EnvLe, getE, look]) (by simp [ObLe, look]) (by simp [roOk])
    · obtain rfl : i = m.toNat := by omega
      simp (disch := omega) [br_yes, br_no, wrap_i64, wrap_u8, wrap_i32, List.getElem?_cons_zero, List.getElem?_cons_succ, es_len, h, h']
  · obtain rfl : i = l.length := by omega
    have e : l.take m.toNat = l := List.take_of_length_le (by omega)
    simp (disch := omega) [br_yes, br_no, wrap_i64, wrap_u8, wrap_i32, List.getElem?_cons_zero, List.getElem?_cons_succ, es_len, h, e]
theorem fn_kSame (l : List En) (hl : l.length < 100000) : Fn G2 Tryz.prog k_ref36_Same [.slice (es l), .slice (es l)] (.bool true) := by
  refine fn_intro hm ok_ref36_Same (by simp) ?_
  simp [c_ref36_Same, r_ref36_Same, es_len]
  refine loopU hm [] (fun i : Nat => [(5, .val (.int .i64 i))]) (fun i => []) (fun i => i ≤ l.length) (fun i => l.length - i) 0 (by omega) ?_ ?_
  · simp
    exact weak_drop rfl rfl (by simp [EnvLe, getE, look]) (by simp [ObLe, look]) (by simp [roOk])
  intro i hi
  simp [es_len]
  by_cases h : i < l.length
  · obtain ⟨p, hp⟩ : ∃ p, l[i] = p := ⟨_, rfl⟩
    have hg := es_get h hp
    simp (disch := omega) [br_yes, br_no, wrap_i64, wrap_u8, wrap_i32, List.getElem?_cons_zero, List.getElem?_cons_succ, es_len, hg, h]
    refine loopEnd (i + 1) (by omega) (by omega) ?_
    simp
    exact weak_drop rfl rfl (by simp [EnvLe, getE, look]) (by simp [ObLe, look]) (by simp [roOk])
  · obtain rfl : i = l.length := by omega
    simp (disch := omega) [br_yes, br_no, wrap_i64, wrap_u8, wrap_i32, List.getElem?_cons_zero, List.getElem?_cons_succ]
theorem fn_law (l : List En) (m : Int) (h1 : -9223372036854775808 ≤ m) (h2 : m ≤ 9223372036854775807) : Fn G2 Tryz.prog k_law36_AgendaClips [.slice (es l), .int .i64 m] (.bool true) := by
  refine fn_intro hm ok_law36_AgendaClips (by simp) ?_
  have hA : Fn G2 Tryz.prog 4 [] (.bool true) := fn_awake
  simp [c_law36_AgendaClips, r_law36_AgendaClips, es_len]
  refine brd (fun hl => ?_) (fun hl => ?_)
  · refine callW_imm hA ?_
    simp (disch := omega) [br_yes, br_no, wrap_i64, wrap_u8, wrap_i32, List.getElem?_cons_zero, List.getElem?_cons_succ]
  have hl' : l.length < 100000 := by omega
  simp
  refine loopU hm [] (fun i : Nat => [(6, .val (.int .i64 i)), (5, .own 5 i)]) (fun i => [(5, .arr i 3 (es (l.take i)))]) (fun i => i ≤ l.length) (fun i => l.length - i) 0 (by omega) ?_ ?_
  · simp [es]
    exact Weak.trans (weak_adopt (k := 5) 5 3 (by simp) (by simp [getE, look])) (weak_drop rfl rfl (by simp [St.adopt, EnvLe, getE, look, put, eraseE, SV.erase]) (by simp [St.adopt, ObLe, look, put, eraseO, Ob.erase]) (by simp [St.adopt, roOk]))
  intro i hi
  simp [es_len]
  have hlen : (es (l.take i)).length ≤ 100000 := by rw [es_len, List.length_take]; omega
  by_cases h : i < l.length
  · obtain ⟨p, hp⟩ : ∃ p, l[i] = p := ⟨_, rfl⟩
    have hg := es_get h hp
    have ht := es_take_succ h hp
    simp (disch := omega) [br_yes, br_no, wrap_i64, wrap_u8, wrap_i32, List.getElem?_cons_zero, List.getElem?_cons_succ, es_len, hg, h]
    refine brd (fun hu => ?_) (fun hu => ?_)
    · refine callW_imm hA ?_
      simp (disch := omega) [br_yes, br_no, wrap_i64, wrap_u8, wrap_i32, List.getElem?_cons_zero, List.getElem?_cons_succ]
    simp (disch := omega) [br_yes, br_no, wrap_i64, wrap_u8, wrap_i32, List.getElem?_cons_zero, List.getElem?_cons_succ, es_len, hg, h]
    refine ⟨by omega, ?_⟩
    refine loopEnd (i + 1) (by omega) (by omega) ?_
    simp [ht]
    exact weak_drop rfl rfl (by simp [EnvLe, getE, look]) (by simp [ObLe, look]) (by simp [roOk])
  · obtain rfl : i = l.length := by omega
    have hC := fn_kClip l m hl' h1 h2
    have hB := fn_kBack (l.take m.toNat) (by rw [List.length_take]; omega)
    have hR := fn_kRef l m hl' h1 h2
    have hS := fn_kSame (l.take m.toNat) (by rw [List.length_take]; omega)
    simp (disch := omega) [br_yes, br_no, wrap_i64, wrap_u8, wrap_i32, List.getElem?_cons_zero, List.getElem?_cons_succ]
    refine callW_imm hC ?_
    simp (disch := omega) [br_yes, br_no, wrap_i64, wrap_u8, wrap_i32, List.getElem?_cons_zero, List.getElem?_cons_succ]
    refine callW_imm hB ?_
    simp (disch := omega) [br_yes, br_no, wrap_i64, wrap_u8, wrap_i32, List.getElem?_cons_zero, List.getElem?_cons_succ]
    refine callW_imm hR ?_
    simp (disch := omega) [br_yes, br_no, wrap_i64, wrap_u8, wrap_i32, List.getElem?_cons_zero, List.getElem?_cons_succ]
    refine callW_imm hS ?_
    simp (disch := omega) [br_yes, br_no, wrap_i64, wrap_u8, wrap_i32, List.getElem?_cons_zero, List.getElem?_cons_succ]
    refine callW_imm hA ?_
    simp (disch := omega) [br_yes, br_no, wrap_i64, wrap_u8, wrap_i32, List.getElem?_cons_zero, List.getElem?_cons_succ]
end Go.Vs.YtcohndmpimkjpaaGreatDoor.Ag
namespace Go.Vs.YtcohndmpimkjpaaGreatDoor.Ag
set_option linter.unusedSimpArgs false
set_option linter.unusedVariables false
open Go.Proofs Go.Vs.U8 Go.Vs.YtcohndmpimkjpaaGreatDoor
set_option maxRecDepth 100000
set_option maxHeartbeats 16000000
theorem i64_of {n : Int} (h : (Lit.int .i64 n).wf = true) : -9223372036854775808 ≤ n ∧ n ≤ 9223372036854775807 := by
  simp [Lit.wf] at h
  have h1 : IntKind.i64.max = 9223372036854775807 := by rfl
  have h2 : IntKind.i64.min = -9223372036854775808 := by rfl
  simp only [h1, h2] at h
  exact h
def scE : Sc := .struct [.int .i64, .str, .int .i64]
theorem ent_of : ∀ {row : List IV}, Sh scE row → ∃ x : En, row = [.int .i64 x.d, .str x.u, .int .i64 x.i]
  | r, h => by
    obtain ⟨a, b, rfl, ⟨n, rfl, _⟩, c, d, rfl, ⟨s, rfl, _⟩, e, f, rfl, ⟨m, rfl, _⟩, hf⟩ := h
    have hf : f = [] := hf
    subst hf
    exact ⟨⟨n, s, m⟩, rfl⟩
theorem ents_of : ∀ {rows : List (List IV)}, (∀ row ∈ rows, Sh scE row) → ∃ l, rows = es l
  | [], _ => ⟨[], rfl⟩
  | r :: rs, h => by
    obtain ⟨x, rfl⟩ := ent_of (h r (by simp))
    obtain ⟨l, hl⟩ := ents_of (rows := rs) (fun x hx => h x (by simp [hx]))
    exact ⟨x :: l, by rw [hl]; rfl⟩
theorem AgendaClips_true (args : List IV) (h : Args [.slice scE, .int .i64] args) : Fn G2 Tryz.prog k_law36_AgendaClips args (.bool true) := by
  obtain ⟨v, b, rfl, ⟨r0, hr0, _, h0⟩, x, d, rfl, ⟨n, hn, hw⟩, hd⟩ := h
  have hd : d = [] := hd
  subst hd
  simp only [List.cons.injEq, and_true] at hr0 hn
  subst hr0 hn
  obtain ⟨l, rfl⟩ := ents_of h0
  exact fn_law l n (i64_of hw).1 (i64_of hw).2
end Go.Vs.YtcohndmpimkjpaaGreatDoor.Ag
