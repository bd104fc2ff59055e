/- The code of the seat's functions in the small typed code; printed by a program of the prover's. -/
import Derived.Test.YtcohndmpimkjpaaGreatDoorBJq
import Derived.Test.YtcohndmpimkjpaaGreatDoorRows
import Derived.KernelRfl
import Derived.Test.YtcohndmpimkjpaaGreatDoorBFq
set_option linter.unusedVariables false
set_option linter.unusedSimpArgs false
namespace Go.Vs.YtcohndmpimkjpaaGreatDoor
set_option linter.unusedSimpArgs false
set_option linter.unusedVariables false
open Go.Proofs
set_option maxRecDepth 100000
set_option maxHeartbeats 4000000

def k_timeset_set : Nat := 287
def k__errand_timeset_times_within : Nat := 288
def k__errand_timeset_choice_each : Nat := 315
def k__errand_timeset_choice_each_1 : Nat := 328
/-- function 288 -/
def c__errand_timeset_times_within : VCode :=
  .seq (rt [o1 3 (.box (tm 0)), o1 4 (.box (tm 1)), o1 5 (.box (tm 2)), o1 6 (.move (.const (.val (.nilf))))] []) (.seq (rt [o1 7 (.mkFunc 314 [tm 3, tm 4, tm 5]), o1 6 (.move (tm 7))] [7, 7]) (.ret))
def r__errand_timeset_times_within : List VRes := [.tmp 6]
theorem ok__errand_timeset_times_within : FnOk Tryz.prog k__errand_timeset_times_within c__errand_timeset_times_within r__errand_timeset_times_within 8 :=
  ⟨⟨Tryz.f288, _, Tryz.func288, by decide, rfl, by kernel_rfl, by kernel_rfl, by kernel_rfl, rfl⟩⟩

/-- function 315 -/
def c__errand_timeset_choice_each : VCode :=
  .seq (rt [o1 1 (.box (tm 0)), o1 2 (.move (.const (.val (.nilf))))] []) (.seq (rt [o1 3 (.mkFunc k__errand_timeset_choice_each_1 [tm 1]), o1 2 (.move (tm 3))] [3, 3]) (.ret))
def r__errand_timeset_choice_each : List VRes := [.tmp 2]
theorem ok__errand_timeset_choice_each : FnOk Tryz.prog k__errand_timeset_choice_each c__errand_timeset_choice_each r__errand_timeset_choice_each 4 :=
  ⟨⟨Tryz.f315, _, Tryz.func315, by decide, rfl, by kernel_rfl, by kernel_rfl, by kernel_rfl, rfl⟩⟩

/-- function 328 -/
def c__errand_timeset_choice_each_1 : VCode :=
  .seq (.seq (rt [o1 6 (.fieldAddr 1 (tm 1)), o1 7 (.load none (tm 6)), o1 8 (.move (ci 0))] [6, 6]) (.block 0 (.loop (.seq (rt [o1 9 (.bin (.lss) (tm 8) (tm 7))] []) (.seq (.cond (tm 9) (.skip) (.exit 0)) (.seq (.block 1 (.seq (rt [o1 10 (.move (tm 8)), o1 3 (.move (tm 10))] [10, 10]) (.seq (rt [o1 11 (.move (tm 0)), o1 12 (.move (tm 3)), o1 13 (.callV (tm 11) [tm 12]), o1 14 (.un (.not) (tm 13))] [11, 13]) (.cond (tm 14) (.ret) (.skip))))) (rt [o1 15 (.bin (.add) (tm 8) (ci 1)), o1 8 (.move (tm 15))] [15, 15]))))))) (.seq (rt [o1 16 (.fieldAddr 0 (tm 1)), o1 17 (.load none (tm 16)), o1 18 (.lenV (tm 17)), o1 19 (.move (ci 0))] [16, 16]) (.block 2 (.loop (.seq (rt [o1 20 (.bin (.lss) (tm 19) (tm 18))] []) (.seq (.cond (tm 20) (.skip) (.exit 2)) (.seq (.block 3 (.seq (rt [o1 21 (.indexAddr 1 (tm 17) (tm 19)), o1 22 (.load none (tm 21)), o1 5 (.move (tm 22))] [21, 22]) (.seq (rt [o1 23 (.move (tm 0)), o1 24 (.move (tm 5)), o1 25 (.callV (tm 23) [tm 24]), o1 26 (.un (.not) (tm 25))] [23, 25]) (.cond (tm 26) (.ret) (.skip))))) (rt [o1 27 (.bin (.add) (tm 19) (ci 1)), o1 19 (.move (tm 27))] [27, 27])))))))
def r__errand_timeset_choice_each_1 : List VRes := []
theorem ok__errand_timeset_choice_each_1 : FnOk Tryz.prog k__errand_timeset_choice_each_1 c__errand_timeset_choice_each_1 r__errand_timeset_choice_each_1 28 :=
  ⟨⟨Tryz.f328, _, Tryz.func328, by decide, rfl, by kernel_rfl, by kernel_rfl, by kernel_rfl, rfl⟩⟩

end Go.Vs.YtcohndmpimkjpaaGreatDoor
namespace Go.Vs.YtcohndmpimkjpaaGreatDoor.Vt
set_option linter.unusedSimpArgs false
set_option linter.unusedVariables false
open Go.Proofs Go.Vs.U8
set_option maxRecDepth 100000
set_option maxHeartbeats 16000000
/-- What a choice has: all numbers below one, or those of a list. -/
def chI (li : List Int) (all : Nat) : List IV := [.slice (li.map fun n => [.int .i64 n]), .int .i64 all]
def chE (li : List Int) (all : Nat) (i : Nat) : Int := if i < all then i else li.getD (i - all) 0
def eA (l : Nat) (li : List Int) (all i : Nat) (more : List (Nat × SV)) : St := ⟨[(0, .val (.yld l)), (1, .val (.ref (chI li all))), (7, .val (.int .i64 all)), (8, .val (.int .i64 i))] ++ more, [], [], 28, []⟩
def eB (l : Nat) (li : List Int) (all i : Nat) (more : List (Nat × SV)) : St := ⟨[(0, .val (.yld l)), (17, .val (.slice (li.map fun n => [.int .i64 n]))), (18, .val (.int .i64 li.length)), (19, .val (.int .i64 i))] ++ more, [], [], 28, []⟩
theorem each_iter (li : List Int) (all : Nat) (h1 : all ≤ 1000) (h2 : li.length ≤ 1000) : IterOk Tryz.prog k__errand_timeset_choice_each_1 [.ref (chI li all)] (all + li.length) (fun i => .int .i64 (chE li all i)) := by
  intro W S vs hS hrep l J Z W1 hk hs hZ hst hyz h0
  obtain ⟨fn, c, hf, hname, hbody, hcomp, hbnd, hres, hnt⟩ := ok__errand_timeset_choice_each_1.ok
  obtain ⟨cA, cB, rfl, hA, hB⟩ := seqP hcomp
  obtain ⟨cA0, cAL, rfl, hA0, hAL⟩ := seqP hA
  obtain ⟨cL, rfl, hL⟩ := blockP hAL
  obtain ⟨cLb, rfl, hLb⟩ := loopP hL
  obtain ⟨a1, a2, rfl, ha1, ha2⟩ := seqP hLb
  obtain ⟨a3, a4, rfl, ha3, ha4⟩ := seqP ha2
  obtain ⟨a5, a6, rfl, ha5, ha6⟩ := seqP ha4
  obtain ⟨a7, rfl, ha7⟩ := blockP ha5
  obtain ⟨a8, a9, rfl, ha8, ha9⟩ := seqP ha7
  obtain ⟨aY, aR, rfl, haY, haR⟩ := seqP ha9
  obtain ⟨ia, oa, rfl, hoa⟩ := regP haY
  obtain ⟨cB0, cBL, rfl, hB0, hBL⟩ := seqP hB
  obtain ⟨cM, rfl, hM⟩ := blockP hBL
  obtain ⟨cMb, rfl, hMb⟩ := loopP hM
  obtain ⟨b1, b2, rfl, hb1, hb2⟩ := seqP hMb
  obtain ⟨b3, b4, rfl, hb3, hb4⟩ := seqP hb2
  obtain ⟨b5, b6, rfl, hb5, hb6⟩ := seqP hb4
  obtain ⟨b7, rfl, hb7⟩ := blockP hb5
  obtain ⟨b8, b9, rfl, hb8, hb9⟩ := seqP hb7
  obtain ⟨bY, bR, rfl, hbY, hbR⟩ := seqP hb9
  obtain ⟨ib, ob, rfl, hob⟩ := regP hbY
  have hrep1 : RepList W1 S [.yld l, .ref (chI li all)] ((#[Value.func (.yield l) #[] #[]] ++ vs).toList) := by
    refine ⟨Value.func (.yield l) #[] #[], vs.toList, by simp, rfl, ?_⟩
    exact RepList.mono hk (fun _ _ x => x) _ _ hrep
  have hlen := RepList.length hrep
  have hS1 : ∀ b o, S b o → b < W1.heap.size := fun b o hb => Nat.lt_of_lt_of_le (hS b o hb) hs
  obtain ⟨S', μ', β', hs0⟩ := sim0 (gl := []) (n := 28) hS1 hrep1 (by simp) (by simp)
  refine calls_of_wp hf hbody ((wpIn_wide (n := 0)).1 ?_)
  have hw : Fence.wide = wideR none := rfl
  rw [hw, hnt]
  have A0 := At.base (S0 := S) (J := J) (p := 0) h0 hZ (EnvS.of hs0 rfl rfl) (fun b o hb => by
    rcases hs0.back b o hb with q | q | q
    · exact .inl q
    · have := hs0.stab b o hb; omega
    · exact q.elim)
  refine wpIn_seq (wpIn_seq (wpIn_mono (A0.does hst hS1 (does_pw hm _ hA0 (e := .normal) (σ1 := eA l li all 0 []) ?_)) ?_))
  · simp [eA, chI]
    exact weak_drop rfl rfl (by simp [EnvLe, getE, look]) (by simp [ObLe, look]) (by simp [roOk])
  rintro e a W2 ⟨rfl, k1⟩
  refine wpIn_block (wpIn_mono (At.loop (ex := 0) (N := all) (q := 0) (elem := fun i => (i : Int)) (σL := fun i => eA l li all i []) (σ1 := fun i => eA l li all i [(9, .val (.bool (decide ((i : Int) < all))))]) (σ2 := fun i => eA l li all i [(3, .val (.int .i64 i))]) (σ3 := fun i => eA l li all i [(14, .val (.bool false))]) hst hyz hS1 (by omega) ?_ (fun i hi => does_pw hm _ ha1 ?_) (fun i hi => does_pw hm _ ha3 ?_) (does_pw hm _ ha3 ?_) (fun i hi => does_pw hm _ ha8 ?_) (fun i hi => ⟨[o1 11 (.move (tm 0)), o1 12 (.move (tm 3))], [o1 14 (.un (.not) (tm 13))], o1 13 (.callV (tm 11) [tm 12]), tm 11, tm 12, 13, ⟨(12, .val (.int .i64 i)) :: (11, .val (.yld l)) :: (eA l li all i [(3, .val (.int .i64 i))]).env, [], [], 28, []⟩, hoa, opsNoDef_of hoa rfl, rfl, rfl, rfl, .inl rfl, ?_, rfl, rfl, rfl, ?_, rfl⟩) (fun i hi => does_pw hm _ haR ?_) (fun i hi => does_pw hm _ ha6 ?_) k1) ?_)
  · intro i hi
    simp [chE, hi]
  · simp [eA, chI]
    exact weak_drop rfl rfl (by simp [EnvLe, getE, look]) (by simp [ObLe, look]) (by simp [roOk])
  · have : (i : Int) < all := by omega
    simp [eA, chI, this]
    exact weak_drop rfl rfl (by simp [EnvLe, getE, look]) (by simp [ObLe, look]) (by simp [roOk])
  · simp [eA, chI]
    exact weak_drop rfl rfl (by simp [EnvLe, getE, look]) (by simp [ObLe, look]) (by simp [roOk])
  · simp [eA, chI]
    exact weak_drop rfl rfl (by simp [EnvLe, getE, look]) (by simp [ObLe, look]) (by simp [roOk])
  · simp [eA, chI]
  · simp [eA, chI]
    exact weak_drop rfl rfl (by simp [EnvLe, getE, look]) (by simp [ObLe, look]) (by simp [roOk])
  · simp [eA, chI]
    exact weak_drop rfl rfl (by simp [EnvLe, getE, look]) (by simp [ObLe, look]) (by simp [roOk])
  · have : IntKind.i64.wrap ((i : Int) + 1) = i + 1 := wrap_i64 (by omega) (by omega)
    simp [eA, chI, this]
    exact weak_drop rfl rfl (by simp [EnvLe, getE, look]) (by simp [ObLe, look]) (by simp [roOk])
  rintro e a2 W3 ⟨rfl, k2⟩
  simp only [Exit.inBlock, if_true, Exit.then]
  refine wpIn_seq (wpIn_mono (k2.does hst hS1 (does_pw hm _ hB0 (e := .normal) (σ1 := eB l li all 0 []) ?_)) ?_)
  · simp [eA, eB, chI]
    exact weak_drop rfl rfl (by simp [EnvLe, getE, look]) (by simp [ObLe, look]) (by simp [roOk])
  rintro e a3 W4 ⟨rfl, k3⟩
  rw [Nat.zero_add] at k3
  have hg : ∀ i, i < li.length → (li.map fun n => [(IV.int .i64 n)])[i]? = some [.int .i64 (li.getD i 0)] := fun i hi => by
    simp [List.getD, List.getElem?_eq_getElem hi]
  refine wpIn_block (wpIn_mono (At.loop (ex := 2) (N := li.length) (q := all) (elem := fun i => li.getD i 0) (σL := fun i => eB l li all i []) (σ1 := fun i => eB l li all i [(20, .val (.bool (decide ((i : Int) < li.length))))]) (σ2 := fun i => eB l li all i [(5, .val (.int .i64 (li.getD i 0)))]) (σ3 := fun i => eB l li all i [(26, .val (.bool false))]) hst hyz hS1 (by omega) ?_ (fun i hi => does_pw hm _ hb1 ?_) (fun i hi => does_pw hm _ hb3 ?_) (does_pw hm _ hb3 ?_) (fun i hi => does_pw hm _ hb8 ?_) (fun i hi => ⟨[o1 23 (.move (tm 0)), o1 24 (.move (tm 5))], [o1 26 (.un (.not) (tm 25))], o1 25 (.callV (tm 23) [tm 24]), tm 23, tm 24, 25, ⟨(24, .val (.int .i64 (li.getD i 0))) :: (23, .val (.yld l)) :: (eB l li all i [(5, .val (.int .i64 (li.getD i 0)))]).env, [], [], 28, []⟩, hob, opsNoDef_of hob rfl, rfl, rfl, rfl, .inl rfl, ?_, rfl, rfl, rfl, ?_, rfl⟩) (fun i hi => does_pw hm _ hbR ?_) (fun i hi => does_pw hm _ hb6 ?_) k3) ?_)
  · intro i hi
    have : ¬ all + i < all := by omega
    simp [chE]
    omega
  · simp [eB]
    exact weak_drop rfl rfl (by simp [EnvLe, getE, look]) (by simp [ObLe, look]) (by simp [roOk])
  · have : (i : Int) < li.length := by omega
    simp [eB, this]
    exact weak_drop rfl rfl (by simp [EnvLe, getE, look]) (by simp [ObLe, look]) (by simp [roOk])
  · simp [eB]
    exact weak_drop rfl rfl (by simp [EnvLe, getE, look]) (by simp [ObLe, look]) (by simp [roOk])
  · have := hg i hi
    simp (disch := omega) [br_yes, br_no, wrap_i64, wrap_u8, wrap_i32, List.getElem?_cons_zero, List.getElem?_cons_succ, eB, this]
    exact weak_drop rfl rfl (by simp [EnvLe, getE, look]) (by simp [ObLe, look]) (by simp [roOk])
  · simp [eB]
  · simp [eB]
    exact weak_drop rfl rfl (by simp [EnvLe, getE, look]) (by simp [ObLe, look]) (by simp [roOk])
  · simp [eB]
    exact weak_drop rfl rfl (by simp [EnvLe, getE, look]) (by simp [ObLe, look]) (by simp [roOk])
  · have : IntKind.i64.wrap ((i : Int) + 1) = i + 1 := wrap_i64 (by omega) (by omega)
    simp [eB, this]
    exact weak_drop rfl rfl (by simp [EnvLe, getE, look]) (by simp [ObLe, look]) (by simp [roOk])
  rintro e a4 W5 ⟨rfl, Z5, S5, g1, g2, g3, g4, g5, g6, g7⟩
  simp only [Exit.inBlock, if_true]
  have hr0 : fn.results = #[] := by
    have : fn.results.toList = [] := by
      cases hl : fn.results.toList with
      | nil => rfl
      | cons x r =>
        rw [hl] at hres
        cases x with
        | tmp t => simp [compRes, r__errand_timeset_choice_each_1] at hres
        | cell t ty =>
          simp only [compRes] at hres
          split at hres <;> simp [r__errand_timeset_choice_each_1] at hres
    exact Array.toList_inj.1 this
  exact ⟨g3.2.defers, _, results_none hr0 _ _ _, ⟨_, rfl⟩, Z5, g1⟩
end Go.Vs.YtcohndmpimkjpaaGreatDoor.Vt
namespace Go.Vs.YtcohndmpimkjpaaGreatDoor.Vt
set_option linter.unusedSimpArgs false
set_option linter.unusedVariables false
open Go.Proofs Go.Vs.U8
set_option maxRecDepth 100000
set_option maxHeartbeats 16000000
theorem fn_each {gl : List (Nat × List IV)} (li : List Int) (all : Nat) : Fn gl Tryz.prog k__errand_timeset_choice_each [.agg (chI li all)] (.fn k__errand_timeset_choice_each_1 [.ref (chI li all)]) := by
  refine fn_intro hm ok__errand_timeset_choice_each (by simp) ?_
  simp [c__errand_timeset_choice_each, r__errand_timeset_choice_each, chI]
def nW1 : Nat := 314
def w0 : VCode := rt [o1 4 (.box (tm 0))] []
def w1 : VCode := rt [o1 9 (.fieldAddr 0 (tm 1)), o1 10 (.load (some 2) (tm 9)), o1 11 (.call k__errand_timeset_choice_each [tm 10])] [9, 10]
def wa1 : VCode := rt [o1 5 (.alloc [.val (.int .i64 0)]), o3 (.store 1 (tm 5) (tm 12))] []
def w3 : VCode := rt [o1 13 (.load none (tm 5)), o1 14 (.bin .add (tm 13) (ci 1)), o1 15 (.bin .mul (tm 14) (ci 3600)), o1 16 (.load none (tm 2)), o1 17 (.bin .leq (tm 15) (tm 16)), o1 18 (.move (tm 17)), o2 19 (.load none (tm 5)) 18 false, o2 20 (.bin .mul (tm 19) (ci 3600)) 18 false, o2 21 (.load none (tm 3)) 18 false, o2 22 (.bin .geq (tm 20) (tm 21)) 18 false, o1 23 (.pick (tm 18) (cb true) (tm 22))] []
def w3c : VCode := .cond (tm 23) (.exit 1) .skip
def w4 : VCode := rt [o1 24 (.fieldAddr 2 (tm 1)), o1 25 (.load (some 2) (tm 24)), o1 26 (.call k__errand_timeset_choice_each [tm 25])] [24, 25]
def wa2 : VCode := rt [o1 6 (.alloc [.val (.int .i64 0)]), o3 (.store 1 (tm 6) (tm 27))] []
def w6 : VCode := rt [o1 28 (.fieldAddr 4 (tm 1)), o1 29 (.load (some 2) (tm 28)), o1 30 (.call k__errand_timeset_choice_each [tm 29])] [28, 29]
def wa3 : VCode := rt [o1 7 (.move (tm 31))] []
def w8 : VCode := rt [o1 32 (.load none (tm 5)), o1 33 (.bin .mul (tm 32) (ci 3600)), o1 34 (.load none (tm 6)), o1 35 (.bin .mul (tm 34) (ci 60)), o1 36 (.bin .add (tm 33) (tm 35)), o1 37 (.move (tm 7)), o1 38 (.bin .add (tm 36) (tm 37)), o1 8 (.move (tm 38))] [32, 38]
def w9pre : List VOper := [o1 39 (.move (tm 8)), o1 40 (.load none (tm 2)), o1 41 (.bin .geq (tm 39) (tm 40)), o1 42 (.move (tm 41)), o2 43 (.move (tm 8)) 42 true, o2 44 (.load none (tm 3)) 42 true, o2 45 (.bin .lss (tm 43) (tm 44)) 42 true, o1 46 (.pick (tm 42) (tm 45) (cb false)), o1 47 (.move (tm 46)), o2 48 (.load none (tm 4)) 47 true, o2 49 (.move (tm 8)) 47 true]
def w9y : VOper := o2 50 (.callV (tm 48) [tm 49]) 47 true
def w9post : List VOper := [o2 51 (.un .not (tm 50)) 47 true, o1 52 (.pick (tm 47) (tm 51) (cb false))]
def w9 : VCode := rt (w9pre ++ w9y :: w9post) [39, 51]
def w9c : VCode := .cond (tm 52) .ret .skip
theorem w_shape : ∃ r0 r1 a1 r3 c3 r4 a2 r6 a3 r8 r9 c9, Tryz.f314.body = some (.seq r0 (.seq r1 (.block 0 (.rangeFunc (.tmp 11) #[12] a1 (.block 1 (.seq (.seq r3 c3) (.seq r4 (.block 2 (.rangeFunc (.tmp 26) #[27] a2 (.block 3 (.seq r6 (.block 4 (.rangeFunc (.tmp 30) #[31] a3 (.block 5 (.seq r8 (.seq r9 c9)))))))))))))))) ∧
    comp Tryz.prog r0 = some w0.strip ∧ comp Tryz.prog r1 = some w1.strip ∧ comp Tryz.prog a1 = some wa1.strip ∧ comp Tryz.prog r3 = some w3.strip ∧ comp Tryz.prog c3 = some w3c.strip ∧ comp Tryz.prog r4 = some w4.strip ∧ comp Tryz.prog a2 = some wa2.strip ∧ comp Tryz.prog r6 = some w6.strip ∧ comp Tryz.prog a3 = some wa3.strip ∧ comp Tryz.prog r8 = some w8.strip ∧ comp Tryz.prog r9 = some w9.strip ∧ comp Tryz.prog c9 = some w9c.strip :=
  ⟨_, _, _, _, _, _, _, _, _, _, _, _, rfl, by kernel_rfl, by kernel_rfl, by kernel_rfl, by kernel_rfl, by kernel_rfl, by kernel_rfl, by kernel_rfl, by kernel_rfl, by kernel_rfl, by kernel_rfl, by kernel_rfl, by kernel_rfl⟩
end Go.Vs.YtcohndmpimkjpaaGreatDoor.Vt
namespace Go.Vs.YtcohndmpimkjpaaGreatDoor.Vt
set_option linter.unusedSimpArgs false
set_option linter.unusedVariables false
open Go.Proofs Go.Vs.U8
set_option maxRecDepth 100000
set_option maxHeartbeats 16000000
/-- All that a choice has. -/
def chL (li : List Int) (all : Nat) : List Int := (List.range all).map (fun i : Nat => (i : Int)) ++ li
theorem chL_len (li : List Int) (all : Nat) : (chL li all).length = all + li.length := by simp [chL]
theorem chL_get {li : List Int} {all i : Nat} (h : i < all + li.length) : (chL li all)[i]? = some (chE li all i) := by
  unfold chL chE
  by_cases h1 : i < all
  · rw [List.getElem?_append_left (by simpa using h1), if_pos h1]; simp [h1]
  · rw [List.getElem?_append_right (by simp; omega), if_neg h1]
    have : i - all < li.length := by omega
    simp [List.getD, List.getElem?_eq_getElem this]
theorem chL_take {li : List Int} {all i : Nat} (h : i < all + li.length) : (chL li all).take (i + 1) = (chL li all).take i ++ [chE li all i] := by
  rw [List.take_add_one, chL_get h]; rfl
theorem chL_all (li : List Int) (all : Nat) : (chL li all).take (all + li.length) = chL li all := by rw [List.take_of_length_le (by rw [chL_len]; omega)]
/-- The times of day that pass, and the stretch. -/
structure Tm where
  h : List Int
  ah : Nat
  m : List Int
  am : Nat
  s : List Int
  as' : Nat
  fr : Int
  to : Int
def inT (x : Tm) (t : Int) : Bool := decide (x.fr ≤ t) && decide (t < x.to)
def sT (x : Tm) (h m : Int) : List Int := ((chL x.s x.as').map fun s => h * 3600 + m * 60 + s).filter (inT x)
def mT (x : Tm) (h : Int) : List Int := (chL x.m x.am).flatMap (sT x h)
def hT (x : Tm) (h : Int) : List Int := if (h + 1) * 3600 ≤ x.fr ∨ x.to ≤ h * 3600 then [] else mT x h
def allT (x : Tm) : List Int := (chL x.h x.ah).flatMap (hT x)
def Tm.cells (x : Tm) : List IV := chI x.h x.ah ++ (chI x.m x.am ++ chI x.s x.as')
structure FitT (x : Tm) : Prop where
  n1 : x.ah ≤ 1000
  n2 : x.am ≤ 1000
  n3 : x.as' ≤ 1000
  l1 : x.h.length ≤ 1000
  l2 : x.m.length ≤ 1000
  l3 : x.s.length ≤ 1000
  h : ∀ n ∈ chL x.h x.ah, 0 ≤ n ∧ n ≤ 10000
  m : ∀ n ∈ chL x.m x.am, 0 ≤ n ∧ n ≤ 10000
  s : ∀ n ∈ chL x.s x.as', 0 ≤ n ∧ n ≤ 10000
  fr : 0 ≤ x.fr ∧ x.fr ≤ 100000
  to : 0 ≤ x.to ∧ x.to ≤ 100000
def eW (x : Tm) (l : Nat) (more : List (Nat × SV)) : St := ⟨[(1, .val (.ref x.cells)), (2, .val (.ref [.int .i64 x.fr])), (3, .val (.ref [.int .i64 x.to])), (4, .val (.ref [.yld l]))] ++ more, [], [], 53, []⟩
section
variable {x : Tm} {l : Nat} {c : Code}
theorem d0 (hc : comp Tryz.prog c = some w0.strip) : DoesC Tryz.prog c (st0 [] [.yld l, .ref x.cells, .ref [.int .i64 x.fr], .ref [.int .i64 x.to]] 53) .normal (eW x l []) := by
  refine does_pw hm _ hc ?_
  simp [w0, eW]
  exact Weak.trans (weak_ref (k := 4) (id := 4) (cells := [.yld l]) (by simp [getE, look]) (by simp [look])) (weak_drop rfl rfl (by simp [EnvLe, getE, look, put]) (by simp [ObLe, look]) (by simp [roOk]))
theorem d1 (hc : comp Tryz.prog c = some w1.strip) : DoesC Tryz.prog c (eW x l []) .normal (eW x l [(11, .val (.fn k__errand_timeset_choice_each_1 [.ref (chI x.h x.ah)]))]) := by
  refine does_pw hm _ hc ?_
  simp [w1, eW, Tm.cells, chI]
  refine callW_imm (fn_each x.h x.ah) ?_
  simp [chI]
  exact weak_drop rfl rfl (by simp [EnvLe, getE, look]) (by simp [ObLe, look]) (by simp [roOk])
theorem da1 (h : Int) (more : List (Nat × SV)) (hc : comp Tryz.prog c = some wa1.strip) : DoesC Tryz.prog c { eW x l more with env := put (eW x l more).env 12 (.val (.int .i64 h)) } .normal (eW x l [(5, .val (.ref [.int .i64 h]))]) := by
  refine does_pw hm _ hc ?_
  simp [wa1, eW]
  exact Weak.trans (weak_ref (k := 5) (id := 5) (cells := [.int .i64 h]) (by simp [getE, look]) (by simp [look])) (weak_drop rfl rfl (by simp [EnvLe, getE, look, put]) (by simp [ObLe, look]) (by simp [roOk]))
theorem d3 (h : Int) (fx : FitT x) (hh : 0 ≤ h ∧ h ≤ 10000) (hc : comp Tryz.prog c = some w3.strip) : DoesC Tryz.prog c (eW x l [(5, .val (.ref [.int .i64 h]))]) .normal (eW x l [(5, .val (.ref [.int .i64 h])), (23, .val (.bool (decide ((h + 1) * 3600 ≤ x.fr ∨ x.to ≤ h * 3600))))]) := by
  have h1 : IntKind.i64.wrap (h + 1) = h + 1 := wrap_i64 (by omega) (by omega)
  have h2 : IntKind.i64.wrap ((h + 1) * 3600) = (h + 1) * 3600 := wrap_i64 (by omega) (by omega)
  have h3 : IntKind.i64.wrap (h * 3600) = h * 3600 := wrap_i64 (by omega) (by omega)
  refine does_pw hm _ hc ?_
  by_cases q : (h + 1) * 3600 ≤ x.fr
  · simp [w3, eW, h1, h2, q]
    exact weak_drop rfl rfl (by simp [EnvLe, getE, look]) (by simp [ObLe, look]) (by simp [roOk])
  · simp [w3, eW, h1, h2, h3, q]
    exact weak_drop rfl rfl (by simp [EnvLe, getE, look]) (by simp [ObLe, look]) (by simp [roOk])
theorem d3c (h : Int) (b : Bool) (hc : comp Tryz.prog c = some w3c.strip) : DoesC Tryz.prog c (eW x l [(5, .val (.ref [.int .i64 h])), (23, .val (.bool b))]) (if b = true then .exit 1 else .normal) (eW x l [(5, .val (.ref [.int .i64 h]))]) := by
  refine does_pw hm _ hc ?_
  cases b
  · simp [w3c, eW]
    exact weak_drop rfl rfl (by simp [EnvLe, getE, look]) (by simp [ObLe, look]) (by simp [roOk])
  · simp [w3c, eW]
    exact weak_drop rfl rfl (by simp [EnvLe, getE, look]) (by simp [ObLe, look]) (by simp [roOk])
theorem d4 (h : Int) (hc : comp Tryz.prog c = some w4.strip) : DoesC Tryz.prog c (eW x l [(5, .val (.ref [.int .i64 h]))]) .normal (eW x l [(5, .val (.ref [.int .i64 h])), (26, .val (.fn k__errand_timeset_choice_each_1 [.ref (chI x.m x.am)]))]) := by
  refine does_pw hm _ hc ?_
  simp [w4, eW, Tm.cells, chI]
  refine callW_imm (fn_each x.m x.am) ?_
  simp [chI]
  exact weak_drop rfl rfl (by simp [EnvLe, getE, look]) (by simp [ObLe, look]) (by simp [roOk])
theorem da2 (h m : Int) (v : SV) (hc : comp Tryz.prog c = some wa2.strip) : DoesC Tryz.prog c { eW x l [(5, .val (.ref [.int .i64 h])), (26, v)] with env := put (eW x l [(5, .val (.ref [.int .i64 h])), (26, v)]).env 27 (.val (.int .i64 m)) } .normal (eW x l [(5, .val (.ref [.int .i64 h])), (6, .val (.ref [.int .i64 m]))]) := by
  refine does_pw hm _ hc ?_
  simp [wa2, eW]
  exact Weak.trans (weak_ref (k := 6) (id := 6) (cells := [.int .i64 m]) (by simp [getE, look]) (by simp [look])) (weak_drop rfl rfl (by simp [EnvLe, getE, look, put]) (by simp [ObLe, look]) (by simp [roOk]))
theorem d6 (h m : Int) (hc : comp Tryz.prog c = some w6.strip) : DoesC Tryz.prog c (eW x l [(5, .val (.ref [.int .i64 h])), (6, .val (.ref [.int .i64 m]))]) .normal (eW x l [(5, .val (.ref [.int .i64 h])), (6, .val (.ref [.int .i64 m])), (30, .val (.fn k__errand_timeset_choice_each_1 [.ref (chI x.s x.as')]))]) := by
  refine does_pw hm _ hc ?_
  simp [w6, eW, Tm.cells, chI]
  refine callW_imm (fn_each x.s x.as') ?_
  simp [chI]
  exact weak_drop rfl rfl (by simp [EnvLe, getE, look]) (by simp [ObLe, look]) (by simp [roOk])
theorem da3 (h m s : Int) (v : SV) (hc : comp Tryz.prog c = some wa3.strip) : DoesC Tryz.prog c { eW x l [(5, .val (.ref [.int .i64 h])), (6, .val (.ref [.int .i64 m])), (30, v)] with env := put (eW x l [(5, .val (.ref [.int .i64 h])), (6, .val (.ref [.int .i64 m])), (30, v)]).env 31 (.val (.int .i64 s)) } .normal (eW x l [(5, .val (.ref [.int .i64 h])), (6, .val (.ref [.int .i64 m])), (7, .val (.int .i64 s))]) := by
  refine does_pw hm _ hc ?_
  simp [wa3, eW]
  exact weak_drop rfl rfl (by simp [EnvLe, getE, look]) (by simp [ObLe, look]) (by simp [roOk])
theorem d8 (h m s : Int) (hh : 0 ≤ h ∧ h ≤ 10000) (hm' : 0 ≤ m ∧ m ≤ 10000) (hs : 0 ≤ s ∧ s ≤ 10000) (hc : comp Tryz.prog c = some w8.strip) : DoesC Tryz.prog c (eW x l [(5, .val (.ref [.int .i64 h])), (6, .val (.ref [.int .i64 m])), (7, .val (.int .i64 s))]) .normal (eW x l [(8, .val (.int .i64 (h * 3600 + m * 60 + s)))]) := by
  have h3 : IntKind.i64.wrap (h * 3600) = h * 3600 := wrap_i64 (by omega) (by omega)
  have h4 : IntKind.i64.wrap (m * 60) = m * 60 := wrap_i64 (by omega) (by omega)
  have h5 : IntKind.i64.wrap (h * 3600 + m * 60) = h * 3600 + m * 60 := wrap_i64 (by omega) (by omega)
  have h6 : IntKind.i64.wrap (h * 3600 + m * 60 + s) = h * 3600 + m * 60 + s := wrap_i64 (by omega) (by omega)
  refine does_pw hm _ hc ?_
  simp [w8, eW, h3, h4, h5, h6]
  exact weak_drop rfl rfl (by simp [EnvLe, getE, look]) (by simp [ObLe, look]) (by simp [roOk])
theorem d9 (t : Int) (ht : inT x t = false) (hc : comp Tryz.prog c = some w9.strip) : DoesC Tryz.prog c (eW x l [(8, .val (.int .i64 t))]) .normal (eW x l [(52, .val (.bool false))]) := by
  refine does_pw hm _ hc ?_
  unfold inT at ht
  by_cases q : x.fr ≤ t
  · have q2 : ¬ t < x.to := fun h => by simp [q, h] at ht
    simp [w9, w9pre, w9y, w9post, eW, q, q2]
    exact weak_drop rfl rfl (by simp [EnvLe, getE, look]) (by simp [ObLe, look]) (by simp [roOk])
  · simp [w9, w9pre, w9y, w9post, eW, q]
    exact weak_drop rfl rfl (by simp [EnvLe, getE, look]) (by simp [ObLe, look]) (by simp [roOk])
theorem d9y (t : Int) (ht : inT x t = true) {os : Array Oper} (hc : compOpers Tryz.prog os os.toList = some (stripOps (w9pre ++ w9y :: w9post))) : YReg Tryz.prog l os t (eW x l [(8, .val (.int .i64 t))]) (eW x l [(52, .val (.bool false))]) := by
  unfold inT at ht
  simp only [Bool.and_eq_true, decide_eq_true_eq] at ht
  obtain ⟨q1, q2⟩ := ht
  refine ⟨w9pre, w9post, w9y, tm 48, tm 49, 50, ⟨[(49, .val (.int .i64 t)), (48, .val (.yld l)), (47, .val (.bool true)), (46, .val (.bool true)), (45, .val (.bool true)), (44, .val (.int .i64 x.to)), (43, .val (.int .i64 t)), (42, .val (.bool true)), (41, .val (.bool true)), (40, .val (.int .i64 x.fr)), (39, .val (.int .i64 t))] ++ (eW x l [(8, .val (.int .i64 t))]).env, [], [], 53, []⟩, hc, opsNoDef_of hc rfl, rfl, rfl, rfl, .inr ⟨47, rfl, rfl⟩, ?_, rfl, rfl, rfl, ?_, rfl⟩
  · simp [w9pre, eW, q1, q2]
  · simp [w9post, eW]
    exact weak_drop rfl rfl (by simp [EnvLe, getE, look]) (by simp [ObLe, look]) (by simp [roOk])
theorem d9c (hc : comp Tryz.prog c = some w9c.strip) : DoesC Tryz.prog c (eW x l [(52, .val (.bool false))]) .normal (eW x l [(52, .val (.bool false))]) := by
  refine does_pw hm _ hc ?_
  simp [w9c, eW]
  exact weak_drop rfl rfl (by simp [EnvLe, getE, look]) (by simp [ObLe, look]) (by simp [roOk])
end
end Go.Vs.YtcohndmpimkjpaaGreatDoor.Vt
