/- The iterator over the seconds that pass: its contract, by the levels. No conditions. -/
import Derived.Test.YtcohndmpimkjpaaGreatDoorZAq
import Derived.Test.YtcohndmpimkjpaaGreatDoorBFq
set_option linter.unusedVariables false
set_option linter.unusedSimpArgs false
namespace Go.Vs.YtcohndmpimkjpaaGreatDoor.Vt
set_option linter.unusedSimpArgs false
set_option linter.unusedVariables false
open Go.Proofs Go.Vs.U8
set_option maxRecDepth 100000
set_option maxHeartbeats 16000000
theorem call_each (args : Array Value) (w : World) : (callFunc k__errand_timeset_choice_each_1 args).run Tryz.prog w = .ok (.enter k__errand_timeset_choice_each_1 args) w := by
  obtain ⟨fn, c, hf, hname, hbody, _⟩ := ok__errand_timeset_choice_each_1.ok
  simp only [callFunc, Sem.run_bind, run_program, Result.andThen_ok, hf]
  rw [if_neg (by simpa using hname), if_neg (by simp [hbody])]
  rfl
theorem pre_get {ts pre suf : List Int} {t : Int} (h : pre ++ [t] <+: ts) : pre.length < ts.length ∧ ts.getD pre.length 0 = t := by
  obtain ⟨r, rfl⟩ := h
  refine ⟨by simp, ?_⟩
  simp [List.getD]
theorem flat_pre {f : Int → List Int} (l : List Int) (i : Nat) : (l.take i).flatMap f <+: l.flatMap f := by
  refine ⟨(l.drop i).flatMap f, ?_⟩
  rw [← List.flatMap_append, List.take_append_drop]
theorem filt_pre {f : Int → Int} {q : Int → Bool} (l : List Int) (i : Nat) : ((l.take i).map f).filter q <+: (l.map f).filter q := by
  refine ⟨((l.drop i).map f).filter q, ?_⟩
  rw [← List.filter_append, ← List.map_append, List.take_append_drop]
abbrev encT (x : Tm) (i : Nat) : Value := .int .i64 ((allT x).getD i 0)
section
variable {x : Tm} {l : Nat} {J : JZ} {S0 : Stab} {Wb : World} {Zb : Nat → Prop}
theorem lv3 (fx : FitT x) {r8 r9 c9 : Code} (h8 : comp Tryz.prog r8 = some w8.strip) (h9 : comp Tryz.prog r9 = some w9.strip) (h9c : comp Tryz.prog c9 = some w9c.strip) {ro : Option Nat} {h m s : Int} (bh : 0 ≤ h ∧ h ≤ 10000) (bm : 0 ≤ m ∧ m ≤ 10000) (bs : 0 ≤ s ∧ s ≤ 10000) {pre : List Int} {a : Act} {W : World}
    (hst : StZ J) (hyz : YZ Tryz.prog l S0 (encT x) (allT x).length J) (hS0 : ∀ b o, S0 b o → b < Wb.heap.size) (hpre : pre ++ (if inT x (h * 3600 + m * 60 + s) = true then [h * 3600 + m * 60 + s] else []) <+: allT x)
    (ha : At J S0 Wb Zb (eW x l [(5, .val (.ref [.int .i64 h])), (6, .val (.ref [.int .i64 m])), (7, .val (.int .i64 s))]) pre.length a W) :
    (Code.block 5 (.seq r8 (.seq r9 c9))).wpIn (wideR ro) 0 Tryz.prog (fun e a' W' => e = .normal ∧ ∃ σ3, At J S0 Wb Zb σ3 (pre ++ (if inT x (h * 3600 + m * 60 + s) = true then [h * 3600 + m * 60 + s] else [])).length a' W') a W := by
  refine wpIn_block (wpIn_seq (wpIn_mono (ha.does hst hS0 (d8 h m s bh bm bs h8)) ?_))
  rintro e a1 W1 ⟨rfl, k1⟩
  obtain ⟨t, ht⟩ : ∃ t, h * 3600 + m * 60 + s = t := ⟨_, rfl⟩
  rw [ht] at k1 hpre ⊢
  by_cases hi : inT x t = true
  · rw [if_pos hi] at hpre ⊢
    obtain ⟨g1, g2⟩ := pre_get (suf := []) hpre
    obtain ⟨i9, o9, rfl, ho9⟩ := regP h9
    refine wpIn_seq (wpIn_mono (k1.yreg hst hyz hS0 (d9y t hi ho9) (by simp only [encT, g2]) g1) ?_)
    rintro e a2 W2 ⟨rfl, k2⟩
    refine wpIn_mono (k2.does hst hS0 (d9c h9c)) ?_
    rintro e a3 W3 ⟨rfl, k3⟩
    refine ⟨rfl, eW x l [(52, .val (.bool false))], ?_⟩
    rw [List.length_append]
    exact k3
  · rw [if_neg hi] at hpre ⊢
    refine wpIn_seq (wpIn_mono (k1.does hst hS0 (d9 t (by simpa using hi) h9)) ?_)
    rintro e a2 W2 ⟨rfl, k2⟩
    refine wpIn_mono (k2.does hst hS0 (d9c h9c)) ?_
    rintro e a3 W3 ⟨rfl, k3⟩
    refine ⟨rfl, eW x l [(52, .val (.bool false))], ?_⟩
    rw [List.append_nil]
    exact k3
theorem lv2 (fx : FitT x) {r6 a3 r8 r9 c9 : Code} (h6 : comp Tryz.prog r6 = some w6.strip) (ha3 : comp Tryz.prog a3 = some wa3.strip) (h8 : comp Tryz.prog r8 = some w8.strip) (h9 : comp Tryz.prog r9 = some w9.strip) (h9c : comp Tryz.prog c9 = some w9c.strip) {l' : Nat} {h m : Int} (bh : 0 ≤ h ∧ h ≤ 10000) (bm : 0 ≤ m ∧ m ≤ 10000) {pre : List Int} {a : Act} {W : World}
    (hst : StZ J) (hyz : YZ Tryz.prog l S0 (encT x) (allT x).length J) (hS0 : ∀ b o, S0 b o → b < Wb.heap.size) (hrec : ∃ r, W.heap[l']? = some (.loop r)) (hpre : pre ++ sT x h m <+: allT x)
    (ha : At J S0 Wb Zb (eW x l [(5, .val (.ref [.int .i64 h])), (6, .val (.ref [.int .i64 m]))]) pre.length a W) :
    (Code.block 3 (.seq r6 (.block 4 (.rangeFunc (.tmp 30) #[31] a3 (.block 5 (.seq r8 (.seq r9 c9))))))).wpIn (wideR (some l')) 0 Tryz.prog (fun e a' W' => e = .normal ∧ ∃ σ3, At J S0 Wb Zb σ3 (pre ++ sT x h m).length a' W') a W := by
  refine wpIn_block (wpIn_seq (wpIn_mono (ha.doesK hst hS0 (d6 h m h6)) ?_))
  rintro e a1 W1 ⟨rfl, k1, q1⟩
  obtain ⟨r, hr⟩ := hrec
  have hr1 : ∃ r, W1.heap[l']? = some (.loop r) := ⟨r, (q1.block l' (Array.getElem?_eq_some_iff.1 hr).1 (fun x => x)).trans hr⟩
  let pi : Nat → Nat := fun k => (pre ++ (((chL x.s x.as').take k).map fun s => h * 3600 + m * 60 + s).filter (inT x)).length
  have k0 : At J S0 Wb Zb (eW x l [(5, .val (.ref [.int .i64 h])), (6, .val (.ref [.int .i64 m])), (30, .val (.fn k__errand_timeset_choice_each_1 [.ref (chI x.s x.as')]))]) (pi 0) a1 W1 := by
    have : pi 0 = pre.length := by simp [pi]
    rw [this]; exact k1
  refine wpIn_block (wpIn_mono (At.range (m := x.as' + x.s.length) (pi := pi) (σb := fun i => eW x l [(5, .val (.ref [.int .i64 h])), (6, .val (.ref [.int .i64 m])), (7, .val (.int .i64 (chE x.s x.as' i)))]) hst hS0 rfl (show 30 < 53 by decide) (show 31 < 53 by decide) rfl call_each (each_iter x.s x.as' fx.n3 fx.l3) (fun l0 e => by cases e; exact hr1) (fun i hi => da3 h m _ _ ha3) ?_ k0) ?_)
  · intro i hi l2 Wb2 Zb2 a2 W2 _ hS2 k2
    have hmem : chE x.s x.as' i ∈ chL x.s x.as' := List.mem_of_getElem? (chL_get hi)
    have e : (((chL x.s x.as').take (i + 1)).map fun s => h * 3600 + m * 60 + s).filter (inT x) = (((chL x.s x.as').take i).map fun s => h * 3600 + m * 60 + s).filter (inT x) ++ (if inT x (h * 3600 + m * 60 + chE x.s x.as' i) = true then [h * 3600 + m * 60 + chE x.s x.as' i] else []) := by
      rw [chL_take hi, List.map_append, List.filter_append]
      congr 1
      simp only [List.map_cons, List.map_nil, List.filter_cons, List.filter_nil]
    have := lv3 (Wb := Wb2) (Zb := Zb2) (ro := some l2) fx h8 h9 h9c bh bm (fx.s _ hmem) (pre := pre ++ (((chL x.s x.as').take i).map fun s => h * 3600 + m * 60 + s).filter (inT x)) hst hyz hS2 (by
      rw [List.append_assoc, ← e]
      exact ((List.prefix_append_right_inj pre).2 (filt_pre _ _)).trans hpre) k2
    rw [List.append_assoc, ← e] at this
    exact this
  · rintro e a2 W2 ⟨rfl, k2⟩
    refine ⟨rfl, eW x l [(5, .val (.ref [.int .i64 h])), (6, .val (.ref [.int .i64 m])), (30, .val (.fn k__errand_timeset_choice_each_1 [.ref (chI x.s x.as')]))], ?_⟩
    have : pi (x.as' + x.s.length) = (pre ++ sT x h m).length := by
      show (pre ++ (((chL x.s x.as').take (x.as' + x.s.length)).map fun s => h * 3600 + m * 60 + s).filter (inT x)).length = _
      rw [chL_all]; rfl
    rw [← this]
    exact k2
theorem lv1 (fx : FitT x) {r3 c3 r4 a2 r6 a3 r8 r9 c9 : Code} (h3 : comp Tryz.prog r3 = some w3.strip) (h3c : comp Tryz.prog c3 = some w3c.strip) (h4 : comp Tryz.prog r4 = some w4.strip) (ha2 : comp Tryz.prog a2 = some wa2.strip) (h6 : comp Tryz.prog r6 = some w6.strip) (ha3 : comp Tryz.prog a3 = some wa3.strip) (h8 : comp Tryz.prog r8 = some w8.strip) (h9 : comp Tryz.prog r9 = some w9.strip) (h9c : comp Tryz.prog c9 = some w9c.strip) {l' : Nat} {h : Int} (bh : 0 ≤ h ∧ h ≤ 10000) {pre : List Int} {a : Act} {W : World}
    (hst : StZ J) (hyz : YZ Tryz.prog l S0 (encT x) (allT x).length J) (hS0 : ∀ b o, S0 b o → b < Wb.heap.size) (hrec : ∃ r, W.heap[l']? = some (.loop r)) (hpre : pre ++ hT x h <+: allT x)
    (ha : At J S0 Wb Zb (eW x l [(5, .val (.ref [.int .i64 h]))]) pre.length a W) :
    (Code.block 1 (.seq (.seq r3 c3) (.seq r4 (.block 2 (.rangeFunc (.tmp 26) #[27] a2 (.block 3 (.seq r6 (.block 4 (.rangeFunc (.tmp 30) #[31] a3 (.block 5 (.seq r8 (.seq r9 c9)))))))))))).wpIn (wideR (some l')) 0 Tryz.prog (fun e a' W' => e = .normal ∧ ∃ σ3, At J S0 Wb Zb σ3 (pre ++ hT x h).length a' W') a W := by
  refine wpIn_block (wpIn_seq (wpIn_seq (wpIn_mono (ha.doesK hst hS0 (d3 h fx bh h3)) ?_)))
  rintro e a1 W1 ⟨rfl, k1, q1⟩
  refine wpIn_mono (k1.doesK hst hS0 (d3c h _ h3c)) ?_
  by_cases hsk : (h + 1) * 3600 ≤ x.fr ∨ x.to ≤ h * 3600
  · have hn : hT x h = [] := by unfold hT; rw [if_pos hsk]
    rw [hn, List.append_nil]
    rw [decide_eq_true hsk, if_pos rfl]
    rintro e a2 W2 ⟨rfl, k2, q2⟩
    simp only [Exit.then, Exit.inBlock, if_true]
    exact ⟨trivial, _, k2⟩
  · have hn : hT x h = mT x h := by unfold hT; rw [if_neg hsk]
    rw [hn] at hpre ⊢
    rw [decide_eq_false hsk, if_neg (by decide)]
    rintro e a2 W2 ⟨rfl, k2, q2⟩
    refine wpIn_seq (wpIn_mono (k2.doesK hst hS0 (d4 h h4)) ?_)
    rintro e a3 W3 ⟨rfl, k3, q3⟩
    obtain ⟨r, hr⟩ := hrec
    have hr3 : ∃ r, W3.heap[l']? = some (.loop r) := by
      have g1 := (q1.block l' (Array.getElem?_eq_some_iff.1 hr).1 (fun x => x)).trans hr
      have g2 := (q2.block l' (Array.getElem?_eq_some_iff.1 g1).1 (fun x => x)).trans g1
      exact ⟨r, (q3.block l' (Array.getElem?_eq_some_iff.1 g2).1 (fun x => x)).trans g2⟩
    let pi : Nat → Nat := fun k => (pre ++ ((chL x.m x.am).take k).flatMap (sT x h)).length
    have k0 : At J S0 Wb Zb (eW x l [(5, .val (.ref [.int .i64 h])), (26, .val (.fn k__errand_timeset_choice_each_1 [.ref (chI x.m x.am)]))]) (pi 0) a3 W3 := by
      have : pi 0 = pre.length := by simp [pi]
      rw [this]; exact k3
    refine wpIn_block (wpIn_mono (At.range (m := x.am + x.m.length) (pi := pi) (σb := fun i => eW x l [(5, .val (.ref [.int .i64 h])), (6, .val (.ref [.int .i64 (chE x.m x.am i)]))]) hst hS0 rfl (show 26 < 53 by decide) (show 27 < 53 by decide) rfl call_each (each_iter x.m x.am fx.n2 fx.l2) (fun l0 e => by cases e; exact hr3) (fun i hi => da2 h _ _ ha2) ?_ k0) ?_)
    · intro i hi l2 Wb2 Zb2 a4 W4 hrec4 hS2 k4
      have hmem : chE x.m x.am i ∈ chL x.m x.am := List.mem_of_getElem? (chL_get hi)
      have e : ((chL x.m x.am).take (i + 1)).flatMap (sT x h) = ((chL x.m x.am).take i).flatMap (sT x h) ++ sT x h (chE x.m x.am i) := by
        rw [chL_take hi, List.flatMap_append]
        simp
      have := lv2 (Wb := Wb2) (Zb := Zb2) (l' := l2) fx h6 ha3 h8 h9 h9c bh (fx.m _ hmem) (pre := pre ++ ((chL x.m x.am).take i).flatMap (sT x h)) hst hyz hS2 hrec4 (by
        rw [List.append_assoc, ← e]
        exact ((List.prefix_append_right_inj pre).2 (flat_pre _ _)).trans hpre) k4
      rw [List.append_assoc, ← e] at this
      exact this
    · rintro e a4 W4 ⟨rfl, k4⟩
      refine ⟨rfl, eW x l [(5, .val (.ref [.int .i64 h])), (26, .val (.fn k__errand_timeset_choice_each_1 [.ref (chI x.m x.am)]))], ?_⟩
      have : pi (x.am + x.m.length) = (pre ++ mT x h).length := by
        show (pre ++ ((chL x.m x.am).take (x.am + x.m.length)).flatMap (sT x h)).length = _
        rw [chL_all]; rfl
      rw [← this]
      exact k4
end
/-- THE CONTRACT of within. -/
theorem within_iter (x : Tm) (fx : FitT x) : IterOk Tryz.prog nW1 [.ref x.cells, .ref [.int .i64 x.fr], .ref [.int .i64 x.to]] (allT x).length (encT x) := by
  intro W S vs hS hrep l J Z W1 hk hs hZ hst hyz h0
  obtain ⟨r0, r1, a1, r3, c3, r4, a2, r6, a3, r8, r9, c9, hbody, g0, g1, ga1, g3, g3c, g4, ga2, g6, ga3, g8, g9, g9c⟩ := w_shape
  have hrep1 : RepList W1 S [.yld l, .ref x.cells, .ref [.int .i64 x.fr], .ref [.int .i64 x.to]] ((#[Value.func (.yield l) #[] #[]] ++ vs).toList) := by
    refine ⟨Value.func (.yield l) #[] #[], vs.toList, by simp, rfl, ?_⟩
    exact RepList.mono hk (fun _ _ x => x) _ _ hrep
  have hS1 : ∀ b o, S b o → b < W1.heap.size := fun b o hb => Nat.lt_of_lt_of_le (hS b o hb) hs
  obtain ⟨S', μ', β', hs0⟩ := sim0 (gl := []) (n := 53) hS1 hrep1 (by simp) (by simp)
  refine callsIn_wide.1 (callsIn_of_wp_marks (n := 0) (F := Fence.wide) Tryz.func314 hbody trivial ?_ rfl)
  have hnt : Tryz.f314.ntmps = 53 := rfl
  have hw : Fence.wide = wideR none := rfl
  rw [hw, hnt]
  have A0 := At.base (S0 := S) (J := J) (p := 0) h0 hZ (EnvS.of hs0 rfl rfl) (fun b o hb => by
    rcases hs0.back b o hb with q | q | q
    · exact .inl q
    · have := hs0.stab b o hb; omega
    · exact q.elim)
  refine wpIn_seq (wpIn_mono (A0.does hst hS1 (d0 g0)) ?_)
  rintro e b1 W2 ⟨rfl, k1⟩
  refine wpIn_seq (wpIn_mono (k1.does hst hS1 (d1 g1)) ?_)
  rintro e b2 W3 ⟨rfl, k2⟩
  let pi : Nat → Nat := fun k => (((chL x.h x.ah).take k).flatMap (hT x)).length
  have k0 : At J S W1 Z (eW x l [(11, .val (.fn k__errand_timeset_choice_each_1 [.ref (chI x.h x.ah)]))]) (pi 0) b2 W3 := by
    have : pi 0 = 0 := by simp [pi]
    rw [this]; exact k2
  refine wpIn_block (wpIn_mono (At.range (m := x.ah + x.h.length) (pi := pi) (σb := fun i => eW x l [(5, .val (.ref [.int .i64 (chE x.h x.ah i)]))]) hst hS1 rfl (show 11 < 53 by decide) (show 12 < 53 by decide) rfl call_each (each_iter x.h x.ah fx.n1 fx.l1) (fun l0 e => by cases e) (fun i hi => da1 _ _ ga1) ?_ k0) ?_)
  · intro i hi l2 Wb2 Zb2 a4 W4 hrec4 hS2 k4
    have hmem : chE x.h x.ah i ∈ chL x.h x.ah := List.mem_of_getElem? (chL_get hi)
    have e : ((chL x.h x.ah).take (i + 1)).flatMap (hT x) = ((chL x.h x.ah).take i).flatMap (hT x) ++ hT x (chE x.h x.ah i) := by
      rw [chL_take hi, List.flatMap_append]
      simp
    have := lv1 (Wb := Wb2) (Zb := Zb2) (l' := l2) fx g3 g3c g4 ga2 g6 ga3 g8 g9 g9c (fx.h _ hmem) (pre := ((chL x.h x.ah).take i).flatMap (hT x)) hst hyz hS2 hrec4 (by
      rw [← e]
      exact flat_pre _ _) k4
    rw [← e] at this
    exact this
  · rintro e b3 W4 ⟨rfl, Z', D, j1, j2, j3, j4⟩
    simp only [Exit.inBlock]
    have hpi : pi (x.ah + x.h.length) = (allT x).length := by
      show (((chL x.h x.ah).take (x.ah + x.h.length)).flatMap (hT x)).length = _
      rw [chL_all]; rfl
    rw [hpi] at j1
    show LeavesInM _ _ _ _ _ _ _ _ _
    rw [j3]
    refine ⟨by simp, .inl ⟨D, _, rfl, run_takeDeferred j4, ?_⟩⟩
    exact ⟨_, results_none rfl _ _ _, ⟨_, rfl⟩, _, hst _ _ _ _ j1 (kept_def j4 Z' j2)⟩
end Go.Vs.YtcohndmpimkjpaaGreatDoor.Vt
namespace Go.Vs.YtcohndmpimkjpaaGreatDoor.Vt
set_option linter.unusedSimpArgs false
set_option linter.unusedVariables false
open Go.Proofs Go.Vs.U8
set_option maxRecDepth 100000
set_option maxHeartbeats 16000000
def u0 : VCode := rt [o1 4 (.box (tm 0)), o1 8 (.move (.const .nils))] []
def u1 : VCode := rt [o1 14 (.load (some 15) (tm 4)), o1 15 (.move (tm 1)), o1 16 (.call k_timeset_set [tm 14, tm 15]), o1 13 (.move (tm 16)), o1 17 (.extract (tm 13) 0), o1 18 (.extract (tm 13) 1), o1 9 (.alloc [.nils, .val (.int .i64 0), .nils, .val (.int .i64 0), .nils, .val (.int .i64 0)]), o3 (.store 6 (tm 9) (tm 17)), o1 10 (.move (tm 18))] []
def u2 : VCode := .seq (rt [o1 19 (.move (tm 10)), o1 20 (.un .not (tm 19)), o1 21 (.move (tm 20)), o2 22 (.move (tm 2)) 21 false, o2 23 (.bin .lss (tm 22) (ci 0)) 21 false, o1 24 (.pick (tm 21) (cb true) (tm 23)), o1 25 (.move (tm 24)), o2 26 (.move (tm 2)) 25 false, o2 27 (.move (tm 3)) 25 false, o2 28 (.bin .gtr (tm 26) (tm 27)) 25 false, o1 29 (.pick (tm 25) (cb true) (tm 28)), o1 30 (.move (tm 29)), o2 31 (.move (tm 3)) 30 false, o2 32 (.bin .gtr (tm 31) (ci 86400)) 30 false, o1 33 (.pick (tm 30) (cb true) (tm 32))] []) (.cond (tm 33) (.seq (rt [o1 8 (.move (.const .nils))] []) .ret) .skip)
def u4 : VCode := rt [o1 11 (.alloc [.nils])] []
def u5 : VCode := rt [o1 34 (.load (some 6) (tm 9)), o1 35 (.move (tm 2)), o1 36 (.move (tm 3)), o1 37 (.call k__errand_timeset_times_within [tm 34, tm 35, tm 36])] []
def ua : VCode := rt [o1 12 (.move (tm 38))] []
def u7 : VCode := rt [o1 39 (.load none (tm 11)), o1 40 (.move (tm 12)), o1 41 (.buildSlice 1 1 [.val (.int .i64 0)] [(0, 1, tm 40)]), o1 42 (.append 3 1 8 (tm 39) (tm 41)), o3 (.store 1 (tm 11) (tm 42))] []
def u8 : VCode := rt [o1 43 (.load none (tm 11)), o1 8 (.move (tm 43))] []
theorem u_shape : ∃ r0 r1 r2 r4 r5 a r7 r8, Tryz.f249.body = some (.seq r0 (.seq r1 (.seq r2 (.seq r4 (.seq (.seq r5 (.block 0 (.rangeFunc (.tmp 37) #[38] a (.block 1 r7)))) (.seq r8 .ret)))))) ∧
    comp Tryz.prog r0 = some u0.strip ∧ comp Tryz.prog r1 = some u1.strip ∧ comp Tryz.prog r2 = some u2.strip ∧ comp Tryz.prog r4 = some u4.strip ∧ comp Tryz.prog r5 = some u5.strip ∧ comp Tryz.prog a = some ua.strip ∧ comp Tryz.prog r7 = some u7.strip ∧ comp Tryz.prog r8 = some u8.strip :=
  ⟨_, _, _, _, _, _, _, _, rfl, by kernel_rfl, by kernel_rfl, by kernel_rfl, by kernel_rfl, by kernel_rfl, by kernel_rfl, by kernel_rfl, by kernel_rfl⟩
end Go.Vs.YtcohndmpimkjpaaGreatDoor.Vt
namespace Go.Vs.YtcohndmpimkjpaaGreatDoor.Vt
set_option linter.unusedSimpArgs false
set_option linter.unusedVariables false
open Go.Proofs Go.Vs.U8
set_option maxRecDepth 100000
set_option maxHeartbeats 16000000
/-- A rule: its fifteen cells. -/
structure Ru where
  a0 : IV
  a1 : IV
  a2 : IV
  a3 : IV
  a4 : IV
  a5 : IV
  a6 : IV
  a7 : IV
  a8 : IV
  a9 : IV
  a10 : IV
  a11 : IV
  a12 : IV
  a13 : IV
  a14 : IV
def cells (r : Ru) : List IV := [r.a0, r.a1, r.a2, r.a3, r.a4, r.a5, r.a6, r.a7, r.a8, r.a9, r.a10, r.a11, r.a12, r.a13, r.a14]
def Ru.iv (r : Ru) : IV := .agg (cells r)
theorem fn_within {gl : List (Nat × List IV)} (x : Tm) : Fn gl Tryz.prog k__errand_timeset_times_within [.agg x.cells, .int .i64 x.fr, .int .i64 x.to] (.fn nW1 [.ref x.cells, .ref [.int .i64 x.fr], .ref [.int .i64 x.to]]) := by
  refine fn_intro hm ok__errand_timeset_times_within (by simp) ?_
  simp [c__errand_timeset_times_within, r__errand_timeset_times_within, Tm.cells, chI, nW1]
def nTOf : Nat := 249
def tRows (l : List Int) : List (List IV) := l.map fun t => [.int .i64 t]
def oA (gl : List (Nat × List IV)) (n : Nat) (l : List Int) (more : List (Nat × SV)) : St := ⟨[(11, .loc 1000 0)] ++ more, outO n (tRows l), [], 44, gl⟩
section
variable {gl : List (Nat × List IV)} {c : Code}
theorem e7 (n : Nat) (l : List Int) (t : Int) (hc : comp Tryz.prog c = some u7.strip) (hl : l.length < 10000000) : DoesZ Tryz.prog c (oA gl n l [(12, .val (.int .i64 t))]) .normal ⟨[], outO (n + 1) (tRows (l ++ [t])), [], 44, gl⟩ := by
  refine doesZ_pw hm _ hc ?_
  simp [u7, oA, outO, tRows]
  refine ⟨by omega, ?_⟩
  exact weak_drop rfl rfl (by simp [EnvLe, getE, look]) (by simp [ObLe, look]) (by simp [roOk])
theorem ea (n : Nat) (l : List Int) (t : Int) (hc : comp Tryz.prog c = some ua.strip) : DoesZ Tryz.prog c { oA gl n l [] with env := put (oA gl n l []).env 38 (.val (.int .i64 t)) } .normal (oA gl n l [(12, .val (.int .i64 t))]) := by
  refine doesZ_pw hm _ hc ?_
  simp [ua, oA, outO]
  exact weak_drop rfl rfl (by simp [EnvLe, getE, look]) (by simp [ObLe, look]) (by simp [roOk])
theorem e8 (n : Nat) (l : List Int) (hc : comp Tryz.prog c = some u8.strip) : DoesZ Tryz.prog c (oA gl n l []) .normal ⟨[(8, .own 1001 n)], outO n (tRows l), [], 44, gl⟩ := by
  refine doesZ_pw hm _ hc ?_
  simp [u8, oA, outO]
  exact weak_drop rfl rfl (by simp [EnvLe, getE, look]) (by simp [ObLe, look]) (by simp [roOk])
theorem e0 (r : Ru) (s f t : Int) (hc : comp Tryz.prog c = some u0.strip) : DoesZ Tryz.prog c (st0 gl [r.iv, .int .i64 s, .int .i64 f, .int .i64 t] 44) .normal ⟨[(1, .val (.int .i64 s)), (2, .val (.int .i64 f)), (3, .val (.int .i64 t)), (4, .loc 4 0)], [(4, .box ((cells r).map .val))], [], 44, gl⟩ := by
  refine doesZ_pw hm _ hc ?_
  simp [u0, Ru.iv, cells]
  exact weak_drop rfl rfl (by simp [EnvLe, getE, look]) (by simp [ObLe, look]) (by simp [roOk])
theorem e1 (r : Ru) (s f t : Int) (x : Tm) (hset : Fn gl Tryz.prog k_timeset_set [r.iv, .int .i64 s] (.tuple [.agg x.cells, .bool true])) (hc : comp Tryz.prog c = some u1.strip) : DoesZ Tryz.prog c ⟨[(1, .val (.int .i64 s)), (2, .val (.int .i64 f)), (3, .val (.int .i64 t)), (4, .loc 4 0)], [(4, .box ((cells r).map .val))], [], 44, gl⟩ .normal ⟨[(2, .val (.int .i64 f)), (3, .val (.int .i64 t)), (9, .val (.ref x.cells)), (10, .val (.bool true))], [], [], 44, gl⟩ := by
  refine doesZ_pw hm _ hc ?_
  unfold Ru.iv cells Tm.cells chI at *
  simp [u1]
  refine callW_imm hset ?_
  simp
  exact Weak.trans (weak_ref (k := 9) (id := 9) (cells := [.slice (x.h.map fun n => [.int .i64 n]), .int .i64 x.ah, .slice (x.m.map fun n => [.int .i64 n]), .int .i64 x.am, .slice (x.s.map fun n => [.int .i64 n]), .int .i64 x.as']) (by simp [getE, look]) (by simp [look])) (weak_drop rfl rfl (by simp [EnvLe, getE, look, put]) (by simp [ObLe, look]) (by simp [roOk]))
theorem e2 (x : Tm) (h1 : 0 ≤ x.fr) (h2 : x.fr ≤ x.to) (h3 : x.to ≤ 86400) (hc : comp Tryz.prog c = some u2.strip) : DoesZ Tryz.prog c ⟨[(2, .val (.int .i64 x.fr)), (3, .val (.int .i64 x.to)), (9, .val (.ref x.cells)), (10, .val (.bool true))], [], [], 44, gl⟩ .normal ⟨[(2, .val (.int .i64 x.fr)), (3, .val (.int .i64 x.to)), (9, .val (.ref x.cells))], [], [], 44, gl⟩ := by
  refine doesZ_pw hm _ hc ?_
  have q1 : ¬ x.fr < 0 := by omega
  have q2 : ¬ x.to < x.fr := by omega
  have q3 : ¬ 86400 < x.to := by omega
  simp [u2, q1, q2, q3]
  exact weak_drop rfl rfl (by simp [EnvLe, getE, look]) (by simp [ObLe, look]) (by simp [roOk])
theorem e4 (x : Tm) (hc : comp Tryz.prog c = some u4.strip) : DoesZ Tryz.prog c ⟨[(2, .val (.int .i64 x.fr)), (3, .val (.int .i64 x.to)), (9, .val (.ref x.cells))], [], [], 44, gl⟩ .normal ⟨[(2, .val (.int .i64 x.fr)), (3, .val (.int .i64 x.to)), (9, .val (.ref x.cells)), (11, .loc 11 0)], [(11, .box [.nils])], [], 44, gl⟩ := by
  refine doesZ_pw hm _ hc ?_
  simp [u4]
  exact weak_drop rfl rfl (by simp [EnvLe, getE, look]) (by simp [ObLe, look]) (by simp [roOk])
theorem e5 (x : Tm) (hc : comp Tryz.prog c = some u5.strip) : DoesZ Tryz.prog c ⟨[(2, .val (.int .i64 x.fr)), (3, .val (.int .i64 x.to)), (9, .val (.ref x.cells)), (11, .loc 11 0)], [(11, .box [.nils])], [], 44, gl⟩ .normal ⟨[(11, .loc 11 0), (37, .val (.fn nW1 [.ref x.cells, .ref [.int .i64 x.fr], .ref [.int .i64 x.to]]))], [(11, .box [.nils])], [], 44, gl⟩ := by
  refine doesZ_pw hm _ hc ?_
  have hW := fn_within (gl := gl) x
  unfold Tm.cells chI at *
  simp [u5]
  refine callW_imm hW ?_
  simp
  exact weak_drop rfl rfl (by simp [EnvLe, getE, look]) (by simp [ObLe, look]) (by simp [roOk])
theorem step {σ σ1 : St} {a : Act} {w W : World} {S : Stab} (hT : DoesZ Tryz.prog c σ .normal σ1) (hs : Sim w S Ctx.nothing σ a W) : c.wpIn (wideR none) 0 Tryz.prog (fun e a' W' => e = .normal ∧ Sim w S Ctx.nothing σ1 a' W') a W := by
  refine wpIn_mono (hT none w S _ a W hs) (fun e a' W' hl => ?_)
  cases e <;> first | exact hl.elim | (obtain ⟨σ', ⟨q1, q2⟩, _, q3⟩ := hl; exact ⟨q1, q2 _ _ _ _ _ q3⟩)
end
theorem call_W1 (args : Array Value) (w : World) : (callFunc nW1 args).run Tryz.prog w = .ok (.enter nW1 args) w := by
  obtain ⟨r0, r1, a1, r3, c3, r4, a2, r6, a3, r8, r9, c9, hbody, _⟩ := w_shape
  have hf : Tryz.prog.funcs[nW1]? = some Tryz.f314 := Tryz.func314
  simp only [callFunc, Sem.run_bind, run_program, Result.andThen_ok, hf]
  rw [if_neg (by decide), if_neg (by simp [hbody])]
  rfl
/-- THE CONTRACT of Of, where the rule has its choices. -/
theorem fn_tOf {gl : List (Nat × List IV)} (r : Ru) (s : Int) (x : Tm) (fx : FitT x) (h1 : 0 ≤ x.fr) (h2 : x.fr ≤ x.to) (h3 : x.to ≤ 86400) (hlen : (allT x).length < 10000000) (hset : Fn gl Tryz.prog k_timeset_set [r.iv, .int .i64 s] (.tuple [.agg x.cells, .bool true])) :
    FnR gl Tryz.prog nTOf [r.iv, .int .i64 s, .int .i64 x.fr, .int .i64 x.to] (.own 1 (tRows (allT x))) := by
  obtain ⟨r0, r1, r2, r4, r5, ca, r7, r8, hbody, g0, g1, g2, g4, g5, ga, g7, g8⟩ := u_shape
  have hfn : Tryz.prog.funcs[nTOf]? = some Tryz.f249 := Tryz.func249
  refine ⟨⟨_, hfn, by decide⟩, fun w S vs hS hrep hgl => .inl ⟨⟨_, hfn, by rw [hbody]; rfl⟩, ?_⟩⟩
  refine callsIn_wide.1 (callsIn_of_wp_marks (n := 0) (F := Fence.wide) hfn hbody trivial ?_ rfl)
  have hnt : Tryz.f249.ntmps = 44 := rfl
  have hw : Fence.wide = wideR none := rfl
  rw [hw, hnt]
  have s0 := sim0 (n := 44) hS hrep hgl (by simp)
  refine wpIn_seq (wpIn_mono (step (e0 r s x.fr x.to g0) s0) ?_)
  rintro e a1 W1 ⟨rfl, s1⟩
  refine wpIn_seq (wpIn_mono (step (e1 r s x.fr x.to x hset g1) s1) ?_)
  rintro e a2 W2 ⟨rfl, s2⟩
  refine wpIn_seq (wpIn_mono (step (e2 x h1 h2 h3 g2) s2) ?_)
  rintro e a3 W3 ⟨rfl, s3⟩
  refine wpIn_seq (wpIn_mono (step (e4 x g4) s3) ?_)
  rintro e a4 W4 ⟨rfl, s4⟩
  refine wpIn_seq (wpIn_seq (wpIn_mono (step (e5 x g5) s4) ?_))
  rintro e a5 W5 ⟨rfl, S5, μ5, β5, s5⟩
  obtain ⟨μ6, β6, s6, hown⟩ := s5.outBox (d := 11) (env' := [(37, .val (.fn nW1 [.ref x.cells, .ref [.int .i64 x.fr], .ref [.int .i64 x.to]]))]) rfl rfl rfl rfl (fun k => by
    simp only [getE, look]
    cases h : 37 == k with
    | true => rw [beq_iff_eq] at h; subst h; exact .inr ⟨_, rfl, rfl⟩
    | false => exact .inl rfl)
  obtain ⟨σ6, hσ6⟩ : ∃ σ6 : St, (⟨put [(37, .val (.fn nW1 [.ref x.cells, .ref [.int .i64 x.fr], .ref [.int .i64 x.to]]))] 11 (.loc 1000 0), outO 0 [], [], 44, gl⟩ : St) = σ6 := ⟨_, rfl⟩
  have hcaps := s5.env 37
  have hd5 : a5.defers = [] := s5.defers
  have hz5 : a5.tmps.size = 44 := s5.size
  obtain ⟨vs5, hv5, hr5⟩ := hcaps
  have hev : a5.eval (.tmp 37) = .func (.func nW1) #[] vs5 := by
    have hlt : 37 < a5.tmps.size := by rw [hz5]; decide
    simp [Array.getD, hlt] at hv5
    simp [Act.eval, hlt, hv5]
  rw [hσ6] at s6 hown
  have hob : σ6.objs = outO 0 [] := by rw [← hσ6]
  have hn6 : σ6.n = 44 := by rw [← hσ6]
  have hg6 : σ6.gl = gl := by rw [← hσ6]
  have hr6 : σ6.ro = [] := by rw [← hσ6]
  have he6 : getE σ6.env 11 = .loc 1000 0 := by rw [← hσ6]; rfl
  have base := s6.rebase
  let M5 : List Deferred → Ctx := fun df => ⟨OwnB σ6 β6, [(0, .loc 1000 0)], fun _ => a5.tmps.getD 11 Go.undef, df⟩
  have h11 : SVRel W5 S5 μ6 (outO 0 []) (.loc 1000 0) (a5.tmps.getD 11 Go.undef) := by
    have := base.env 11
    rw [he6, hob] at this
    exact this
  have h7 : SimG W5 S5 (M5 []) (oA gl 0 [] []) a5 W5 S5 μ6 β6 := by
    have bo := base.objs; have bi := base.inj; have bw := base.own; have bu := base.unst; have bg := base.glob
    rw [hob] at bo bi bw bu
    rw [hg6] at bg
    rw [hr6] at bu
    refine { defers := hd5, size := hz5, env := fun k => ?_, objs := bo, inj := bi, own := bw, unst := bu, stab := base.stab, ext := base.ext, back := base.back, kept := base.kept, stay := base.stay, hist := fun p hp => ?_, far := fun p hp d hd => ?_, glob := bg }
    · show SVRel W5 S5 μ6 (outO 0 []) (getE [(11, .loc 1000 0)] k) _
      simp only [getE, look]
      cases h : 11 == k with
      | true => rw [beq_iff_eq] at h; subst h; exact h11
      | false => trivial
    · obtain rfl : p = (0, .loc 1000 0) := by simpa [M5] using hp
      exact h11
    · obtain rfl : p = (0, .loc 1000 0) := by simpa [M5] using hp
      have hd : d < 44 := hd
      simp [SV.noRef]
      omega
  let I : JZ := fun i Z W => SimZ W5 S5 (M5 []) (oA gl i ((allT x).take i) []) a5 Z W
  let B : Nat → (Nat → Prop) → Act → World → Prop := fun i Z a W => SimZ W5 S5 (M5 []) (oA gl i ((allT x).take i) [(12, .val (.int .i64 ((allT x).getD i 0)))]) a Z W
  have hI0 : I 0 (fun _ => False) W5 := ⟨S5, μ6, β6, h7, fun b hb => hb.elim⟩
  refine wpIn_block (range_law (S := S5) (p := 38) hev call_W1 (fun l0 e => by cases e) rfl (within_iter x fx W5 S5 vs5 s5.stab hr5) s5.stab I (fun i Z W W' h hk => h.other hk) (Z0 := fun _ => False) (fun b hb => hb.elim) hI0 B (fun i Z a W W' h hk => h.other hk) ?_ ?_ ?_)
  · rintro l i Z W hl ⟨Sx, μx, βx, k, hz⟩ hi
    have kp := k.put (d := 38) (sv := .val (.int .i64 ((allT x).getD i 0))) (v := .int .i64 ((allT x).getD i 0)) (show 38 < 44 by decide) rfl
    have hact : a5.put (some 38) (.int .i64 ((allT x).getD i 0)) = { tmps := a5.tmps.setIfInBounds 38 (encT x i), defers := [] } := by
      simp [Act.put, hd5, encT]
    rw [hact] at kp
    exact SimZ.does (ea i ((allT x).take i) _ ga) ⟨Sx, μx, βx, kp, hz⟩
  · rintro l i Z b1 Wb hl hrec hB hi
    refine wpIn_block (wpIn_mono (SimZ.does (e7 i ((allT x).take i) _ g7 (by rw [List.length_take]; omega)) hB) ?_)
    rintro e b2 Wc ⟨rfl, ⟨Sx, μx, βx, k, hz⟩, hsame⟩
    have htk : (allT x).take (i + 1) = (allT x).take i ++ [(allT x).getD i 0] := by
      rw [List.take_add_one, List.getElem?_eq_getElem hi]
      simp [List.getD, List.getElem?_eq_getElem hi]
    rw [← htk] at k hz
    exact ⟨rfl, ⟨Sx, μx, βx, k.back' (by simp [M5]) rfl hz5 hd5, hz⟩, hsame⟩
  · rintro D Z W ⟨Sx, μx, βx, k, hz⟩ hD hsz
    obtain ⟨hZD, hWD⟩ := hD rfl
    have hk2 : SimG W5 S5 (M5 [{ target := .collected D, args := #[] }]) (oA gl (allT x).length (allT x) []) { a5 with defers := { target := .collected D, args := #[] } :: a5.defers } W Sx μx βx := by
      rw [List.take_length] at k
      exact { defers := by rw [hd5], size := k.size, env := k.env, objs := k.objs, inj := k.inj, own := k.own, unst := k.unst, stab := k.stab, ext := k.ext, back := k.back, kept := k.kept, stay := k.stay, hist := k.hist, far := k.far, glob := k.glob }
    rw [List.take_length] at hz
    show Code.wpIn _ _ _ _ _ _ _
    refine wpIn_seq (wpIn_mono (SimZ.does (e8 (allT x).length (allT x) g8) ⟨Sx, μx, βx, hk2, hz⟩) ?_)
    rintro e b3 W6 ⟨rfl, ⟨Sy, μy, βy, ky, hzy⟩, hsame⟩
    refine wpIn_ret ?_
    have hW6 : W6.heap[D]? = some (.deferred (some [])) := (hsame.1 D hZD).trans hWD
    show LeavesInM _ _ _ _ _ _ _ _ _
    rw [ky.defers]
    refine ⟨by simp, .inl ⟨D, _, rfl, run_takeDeferred hW6, ?_⟩⟩
    obtain ⟨k7, _⟩ := ky.other hzy (kept_def hW6 Z hZD)
    have k8 : SimG W5 S5 (M5 []) ⟨[(8, .own 1001 (allT x).length)], outO (allT x).length (tRows (allT x)), [], 44, gl⟩ { tmps := b3.tmps, defers := [] } (W6.putObj D (.deferred none)) Sy μy βy :=
      { defers := rfl, size := k7.size, env := k7.env, objs := k7.objs, inj := k7.inj, own := k7.own, unst := k7.unst, stab := k7.stab, ext := k7.ext, back := k7.back, kept := k7.kept, stay := k7.stay, hist := k7.hist, far := k7.far, glob := k7.glob }
    have F := s6.unbase k8 rfl (fun p hp => by simp [Ctx.nothing] at hp) (fun p hp => by simp [Ctx.nothing] at hp)
    have hl1 : look (outO (allT x).length (tRows (allT x))) 1001 = some (.arr (allT x).length 1 (tRows (allT x))) := rfl
    have hv : b3.tmps.getD 8 Go.undef = μy 1001 := by
      have := F.env 8
      exact (this _ _ _ hl1).2 rfl
    refine ⟨b3.tmps.getD 8 Go.undef, by simp [results, Tryz.f249], ?_⟩
    refine ⟨_, Sy, rfl, ⟨βy 1001, ?_, fun b hb => ⟨?_, fun off hS => ?_⟩⟩, F.ext, fun b o hb => ?_, F.stab, F.kept⟩
    · rw [hv]; exact F.objs 1001 _ hl1
    · rcases F.own 1001 _ b hl1 hb with q | q
      · exact q
      · exact q.elim
    · have := (F.unst 1001 _ b off hl1 hb hS).1
      simp at this
    · rcases F.back b o hb with q | q | q
      · exact .inl q
      · exact .inr q
      · exact q.elim
end Go.Vs.YtcohndmpimkjpaaGreatDoor.Vt
