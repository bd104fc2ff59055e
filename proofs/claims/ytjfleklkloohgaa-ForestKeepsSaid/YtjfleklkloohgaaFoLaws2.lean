/- The walk of the forest's statements, part 2. No conditions. -/
import Derived.Test.YtjfleklkloohgaaFoLaws1
import Derived.Test.YtjfleklkloohgaaFoPlain3
namespace Go.Vs.Ytjfleklkloohgaa
set_option linter.unusedSimpArgs false
set_option linter.unusedVariables false
open Go.Proofs Go.Vs.Fo
set_option maxRecDepth 100000
set_option maxHeartbeats 4000000
theorem fn_ForestUnder (l : Prs) (a b : Str) : Fn [] Try.prog k_law32_ForestUnder [.slice (ps l), .str a, .str b] (.bool true) := by
  refine fn_intro hm ok_law32_ForestUnder (by simp) ?_
  simp [c_law32_ForestUnder, r_law32_ForestUnder]
  refine callW_imm (fn_Few l) ?_
  cases hf : fewB l
  · simp
    refine callW_imm fn_awake ?_
    simp
  simp
  refine brd (fun ha => ?_) (fun ha => ?_)
  · simp
    refine callW_imm fn_awake ?_
    simp
  simp
  refine brd (fun hb => ?_) (fun hb => ?_)
  · simp
    refine callW_imm fn_awake ?_
    simp
  have hl3 := few_len hf
  have hl : l.length < 1000000 := by omega
  simp
  refine callW_imm (fn_Own l hl) ?_
  simp
  refine callW_imm (fn_Check l hl) ?_
  simp
  refine brd (fun h => ?_) (fun h => ?_)
  case refine_2 =>
    simp
    refine callW_imm (fn_Path l a hl) ?_
    simp [chk_ne h]
    refine callW_imm (fn_Under l a hl) ?_
    simp [chk_ne h]
    refine callW_imm fn_awake ?_
    simp
  have hF := forest_iff.1 h
  have hP : ∀ n, path l n = Forest.climb l n := fun n => by simp [path, h, Forest.climb]
  have hU : under l a = sub l l.length a := by simp [under, h]
  have hPl : ∀ n, (path l n).length ≤ l.length := fun n => by rw [hP]; exact hF.low n
  have hUl : (under l a).length ≤ l.length := by rw [hU]; exact hF.sub_len _ a
  have hUa : a ∉ under l a := by
    rw [hU]; intro hh
    have := List.count_pos_iff.2 hh
    rw [count_under hF] at this
    exact hF.not_self a (List.count_pos_iff.1 this)
  have hUb : (under l a).count b = (path l b).count a := by rw [hU, hP]; exact count_under hF a b
  have hPc : (path l b).count a ≤ 1 := by rw [hP]; exact List.nodup_iff_count.1 (hF.nodup b) a
  simp
  refine callW_imm (fn_Path l b hl) ?_
  simp
  refine loopW hm (fun x : Nat × Nat => ⟨[(10, .val (.int .i64 x.1)), (8, .val (.int .i64 x.2)), (9, .val (.slice (ts (path l b)))), (7, .val (.slice (ps l))), (1, .val (.str a)), (2, .val (.str b))], [], [], 126, []⟩)
    (fun x => x.1 ≤ (path l b).length ∧ x.2 = ((path l b).take x.1).count a) (fun x => (path l b).length - x.1) (0, 0) ⟨by simp, by simp⟩ (by exact weak_drop rfl rfl (by simp [EnvLe, getE, look]) (by simp [ObLe, look]) (by simp [roOk])) (fun _ => rfl) ?_
  rintro ⟨i, n⟩ ⟨h1, h2⟩
  simp only at h1 h2
  have hpl := hPl b
  have hn : n ≤ i := by rw [h2]; exact Nat.le_trans List.count_le_length (by rw [List.length_take]; omega)
  have hwn : IntKind.i64.wrap ((n : Int) + 1) = ((n + 1 : Nat) : Int) := by rw [IntKind.wrap_i64]; omega
  have hwi : IntKind.i64.wrap ((i : Int) + 1) = ((i + 1 : Nat) : Int) := by rw [IntKind.wrap_i64]; omega
  simp
  refine brd (fun hi => ?_) (fun hi => ?_)
  · have hc := count_take hi a
    simp [ts_get hi]
    refine brd (fun e => ?_) (fun e => ?_)
    · rw [if_pos e] at hc
      simp [hwi, hwn]
      exact loopEnd (i + 1, n + 1) ⟨by simp; omega, by simp [hc, h2]⟩ (by simp; omega) (by exact weak_drop rfl rfl (by simp [EnvLe, getE, look]) (by simp [ObLe, look]) (by simp [roOk]))
    · rw [if_neg e] at hc
      simp [hwi]
      exact loopEnd (i + 1, n) ⟨by simp; omega, by simp [hc, h2]⟩ (by simp; omega) (by exact weak_drop rfl rfl (by simp [EnvLe, getE, look]) (by simp [ObLe, look]) (by simp [roOk]))
  obtain rfl : i = (path l b).length := by omega
  rw [List.take_length] at h2
  clear hwi hi h1
  simp
  refine callW_imm (fn_Under l a hl) ?_
  simp
  refine loopW hm (fun x : Nat × Nat => ⟨[(13, .val (.int .i64 x.1)), (11, .val (.int .i64 x.2)), (12, .val (.slice (ts (under l a)))), (8, .val (.int .i64 n)), (9, .val (.slice (ts (path l b)))), (7, .val (.slice (ps l))), (1, .val (.str a)), (2, .val (.str b))], [], [], 126, []⟩)
    (fun x => x.1 ≤ (under l a).length ∧ x.2 = ((under l a).take x.1).count b) (fun x => (under l a).length - x.1) (0, 0) ⟨by simp, by simp⟩ (by exact weak_drop rfl rfl (by simp [EnvLe, getE, look]) (by simp [ObLe, look]) (by simp [roOk])) (fun _ => rfl) ?_
  rintro ⟨i, m⟩ ⟨h1, h3⟩
  simp only at h1 h3
  have hmi : m ≤ i := by rw [h3]; exact Nat.le_trans List.count_le_length (by rw [List.length_take]; omega)
  have hwm : IntKind.i64.wrap ((m : Int) + 1) = ((m + 1 : Nat) : Int) := by rw [IntKind.wrap_i64]; omega
  have hwi : IntKind.i64.wrap ((i : Int) + 1) = ((i + 1 : Nat) : Int) := by rw [IntKind.wrap_i64]; omega
  simp
  refine brd (fun hi => ?_) (fun hi => ?_)
  · have hc := count_take hi b
    have hne : ¬ (under l a)[i] = a := fun e => hUa (by have := List.getElem_mem hi; rw [e] at this; exact this)
    simp [ts_get hi]
    refine brd (fun e => ?_) (fun e => ?_)
    · rw [if_pos e] at hc
      simp [ts_get hi, hwi, hwm, hne]
      exact loopEnd (i + 1, m + 1) ⟨by simp; omega, by simp [hc, h3]⟩ (by simp; omega) (by exact weak_drop rfl rfl (by simp [EnvLe, getE, look]) (by simp [ObLe, look]) (by simp [roOk]))
    · rw [if_neg e] at hc
      simp [ts_get hi, hwi, hne]
      exact loopEnd (i + 1, m) ⟨by simp; omega, by simp [hc, h3]⟩ (by simp; omega) (by exact weak_drop rfl rfl (by simp [EnvLe, getE, look]) (by simp [ObLe, look]) (by simp [roOk]))
  obtain rfl : i = (under l a).length := by omega
  rw [List.take_length] at h3
  have hnm : n = m := by omega
  have hn1 : n ≤ 1 := by omega
  simp
  refine callW_imm (fn_Up l b hl) ?_
  cases hu : up l b with
  | none =>
    have hp0 : path l b = [] := by rw [hP]; exact Forest.root hu
    simp [upT, hp0]
    refine brd (fun _ => ?_) (fun hh => absurd (by rw [hnm]) hh)
    simp
    refine brd (fun _ => ?_) (fun hh => absurd (by omega) hh)
    simp
    refine callW_imm fn_awake ?_
    simp
  | some u =>
    have hr : (path l b).length = (path l u).length + 1 := by rw [hP, hP]; exact hF.rank hu
    have hwu : IntKind.i64.wrap (((path l u).length : Int) + 1) = ((path l u).length : Int) + 1 := by have := hPl u; rw [IntKind.wrap_i64]; omega
    simp [upT]
    refine callW_imm (fn_Path l u hl) ?_
    simp [hwu, hr]
    refine brd (fun _ => ?_) (fun hh => absurd (by rw [hnm]) hh)
    simp
    refine brd (fun _ => ?_) (fun hh => absurd (by omega) hh)
    simp
    refine callW_imm fn_awake ?_
    simp
theorem fn_ForestKeeps (rows : List (List IV)) (hr : ∀ r ∈ rows, ∃ (k : Bool) (a b : Str), r = [.bool k, .str a, .str b]) : Fn [] Try.prog k_law32_ForestKeeps [.slice rows] (.bool true) := by
  refine fn_intro hm ok_law32_ForestKeeps (by simp) ?_
  simp [c_law32_ForestKeeps, r_law32_ForestKeeps]
  refine brd (fun h => ?_) (fun h => ?_)
  · simp
    refine callW_imm fn_awake ?_
    simp
  have h40 : rows.length ≤ 40 := by omega
  simp
  refine loopW hm (fun x : Nat × Prs => ⟨[(4, .val (.int .i64 x.1)), (3, .val (.slice (ps x.2))), (0, .val (.slice rows))], [], [], 147, []⟩)
    (fun x => x.1 ≤ rows.length ∧ x.2.length ≤ x.1 ∧ Forest x.2) (fun x => rows.length - x.1) (0, []) ⟨by simp, by simp, forest_iff.1 (by decide)⟩ ?_ (fun _ => rfl) ?_
  · refine Weak.trans (weak_adopt (k := 3) 3 2 (by simp) (by simp [getE, look])) ?_
    refine Weak.trans (weak_freeze (k := 3) (id := 3) (ver := 0) (s := 2) (rows := []) (by simp [St.adopt, getE, look, put, eraseE, SV.erase]) (by simp [St.adopt, look, put, eraseO, Ob.erase])) ?_
    exact weak_drop rfl rfl (by simp [St.adopt, EnvLe, getE, look, put, eraseE, SV.erase]) (by simp [St.adopt, ObLe, look, put, eraseO, Ob.erase]) (by simp [St.adopt, roOk])
  rintro ⟨i, g⟩ ⟨h1, h2, hF⟩
  simp only at h1 h2 hF
  have hg := forest_iff.2 hF
  have hgl : g.length < 1000000 := by omega
  simp
  refine brd (fun hi => ?_) (fun hi => ?_)
  case refine_2 =>
    simp
    refine callW_imm fn_awake ?_
    simp
  have hi : i < rows.length := by omega
  obtain ⟨k, a, b, hk⟩ := hr rows[i] (List.getElem_mem hi)
  have hrow : rows[i]? = some [.bool k, .str a, .str b] := by rw [List.getElem?_eq_getElem hi, hk]
  have hwi : IntKind.i64.wrap ((i : Int) + 1) = ((i + 1 : Nat) : Int) := by rw [IntKind.wrap_i64]; omega
  simp [hrow]
  refine brd (fun ha => ?_) (fun ha => ?_)
  · simp
    refine callW_imm fn_awake ?_
    simp
  simp [hrow]
  refine brd (fun hb => ?_) (fun hb => ?_)
  · simp
    refine callW_imm fn_awake ?_
    simp
  simp [hrow]
  refine callW_imm (fn_Up g a hgl) ?_
  have fin : ∀ m : Prs, m.length ≤ g.length + 1 → Forest m → ∃ j : Nat × Prs, (j.1 ≤ rows.length ∧ j.2.length ≤ j.1 ∧ Forest j.2) ∧ rows.length - j.1 < rows.length - i ∧ j = (i + 1, m) := fun m hm' hFm => ⟨_, ⟨by simp; omega, by simp; omega, hFm⟩, by simp; omega, rfl⟩
  have hcl : Forest.climb g b = path g b := by simp [path, hg, Forest.climb]
  cases k
  · cases hu : up g a with
    | some u =>
      have hs : setF g a b = (g, 12) := by simp [setF, hg, hu]
      simp [upT, hrow, hu]
      refine callW_imm (fn_Set g a b hgl) ?_
      simp [chgT, hs, hrow]
      refine ⟨rfl, ?_⟩
      refine callW_imm (fn_Up g a hgl) ?_
      simp [upT, hu]
      refine callW_imm (fn_Check g hgl) ?_
      simp [hg, hrow, hwi]
      obtain ⟨j, j1, j2, rfl⟩ := fin g (by omega) hF
      exact loopEnd _ j1 j2 (by exact weak_drop rfl rfl (by simp [EnvLe, getE, look]) (by simp [ObLe, look]) (by simp [roOk]))
    | none =>
      by_cases hc : a = b ∨ a ∈ path g b
      · have hs : setF g a b = (g, 14) := by simp [setF, hg, hu, hc]
        simp [upT, hrow, hu]
        refine callW_imm (fn_Set g a b hgl) ?_
        simp [chgT, hs, hrow]
        refine ⟨rfl, ?_⟩
        refine callW_imm (fn_Up g a hgl) ?_
        simp [upT, hu]
        refine callW_imm (fn_Check g hgl) ?_
        simp [hg, hrow, hwi]
        obtain ⟨j, j1, j2, rfl⟩ := fin g (by omega) hF
        exact loopEnd _ j1 j2 (by exact weak_drop rfl rfl (by simp [EnvLe, getE, look]) (by simp [ObLe, look]) (by simp [roOk]))
      · have hs : setF g a b = (g ++ [(a, b)], 0) := by simp [setF, hg, hu, hc]
        have hF' : Forest (g ++ [(a, b)]) := keep_set hF hu (fun e => hc (.inl e)) (fun e => hc (.inr (hcl ▸ e)))
        have hg' := forest_iff.2 hF'
        have hgl' : (g ++ [(a, b)]).length < 1000000 := by simp; omega
        have hu' : up (g ++ [(a, b)]) a = some b := by rw [up_snoc hu]; simp
        simp [upT, hrow, hu]
        refine callW_imm (fn_Set g a b hgl) ?_
        simp [chgT, hs, hrow]
        refine ⟨rfl, ?_⟩
        refine callW_imm (fn_Up (g ++ [(a, b)]) a hgl') ?_
        simp [upT, hu']
        refine callW_imm (fn_Check (g ++ [(a, b)]) hgl') ?_
        simp [hg', hrow, hwi]
        obtain ⟨j, j1, j2, rfl⟩ := fin (g ++ [(a, b)]) (by simp) hF'
        exact loopEnd _ j1 j2 (by exact weak_drop rfl rfl (by simp [EnvLe, getE, look]) (by simp [ObLe, look]) (by simp [roOk]))
  · cases hu : up g a with
    | none =>
      have hs : cutF g a = (g, 6) := by simp [cutF, hg, hu]
      simp [upT, hrow, hu]
      refine callW_imm (fn_Cut g a hgl) ?_
      simp [chgT, hs, hrow]
      refine callW_imm (fn_Up g a hgl) ?_
      simp [upT, hu]
      refine callW_imm (fn_Check g hgl) ?_
      simp [hg, hrow, hwi]
      obtain ⟨j, j1, j2, rfl⟩ := fin g (by omega) hF
      exact loopEnd _ j1 j2 (by exact weak_drop rfl rfl (by simp [EnvLe, getE, look]) (by simp [ObLe, look]) (by simp [roOk]))
    | some u =>
      have hs : cutF g a = (cutL a g, 0) := by simp [cutF, hg, hu]
      have hF' : Forest (cutL a g) := keep_cut hF a
      have hg' := forest_iff.2 hF'
      have hln : (cutL a g).length ≤ g.length := List.length_filter_le _ _
      have hgl' : (cutL a g).length < 1000000 := by omega
      have hu' : up (cutL a g) a = none := cut_up a
      simp [upT, hrow, hu]
      refine callW_imm (fn_Cut g a hgl) ?_
      simp [chgT, hs, hrow]
      refine callW_imm (fn_Up (cutL a g) a hgl') ?_
      simp [upT, hu']
      refine callW_imm (fn_Check (cutL a g) hgl') ?_
      simp [hg', hrow, hwi]
      obtain ⟨j, j1, j2, rfl⟩ := fin (cutL a g) (by omega) hF'
      exact loopEnd _ j1 j2 (by exact weak_drop rfl rfl (by simp [EnvLe, getE, look]) (by simp [ObLe, look]) (by simp [roOk]))
end Go.Vs.Ytjfleklkloohgaa
