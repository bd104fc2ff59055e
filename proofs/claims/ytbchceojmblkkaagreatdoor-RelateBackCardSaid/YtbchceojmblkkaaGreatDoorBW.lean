/- The walk of param, part 15: parameters read. No conditions. -/
import Derived.Test.YtbchceojmblkkaaGreatDoorBO
set_option linter.unusedVariables false
set_option linter.unusedSimpArgs false
namespace Go.Vs.YtbchceojmblkkaaGreatDoor
set_option linter.unusedSimpArgs false
set_option linter.unusedVariables false
open Go.Proofs Go.Vs.U8 Go.Vs.Pa
set_option maxRecDepth 100000
set_option maxHeartbeats 8000000
theorem checked_ok {raw : Str} {a f : Nat} {v : Str} {n : Nat} (h : checked raw a f = .ok v n) : v.length ≤ 60 := by
  simp only [checked] at h
  split at h
  · cases h
  · split at h
    · cases h
    · cases h; omega
theorem valueR_v {s : Str} {a : Nat} {v : Str} {n : Nat} (h : valueR s a = .ok v n) : v.length ≤ 60 := by
  simp only [valueR] at h
  split at h
  · split at h
    · cases h
    · split at h
      · cases h
      · next hc =>
        split at h
        · cases h; exact checked_ok hc
        · cases h
  · split at h
    · cases h
    · split at h
      · cases h
      · next hc => cases h; exact checked_ok hc
theorem valsR_ok (s : Str) : ∀ (m a : Nat) (vs : List Str) (v : List Str) (n : Nat), a ≤ s.length → (∀ x ∈ vs, x.length ≤ 60) → valsR s m a vs = .ok v n → n ≤ s.length ∧ v.length ≤ vs.length + m ∧ (∀ x ∈ v, x.length ≤ 60)
  | 0, a, vs, v, n, _, _, h => by simp [valsR] at h
  | m + 1, a, vs, v, n, ha, hvs, h => by
    simp only [valsR] at h
    cases hg : valueR s a with
    | no e p => rw [hg] at h; cases h
    | ok x j =>
      rw [hg] at h
      have hj := valueR_le ha hg
      have hx := valueR_v hg
      have hvs' : ∀ y ∈ vs ++ [x], y.length ≤ 60 := by
        intro y hy
        rcases List.mem_append.1 hy with hy | hy
        · exact hvs y hy
        · rw [List.mem_singleton.1 hy]; exact hx
      simp only at h
      split at h
      · next h44 =>
        obtain ⟨h1, _⟩ := List.getElem?_eq_some_iff.1 h44
        have := valsR_ok s m (j + 1) (vs ++ [x]) v n (by omega) hvs' h
        simp at this
        exact ⟨this.1, by omega, this.2.2⟩
      · cases h
        refine ⟨hj, by simp, hvs'⟩
theorem oneR_ok {s : Str} {a : Nat} {l : List Pm} {p : Pm} {n : Nat} (h : oneR s a l = .ok p n) : n ≤ s.length ∧ p.n.length ≤ 24 ∧ p.v.length ≤ 6 ∧ (∀ x ∈ p.v, x.length ≤ 60) := by
  simp only [oneR] at h
  split at h
  · cases h
  · next hk =>
    split at h
    · cases h
    · split at h
      · next h61 =>
        obtain ⟨h1, _⟩ := List.getElem?_eq_some_iff.1 h61
        cases hv : valsR s 6 (a + named (s.drop a) + 1) [] with
        | no e p => rw [hv] at h; cases h
        | ok v j =>
          rw [hv] at h
          cases h
          have := valsR_ok s 6 _ [] v n (by omega) (by simp) hv
          refine ⟨this.1, ?_, by simpa using this.2.1, this.2.2⟩
          show (upper _).length ≤ 24
          rw [upper_len, List.length_take]
          omega
      · cases h
inductive GotL where
  | no (e : Int) (p : Int)
  | ok (l : List Pm) (n : Nat)
def parseR (s : Str) : Nat → Nat → List Pm → GotL
  | 0, a, out => if s[a]? = some 59 then .no 20 a else .ok out a
  | m + 1, a, out => if s[a]? = some 59 then (match oneR s (a + 1) out with
    | .no e p => .no e p
    | .ok p n => parseR s m n (out ++ [p])) else .ok out a
def parseI : GotL → IV
  | .no e p => .tuple [.slice (ps []), .int .i64 0, errIV e [p]]
  | .ok l n => .tuple [.slice (ps l), .int .i64 n, .nili]
def Sml (l : List Pm) : Prop := ∀ p ∈ l, p.n.length ≤ 24 ∧ p.v.length ≤ 6 ∧ (∀ x ∈ p.v, x.length ≤ 60)
theorem Sml.fit {l : List Pm} (h : Sml l) : Fit l := ⟨fun p hp => by have := (h p hp).1; omega, fun p hp => by have := (h p hp).2.1; omega, fun p hp x hx => by have := (h p hp).2.2 x hx; omega⟩
theorem Sml.snoc {l : List Pm} {p : Pm} (h : Sml l) (hp : p.n.length ≤ 24 ∧ p.v.length ≤ 6 ∧ (∀ x ∈ p.v, x.length ≤ 60)) : Sml (l ++ [p]) := by
  intro q hq
  rcases List.mem_append.1 hq with hq | hq
  · exact h q hq
  · rw [List.mem_singleton.1 hq]; exact hp
theorem ps_snoc (l : List Pm) (p : Pm) : ps (l ++ [p]) = ps l ++ [[.str p.n, .slice (ts p.v)]] := by simp [ps]
/-- A loop in which some arrays are seen by others. -/
theorem loopUR {P : Program} (hm : P.follows .mixedOrders = true) {ι : Type} (D : List Nat) (ro : List Nat) (E : ι → List (Nat × SV)) (O : ι → List (Nat × Ob)) (A : ι → Prop) (m : ι → Nat) (i0 : ι) {b : VCode} {Q : Exit → St → Prop} {σ : St} (hA : A i0) (h0 : Weak σ { σ.upd D (E i0) (O i0) with ro := ro })
    (round : ∀ i, A i → pw P b (fun e σ' => match e with
      | .normal => @LoopEnd ι σ' (m i) ⟨fun i => { σ.upd D (E i) (O i) with ro := ro }⟩ ⟨A⟩ ⟨m⟩
      | e => Q e σ') { σ.upd D (E i) (O i) with ro := ro }) : @TVW P σ ⟨.loop b⟩ ⟨Q⟩ := loopW hm (fun i => { σ.upd D (E i) (O i) with ro := ro }) A m i0 hA h0 (fun _ => _root_.id rfl) round
theorem fn_Parse (s : Str) (hs : s.length < 100000) : Fn G Tryz.prog k_param_Parse [.str s] (parseI (parseR s 6 0 [])) := by
  obtain ⟨R, hRR⟩ : ∃ R, parseR s 6 0 [] = R := ⟨_, rfl⟩
  rw [hRR]
  refine fn_intro hm ok_param_Parse (by simp) ?_
  simp [c_param_Parse, r_param_Parse]
  refine loopUR hm [] [5] (fun x : Nat × List Pm => [(6, .val (.int .i64 x.1)), (5, .own 5 x.2.length)]) (fun x => [(5, .arr x.2.length 2 (ps x.2))]) (fun x => x.1 ≤ s.length ∧ x.2.length ≤ 6 ∧ Sml x.2 ∧ parseR s (6 - x.2.length) x.1 x.2 = R) (fun x => 6 - x.2.length) (0, []) ⟨by simp, by simp, by intro p hp; simp at hp, by simpa using hRR⟩ ?_ ?_
  · simp [ps]
    exact Weak.trans (weak_adopt (k := 5) 5 2 (by simp) (by simp [getE, look])) (weak_drop rfl rfl (by simp [St.adopt, EnvLe, getE, look, put, eraseE, SV.erase]) (by simp [St.adopt, ObLe, look, put, eraseO, Ob.erase]) (by simp [St.adopt, roOk]))
  rintro ⟨t, out⟩ ⟨ht, hol, hsm, hst⟩
  simp at ht hol hst
  have ht1 : (0 : Int) ≤ (t : Int) + 1 := by omega
  simp [ps_len]
  by_cases h59 : s[t]? = some 59
  · obtain ⟨htl, hce⟩ := List.getElem?_eq_some_iff.1 h59
    by_cases h6 : out.length = 6
    · have hE := fn_New 20 (t : Int)
      rw [if_neg (by omega)] at hE
      have hno : parseR s (6 - out.length) t out = .no 20 t := by rw [h6]; simp [parseR, h59]
      rw [← hst, hno]
      simp (disch := omega) [br_yes, br_no, wrap_i64, wrap_u8, wrap_i32, List.getElem?_cons_zero, List.getElem?_cons_succ, hce, ps_len, h6]
      refine callW_imm hE ?_
      simp [parseI, ps]
    · obtain ⟨m, hm6⟩ : ∃ m, 6 - out.length = m + 1 := ⟨5 - out.length, by omega⟩
      obtain ⟨r, hr1, hr2⟩ := fn_one s (t + 1) out hs (by omega) (by omega) hsm.fit
      rw [show ((t + 1 : Nat) : Int) = (t : Int) + 1 by omega] at hr1
      rw [hm6] at hst
      rw [parseR, if_pos h59] at hst
      cases hg : oneR s (t + 1) out with
      | no e p =>
        rw [hg] at hst hr2
        simp only [TellsP] at hr2
        have hst' : GotL.no e p = R := hst
        rw [← hst']
        subst hr2
        obtain ⟨et, ev, he⟩ := errIV_not_nil e [p]
        rw [he] at hr1
        have hPI : parseI (.no e p) = .tuple [.slice (ps []), .int .i64 0, .iface et ev] := by rw [← he]; rfl
        rw [hPI]
        simp (disch := omega) [br_yes, br_no, wrap_i64, wrap_u8, wrap_i32, List.getElem?_cons_zero, List.getElem?_cons_succ, hce, ps_len, Pm.iv]
        refine callW_imm hr1 ?_
        simp (disch := omega) [br_yes, br_no, wrap_i64, wrap_u8, wrap_i32, List.getElem?_cons_zero, List.getElem?_cons_succ, Pm.iv]
        try rfl
      | ok p n =>
        rw [hg] at hst hr2
        have hst2 : parseR s m n (out ++ [p]) = R := hst
        simp only [TellsP] at hr2
        subst hr2
        have hok := oneR_ok hg
        simp (disch := omega) [br_yes, br_no, wrap_i64, wrap_u8, wrap_i32, List.getElem?_cons_zero, List.getElem?_cons_succ, hce, ps_len, Pm.iv]
        refine callW_imm hr1 ?_
        simp (disch := omega) [br_yes, br_no, wrap_i64, wrap_u8, wrap_i32, List.getElem?_cons_zero, List.getElem?_cons_succ, Pm.iv]
        refine ⟨by rw [ps_len]; omega, ?_⟩
        refine loopEnd (n, out ++ [p]) ⟨hok.1, by simp; omega, hsm.snoc hok.2, by rw [show 6 - (out ++ [p]).length = m by simp; omega]; exact hst2⟩ (by simp; omega) ?_
        simp [ps_snoc]
        exact weak_drop rfl rfl (by simp [EnvLe, getE, look]) (by simp [ObLe, look]) (by simp [roOk])
  · have hok : parseR s (6 - out.length) t out = .ok out t := by
      cases 6 - out.length <;> simp [parseR, h59]
    rw [← hst, hok]
    by_cases htl : t < s.length
    · obtain ⟨c, hc⟩ : ∃ c, s[t] = c := ⟨_, rfl⟩
      have hcn : c.toNat ≠ 59 := fun e => h59 (by rw [List.getElem?_eq_getElem htl, hc, UInt8.toNat_inj.1 (show c.toNat = (59 : UInt8).toNat from e)])
      simp (disch := omega) [br_yes, br_no, wrap_i64, wrap_u8, wrap_i32, List.getElem?_cons_zero, List.getElem?_cons_succ, hc, parseI]
    · simp (disch := omega) [br_yes, br_no, wrap_i64, wrap_u8, wrap_i32, List.getElem?_cons_zero, List.getElem?_cons_succ, parseI]
end Go.Vs.YtbchceojmblkkaaGreatDoor
