/- Plain mathematics of parameters, further: what is printed is parsed as it was; what is parsed may be; where parsing ends. No conditions. -/
import Derived.Test.YtbchceojmblkkaaGreatDoorBP
import Derived.Test.YtbchceojmblkkaaGreatDoorBM
import Derived.Test.YtbchceojmblkkaaGreatDoorBX
set_option linter.unusedVariables false
set_option linter.unusedSimpArgs false
namespace Go.Vs.YtbchceojmblkkaaGreatDoor
set_option linter.unusedSimpArgs false
set_option linter.unusedVariables false
open Go.Proofs Go.Vs.U8 Go.Vs.Pa
theorem run_spec (p : UInt8 → Bool) : ∀ x : Str, (∀ i, i < run p x → ∃ c, x[i]? = some c ∧ p c = true) ∧ ∀ c, x[run p x]? = some c → p c = false
  | [] => ⟨fun i h => by simp [run] at h, fun c h => by simp at h⟩
  | d :: r => by
    obtain ⟨h1, h2⟩ := run_spec p r
    simp only [run]
    split
    · next hd =>
      refine ⟨fun i hi => ?_, fun c hc => h2 c (by simpa using hc)⟩
      cases i with
      | zero => exact ⟨d, rfl, hd⟩
      | succ i => simpa using h1 i (by omega)
    · next hd =>
      refine ⟨fun i hi => by omega, fun c hc => ?_⟩
      simp at hc; subst hc; simpa using hd
theorem run_of {p : UInt8 → Bool} : ∀ {x : Str} {k : Nat}, (∀ i, i < k → ∃ c, x[i]? = some c ∧ p c = true) → (∀ c, x[k]? = some c → p c = false) → run p x = k
  | [], k, h1, _ => by
    cases k with
    | zero => rfl
    | succ k => obtain ⟨c, hc, _⟩ := h1 0 (by omega); simp at hc
  | d :: r, 0, _, h2 => by
    have := h2 d rfl
    simp [run, this]
  | d :: r, k + 1, h1, h2 => by
    obtain ⟨c, hc, hp⟩ := h1 0 (by omega)
    simp at hc; subst hc
    have := run_of (x := r) (k := k) (fun i hi => by simpa using h1 (i + 1) (by omega)) (fun c hc => h2 c (by simpa using hc))
    simp [run, hp, this]
theorem run_app {p : UInt8 → Bool} {x y : Str} (h1 : ∀ c ∈ x, p c = true) (h2 : ∀ c, y[0]? = some c → p c = false) : run p (x ++ y) = x.length := by
  refine run_of (fun i hi => ?_) (fun c hc => ?_)
  · refine ⟨x[i], by rw [List.getElem?_append_left hi, List.getElem?_eq_getElem hi], h1 _ (List.getElem_mem hi)⟩
  · rw [List.getElem?_append_right (Nat.le_refl _), Nat.sub_self] at hc
    exact h2 c hc
theorem named_run : ∀ s : Str, named s = run nmd s
  | [] => rfl
  | c :: r => by simp only [named, run, named_run r]
theorem at_app (x y : Str) : (x ++ y)[x.length]? = y[0]? := by rw [List.getElem?_append_right (Nat.le_refl _), Nat.sub_self]
theorem drop_app (x y : Str) : (x ++ y).drop x.length = y := by simp
/-- What may stand behind a value. -/
def endsV (r : Str) : Prop := ∀ c, r[0]? = some c → stp c = true
theorem valueR_write {pre v rest : Str} (hv : v.length ≤ 60) (hf : fineB v = true) (hr : endsV rest) : valueR (pre ++ (write v ++ rest)) pre.length = .ok v (pre.length + (write v).length) := by
  have hcl : odd (esc v) = none := esc_clean _ v (Nat.le_refl _) (by simpa [fineB] using hf)
  have hch : ∀ a f, checked (esc v) a f = .ok v 0 := by
    intro a f
    have hme := Pa.meant_esc v
    simp only [checked, hcl]
    rw [hme, if_neg (by omega)]
  cases hs : v.any stp with
  | true =>
    have hw : write v = 34 :: (esc v ++ [34]) := by simp [write, hs]
    have h0 : (pre ++ (write v ++ rest))[pre.length]? = some 34 := by rw [at_app, hw]; rfl
    have hd : (pre ++ (write v ++ rest)).drop (pre.length + 1) = esc v ++ 34 :: rest := by
      rw [← List.drop_drop, drop_app, hw]; simp
    have hrun : run notq (esc v ++ 34 :: rest) = (esc v).length := run_app (fun c hc => by simp [notq, esc_no34 v c hc]) (fun c hc => by simp at hc; subst hc; rfl)
    simp only [valueR]
    rw [if_pos h0, hd, hrun, if_neg (by simp), List.take_left, hch]
    have hst : stopAt (pre ++ (write v ++ rest)) (pre.length + (esc v).length + 2) = true := by
      unfold stopAt
      have : (pre ++ (write v ++ rest))[pre.length + (esc v).length + 2]? = rest[0]? := by
        rw [hw, List.getElem?_append_right (by omega), show pre.length + (esc v).length + 2 - pre.length = ((esc v).length + 1) + 1 by omega, List.cons_append, List.getElem?_cons_succ, List.append_assoc,
          List.getElem?_append_right (by omega), show (esc v).length + 1 - (esc v).length = 0 + 1 by omega]
        simp
      rw [this]
      cases hc : rest[0]? with
      | none => rfl
      | some c => exact hr c hc
    simp only
    rw [if_pos hst, hw]
    simp
    omega
  | false =>
    have hw : write v = esc v := by simp [write, hs]
    rw [hw]
    have h34 : ∀ c, (pre ++ (esc v ++ rest))[pre.length]? = some c → c.toNat ≠ 34 := by
      intro c hc
      rw [at_app] at hc
      cases he : esc v with
      | nil =>
        rw [he, List.nil_append] at hc
        have := hr c hc
        intro e
        simp [stp] at this
        omega
      | cons d r =>
        rw [he] at hc
        simp at hc; subst hc
        exact esc_no34 v d (by rw [he]; simp)
    have hrun : run plain (esc v ++ rest) = (esc v).length := run_app (fun c hc => by simp [plain, notq, esc_no34 v c hc, esc_nostp v hs c hc]) (fun c hc => by simp [plain, hr c hc])
    simp only [valueR]
    rw [if_neg (fun e => h34 34 e rfl), drop_app, hrun, if_neg, List.take_left, hch]
    intro e
    rw [List.getElem?_append_right (by omega), show pre.length + (esc v).length - pre.length = (esc v).length by omega, at_app] at e
    have := hr _ e
    exact absurd this (by decide)
def headOk (r : Str) : Prop := ∀ c, r[0]? = some c → stp c = true ∧ c.toNat ≠ 44
theorem valsR_write : ∀ (r : List Str) (v : Str) (pre rest : Str) (m : Nat) (vs : List Str), (∀ x ∈ v :: r, x.length ≤ 60 ∧ fineB x = true) → headOk rest → r.length + 1 ≤ m →
    valsR (pre ++ (write v ++ (Go.Lib.joinTail [44] (r.map write) ++ rest))) m pre.length vs = .ok (vs ++ v :: r) (pre.length + ((write v).length + (Go.Lib.joinTail [44] (r.map write)).length))
  | r, v, pre, rest, 0, vs, _, _, hm => by omega
  | [], v, pre, rest, m + 1, vs, hv, hr, hm => by
    have h1 := hv v (by simp)
    have := valueR_write (pre := pre) (v := v) (rest := rest) h1.1 h1.2 (fun c hc => (hr c hc).1)
    simp only [List.map_nil, Go.Lib.joinTail, List.flatten_nil, List.nil_append, valsR, this, List.length_nil, Nat.add_zero]
    rw [if_neg]
    intro e
    rw [← List.append_assoc, show pre.length + (write v).length = (pre ++ write v).length by simp, at_app] at e
    exact (hr _ e).2 rfl
  | w :: r, v, pre, rest, m + 1, vs, hv, hr, hm => by
    have h1 := hv v (by simp)
    obtain ⟨tail, ht⟩ : ∃ tail, Go.Lib.joinTail [44] ((w :: r).map write) ++ rest = tail := ⟨_, rfl⟩
    have htail : tail = 44 :: (write w ++ (Go.Lib.joinTail [44] (r.map write) ++ rest)) := by rw [← ht]; simp [Go.Lib.joinTail]
    have hends : endsV tail := by rw [htail]; intro c hc; simp at hc; subst hc; decide
    have := valueR_write (pre := pre) (v := v) (rest := tail) h1.1 h1.2 hends
    rw [ht]
    simp only [valsR, this]
    have h44 : (pre ++ (write v ++ tail))[pre.length + (write v).length]? = some 44 := by
      rw [← List.append_assoc, show pre.length + (write v).length = (pre ++ write v).length by simp, at_app, htail]; rfl
    rw [if_pos h44]
    have ih := valsR_write r w (pre ++ write v ++ [44]) rest m (vs ++ [v]) (fun x hx => hv x (by simp at hx ⊢; exact .inr hx)) hr (by simp at hm; omega)
    have e1 : pre ++ write v ++ [44] ++ (write w ++ (Go.Lib.joinTail [44] (r.map write) ++ rest)) = pre ++ (write v ++ tail) := by rw [htail]; simp
    have e2 : (pre ++ write v ++ [44]).length = pre.length + (write v).length + 1 := by simp; omega
    rw [e1, e2] at ih
    rw [ih]
    have e3 : (Go.Lib.joinTail [44] ((w :: r).map write)).length = 1 + ((write w).length + (Go.Lib.joinTail [44] (r.map write)).length) := by
      simp [Go.Lib.joinTail]; omega
    rw [e3]
    simp
    omega
theorem checkV_all : ∀ {l : List Str}, checkV l = 0 → ∀ x ∈ l, x.length ≤ 60 ∧ fineB x = true
  | [], _, x, h => by simp at h
  | v :: r, hc, x, h => by
    simp only [checkV] at hc
    split at hc
    · cases hc
    · split at hc
      · next h1 h2 =>
        rcases List.mem_cons.1 h with rfl | h
        · exact ⟨by omega, h2⟩
        · exact checkV_all hc x h
      · cases hc
theorem checkV_of : ∀ {l : List Str}, (∀ x ∈ l, x.length ≤ 60 ∧ fineB x = true) → checkV l = 0
  | [], _ => rfl
  | v :: r, h => by
    have h1 := h v (by simp)
    simp only [checkV]
    rw [if_neg (by omega), if_pos h1.2]
    exact checkV_of (fun x hx => h x (by simp [hx]))
theorem checkP_iff (p : Pm) : checkP p = 0 ↔ nameB p.n = true ∧ 1 ≤ p.v.length ∧ p.v.length ≤ 6 ∧ ∀ x ∈ p.v, x.length ≤ 60 ∧ fineB x = true := by
  simp only [checkP]
  constructor
  · intro h
    split at h
    · next h1 =>
      split at h
      · cases h
      · exact ⟨h1, by omega, by omega, checkV_all h⟩
    · cases h
  · rintro ⟨h1, h2, h3, h4⟩
    rw [if_pos h1, if_neg (by omega), checkV_of h4]
theorem nameB_spec {n : Str} (h : nameB n = true) : 1 ≤ n.length ∧ n.length ≤ 24 ∧ n.all nmd = true ∧ upper n = n := by
  simp only [nameB, Bool.and_eq_true, decide_eq_true_eq] at h
  obtain ⟨h1, h2⟩ := (all_sgn n).1 h.2
  exact ⟨h.1.1, h.1.2, h1, h2⟩
theorem named_name {n : Str} (h : n.all nmd = true) (rest : Str) : named (n ++ 61 :: rest) = n.length := by
  rw [named_run]
  exact run_app (fun c hc => List.all_eq_true.1 h c hc) (fun c hc => by simp at hc; subst hc; decide)
theorem oneR_print {p : Pm} (hp : checkP p = 0) {pre rest : Str} {l : List Pm} (hh : hasN l p.n = false) (hr : headOk rest) :
    oneR (pre ++ (p.n ++ 61 :: (Go.Lib.join (p.v.map write) [44] ++ rest))) pre.length l = .ok p (pre.length + (p.n.length + 1 + (Go.Lib.join (p.v.map write) [44]).length)) := by
  obtain ⟨h1, h2, h3, h4⟩ := (checkP_iff p).1 hp
  obtain ⟨n1, n2, n3, n4⟩ := nameB_spec h1
  obtain ⟨n, v⟩ := p
  simp only at *
  obtain ⟨x, r, rfl⟩ := List.exists_cons_of_ne_nil (show v ≠ [] by intro e; rw [e] at h2; simp at h2)
  rw [List.map_cons, Go.Lib.join_cons]
  simp only [oneR, drop_app, named_name n3, List.take_left, n4, hh]
  rw [if_neg (by omega), if_neg (by simp)]
  have h61 : (pre ++ (n ++ 61 :: (write x ++ Go.Lib.joinTail [44] (r.map write) ++ rest)))[pre.length + n.length]? = some 61 := by
    rw [← List.append_assoc, show pre.length + n.length = (pre ++ n).length by simp, at_app]; rfl
  rw [if_pos h61]
  have := valsR_write r x (pre ++ n ++ [61]) rest 6 [] h4 hr (by simp at h3; omega)
  have e1 : pre ++ n ++ [61] ++ (write x ++ (Go.Lib.joinTail [44] (r.map write) ++ rest)) = pre ++ (n ++ 61 :: (write x ++ Go.Lib.joinTail [44] (r.map write) ++ rest)) := by simp
  have e2 : (pre ++ n ++ [61]).length = pre.length + n.length + 1 := by simp; omega
  rw [e1, e2] at this
  rw [this]
  simp
  omega
theorem parseR_print : ∀ (l : List Pm) (pre rest : Str) (m : Nat) (out : List Pm), (∀ p ∈ l, checkP p = 0) → twiceF out l = false → l.length ≤ m → (∀ c, rest[0]? = some c → c.toNat = 58) →
    parseR (pre ++ (printsP l ++ rest)) m pre.length out = .ok (out ++ l) (pre.length + (printsP l).length)
  | [], pre, rest, m, out, _, _, _, hr => by
    have h59 : ¬ (pre ++ (printsP [] ++ rest))[pre.length]? = some 59 := by
      intro e
      rw [at_app] at e
      simp only [printsP, List.map_nil, List.flatten_nil, List.nil_append] at e
      exact absurd (hr _ e) (by decide)
    cases m <;> simp only [parseR, if_neg h59] <;> simp [printsP]
  | p :: r, pre, rest, 0, out, _, _, hm, _ => by simp at hm
  | p :: r, pre, rest, m + 1, out, hc, ht, hm, hr => by
    simp only [twiceF, Bool.or_eq_false_iff] at ht
    have hpp : printsP (p :: r) = printP p ++ printsP r := by simp [printsP]
    obtain ⟨J, hJ⟩ : ∃ J, Go.Lib.join (p.v.map write) [44] = J := ⟨_, rfl⟩
    have htx : pre ++ (printsP (p :: r) ++ rest) = pre ++ [59] ++ (p.n ++ 61 :: (J ++ (printsP r ++ rest))) := by rw [hpp, printP, hJ]; simp
    have h59 : (pre ++ (printsP (p :: r) ++ rest))[pre.length]? = some 59 := by rw [at_app, hpp]; simp [printP]
    have hh : headOk (printsP r ++ rest) := by
      intro c hc
      cases r with
      | nil =>
        simp only [printsP, List.map_nil, List.flatten_nil, List.nil_append] at hc
        have := hr c hc
        refine ⟨by simp [stp, this], by omega⟩
      | cons q r' =>
        simp [printsP, printP] at hc
        subst hc
        exact ⟨by decide, by decide⟩
    have ho := oneR_print (hc p (by simp)) (pre := pre ++ [59]) ht.1 hh
    rw [hJ] at ho
    have e59 : (pre ++ [(59 : UInt8)]).length = pre.length + 1 := by simp
    rw [← htx, e59] at ho
    simp only [parseR]
    rw [if_pos h59, ho]
    simp only
    have ih := parseR_print r (pre ++ printP p) rest m (out ++ [p]) (fun q hq => hc q (by simp [hq])) ht.2 (by simp at hm; omega) hr
    have e1 : pre ++ printP p ++ (printsP r ++ rest) = pre ++ (printsP (p :: r) ++ rest) := by rw [hpp]; simp
    have e2 : (pre ++ printP p).length = pre.length + 1 + (p.n.length + 1 + J.length) := by simp [printP, hJ]; omega
    rw [e1, e2] at ih
    rw [ih, hpp]
    simp [printP, hJ]
    omega
theorem firstBad_of : ∀ {l : List Pm}, (∀ p ∈ l, checkP p = 0) → firstBad l = 0
  | [], _ => rfl
  | p :: r, h => by rw [firstBad, if_pos (h p (by simp))]; exact firstBad_of (fun q hq => h q (by simp [hq]))
theorem checkAll_iff (l : List Pm) : checkAll l = 0 ↔ l.length ≤ 6 ∧ (∀ p ∈ l, checkP p = 0) ∧ twiceF [] l = false := by
  simp only [checkAll]
  constructor
  · intro h
    split at h
    · cases h
    · split at h
      · next h1 h2 =>
        split at h
        · cases h
        · next h3 => exact ⟨by omega, firstBad_all h2, by simpa using h3⟩
      · next h1 h2 => exact absurd h h2
  · rintro ⟨h1, h2, h3⟩
    rw [if_neg (by omega), if_pos (firstBad_of h2), h3]
    rfl
/-- What is printed is parsed as it was. -/
theorem parse_print {l : List Pm} (h : checkAll l = 0) {rest : Str} (hr : ∀ c, rest[0]? = some c → c.toNat = 58) : parseR (printsP l ++ rest) 6 0 [] = .ok l (printsP l).length := by
  obtain ⟨h1, h2, h3⟩ := (checkAll_iff l).1 h
  have := parseR_print l [] rest 6 [] h2 h3 h1 hr
  simpa using this
/- WHERE PARSING ENDS -/
/-- Texts that are one up to a place, where both end, or a colon stands. -/
structure Ag (n : Nat) (s t : Str) : Prop where
  eq : ∀ i, i < n → t[i]? = s[i]?
  ls : n ≤ s.length
  lt : n ≤ t.length
  es : s[n]? = none ∨ s[n]? = some 58
  et : t[n]? = none ∨ t[n]? = some 58
theorem Ag.of {n : Nat} {s t : Str} (h : Ag n s t) {k : Nat} (hk : k ≤ n) {c : UInt8} (hc : c.toNat ≠ 58) : t[k]? = some c ↔ s[k]? = some c := by
  rcases Nat.lt_or_ge k n with h1 | h1
  · rw [h.eq k h1]
  · obtain rfl : k = n := by omega
    constructor
    · intro e
      rcases h.et with h2 | h2
      · rw [h2] at e; cases e
      · rw [h2] at e; cases e; exact absurd rfl hc
    · intro e
      rcases h.es with h2 | h2
      · rw [h2] at e; cases e
      · rw [h2] at e; cases e; exact absurd rfl hc
theorem Ag.run {n : Nat} {s t : Str} (h : Ag n s t) {p : UInt8 → Bool} (hp : p 58 = false) {a k : Nat} (hr : run p (s.drop a) = k) (hk : a + k ≤ n) : Vs.YtbchceojmblkkaaGreatDoor.run p (t.drop a) = k := by
  have := run_spec p (s.drop a)
  rw [hr] at this
  refine run_of (fun i hi => ?_) (fun c hc => ?_)
  · obtain ⟨c, h1, h2⟩ := this.1 i hi
    refine ⟨c, ?_, h2⟩
    rw [List.getElem?_drop] at h1 ⊢
    rw [h.eq _ (by omega)]; exact h1
  · rw [List.getElem?_drop] at hc
    rcases Nat.lt_or_ge (a + k) n with h1 | h1
    · rw [h.eq _ h1] at hc
      exact this.2 c (by rw [List.getElem?_drop]; exact hc)
    · obtain e : a + k = n := by omega
      rw [e] at hc
      rcases h.et with h2 | h2
      · rw [h2] at hc; cases hc
      · rw [h2] at hc; cases hc; exact hp
theorem Ag.take {n : Nat} {s t : Str} (h : Ag n s t) {a k : Nat} (hk : a + k ≤ n) : (t.drop a).take k = (s.drop a).take k := by
  apply List.ext_getElem?
  intro i
  rw [List.getElem?_take, List.getElem?_take]
  split
  · rw [List.getElem?_drop, List.getElem?_drop, h.eq _ (by omega)]
  · rfl
end Go.Vs.YtbchceojmblkkaaGreatDoor
