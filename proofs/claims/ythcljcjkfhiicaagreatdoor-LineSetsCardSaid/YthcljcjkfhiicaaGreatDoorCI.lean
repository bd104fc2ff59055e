/- The walks of the statements LineBack, LineSets and LineFaults. No conditions. -/
import Derived.Test.YthcljcjkfhiicaaGreatDoorCL
import Derived.Test.YthcljcjkfhiicaaGreatDoorCH
set_option linter.unusedVariables false
set_option linter.unusedSimpArgs false
namespace Go.Vs.YthcljcjkfhiicaaGreatDoor
set_option linter.unusedSimpArgs false
set_option linter.unusedVariables false
open Go.Proofs Go.Vs.U8 Go.Vs.Pa
set_option maxRecDepth 100000
set_option maxHeartbeats 32000000
theorem cutK {P : Program} (hm : P.follows .mixedOrders = true) {ι : Type} (D : List Nat) (E : ι → List (Nat × SV)) (O : ι → List (Nat × Ob)) (A : ι → Prop) {x y : VCode} {Q : Exit → St → Prop} {σ : St}
    (h1 : pw P x (fun e σ' => match e with
      | .normal => @JoinEnd ι σ' ⟨fun i => σ.upd D (E i) (O i)⟩ ⟨A⟩
      | e => Q e σ') σ) (h2 : ∀ i, A i → pw P y Q (σ.upd D (E i) (O i))) : @CutW P σ ⟨.seq x y⟩ ⟨Q⟩ := cutW hm (fun i => σ.upd D (E i) (O i)) A (fun _ => _root_.id rfl) h1 h2
theorem headTail {r v : Str} (h : r = [] ∨ ∃ t, r = 59 :: t) : ∀ c, (r ++ 58 :: v)[0]? = some c → nmd c = false := by
  intro c hc
  rcases h with rfl | ⟨t, rfl⟩ <;> simp at hc <;> subst hc <;> rfl
theorem prints_head (l : List Pm) : printsP l = [] ∨ ∃ t, printsP l = 59 :: t := by
  cases l with
  | nil => exact .inl rfl
  | cons p r => exact .inr ⟨_, by simp [printsP, printP]; rfl⟩
/-- A line that is printed is parsed as it was. -/
theorem line_print {x : Ln} (h : checkX x = 0) : lineR (printX x) = .ok x := by
  obtain ⟨h1, h2, h3, h4⟩ := (checkX_iff x).1 h
  obtain ⟨n1, n2, n3, n4⟩ := nameB_spec h1
  obtain ⟨n, p, v⟩ := x
  simp only at *
  have htx : printX ⟨n, p, v⟩ = n ++ (printsP p ++ 58 :: v) := by simp [printX]
  rw [htx]
  have hnm : named (n ++ (printsP p ++ 58 :: v)) = n.length := by
    rw [named_run]
    exact run_app (fun c hc => List.all_eq_true.1 n3 c hc) (headTail (prints_head p))
  have hd : (n ++ (printsP p ++ 58 :: v)).drop n.length = printsP p ++ 58 :: v := by simp
  have hp := parse_print h2 (rest := 58 :: v) (fun c hc => by simp at hc; subst hc; rfl)
  have h58 : (n ++ (printsP p ++ 58 :: v))[n.length + (printsP p).length]? = some 58 := by
    rw [← List.append_assoc, show n.length + (printsP p).length = (n ++ printsP p).length by simp, at_app]; rfl
  have hv : (n ++ (printsP p ++ 58 :: v)).drop (n.length + (printsP p).length + 1) = v := by
    rw [show n ++ (printsP p ++ 58 :: v) = (n ++ printsP p ++ [58]) ++ v by simp, show n.length + (printsP p).length + 1 = (n ++ printsP p ++ [58]).length by simp; omega]
    simp
  simp only [lineR, hnm, hd, hp, hv]
  rw [if_neg (by omega), if_pos h58, if_neg (by omega), h4]
  have : upper (List.take n.length (n ++ (printsP p ++ 58 :: v))) = n := by rw [List.take_left]; exact n4
  simp only [this]
theorem printX_len {x : Ln} (h : checkX x = 0) : (printX x).length < 100000 := by
  obtain ⟨h1, h2, h3, h4⟩ := (checkX_iff x).1 h
  have := prints_bd h2
  simp only [nameB, Bool.and_eq_true, decide_eq_true_eq] at h1
  simp [printX]
  omega
theorem fn_LineBack (x : Ln) (s : Str) : Fn G Tryz.prog k_law18_LineBack [x.iv, .str s] (.bool true) := by
  refine fn_intro hm ok_law18_LineBack (by simp) ?_
  have hA := fn_lawake
  have e1 : ls [x] = [[.str x.n, .slice (ps x.p), .str x.v]] := rfl
  have hS2 := fn_lSmall [x]
  rw [e1] at hS2
  simp [c_law18_LineBack, r_law18_LineBack, Ln.iv]
  refine callW_imm hS2 ?_
  cases hs2 : smallX [x] with
  | false =>
    simp (disch := omega) [br_yes, br_no, wrap_i64, wrap_u8, wrap_i32, List.getElem?_cons_zero, List.getElem?_cons_succ]
    refine callW_imm hA ?_
    simp
  | true =>
    by_cases h4 : 500 < s.length
    · simp (disch := omega) [br_yes, br_no, wrap_i64, wrap_u8, wrap_i32, List.getElem?_cons_zero, List.getElem?_cons_succ]
      refine callW_imm hA ?_
      simp
    · obtain ⟨_, hfx⟩ := smallX_fit hs2
      have fx : FitX x := hfx x (by simp)
      have hO2 := fn_lOwn [x] (by simp) hfx
      have hPr := fn_lPrint x fx
      have hS1 := fn_lSame [x] [x] (by simp) (by simp) hfx hfx
      rw [e1] at hO2 hS1
      simp only [Ln.iv, printXI] at hPr
      simp (disch := omega) [br_yes, br_no, wrap_i64, wrap_u8, wrap_i32, List.getElem?_cons_zero, List.getElem?_cons_succ]
      refine callW_imm hO2 ?_
      simp (disch := omega) [br_yes, br_no, wrap_i64, wrap_u8, wrap_i32, List.getElem?_cons_zero, List.getElem?_cons_succ]
      refine callW_imm hPr ?_
      simp
      refine cutK hm [] (fun _ : Unit => []) (fun _ => []) (fun _ => True) ?_ ?_
      · by_cases hc : checkX x = 0
        · have hP := fn_lParse (printX x) (printX_len hc)
          rw [line_print hc] at hP
          simp only [lineI, Ln.iv] at hP
          simp (disch := omega) [br_yes, br_no, wrap_i64, wrap_u8, wrap_i32, List.getElem?_cons_zero, List.getElem?_cons_succ, hc]
          refine callW_imm hP ?_
          simp
          refine callW_imm hS1 ?_
          simp
          refine joinEnd () trivial ?_
          simp
          exact weak_drop rfl rfl (by simp [EnvLe, getE, look, hc]) (by simp [ObLe, look]) (by simp [roOk])
        · simp (disch := omega) [br_yes, br_no, wrap_i64, wrap_u8, wrap_i32, List.getElem?_cons_zero, List.getElem?_cons_succ, hc]
          refine joinEnd () trivial ?_
          simp
          exact weak_drop rfl rfl (by simp [EnvLe, getE, look, hc]) (by simp [ObLe, look]) (by simp [roOk])
      · rintro _ _
        simp
        have hP := fn_lParse s (by omega)
        refine callW_imm hP ?_
        cases hR : lineR s with
        | no e ps =>
          obtain ⟨et, ev, he⟩ := errIV_not_nil e ps
          simp [lineI, he, ln0, Ln.iv]
          refine callW_imm hA ?_
          simp
        | ok y =>
          have hy := lineR_ok hR
          have fy := checkX_fit hy
          have hPy := fn_lPrint y fy
          have hP2 := fn_lParse (printX y) (printX_len hy)
          rw [line_print hy] at hP2
          have hC := fn_lCheck y fy
          have hS := fn_lSame [y] [y] (by simp) (by simp) (fitL1 fy) (fitL1 fy)
          have ey : ls [y] = [[.str y.n, .slice (ps y.p), .str y.v]] := rfl
          rw [ey] at hS
          simp only [lineI, Ln.iv, printXI, hy, if_true] at hPy hP2 hC
          simp [lineI, Ln.iv]
          refine callW_imm hPy ?_
          simp
          refine callW_imm hP2 ?_
          simp
          refine callW_imm hC ?_
          simp
          refine callW_imm hS ?_
          simp
          refine callW_imm hA ?_
          simp
          try rfl
theorem setGo_true (x : Ln) : ∀ l : List Ln, setGo x l true = (dropL l x.n, true)
  | [] => rfl
  | y :: r => by
    have ih := setGo_true x r
    cases hb : hasL x.n y <;> simp [setGo, hb, ih, dropL]
theorem setL_cons (x y : Ln) (r : List Ln) : setL (y :: r) x = if hasL x.n y then x :: dropL r x.n else y :: setL r x := by
  cases hb : hasL x.n y with
  | true => simp [setL, setGo, hb, setGo_true]
  | false =>
    simp only [setL, setGo, hb]
    cases hd : (setGo x r false).2 <;> simp [hd]
theorem setL_nil (x : Ln) : setL [] x = [x] := rfl
theorem has_self (x : Ln) : hasL x.n x = true := by simp [hasL]
theorem set_get (x : Ln) : ∀ l : List Ln, getL (setL l x) x.n = some x
  | [] => by simp [setL_nil, getL, has_self]
  | y :: r => by
    have ih := set_get x r
    rw [setL_cons]
    cases hb : hasL x.n y with
    | true => simp [getL, has_self]
    | false => simp [getL, hb] at ih ⊢; exact ih
theorem count_drop (l : List Ln) (n : Str) : countL (dropL l n) n = 0 := by
  simp only [countL, dropL]
  rw [List.filter_filter, List.length_eq_zero_iff, List.filter_eq_nil_iff]
  intro a _
  cases hasL n a <;> simp
theorem drop_drop (l : List Ln) (n : Str) : dropL (dropL l n) n = dropL l n := by
  simp only [dropL]
  rw [List.filter_filter]
  congr 1
  funext a
  cases hasL n a <;> rfl
theorem set_count (x : Ln) : ∀ l : List Ln, countL (setL l x) x.n = 1
  | [] => by simp [setL_nil, countL, has_self]
  | y :: r => by
    have ih := set_count x r
    rw [setL_cons]
    cases hb : hasL x.n y with
    | true =>
      have := count_drop r x.n
      simp only [countL] at this
      simp only [if_true, countL, List.filter_cons, has_self]
      simp only [List.length_cons, this]
    | false => simp [countL, hb] at ih ⊢; exact ih
theorem set_set (x : Ln) : ∀ l : List Ln, setL (setL l x) x = setL l x
  | [] => by simp [setL_nil, setL_cons, has_self, dropL]
  | y :: r => by
    have ih := set_set x r
    rw [setL_cons]
    cases hb : hasL x.n y with
    | true => simp [setL_cons, has_self, drop_drop]
    | false => simp [setL_cons, hb, ih]
theorem drop_set (x : Ln) : ∀ l : List Ln, dropL (setL l x) x.n = dropL l x.n
  | [] => by simp [setL_nil, dropL, has_self]
  | y :: r => by
    have ih := drop_set x r
    have hdd := drop_drop r x.n
    rw [setL_cons]
    simp only [dropL] at ih hdd ⊢
    cases hb : hasL x.n y with
    | true => simp [has_self, hb] at hdd ⊢
    | false => simp [hb, ih]
theorem set_length (x : Ln) : ∀ l : List Ln, (setL l x).length = (dropL l x.n).length + 1
  | [] => by simp [setL_nil, dropL]
  | y :: r => by
    have ih := set_length x r
    rw [setL_cons]
    simp only [dropL] at ih ⊢
    cases hb : hasL x.n y with
    | true => simp [hb]
    | false => simp [hb, ih]
theorem drop_length (n : Str) : ∀ l : List Ln, (dropL l n).length + countL l n = l.length
  | [] => rfl
  | y :: r => by
    have ih := drop_length n r
    simp only [dropL, countL] at ih ⊢
    cases hb : hasL n y <;> simp [hb] <;> omega
theorem fn_LineSets (l : List Ln) (x : Ln) : Fn G Tryz.prog k_law18_LineSets [.slice (ls l), x.iv] (.bool true) := by
  refine fn_intro hm ok_law18_LineSets (by simp) ?_
  have hA := fn_lawake
  have e1 : ls [x] = [[.str x.n, .slice (ps x.p), .str x.v]] := rfl
  have hS2 := fn_lSmall [x]
  rw [e1] at hS2
  simp [c_law18_LineSets, r_law18_LineSets, Ln.iv]
  refine callW_imm (fn_lSmall l) ?_
  cases hs1 : smallX l with
  | false =>
    simp (disch := omega) [br_yes, br_no, wrap_i64, wrap_u8, wrap_i32, List.getElem?_cons_zero, List.getElem?_cons_succ]
    refine callW_imm hA ?_
    simp
  | true =>
    simp (disch := omega) [br_yes, br_no, wrap_i64, wrap_u8, wrap_i32, List.getElem?_cons_zero, List.getElem?_cons_succ]
    refine callW_imm hS2 ?_
    cases hs2 : smallX [x] with
    | false =>
      simp (disch := omega) [br_yes, br_no, wrap_i64, wrap_u8, wrap_i32, List.getElem?_cons_zero, List.getElem?_cons_succ]
      refine callW_imm hA ?_
      simp
    | true =>
      obtain ⟨hl, hf⟩ := smallX_fit hs1
      obtain ⟨_, hfx⟩ := smallX_fit hs2
      have fx : FitX x := hfx x (by simp)
      have fset := set_fit hf fx
      have fdrop : FitL (dropL l x.n) := drop_fit hf
      have lset := set_len l x
      have ldrop := drop_len l x.n
      have hO2 := fn_lOwn [x] (by simp) hfx
      have hSet := fn_lSet l x (by omega) hf fx
      have hGet := fn_lGet (setL l x) x.n (by omega) fset
      rw [set_get] at hGet
      have hDrop := fn_lDrop (setL l x) x.n (by omega) fset
      rw [drop_set] at hDrop
      have hS1 := fn_lSame [x] [x] (by simp) (by simp) hfx hfx
      have hC1 := fn_lCount (setL l x) x.n (by omega)
      rw [set_count] at hC1
      have hSS := fn_lSet (setL l x) x (by omega) fset fx
      rw [set_set] at hSS
      have hS3 := fn_lSame (setL l x) (setL l x) (by omega) (by omega) fset fset
      have hC2 := fn_lCount (dropL l x.n) x.n (by omega)
      rw [count_drop] at hC2
      have hD2 := fn_lDrop l x.n (by omega) hf
      have hS4 := fn_lSame (dropL l x.n) (dropL l x.n) (by omega) (by omega) fdrop fdrop
      have hC3 := fn_lCount l x.n (by omega)
      have q1 := set_length x l
      have q2 := drop_length x.n l
      rw [e1] at hO2 hS1
      simp only [Ln.iv, gotI] at hSet hGet hSS
      simp (disch := omega) [br_yes, br_no, wrap_i64, wrap_u8, wrap_i32, List.getElem?_cons_zero, List.getElem?_cons_succ]
      refine callW_imm (fn_lOwn l (by omega) hf) ?_
      simp (disch := omega) [br_yes, br_no, wrap_i64, wrap_u8, wrap_i32, List.getElem?_cons_zero, List.getElem?_cons_succ]
      refine callW_imm hO2 ?_
      simp
      refine ⟨rfl, ?_⟩
      refine callW_imm hSet ?_
      simp
      refine callW_imm hGet ?_
      simp
      refine callW_imm hDrop ?_
      simp
      refine callW_imm hS1 ?_
      simp
      refine callW_imm hC1 ?_
      simp
      refine callW_imm hSS ?_
      simp
      refine callW_imm hS3 ?_
      simp
      refine callW_imm hC2 ?_
      simp (disch := omega) [br_yes, br_no, wrap_i64, wrap_u8, wrap_i32, List.getElem?_cons_zero, List.getElem?_cons_succ, ls_len]
      refine callW_imm hD2 ?_
      simp
      refine callW_imm hS4 ?_
      simp
      refine callW_imm hC3 ?_
      simp (disch := omega) [br_yes, br_no, wrap_i64, wrap_u8, wrap_i32, List.getElem?_cons_zero, List.getElem?_cons_succ, ls_len]
      refine callW_imm hA ?_
      simp
theorem fn_LineFaults (s : Str) : Fn G Tryz.prog k_law18_LineFaults [.str s] (.bool true) := by
  refine fn_intro hm ok_law18_LineFaults (by simp) ?_
  have hA := fn_lawake
  simp [c_law18_LineFaults, r_law18_LineFaults]
  by_cases h4 : 400 < s.length
  · simp (disch := omega) [br_yes, br_no, wrap_i64, wrap_u8, wrap_i32, List.getElem?_cons_zero, List.getElem?_cons_succ]
    refine callW_imm hA ?_
    simp
  · have hP := fn_lParse (88 :: s) (by simp; omega)
    simp (disch := omega) [br_yes, br_no, wrap_i64, wrap_u8, wrap_i32, List.getElem?_cons_zero, List.getElem?_cons_succ]
    refine ⟨by omega, ?_⟩
    refine callW_imm hP ?_
    cases hR : lineR (88 :: s) with
    | ok x =>
      simp [lineI, Ln.iv]
      refine callW_imm hA ?_
      simp
    | no e ps =>
      obtain ⟨h1, h2⟩ := lineR_no hR
      simp only [List.length_cons] at h2
      have hC := fn_Code e ps
      have hpl : ∀ p ∈ ps, -1000000 < p ∧ p < 1000000 := by
        rcases h2 with ⟨p, rfl, _, _⟩ | ⟨k, p, rfl, _, _, _⟩ <;> simp <;> omega
      have hps : ps.length < 1000 := by rcases h2 with ⟨p, rfl, _, _⟩ | ⟨k, p, rfl, _, _, _⟩ <;> simp
      have hPl := fn_Place e ps hpl hps
      have hD := fn_Depth e ps hpl hps
      rcases h2 with ⟨p, rfl, q1, q2⟩ | ⟨k, p, rfl, q1, q2, q3⟩
      · have hAs := fnM_As_pf .nilp [.int .i64 p, errIV e []]
        simp only [errIV] at hC hPl hD hAs
        simp [lineI, errIV, ln0, Ln.iv]
        refine callM [(1000, 5)] [] hAs rfl rfl ⟨rfl, trivial⟩ ⟨[], [], rfl, ⟨rfl, rfl⟩, rfl⟩ rfl ?_
        simp
        refine callW_imm hPl ?_
        simp (disch := omega) [br_yes, br_no, wrap_i64, wrap_u8, wrap_i32, List.getElem?_cons_zero, List.getElem?_cons_succ]
        refine callW_imm hC ?_
        simp (disch := omega) [br_yes, br_no, wrap_i64, wrap_u8, wrap_i32, List.getElem?_cons_zero, List.getElem?_cons_succ, h1]
        refine callW_imm hD ?_
        simp (disch := omega) [br_yes, br_no, wrap_i64, wrap_u8, wrap_i32, List.getElem?_cons_zero, List.getElem?_cons_succ]
        refine callW_imm hA ?_
        simp
        try rfl
      · have hAs := fnM_As_pf .nilp [.int .i64 k, errIV e [p]]
        simp only [errIV] at hC hPl hD hAs
        simp [lineI, errIV, ln0, Ln.iv]
        refine callM [(1000, 5)] [] hAs rfl rfl ⟨rfl, trivial⟩ ⟨[], [], rfl, ⟨rfl, rfl⟩, rfl⟩ rfl ?_
        simp
        refine callW_imm hPl ?_
        simp (disch := omega) [br_yes, br_no, wrap_i64, wrap_u8, wrap_i32, List.getElem?_cons_zero, List.getElem?_cons_succ]
        refine callW_imm hC ?_
        simp (disch := omega) [br_yes, br_no, wrap_i64, wrap_u8, wrap_i32, List.getElem?_cons_zero, List.getElem?_cons_succ, h1]
        refine callW_imm hD ?_
        simp (disch := omega) [br_yes, br_no, wrap_i64, wrap_u8, wrap_i32, List.getElem?_cons_zero, List.getElem?_cons_succ]
        refine callW_imm hA ?_
        simp
        try rfl
theorem LineBack_true (args : List IV) (h : Args [scL, .str] args) : Fn G Tryz.prog k_law18_LineBack args (.bool true) := by
  obtain ⟨w, c, rfl, ⟨r1, rfl, h1⟩, x, d, rfl, ⟨s, hs, _⟩, hd⟩ := h
  have hd : d = [] := hd
  subst hd
  simp only [List.cons.injEq, and_true] at hs
  subst hs
  obtain ⟨y, rfl⟩ := line_of (row := r1) h1
  exact fn_LineBack y s
theorem LineSets_true (args : List IV) (h : Args [.slice scL, scL] args) : Fn G Tryz.prog k_law18_LineSets args (.bool true) := by
  obtain ⟨v, b, rfl, ⟨r0, hr0, _, h0⟩, w, c, rfl, ⟨r1, rfl, h1⟩, hc⟩ := h
  have hc : c = [] := hc
  subst hc
  simp only [List.cons.injEq, and_true] at hr0
  subst hr0
  obtain ⟨l, rfl⟩ := lines_of h0
  obtain ⟨y, rfl⟩ := line_of (row := r1) h1
  exact fn_LineSets l y
theorem LineFaults_true (args : List IV) (h : Args [.str] args) : Fn G Tryz.prog k_law18_LineFaults args (.bool true) := by
  obtain ⟨w, c, rfl, ⟨s, hs, _⟩, hc⟩ := h
  have hc : c = [] := hc
  subst hc
  simp only [List.cons.injEq, and_true] at hs
  subst hs
  exact fn_LineFaults s
end Go.Vs.YthcljcjkfhiicaaGreatDoor
