/- The code of the seat's functions in the small typed code; printed by a program of the prover's. -/
import Derived.Test.YtbchceojmblkkaaDoorEA
import Derived.Test.YtbchceojmblkkaaDoorRows
import Derived.KernelRfl
import Derived.Test.YtbchceojmblkkaaDoorEC
import Derived.Test.YtbchceojmblkkaaDoorBD
set_option linter.unusedVariables false
set_option linter.unusedSimpArgs false
namespace Go.Vs.YtbchceojmblkkaaDoor
set_option linter.unusedSimpArgs false
set_option linter.unusedVariables false
open Go.Proofs
set_option maxRecDepth 100000
set_option maxHeartbeats 4000000

def k_law28_RelateNumbers : Nat := 3
def k_law28_awake : Nat := 4
/-- function 3 -/
def c_law28_RelateNumbers : VCode :=
  .seq (rt [o1 6 (.move (cb false))] []) (.seq (.seq (rt [o1 10 (.move (tm 0)), o1 11 (.lenS (tm 10)), o1 12 (.bin (.gtr) (tm 11) (ci 40))] [10, 11]) (.cond (tm 12) (.seq (rt [o1 13 (.call k_law28_awake []), o1 6 (.move (tm 13))] [13, 13]) (.ret)) (.skip))) (.seq (.seq (rt [o1 14 (.move (tm 0)), o1 15 (.call k_relate_UID [tm 14]), o1 16 (.un (.not) (tm 15))] [14, 15]) (.cond (tm 16) (.seq (rt [o1 17 (.move (tm 0)), o1 18 (.call k_relate_Base [tm 17]), o1 19 (.move (tm 0)), o1 20 (.bin (.eql) (tm 18) (tm 19)), o1 21 (.move (tm 20)), o2 22 (.call k_law28_awake []) 21 true, o1 23 (.pick (tm 21) (tm 22) (cb false)), o1 6 (.move (tm 23))] [17, 23]) (.ret)) (.skip))) (.seq (rt [o1 24 (.move (tm 0)), o1 25 (.move (tm 1)), o1 26 (.convI (.i64) (tm 25)), o1 27 (.call k_relate_Numbered [tm 24, tm 26]), o1 28 (.move (tm 0)), o1 29 (.move (tm 2)), o1 30 (.convI (.i64) (tm 29)), o1 31 (.call k_relate_Numbered [tm 28, tm 30]), o1 7 (.move (tm 27)), o1 8 (.move (tm 31))] [24, 31]) (.seq (.seq (rt [o1 32 (.move (tm 7)), o1 33 (.lenS (tm 32)), o1 34 (.move (tm 0)), o1 35 (.lenS (tm 34)), o1 36 (.bin (.add) (tm 35) (ci 1)), o1 37 (.bin (.leq) (tm 33) (tm 36)), o1 38 (.move (tm 37)), o2 39 (.move (tm 7)) 38 false, o2 40 (.move (tm 0)) 38 false, o2 41 (.lenS (tm 40)) 38 false, o2 42 (.subS (tm 39) none (some (tm 41))) 38 false, o2 43 (.move (tm 0)) 38 false, o2 44 (.bin (.neq) (tm 42) (tm 43)) 38 false, o1 45 (.pick (tm 38) (cb true) (tm 44)), o1 46 (.move (tm 45)), o2 47 (.move (tm 7)) 46 false, o2 48 (.move (tm 8)) 46 false, o2 49 (.bin (.eql) (tm 47) (tm 48)) 46 false, o2 50 (.move (tm 1)) 46 false, o2 51 (.move (tm 2)) 46 false, o2 52 (.bin (.eql) (tm 50) (tm 51)) 46 false, o2 53 (.eqB true (tm 49) (tm 52)) 46 false, o1 54 (.pick (tm 46) (cb true) (tm 53))] [32, 53]) (.cond (tm 54) (.seq (rt [o1 6 (.move (cb false))] []) (.ret)) (.skip))) (.seq (rt [o1 55 (.move (tm 0)), o1 56 (.call k_relate_Base [tm 55]), o1 9 (.move (tm 56))] [55, 56]) (.seq (.seq (rt [o1 57 (.move (tm 9)), o1 58 (.call k_relate_UID [tm 57]), o1 59 (.un (.not) (tm 58)), o1 60 (.move (tm 59)), o2 61 (.move (tm 9)) 60 false, o2 62 (.lenS (tm 61)) 60 false, o2 63 (.move (tm 0)) 60 false, o2 64 (.lenS (tm 63)) 60 false, o2 65 (.bin (.gtr) (tm 62) (tm 64)) 60 false, o1 66 (.pick (tm 60) (cb true) (tm 65)), o1 67 (.move (tm 66)), o2 68 (.move (tm 0)) 67 false, o2 69 (.move (tm 9)) 67 false, o2 70 (.lenS (tm 69)) 67 false, o2 71 (.subS (tm 68) none (some (tm 70))) 67 false, o2 72 (.move (tm 9)) 67 false, o2 73 (.bin (.neq) (tm 71) (tm 72)) 67 false, o1 74 (.pick (tm 67) (cb true) (tm 73))] [57, 73]) (.cond (tm 74) (.seq (rt [o1 6 (.move (cb false))] []) (.ret)) (.skip))) (.seq (.seq (rt [o1 75 (.move (tm 7)), o1 76 (.lenS (tm 75)), o1 77 (.bin (.gtr) (tm 76) (ci 24))] [75, 76]) (.cond (tm 77) (.seq (rt [o1 78 (.move (tm 7)), o1 79 (.call k_relate_UID [tm 78]), o1 80 (.un (.not) (tm 79)), o1 81 (.move (tm 80)), o2 82 (.call k_law28_awake []) 81 true, o1 83 (.pick (tm 81) (tm 82) (cb false)), o1 6 (.move (tm 83))] [78, 83]) (.ret)) (.skip))) (.seq (rt [o1 84 (.move (tm 7)), o1 85 (.call k_relate_UID [tm 84]), o1 86 (.move (tm 85)), o2 87 (.move (tm 7)) 86 true, o2 88 (.call k_relate_Base [tm 87]) 86 true, o2 89 (.move (tm 0)) 86 true, o2 90 (.bin (.eql) (tm 88) (tm 89)) 86 true, o1 91 (.pick (tm 86) (tm 90) (cb false)), o1 92 (.move (tm 91)), o2 93 (.call k_law28_awake []) 92 true, o1 94 (.pick (tm 92) (tm 93) (cb false)), o1 6 (.move (tm 94))] [84, 94]) (.ret)))))))))
def r_law28_RelateNumbers : List VRes := [.tmp 6]
theorem ok_law28_RelateNumbers : FnOk Tryd.prog k_law28_RelateNumbers c_law28_RelateNumbers r_law28_RelateNumbers 95 :=
  ⟨⟨Tryd.f3, _, Tryd.func3, by decide, rfl, by kernel_rfl, by kernel_rfl, by kernel_rfl, rfl⟩⟩

/-- function 4 -/
def c_law28_awake : VCode :=
  .seq (rt [o1 0 (.move (cb false))] []) (.seq (rt [o1 13 (.build [.val (.int (.u8) 0), .val (.str [])] [(0, 1, cu 3), (1, 1, cs [97, 46, 50])]), o1 14 (.call k_relate_Write [tm 13]), o1 12 (.move (tm 14)), o1 15 (.extract (tm 12) 0), o1 16 (.extract (tm 12) 1), o1 1 (.alloc [.val (.str []), .nils, .val (.str [])]), o3 (.store 3 (tm 1) (tm 15)), o1 2 (.move (tm 16))] [12, 16]) (.seq (rt [o1 18 (.load (some 3) (tm 1)), o1 19 (.call k_relate_Read [tm 18]), o1 17 (.move (tm 19)), o1 20 (.extract (tm 17) 0), o1 21 (.extract (tm 17) 1), o1 3 (.alloc [.val (.int (.u8) 0), .val (.str [])]), o3 (.store 2 (tm 3) (tm 20)), o1 4 (.move (tm 21))] [17, 21]) (.seq (rt [o1 23 (.build [.val (.str []), .nils, .val (.str [])] [(0, 1, cs [82, 69, 76, 65, 84, 69, 68, 45, 84, 79]), (2, 1, cs [98])]), o1 24 (.call k_relate_Read [tm 23]), o1 22 (.move (tm 24)), o1 25 (.extract (tm 22) 0), o1 26 (.extract (tm 22) 1), o1 5 (.alloc [.val (.int (.u8) 0), .val (.str [])]), o3 (.store 2 (tm 5) (tm 25)), o1 6 (.move (tm 26))] [22, 26]) (.seq (rt [o1 28 (.buildSlice 1 1 [.val (.str [])] [(0, 1, cs [120])]), o1 29 (.build [.val (.str []), .nils] [(0, 1, cs [82, 69, 76, 84, 89, 80, 69]), (1, 1, tm 28)]), o1 30 (.buildSlice 2 1 [.val (.str []), .nils] [(0, 2, tm 29)]), o1 31 (.build [.val (.str []), .nils, .val (.str [])] [(0, 1, cs [82, 69, 76, 65, 84, 69, 68, 45, 84, 79]), (1, 1, tm 30), (2, 1, cs [98])]), o1 32 (.call k_relate_Read [tm 31]), o1 27 (.move (tm 32)), o1 33 (.extract (tm 27) 0), o1 34 (.extract (tm 27) 1), o1 7 (.alloc [.val (.int (.u8) 0), .val (.str [])]), o3 (.store 2 (tm 7) (tm 33)), o1 8 (.move (tm 34))] [8, 8, 27, 34]) (.seq (rt [o1 36 (.build [.val (.str []), .nils, .val (.str [])] [(0, 1, cs [85, 73, 68]), (2, 1, cs [98])]), o1 37 (.call k_relate_Read [tm 36]), o1 35 (.move (tm 37)), o1 38 (.extract (tm 35) 0), o1 39 (.extract (tm 35) 1), o1 9 (.alloc [.val (.int (.u8) 0), .val (.str [])]), o3 (.store 2 (tm 9) (tm 38)), o1 10 (.move (tm 39))] [9, 9, 35, 39]) (.seq (rt [o1 40 (.load (some 3) (tm 1)), o1 41 (.build [.val (.str []), .nils, .val (.str [])] [(0, 1, cs [85, 73, 68]), (2, 1, cs [98])]), o1 42 (.build [.val (.str []), .nils, .val (.str [])] [(0, 1, cs [82, 69, 76, 65, 84, 69, 68, 45, 84, 79]), (2, 1, cs [98])]), o1 43 (.buildSlice 3 3 [.val (.str []), .nils, .val (.str [])] [(0, 3, tm 40), (3, 3, tm 41), (6, 3, tm 42)]), o1 11 (.move (tm 43))] [40, 43]) (.seq (rt [o1 44 (.move (tm 2)), o1 45 (.bin (.eql) (tm 44) (ci 0)), o1 46 (.move (tm 45)), o2 47 (.move (tm 4)) 46 true, o2 48 (.bin (.eql) (tm 47) (ci 0)) 46 true, o1 49 (.pick (tm 46) (tm 48) (cb false)), o1 50 (.move (tm 49)), o2 51 (.fieldAddr 0 (tm 1)) 50 true, o2 52 (.load none (tm 51)) 50 true, o2 53 (.bin (.eql) (tm 52) (cs [82, 69, 76, 65, 84, 69, 68, 45, 84, 79])) 50 true, o1 54 (.pick (tm 50) (tm 53) (cb false)), o1 55 (.move (tm 54)), o2 56 (.fieldAddr 2 (tm 1)) 55 true, o2 57 (.load none (tm 56)) 55 true, o2 58 (.bin (.eql) (tm 57) (cs [97, 46, 50])) 55 true, o1 59 (.pick (tm 55) (tm 58) (cb false)), o1 60 (.move (tm 59)), o2 61 (.load (some 2) (tm 3)) 60 true, o2 62 (.build [.val (.int (.u8) 0), .val (.str [])] [(0, 1, cu 3), (1, 1, cs [97, 46, 50])]) 60 true, o2 63 (.eqA false [.i, .s] (tm 61) (tm 62)) 60 true, o1 64 (.pick (tm 60) (tm 63) (cb false)), o1 65 (.move (tm 64)), o2 66 (.move (tm 6)) 65 true, o2 67 (.bin (.eql) (tm 66) (ci 0)) 65 true, o1 68 (.pick (tm 65) (tm 67) (cb false)), o1 69 (.move (tm 68)), o2 70 (.load (some 2) (tm 5)) 69 true, o2 71 (.build [.val (.int (.u8) 0), .val (.str [])] [(0, 1, cu 0), (1, 1, cs [98])]) 69 true, o2 72 (.eqA false [.i, .s] (tm 70) (tm 71)) 69 true, o1 73 (.pick (tm 69) (tm 72) (cb false)), o1 74 (.move (tm 73)), o2 75 (.fieldAddr 0 (tm 7)) 74 true, o2 76 (.load none (tm 75)) 74 true, o2 77 (.bin (.eql) (tm 76) (cu 4)) 74 true, o1 78 (.pick (tm 74) (tm 77) (cb false)), o1 79 (.move (tm 78)), o2 80 (.move (tm 10)) 79 true, o2 81 (.bin (.eql) (tm 80) (ci 11)) 79 true, o1 82 (.pick (tm 79) (tm 81) (cb false)), o1 83 (.move (tm 82)), o2 84 (.move (tm 11)) 83 true, o2 85 (.call k_relate_All [tm 84, cu 0]) 83 true, o2 86 (.buildSlice 1 1 [.val (.str [])] [(0, 1, cs [98])]) 83 true, o2 87 (.call k_ref28_SameTexts [tm 85, tm 86]) 83 true, o1 88 (.pick (tm 83) (tm 87) (cb false)), o1 89 (.move (tm 88)), o2 90 (.move (tm 11)) 89 true, o2 91 (.load (some 2) (tm 3)) 89 true, o2 92 (.call k_relate_Has [tm 90, tm 91]) 89 true, o1 93 (.pick (tm 89) (tm 92) (cb false)), o1 94 (.move (tm 93)), o2 95 (.move (tm 11)) 94 true, o2 96 (.load (some 2) (tm 3)) 94 true, o2 97 (.call k_relate_Remove [tm 95, tm 96]) 94 true, o2 98 (.lenV (tm 97)) 94 true, o2 99 (.bin (.eql) (tm 98) (ci 2)) 94 true, o1 100 (.pick (tm 94) (tm 99) (cb false)), o1 101 (.move (tm 100)), o2 102 (.move (tm 11)) 101 true, o2 103 (.call k_relate_Forget [tm 102, cs [98]]) 101 true, o2 104 (.lenV (tm 103)) 101 true, o2 105 (.bin (.eql) (tm 104) (ci 2)) 101 true, o1 106 (.pick (tm 101) (tm 105) (cb false)), o1 107 (.move (tm 106)), o2 108 (.call k_relate_UID [cs [65, 45, 122, 48, 46, 57, 95, 64]]) 107 true, o1 109 (.pick (tm 107) (tm 108) (cb false)), o1 110 (.move (tm 109)), o2 111 (.call k_relate_UID [cs [97, 32, 98]]) 110 true, o2 112 (.un (.not) (tm 111)) 110 true, o1 113 (.pick (tm 110) (tm 112) (cb false)), o1 114 (.move (tm 113)), o2 115 (.call k_relate_Base [cs [97, 46, 49, 50]]) 114 true, o2 116 (.bin (.eql) (tm 115) (cs [97])) 114 true, o1 117 (.pick (tm 114) (tm 116) (cb false)), o1 118 (.move (tm 117)), o2 119 (.call k_relate_Base [cs [46, 49]]) 118 true, o2 120 (.bin (.eql) (tm 119) (cs [46, 49])) 118 true, o1 121 (.pick (tm 118) (tm 120) (cb false)), o1 122 (.move (tm 121)), o2 123 (.call k_relate_Numbered [cs [97], ci 12]) 122 true, o2 124 (.bin (.eql) (tm 123) (cs [97, 46, 49, 50])) 122 true, o1 125 (.pick (tm 122) (tm 124) (cb false)), o1 126 (.move (tm 125)), o1 127 (.pick (tm 126) (cb true) (cb false)), o1 128 (.move (tm 127)), o1 129 (.pick (tm 128) (cb true) (cb false)), o1 0 (.move (tm 129))] [44, 129]) (.ret))))))))
def r_law28_awake : List VRes := [.tmp 0]
theorem ok_law28_awake : FnOk Tryd.prog k_law28_awake c_law28_awake r_law28_awake 130 :=
  ⟨⟨Tryd.f4, _, Tryd.func4, by decide, rfl, by kernel_rfl, by kernel_rfl, by kernel_rfl, rfl⟩⟩

end Go.Vs.YtbchceojmblkkaaDoor
namespace Go.Vs.YtbchceojmblkkaaDoor
set_option linter.unusedSimpArgs false
set_option linter.unusedVariables false
open Go.Proofs Go.Vs.U8 Go.Vs.Pa Go.Vs.Nu Go.Lib
set_option maxRecDepth 100000
set_option maxHeartbeats 16000000
def eaX : Ln := ⟨rtName, [⟨ptName, [[68, 69, 80, 69, 78, 68, 83, 45, 79, 78]]⟩], [97, 46, 50]⟩
def ebX : Ln := ⟨[85, 73, 68], [], [98]⟩
def ecX : Ln := ⟨rtName, [], [98]⟩
def edX : Ln := ⟨rtName, [⟨ptName, [[120]]⟩], [98]⟩
theorem fit_one {n a v : Str} {w : Str} (h1 : n.length < 1000) (h2 : a.length < 1000) (h3 : v.length < 1000) (h4 : w.length < 1000) : FitX ⟨n, [⟨a, [w]⟩], v⟩ := by
  refine ⟨by simp only; omega, by simp, ⟨?_, ?_, ?_⟩, by simp only; omega⟩
  · intro p hp
    simp only [List.mem_singleton] at hp
    subst hp
    simp only; omega
  · intro p hp
    simp only [List.mem_singleton] at hp
    subst hp
    simp
  · intro p hp s hs
    simp only [List.mem_singleton] at hp
    subst hp
    simp only [List.mem_singleton] at hs
    subst hs
    omega
theorem fit_none {n v : Str} (h1 : n.length < 1000) (h3 : v.length < 1000) : FitX ⟨n, [], v⟩ :=
  ⟨by simp only; omega, by simp, ⟨by simp, by simp, by simp⟩, by simp only; omega⟩
theorem fit_ea : FitX eaX := fit_one (by decide) (by decide) (by decide) (by decide)
theorem fit_eb : FitX ebX := fit_none (by decide) (by decide)
theorem fit_ec : FitX ecX := fit_none (by decide) (by decide)
theorem fit_ed : FitX edX := fit_one (by decide) (by decide) (by decide) (by decide)
theorem fit_eall : FitL [eaX, ebX, ecX] := fun x hx => by
  simp only [List.mem_cons, List.not_mem_nil, or_false] at hx
  rcases hx with rfl | rfl | rfl
  · exact fit_ea
  · exact fit_eb
  · exact fit_ec
theorem fn_Read' (x : Ln) (fx : FitX x) (R : Rl × Int) (h : relR x = R) : Fn G Tryd.prog k_relate_Read [x.iv] (relRI R) := h ▸ fn_Read x fx
theorem dec12 : decDigits 12 = [49, 50] := by
  rw [decDigits, dif_neg (by omega), decDigits, dif_pos (by omega)]
  rfl
theorem fn_eawake : Fn G Tryd.prog k_law28_awake [] (.bool true) := by
  refine fn_intro hm ok_law28_awake (by simp) ?_
  have h1 := fn_Write (3, [97, 46, 50]) (by decide)
  rw [show writR (3, [97, 46, 50]) = (eaX, 0) by rfl] at h1
  have h2 := fn_Read' eaX fit_ea ((3, [97, 46, 50]), 0) (by rfl)
  have h3 := fn_Read' ecX fit_ec ((0, [98]), 0) (by rfl)
  have h4 := fn_Read' edX fit_ed ((4, [98]), 0) (by rfl)
  have h5 := fn_Read' ebX fit_eb ((0, []), 11) (by rfl)
  have g1 := fn_allR [eaX, ebX, ecX] 0 (by decide) fit_eall
  rw [show allR [eaX, ebX, ecX] 0 = [[98]] by rfl] at g1
  have g2 := fn_SameTexts [[98]] [[98]] (by decide) (by decide)
  have g3 := fn_hasR [eaX, ebX, ecX] (3, [97, 46, 50]) (by decide) fit_eall
  rw [show hasR [eaX, ebX, ecX] (3, [97, 46, 50]) = true by rfl] at g3
  have g4 := fn_dropR [eaX, ebX, ecX] (3, [97, 46, 50]) (by decide) fit_eall
  rw [show dropR [eaX, ebX, ecX] (3, [97, 46, 50]) = [ebX, ecX] by rfl] at g4
  have g5 := fn_forgR [eaX, ebX, ecX] [98] (by decide) fit_eall
  rw [show forgR [eaX, ebX, ecX] [98] = [eaX, ebX] by rfl] at g5
  have g6 := fn_UID [65, 45, 122, 48, 46, 57, 95, 64] (by decide)
  rw [show uidB [65, 45, 122, 48, 46, 57, 95, 64] = true by rfl] at g6
  have g7 := fn_UID [97, 32, 98] (by decide)
  rw [show uidB [97, 32, 98] = false by rfl] at g7
  have g8 := fn_Base [97, 46, 49, 50] (by decide)
  rw [show baseS [97, 46, 49, 50] = [97] by rfl] at g8
  have g9 := fn_Base [46, 49] (by decide)
  rw [show baseS [46, 49] = [46, 49] by rfl] at g9
  have g10 := fn_Numbered [97] 12 (by decide) (by decide)
  rw [show numS [97] 12 = [97, 46, 49, 50] by rw [numS, dec12]; rfl] at g10
  simp only [relRI, Ln.iv, eaX, ebX, ecX, edX, ls, ps, ts, List.map_cons, List.map_nil, rtName, ptName, decide_true, Int.cast_ofNat_Int] at h1 h2 h3 h4 h5 g1 g2 g3 g4 g5 g10
  simp [c_law28_awake, r_law28_awake]
  refine callW_imm h1 ?_
  simp (disch := omega) [br_yes, br_no, wrap_i64, wrap_u8, wrap_i32, List.getElem?_cons_zero, List.getElem?_cons_succ]
  refine callW_imm h2 ?_
  simp (disch := omega) [br_yes, br_no, wrap_i64, wrap_u8, wrap_i32, List.getElem?_cons_zero, List.getElem?_cons_succ]
  refine callW_imm h3 ?_
  simp (disch := omega) [br_yes, br_no, wrap_i64, wrap_u8, wrap_i32, List.getElem?_cons_zero, List.getElem?_cons_succ]
  refine callW_imm h4 ?_
  simp (disch := omega) [br_yes, br_no, wrap_i64, wrap_u8, wrap_i32, List.getElem?_cons_zero, List.getElem?_cons_succ]
  refine callW_imm h5 ?_
  simp (disch := omega) [br_yes, br_no, wrap_i64, wrap_u8, wrap_i32, List.getElem?_cons_zero, List.getElem?_cons_succ]
  refine callW_imm g1 ?_
  simp (disch := omega) [br_yes, br_no, wrap_i64, wrap_u8, wrap_i32, List.getElem?_cons_zero, List.getElem?_cons_succ]
  refine callW_imm g2 ?_
  simp (disch := omega) [br_yes, br_no, wrap_i64, wrap_u8, wrap_i32, List.getElem?_cons_zero, List.getElem?_cons_succ]
  refine callW_imm g3 ?_
  simp (disch := omega) [br_yes, br_no, wrap_i64, wrap_u8, wrap_i32, List.getElem?_cons_zero, List.getElem?_cons_succ]
  refine callW_imm g4 ?_
  simp (disch := omega) [br_yes, br_no, wrap_i64, wrap_u8, wrap_i32, List.getElem?_cons_zero, List.getElem?_cons_succ]
  refine callW_imm g5 ?_
  simp (disch := omega) [br_yes, br_no, wrap_i64, wrap_u8, wrap_i32, List.getElem?_cons_zero, List.getElem?_cons_succ]
  refine callW_imm g6 ?_
  simp (disch := omega) [br_yes, br_no, wrap_i64, wrap_u8, wrap_i32, List.getElem?_cons_zero, List.getElem?_cons_succ]
  refine callW_imm g7 ?_
  simp (disch := omega) [br_yes, br_no, wrap_i64, wrap_u8, wrap_i32, List.getElem?_cons_zero, List.getElem?_cons_succ]
  refine callW_imm g8 ?_
  simp (disch := omega) [br_yes, br_no, wrap_i64, wrap_u8, wrap_i32, List.getElem?_cons_zero, List.getElem?_cons_succ]
  refine callW_imm g9 ?_
  simp (disch := omega) [br_yes, br_no, wrap_i64, wrap_u8, wrap_i32, List.getElem?_cons_zero, List.getElem?_cons_succ]
  refine callW_imm g10 ?_
  simp (disch := omega) [br_yes, br_no, wrap_i64, wrap_u8, wrap_i32, List.getElem?_cons_zero, List.getElem?_cons_succ]
theorem fn_RelateNumbers (s : Str) (n m : Nat) (hn : n < 65536) (hm' : m < 65536) : Fn G Tryd.prog k_law28_RelateNumbers [.str s, .int .u16 n, .int .u16 m] (.bool true) := by
  refine fn_intro hm ok_law28_RelateNumbers (by simp) ?_
  have hA := fn_eawake
  simp [c_law28_RelateNumbers, r_law28_RelateNumbers]
  by_cases h40 : 40 < s.length
  · simp (disch := omega) [br_yes, br_no, wrap_i64, wrap_u8, wrap_i32, List.getElem?_cons_zero, List.getElem?_cons_succ]
    refine callW_imm hA ?_
    simp
  · have hs : s.length < 1000000 := by omega
    have hU := fn_UID s hs
    have hB := fn_Base s hs
    simp (disch := omega) [br_yes, br_no, wrap_i64, wrap_u8, wrap_i32, List.getElem?_cons_zero, List.getElem?_cons_succ]
    refine callW_imm hU ?_
    cases hu : uidB s with
    | false =>
      have hb : baseS s = s := by unfold baseS; rw [if_neg (by simp [hu])]
      rw [hb] at hB
      simp (disch := omega) [br_yes, br_no, wrap_i64, wrap_u8, wrap_i32, List.getElem?_cons_zero, List.getElem?_cons_succ]
      refine callW_imm hB ?_
      simp (disch := omega) [br_yes, br_no, wrap_i64, wrap_u8, wrap_i32, List.getElem?_cons_zero, List.getElem?_cons_succ]
      refine callW_imm hA ?_
      simp (disch := omega) [br_yes, br_no, wrap_i64, wrap_u8, wrap_i32, List.getElem?_cons_zero, List.getElem?_cons_succ]
    | true =>
      have hN := fn_Numbered s n hs (by omega)
      have hM := fn_Numbered s m hs (by omega)
      obtain ⟨a, ha⟩ : ∃ a, numS s n = a := ⟨_, rfl⟩
      obtain ⟨b, hb⟩ : ∃ b, numS s m = b := ⟨_, rfl⟩
      have hd1 := dec_pos n
      have hd2 := dec_len 4 n (by omega)
      have hal : a.length = s.length + 1 + (decDigits n).length := by rw [← ha, numS]; simp; omega
      have hat : a.take s.length = s := by rw [← ha, numS, List.append_assoc, List.take_left]
      have hab : decide (a = b) = decide (n = m) := by
        rw [decide_eq_decide, ← ha, ← hb]
        exact ⟨num_inj, fun h => by rw [h]⟩
      have hua := num_uid hu n
      have hbs := base_uid hu
      obtain ⟨d, hbp⟩ := base_prefix s
      obtain ⟨c, hc⟩ : ∃ c, baseS s = c := ⟨_, rfl⟩
      rw [hc] at hB hbs hbp
      have hcl : c.length ≤ s.length := by
        have := congrArg List.length hbp
        rw [List.length_append] at this
        omega
      have hct : s.take c.length = c := by rw [hbp, List.take_left]
      have hUc := fn_UID c (by omega)
      have hUa := fn_UID a (by omega)
      have hBa := fn_Base a (by omega)
      rw [ha] at hN hua
      rw [hb] at hM
      rw [hbs] at hUc
      rw [hua] at hUa
      simp (disch := omega) [br_yes, br_no, wrap_i64, wrap_u8, wrap_i32, List.getElem?_cons_zero, List.getElem?_cons_succ]
      refine callW_imm hN ?_
      simp (disch := omega) [br_yes, br_no, wrap_i64, wrap_u8, wrap_i32, List.getElem?_cons_zero, List.getElem?_cons_succ]
      refine callW_imm hM ?_
      have key : ∀ P : Prop, P → P := fun P h => h
      by_cases hnm : n = m
      · have hab' : a = b := by simpa [hnm] using hab
        subst hnm
        subst hab'
        simp (disch := omega) [br_yes, br_no, wrap_i64, wrap_u8, wrap_i32, List.getElem?_cons_zero, List.getElem?_cons_succ, hat]
        refine ⟨by omega, ?_⟩
        refine callW_imm hB ?_
        simp (disch := omega) [br_yes, br_no, wrap_i64, wrap_u8, wrap_i32, List.getElem?_cons_zero, List.getElem?_cons_succ]
        refine callW_imm hUc ?_
        simp (disch := omega) [br_yes, br_no, wrap_i64, wrap_u8, wrap_i32, List.getElem?_cons_zero, List.getElem?_cons_succ, hct]
        refine ⟨by omega, ?_⟩
        by_cases h24 : 24 < a.length
        · rw [decide_eq_false (by omega)] at hUa
          simp (disch := omega) [br_yes, br_no, wrap_i64, wrap_u8, wrap_i32, List.getElem?_cons_zero, List.getElem?_cons_succ]
          refine callW_imm hUa ?_
          simp (disch := omega) [br_yes, br_no, wrap_i64, wrap_u8, wrap_i32, List.getElem?_cons_zero, List.getElem?_cons_succ]
          refine callW_imm hA ?_
          simp (disch := omega) [br_yes, br_no, wrap_i64, wrap_u8, wrap_i32, List.getElem?_cons_zero, List.getElem?_cons_succ]
        · rw [decide_eq_true (by omega)] at hUa
          have hne : s ≠ [] := by intro e; rw [e] at hu; simp [uidB] at hu
          have hbn := base_num (s := s) (n := n) (by rw [ha]; rw [hua]; simp; omega) hne
          rw [ha] at hbn
          rw [hbn] at hBa
          simp (disch := omega) [br_yes, br_no, wrap_i64, wrap_u8, wrap_i32, List.getElem?_cons_zero, List.getElem?_cons_succ]
          refine callW_imm hUa ?_
          simp (disch := omega) [br_yes, br_no, wrap_i64, wrap_u8, wrap_i32, List.getElem?_cons_zero, List.getElem?_cons_succ]
          refine callW_imm hBa ?_
          simp (disch := omega) [br_yes, br_no, wrap_i64, wrap_u8, wrap_i32, List.getElem?_cons_zero, List.getElem?_cons_succ]
          refine callW_imm hA ?_
          simp (disch := omega) [br_yes, br_no, wrap_i64, wrap_u8, wrap_i32, List.getElem?_cons_zero, List.getElem?_cons_succ]
      · have hab' : ¬ a = b := by simpa [hnm] using hab
        simp (disch := omega) [br_yes, br_no, wrap_i64, wrap_u8, wrap_i32, List.getElem?_cons_zero, List.getElem?_cons_succ, hat, hnm, hab']
        refine ⟨by omega, ?_⟩
        refine callW_imm hB ?_
        simp (disch := omega) [br_yes, br_no, wrap_i64, wrap_u8, wrap_i32, List.getElem?_cons_zero, List.getElem?_cons_succ]
        refine callW_imm hUc ?_
        simp (disch := omega) [br_yes, br_no, wrap_i64, wrap_u8, wrap_i32, List.getElem?_cons_zero, List.getElem?_cons_succ, hct]
        refine ⟨by omega, ?_⟩
        by_cases h24 : 24 < a.length
        · rw [decide_eq_false (by omega)] at hUa
          simp (disch := omega) [br_yes, br_no, wrap_i64, wrap_u8, wrap_i32, List.getElem?_cons_zero, List.getElem?_cons_succ]
          refine callW_imm hUa ?_
          simp (disch := omega) [br_yes, br_no, wrap_i64, wrap_u8, wrap_i32, List.getElem?_cons_zero, List.getElem?_cons_succ]
          refine callW_imm hA ?_
          simp (disch := omega) [br_yes, br_no, wrap_i64, wrap_u8, wrap_i32, List.getElem?_cons_zero, List.getElem?_cons_succ]
        · rw [decide_eq_true (by omega)] at hUa
          have hne : s ≠ [] := by intro e; rw [e] at hu; simp [uidB] at hu
          have hbn := base_num (s := s) (n := n) (by rw [ha]; rw [hua]; simp; omega) hne
          rw [ha] at hbn
          rw [hbn] at hBa
          simp (disch := omega) [br_yes, br_no, wrap_i64, wrap_u8, wrap_i32, List.getElem?_cons_zero, List.getElem?_cons_succ]
          refine callW_imm hUa ?_
          simp (disch := omega) [br_yes, br_no, wrap_i64, wrap_u8, wrap_i32, List.getElem?_cons_zero, List.getElem?_cons_succ]
          refine callW_imm hBa ?_
          simp (disch := omega) [br_yes, br_no, wrap_i64, wrap_u8, wrap_i32, List.getElem?_cons_zero, List.getElem?_cons_succ]
          refine callW_imm hA ?_
          simp (disch := omega) [br_yes, br_no, wrap_i64, wrap_u8, wrap_i32, List.getElem?_cons_zero, List.getElem?_cons_succ]
theorem wf_u16 {n : Int} (h : (Lit.int .u16 n).wf = true) : ∃ k : Nat, n = k ∧ k < 65536 := by
  simp [Lit.wf] at h
  have h1 : IntKind.u16.min = 0 := by rfl
  have h2 : IntKind.u16.max = 65535 := by rfl
  simp only [h1, h2] at h
  exact ⟨n.toNat, by omega, by omega⟩
theorem RelateNumbers_true (args : List IV) (h : Args [.str, .int .u16, .int .u16] args) : Fn G Tryd.prog k_law28_RelateNumbers args (.bool true) := by
  obtain ⟨v, b, rfl, ⟨s, hs, _⟩, w, c, rfl, ⟨n, hn, hnw⟩, x, d, rfl, ⟨m, hm', hmw⟩, hd⟩ := h
  have hd : d = [] := hd
  subst hd
  simp only [List.cons.injEq, and_true] at hs hn hm'
  subst hs hn hm'
  obtain ⟨k, rfl, hk⟩ := wf_u16 hnw
  obtain ⟨j, rfl, hj⟩ := wf_u16 hmw
  exact fn_RelateNumbers s k j hk hj
end Go.Vs.YtbchceojmblkkaaDoor
