/- The code of the seat's functions in the small typed code; printed by a program of the prover's. -/
import Derived.Test.YtbchceojmblkkaaGreatDoorEA
import Derived.Test.YtbchceojmblkkaaGreatDoorRows
import Derived.KernelRfl
import Derived.Test.YtbchceojmblkkaaGreatDoorEC
import Derived.Test.YtbchceojmblkkaaGreatDoorBD
set_option linter.unusedVariables false
set_option linter.unusedSimpArgs false
namespace Go.Vs.YtbchceojmblkkaaGreatDoor
set_option linter.unusedSimpArgs false
set_option linter.unusedVariables false
open Go.Proofs
set_option maxRecDepth 100000
set_option maxHeartbeats 4000000

def k_law28_RelateBack : Nat := 7
def k_law28_awake : Nat := 37
/-- function 7 -/
def c_law28_RelateBack : VCode :=
  .seq (rt [o1 3 (.box (tm 1)), o1 4 (.move (cb false))] []) (.seq (.seq (rt [o1 15 (.move (tm 0)), o1 16 (.call k_law18_Small [tm 15]), o1 17 (.un (.not) (tm 16)), o1 18 (.move (tm 17)), o2 19 (.fieldAddr 1 (tm 3)) 18 false, o2 20 (.load none (tm 19)) 18 false, o2 21 (.lenS (tm 20)) 18 false, o2 22 (.bin (.gtr) (tm 21) (ci 60)) 18 false, o1 23 (.pick (tm 18) (cb true) (tm 22))] [15, 22]) (.cond (tm 23) (.seq (rt [o1 24 (.call k_law28_awake []), o1 4 (.move (tm 24))] [24, 24]) (.ret)) (.skip))) (.seq (rt [o1 26 (.load (some 2) (tm 3)), o1 27 (.call k_relate_Write [tm 26]), o1 25 (.move (tm 27)), o1 28 (.extract (tm 25) 0), o1 29 (.extract (tm 25) 1), o1 5 (.alloc [.val (.str []), .nils, .val (.str [])]), o3 (.store 3 (tm 5) (tm 28)), o1 6 (.move (tm 29))] [25, 29]) (.seq (.seq (rt [o1 30 (.move (tm 6)), o1 31 (.bin (.neq) (tm 30) (ci 0))] [30, 30]) (.cond (tm 31) (.seq (rt [o1 32 (.fieldAddr 1 (tm 3)), o1 33 (.load none (tm 32)), o1 34 (.call k_relate_UID [tm 33]), o1 35 (.un (.not) (tm 34)), o1 36 (.move (tm 35)), o2 37 (.fieldAddr 0 (tm 3)) 36 false, o2 38 (.load none (tm 37)) 36 false, o2 39 (.bin (.gtr) (tm 38) (cu 3)) 36 false, o1 40 (.pick (tm 36) (cb true) (tm 39)), o1 41 (.move (tm 40)), o2 42 (.call k_law28_awake []) 41 true, o1 43 (.pick (tm 41) (tm 42) (cb false)), o1 4 (.move (tm 43))] [32, 43]) (.ret)) (.skip))) (.seq (rt [o1 45 (.load (some 3) (tm 5)), o1 46 (.call k_relate_Read [tm 45]), o1 44 (.move (tm 46)), o1 47 (.extract (tm 44) 0), o1 48 (.extract (tm 44) 1), o1 7 (.alloc [.val (.int (.u8) 0), .val (.str [])]), o3 (.store 2 (tm 7) (tm 47)), o1 8 (.move (tm 48))] [44, 48]) (.seq (rt [o1 50 (.load (some 3) (tm 5)), o1 51 (.call k_line_Print [tm 50]), o1 49 (.move (tm 51)), o1 52 (.extract (tm 49) 0), o1 53 (.extract (tm 49) 1), o1 9 (.move (tm 52)), o1 10 (.move (tm 53))] [49, 53]) (.seq (rt [o1 55 (.move (tm 9)), o1 56 (.call k_line_Parse [tm 55]), o1 54 (.move (tm 56)), o1 57 (.extract (tm 54) 0), o1 58 (.extract (tm 54) 1), o1 11 (.alloc [.val (.str []), .nils, .val (.str [])]), o3 (.store 3 (tm 11) (tm 57)), o1 12 (.move (tm 58))] [54, 58]) (.seq (rt [o1 59 (.move (tm 0)), o1 60 (.call k_law18_Own [tm 59]), o1 13 (.move (tm 60))] [59, 60]) (.seq (.region [o1 61 (.move (tm 0)), o1 62 (.call k_law18_Own [tm 61]), o1 63 (.load (some 3) (tm 5)), o1 64 (.buildSlice 3 1 [.val (.str []), .nils, .val (.str [])] [(0, 3, tm 63)]), o1 65 (.append 72 3 56 (tm 62) (tm 64)), o1 14 (.move (tm 65))] (.drawn [(1, 2), (0, 3), (1, 3)] (prs [(1, [(0, 0), (2, 3)]), (3, [(0, 2)]), (4, [(0, 3)])])) [61, 65]) (.seq (.region [o1 66 (.move (tm 8)), o1 67 (.bin (.eql) (tm 66) (ci 0)), o1 68 (.move (tm 67)), o2 69 (.load (some 2) (tm 7)) 68 true, o2 70 (.load (some 2) (tm 3)) 68 true, o2 71 (.eqA false [.i, .s] (tm 69) (tm 70)) 68 true, o1 72 (.pick (tm 68) (tm 71) (cb false)), o1 73 (.move (tm 72)), o2 74 (.load (some 3) (tm 5)) 73 true, o2 75 (.call k_line_Check [tm 74]) 73 true, o2 76 (.bin (.eql) (tm 75) (ci 0)) 73 true, o1 77 (.pick (tm 73) (tm 76) (cb false)), o1 78 (.move (tm 77)), o2 79 (.move (tm 10)) 78 true, o2 80 (.bin (.eql) (tm 79) (ci 0)) 78 true, o1 81 (.pick (tm 78) (tm 80) (cb false)), o1 82 (.move (tm 81)), o2 83 (.move (tm 12)) 82 true, o2 84 (.eqN false (tm 83)) 82 true, o1 85 (.pick (tm 82) (tm 84) (cb false)), o1 86 (.move (tm 85)), o2 87 (.load (some 3) (tm 11)) 86 true, o2 88 (.buildSlice 3 1 [.val (.str []), .nils, .val (.str [])] [(0, 3, tm 87)]) 86 true, o2 89 (.load (some 3) (tm 5)) 86 true, o2 90 (.buildSlice 3 1 [.val (.str []), .nils, .val (.str [])] [(0, 3, tm 89)]) 86 true, o2 91 (.call k_line_Same [tm 88, tm 90]) 86 true, o1 92 (.pick (tm 86) (tm 91) (cb false)), o1 93 (.move (tm 92)), o2 94 (.move (tm 14)) 93 true, o2 95 (.load (some 2) (tm 7)) 93 true, o2 96 (.call k_relate_Has [tm 94, tm 95]) 93 true, o1 97 (.pick (tm 93) (tm 96) (cb false)), o1 98 (.move (tm 97)), o2 99 (.move (tm 14)) 98 true, o2 100 (.load (some 2) (tm 7)) 98 true, o2 101 (.call k_relate_Remove [tm 99, tm 100]) 98 true, o2 102 (.load (some 2) (tm 7)) 98 true, o2 103 (.call k_relate_Has [tm 101, tm 102]) 98 true, o2 104 (.un (.not) (tm 103)) 98 true, o1 105 (.pick (tm 98) (tm 104) (cb false)), o1 106 (.move (tm 105)), o2 107 (.move (tm 14)) 106 true, o2 108 (.load (some 2) (tm 7)) 106 true, o2 109 (.call k_relate_Remove [tm 107, tm 108]) 106 true, o2 110 (.move (tm 13)) 106 true, o2 111 (.load (some 2) (tm 7)) 106 true, o2 112 (.call k_relate_Remove [tm 110, tm 111]) 106 true, o2 113 (.call k_line_Same [tm 109, tm 112]) 106 true, o1 114 (.pick (tm 106) (tm 113) (cb false)), o1 115 (.move (tm 114)), o2 116 (.call k_law28_awake []) 115 true, o1 117 (.pick (tm 115) (tm 116) (cb false)), o1 4 (.move (tm 117))] (.drawn [(22, 23), (21, 24), (22, 24), (35, 36), (43, 44), (43, 45)] (prs [(9, [(0, 8)]), (22, [(0, 21), (23, 24)]), (24, [(0, 23)]), (25, [(0, 24)]), (30, [(0, 29)]), (35, [(0, 34), (36, 36)]), (37, [(0, 36)]), (43, [(0, 42), (44, 45)]), (46, [(0, 45)]), (47, [(0, 46)]), (50, [(0, 49)])])) [66, 117]) (.ret))))))))))
def r_law28_RelateBack : List VRes := [.tmp 4]
theorem ok_law28_RelateBack : FnOk Tryz.prog k_law28_RelateBack c_law28_RelateBack r_law28_RelateBack 118 :=
  ⟨⟨Tryz.f7, _, Tryz.func7, by decide, rfl, by kernel_rfl, by kernel_rfl, by kernel_rfl, rfl⟩⟩

/-- function 37 -/
def c_law28_awake : VCode :=
  .seq (rt [o1 0 (.move (cb false))] []) (.seq (rt [o1 13 (.build [.val (.int (.u8) 0), .val (.str [])] [(0, 1, cu 3), (1, 1, cs [97, 46, 50])]), o1 14 (.call k_relate_Write [tm 13]), o1 12 (.move (tm 14)), o1 15 (.extract (tm 12) 0), o1 16 (.extract (tm 12) 1), o1 1 (.alloc [.val (.str []), .nils, .val (.str [])]), o3 (.store 3 (tm 1) (tm 15)), o1 2 (.move (tm 16))] [12, 16]) (.seq (rt [o1 18 (.load (some 3) (tm 1)), o1 19 (.call k_relate_Read [tm 18]), o1 17 (.move (tm 19)), o1 20 (.extract (tm 17) 0), o1 21 (.extract (tm 17) 1), o1 3 (.alloc [.val (.int (.u8) 0), .val (.str [])]), o3 (.store 2 (tm 3) (tm 20)), o1 4 (.move (tm 21))] [17, 21]) (.seq (rt [o1 23 (.build [.val (.str []), .nils, .val (.str [])] [(0, 1, cs [82, 69, 76, 65, 84, 69, 68, 45, 84, 79]), (2, 1, cs [98])]), o1 24 (.call k_relate_Read [tm 23]), o1 22 (.move (tm 24)), o1 25 (.extract (tm 22) 0), o1 26 (.extract (tm 22) 1), o1 5 (.alloc [.val (.int (.u8) 0), .val (.str [])]), o3 (.store 2 (tm 5) (tm 25)), o1 6 (.move (tm 26))] [22, 26]) (.seq (rt [o1 28 (.buildSlice 1 1 [.val (.str [])] [(0, 1, cs [120])]), o1 29 (.build [.val (.str []), .nils] [(0, 1, cs [82, 69, 76, 84, 89, 80, 69]), (1, 1, tm 28)]), o1 30 (.buildSlice 2 1 [.val (.str []), .nils] [(0, 2, tm 29)]), o1 31 (.build [.val (.str []), .nils, .val (.str [])] [(0, 1, cs [82, 69, 76, 65, 84, 69, 68, 45, 84, 79]), (1, 1, tm 30), (2, 1, cs [98])]), o1 32 (.call k_relate_Read [tm 31]), o1 27 (.move (tm 32)), o1 33 (.extract (tm 27) 0), o1 34 (.extract (tm 27) 1), o1 7 (.alloc [.val (.int (.u8) 0), .val (.str [])]), o3 (.store 2 (tm 7) (tm 33)), o1 8 (.move (tm 34))] [8, 8, 27, 34]) (.seq (rt [o1 36 (.build [.val (.str []), .nils, .val (.str [])] [(0, 1, cs [85, 73, 68]), (2, 1, cs [98])]), o1 37 (.call k_relate_Read [tm 36]), o1 35 (.move (tm 37)), o1 38 (.extract (tm 35) 0), o1 39 (.extract (tm 35) 1), o1 9 (.alloc [.val (.int (.u8) 0), .val (.str [])]), o3 (.store 2 (tm 9) (tm 38)), o1 10 (.move (tm 39))] [9, 9, 35, 39]) (.seq (rt [o1 40 (.load (some 3) (tm 1)), o1 41 (.build [.val (.str []), .nils, .val (.str [])] [(0, 1, cs [85, 73, 68]), (2, 1, cs [98])]), o1 42 (.build [.val (.str []), .nils, .val (.str [])] [(0, 1, cs [82, 69, 76, 65, 84, 69, 68, 45, 84, 79]), (2, 1, cs [98])]), o1 43 (.buildSlice 3 3 [.val (.str []), .nils, .val (.str [])] [(0, 3, tm 40), (3, 3, tm 41), (6, 3, tm 42)]), o1 11 (.move (tm 43))] [40, 43]) (.seq (rt [o1 44 (.move (tm 2)), o1 45 (.bin (.eql) (tm 44) (ci 0)), o1 46 (.move (tm 45)), o2 47 (.move (tm 4)) 46 true, o2 48 (.bin (.eql) (tm 47) (ci 0)) 46 true, o1 49 (.pick (tm 46) (tm 48) (cb false)), o1 50 (.move (tm 49)), o2 51 (.fieldAddr 0 (tm 1)) 50 true, o2 52 (.load none (tm 51)) 50 true, o2 53 (.bin (.eql) (tm 52) (cs [82, 69, 76, 65, 84, 69, 68, 45, 84, 79])) 50 true, o1 54 (.pick (tm 50) (tm 53) (cb false)), o1 55 (.move (tm 54)), o2 56 (.fieldAddr 2 (tm 1)) 55 true, o2 57 (.load none (tm 56)) 55 true, o2 58 (.bin (.eql) (tm 57) (cs [97, 46, 50])) 55 true, o1 59 (.pick (tm 55) (tm 58) (cb false)), o1 60 (.move (tm 59)), o2 61 (.load (some 2) (tm 3)) 60 true, o2 62 (.build [.val (.int (.u8) 0), .val (.str [])] [(0, 1, cu 3), (1, 1, cs [97, 46, 50])]) 60 true, o2 63 (.eqA false [.i, .s] (tm 61) (tm 62)) 60 true, o1 64 (.pick (tm 60) (tm 63) (cb false)), o1 65 (.move (tm 64)), o2 66 (.move (tm 6)) 65 true, o2 67 (.bin (.eql) (tm 66) (ci 0)) 65 true, o1 68 (.pick (tm 65) (tm 67) (cb false)), o1 69 (.move (tm 68)), o2 70 (.load (some 2) (tm 5)) 69 true, o2 71 (.build [.val (.int (.u8) 0), .val (.str [])] [(0, 1, cu 0), (1, 1, cs [98])]) 69 true, o2 72 (.eqA false [.i, .s] (tm 70) (tm 71)) 69 true, o1 73 (.pick (tm 69) (tm 72) (cb false)), o1 74 (.move (tm 73)), o2 75 (.fieldAddr 0 (tm 7)) 74 true, o2 76 (.load none (tm 75)) 74 true, o2 77 (.bin (.eql) (tm 76) (cu 4)) 74 true, o1 78 (.pick (tm 74) (tm 77) (cb false)), o1 79 (.move (tm 78)), o2 80 (.move (tm 10)) 79 true, o2 81 (.bin (.eql) (tm 80) (ci 11)) 79 true, o1 82 (.pick (tm 79) (tm 81) (cb false)), o1 83 (.move (tm 82)), o2 84 (.move (tm 11)) 83 true, o2 85 (.call k_relate_All [tm 84, cu 0]) 83 true, o2 86 (.buildSlice 1 1 [.val (.str [])] [(0, 1, cs [98])]) 83 true, o2 87 (.call k_ref28_SameTexts [tm 85, tm 86]) 83 true, o1 88 (.pick (tm 83) (tm 87) (cb false)), o1 89 (.move (tm 88)), o2 90 (.move (tm 11)) 89 true, o2 91 (.load (some 2) (tm 3)) 89 true, o2 92 (.call k_relate_Has [tm 90, tm 91]) 89 true, o1 93 (.pick (tm 89) (tm 92) (cb false)), o1 94 (.move (tm 93)), o2 95 (.move (tm 11)) 94 true, o2 96 (.load (some 2) (tm 3)) 94 true, o2 97 (.call k_relate_Remove [tm 95, tm 96]) 94 true, o2 98 (.lenV (tm 97)) 94 true, o2 99 (.bin (.eql) (tm 98) (ci 2)) 94 true, o1 100 (.pick (tm 94) (tm 99) (cb false)), o1 101 (.move (tm 100)), o2 102 (.move (tm 11)) 101 true, o2 103 (.call k_relate_Forget [tm 102, cs [98]]) 101 true, o2 104 (.lenV (tm 103)) 101 true, o2 105 (.bin (.eql) (tm 104) (ci 2)) 101 true, o1 106 (.pick (tm 101) (tm 105) (cb false)), o1 107 (.move (tm 106)), o2 108 (.call k_relate_UID [cs [65, 45, 122, 48, 46, 57, 95, 64]]) 107 true, o1 109 (.pick (tm 107) (tm 108) (cb false)), o1 110 (.move (tm 109)), o2 111 (.call k_relate_UID [cs [97, 32, 98]]) 110 true, o2 112 (.un (.not) (tm 111)) 110 true, o1 113 (.pick (tm 110) (tm 112) (cb false)), o1 114 (.move (tm 113)), o2 115 (.call k_relate_Base [cs [97, 46, 49, 50]]) 114 true, o2 116 (.bin (.eql) (tm 115) (cs [97])) 114 true, o1 117 (.pick (tm 114) (tm 116) (cb false)), o1 118 (.move (tm 117)), o2 119 (.call k_relate_Base [cs [46, 49]]) 118 true, o2 120 (.bin (.eql) (tm 119) (cs [46, 49])) 118 true, o1 121 (.pick (tm 118) (tm 120) (cb false)), o1 122 (.move (tm 121)), o2 123 (.call k_relate_Numbered [cs [97], ci 12]) 122 true, o2 124 (.bin (.eql) (tm 123) (cs [97, 46, 49, 50])) 122 true, o1 125 (.pick (tm 122) (tm 124) (cb false)), o1 126 (.move (tm 125)), o1 127 (.pick (tm 126) (cb true) (cb false)), o1 128 (.move (tm 127)), o1 129 (.pick (tm 128) (cb true) (cb false)), o1 0 (.move (tm 129))] [44, 129]) (.ret))))))))
def r_law28_awake : List VRes := [.tmp 0]
theorem ok_law28_awake : FnOk Tryz.prog k_law28_awake c_law28_awake r_law28_awake 130 :=
  ⟨⟨Tryz.f37, _, Tryz.func37, by decide, rfl, by kernel_rfl, by kernel_rfl, by kernel_rfl, rfl⟩⟩

end Go.Vs.YtbchceojmblkkaaGreatDoor
namespace Go.Vs.YtbchceojmblkkaaGreatDoor
set_option linter.unusedSimpArgs false
set_option linter.unusedVariables false
open Go.Proofs Go.Vs.U8 Go.Vs.Pa Go.Vs.Nu Go.Lib
set_option maxRecDepth 100000
set_option maxHeartbeats 16000000
def eaX : Ln := ⟨rtName, [⟨ptName, [[68, 69, 80, 69, 78, 68, 83, 45, 79, 78]]⟩], [97, 46, 50]⟩
def ebX : Ln := ⟨[85, 73, 68], [], [98]⟩
def ecX : Ln := ⟨rtName, [], [98]⟩
def edX : Ln := ⟨rtName, [⟨ptName, [[120]]⟩], [98]⟩
theorem fit_one {n a v : Str} {w : Str} (h1 : n.length < 1000) (h2 : a.length < 1000) (h3 : v.length < 1000) (h4 : w.length < 1000) : FitX ⟨n, [⟨a, [w]⟩], v⟩ := by
  refine ⟨by simp only; omega, by simp, ⟨?_, ?_, ?_⟩, by simp only; omega⟩
  · intro p hp
    simp only [List.mem_singleton] at hp
    subst hp
    simp only; omega
  · intro p hp
    simp only [List.mem_singleton] at hp
    subst hp
    simp
  · intro p hp s hs
    simp only [List.mem_singleton] at hp
    subst hp
    simp only [List.mem_singleton] at hs
    subst hs
    omega
theorem fit_none {n v : Str} (h1 : n.length < 1000) (h3 : v.length < 1000) : FitX ⟨n, [], v⟩ :=
  ⟨by simp only; omega, by simp, ⟨by simp, by simp, by simp⟩, by simp only; omega⟩
theorem fit_ea : FitX eaX := fit_one (by decide) (by decide) (by decide) (by decide)
theorem fit_eb : FitX ebX := fit_none (by decide) (by decide)
theorem fit_ec : FitX ecX := fit_none (by decide) (by decide)
theorem fit_ed : FitX edX := fit_one (by decide) (by decide) (by decide) (by decide)
theorem fit_eall : FitL [eaX, ebX, ecX] := fun x hx => by
  simp only [List.mem_cons, List.not_mem_nil, or_false] at hx
  rcases hx with rfl | rfl | rfl
  · exact fit_ea
  · exact fit_eb
  · exact fit_ec
theorem fn_Read' (x : Ln) (fx : FitX x) (R : Rl × Int) (h : relR x = R) : Fn G Tryz.prog k_relate_Read [x.iv] (relRI R) := h ▸ fn_Read x fx
theorem dec12 : decDigits 12 = [49, 50] := by
  rw [decDigits, dif_neg (by omega), decDigits, dif_pos (by omega)]
  rfl
theorem fn_eawake : Fn G Tryz.prog k_law28_awake [] (.bool true) := by
  refine fn_intro hm ok_law28_awake (by simp) ?_
  have h1 := fn_Write (3, [97, 46, 50]) (by decide)
  rw [show writR (3, [97, 46, 50]) = (eaX, 0) by rfl] at h1
  have h2 := fn_Read' eaX fit_ea ((3, [97, 46, 50]), 0) (by rfl)
  have h3 := fn_Read' ecX fit_ec ((0, [98]), 0) (by rfl)
  have h4 := fn_Read' edX fit_ed ((4, [98]), 0) (by rfl)
  have h5 := fn_Read' ebX fit_eb ((0, []), 11) (by rfl)
  have g1 := fn_allR [eaX, ebX, ecX] 0 (by decide) fit_eall
  rw [show allR [eaX, ebX, ecX] 0 = [[98]] by rfl] at g1
  have g2 := fn_SameTexts [[98]] [[98]] (by decide) (by decide)
  have g3 := fn_hasR [eaX, ebX, ecX] (3, [97, 46, 50]) (by decide) fit_eall
  rw [show hasR [eaX, ebX, ecX] (3, [97, 46, 50]) = true by rfl] at g3
  have g4 := fn_dropR [eaX, ebX, ecX] (3, [97, 46, 50]) (by decide) fit_eall
  rw [show dropR [eaX, ebX, ecX] (3, [97, 46, 50]) = [ebX, ecX] by rfl] at g4
  have g5 := fn_forgR [eaX, ebX, ecX] [98] (by decide) fit_eall
  rw [show forgR [eaX, ebX, ecX] [98] = [eaX, ebX] by rfl] at g5
  have g6 := fn_UID [65, 45, 122, 48, 46, 57, 95, 64] (by decide)
  rw [show uidB [65, 45, 122, 48, 46, 57, 95, 64] = true by rfl] at g6
  have g7 := fn_UID [97, 32, 98] (by decide)
  rw [show uidB [97, 32, 98] = false by rfl] at g7
  have g8 := fn_Base [97, 46, 49, 50] (by decide)
  rw [show baseS [97, 46, 49, 50] = [97] by rfl] at g8
  have g9 := fn_Base [46, 49] (by decide)
  rw [show baseS [46, 49] = [46, 49] by rfl] at g9
  have g10 := fn_Numbered [97] 12 (by decide) (by decide)
  rw [show numS [97] 12 = [97, 46, 49, 50] by rw [numS, dec12]; rfl] at g10
  simp only [relRI, Ln.iv, eaX, ebX, ecX, edX, ls, ps, ts, List.map_cons, List.map_nil, rtName, ptName, decide_true, Int.cast_ofNat_Int] at h1 h2 h3 h4 h5 g1 g2 g3 g4 g5 g10
  simp [c_law28_awake, r_law28_awake]
  refine callW_imm h1 ?_
  simp (disch := omega) [br_yes, br_no, wrap_i64, wrap_u8, wrap_i32, List.getElem?_cons_zero, List.getElem?_cons_succ]
  refine callW_imm h2 ?_
  simp (disch := omega) [br_yes, br_no, wrap_i64, wrap_u8, wrap_i32, List.getElem?_cons_zero, List.getElem?_cons_succ]
  refine callW_imm h3 ?_
  simp (disch := omega) [br_yes, br_no, wrap_i64, wrap_u8, wrap_i32, List.getElem?_cons_zero, List.getElem?_cons_succ]
  refine callW_imm h4 ?_
  simp (disch := omega) [br_yes, br_no, wrap_i64, wrap_u8, wrap_i32, List.getElem?_cons_zero, List.getElem?_cons_succ]
  refine callW_imm h5 ?_
  simp (disch := omega) [br_yes, br_no, wrap_i64, wrap_u8, wrap_i32, List.getElem?_cons_zero, List.getElem?_cons_succ]
  refine callW_imm g1 ?_
  simp (disch := omega) [br_yes, br_no, wrap_i64, wrap_u8, wrap_i32, List.getElem?_cons_zero, List.getElem?_cons_succ]
  refine callW_imm g2 ?_
  simp (disch := omega) [br_yes, br_no, wrap_i64, wrap_u8, wrap_i32, List.getElem?_cons_zero, List.getElem?_cons_succ]
  refine callW_imm g3 ?_
  simp (disch := omega) [br_yes, br_no, wrap_i64, wrap_u8, wrap_i32, List.getElem?_cons_zero, List.getElem?_cons_succ]
  refine callW_imm g4 ?_
  simp (disch := omega) [br_yes, br_no, wrap_i64, wrap_u8, wrap_i32, List.getElem?_cons_zero, List.getElem?_cons_succ]
  refine callW_imm g5 ?_
  simp (disch := omega) [br_yes, br_no, wrap_i64, wrap_u8, wrap_i32, List.getElem?_cons_zero, List.getElem?_cons_succ]
  refine callW_imm g6 ?_
  simp (disch := omega) [br_yes, br_no, wrap_i64, wrap_u8, wrap_i32, List.getElem?_cons_zero, List.getElem?_cons_succ]
  refine callW_imm g7 ?_
  simp (disch := omega) [br_yes, br_no, wrap_i64, wrap_u8, wrap_i32, List.getElem?_cons_zero, List.getElem?_cons_succ]
  refine callW_imm g8 ?_
  simp (disch := omega) [br_yes, br_no, wrap_i64, wrap_u8, wrap_i32, List.getElem?_cons_zero, List.getElem?_cons_succ]
  refine callW_imm g9 ?_
  simp (disch := omega) [br_yes, br_no, wrap_i64, wrap_u8, wrap_i32, List.getElem?_cons_zero, List.getElem?_cons_succ]
  refine callW_imm g10 ?_
  simp (disch := omega) [br_yes, br_no, wrap_i64, wrap_u8, wrap_i32, List.getElem?_cons_zero, List.getElem?_cons_succ]
theorem wf_u16 {n : Int} (h : (Lit.int .u16 n).wf = true) : ∃ k : Nat, n = k ∧ k < 65536 := by
  simp [Lit.wf] at h
  have h1 : IntKind.u16.min = 0 := by rfl
  have h2 : IntKind.u16.max = 65535 := by rfl
  simp only [h1, h2] at h
  exact ⟨n.toNat, by omega, by omega⟩
end Go.Vs.YtbchceojmblkkaaGreatDoor
