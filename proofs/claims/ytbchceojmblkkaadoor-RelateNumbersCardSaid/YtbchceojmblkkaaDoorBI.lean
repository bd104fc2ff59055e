/- The walk of the functions of utf, part 2: the first odd byte. No conditions. -/
import Derived.Test.YtbchceojmblkkaaDoorBH
set_option linter.unusedVariables false
set_option linter.unusedSimpArgs false
namespace Go.Vs.YtbchceojmblkkaaDoor
set_option linter.unusedSimpArgs false
set_option linter.unusedVariables false
open Go.Proofs Go.Vs.U8
set_option maxRecDepth 100000
set_option maxHeartbeats 4000000
end Go.Vs.YtbchceojmblkkaaDoor
namespace Go.Vs.YtbchceojmblkkaaDoor
set_option linter.unusedSimpArgs false
set_option linter.unusedVariables false
open Go.Proofs Go.Vs.U8
set_option maxRecDepth 100000
set_option maxHeartbeats 4000000
theorem fn_slIndexByte (s : Str) (c : UInt8) : Fn G Tryd.prog k_internal_stringslite_IndexByte [.str s, .int .u8 c.toNat] (.int .i64 (idxB s c)) := by
  refine fn_intro hm ok_internal_stringslite_IndexByte (by simp) ?_
  simp [c_internal_stringslite_IndexByte, r_internal_stringslite_IndexByte]
  refine callW_imm (fn_IndexByteString s c) ?_
  simp
theorem fn_IndexByte (s : Str) (c : UInt8) : Fn G Tryd.prog k_strings_IndexByte [.str s, .int .u8 c.toNat] (.int .i64 (idxB s c)) := by
  refine fn_intro hm ok_strings_IndexByte (by simp) ?_
  simp [c_strings_IndexByte, r_strings_IndexByte]
  refine callW_imm (fn_slIndexByte s c) ?_
  simp
end Go.Vs.YtbchceojmblkkaaDoor
