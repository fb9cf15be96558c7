/- The functions of chapter 14. -/
import Derived.Test.YtmjmjjkigblbgaaDoorKeepN
set_option linter.unusedVariables false
set_option linter.unusedSimpArgs false
set_option maxRecDepth 8192
namespace Go.Proofs.YtmjmjjkigblbgaaDoor
open Go Go.F
theorem g_aumbry_aumbrykeep_Piece : goFn Tryd.prog 39 = true := by kernel_rfl
theorem g_aumbry_aumbrylaw14_cutPiece : goFn Tryd.prog 34 = true := by kernel_rfl
theorem g_aumbry_aumbrylaw14_wakes : goFn Tryd.prog 17 = true := by kernel_rfl
theorem g_aumbry_aumbryref01_Get : goFn Tryd.prog 46 = true := by kernel_rfl
theorem g_aumbry_aumbryref01_TakeNet : goFn Tryd.prog 76 = true := by kernel_rfl
theorem g_aumbry_aumbryref01_TakeNets : goFn Tryd.prog 44 = true := by kernel_rfl
theorem g_aumbry_aumbryref13_PackPiece : goFn Tryd.prog 38 = true := by kernel_rfl
theorem g_aumbry_aumbryref13_PackVersion : goFn Tryd.prog 26 = true := by kernel_rfl
theorem g_aumbry_aumbryref13_UnpackPiece : goFn Tryd.prog 36 = true := by kernel_rfl
theorem g_aumbry_aumbryref13_UnpackVersion : goFn Tryd.prog 24 = true := by kernel_rfl
theorem g_aumbry_aumbryref13_hash : goFn Tryd.prog 45 = true := by kernel_rfl
theorem g_aumbry_layout_May : goFn Tryd.prog 42 = true := by kernel_rfl
theorem g_aumbry_layout_Pack : goFn Tryd.prog 12 = true := by kernel_rfl
theorem g_aumbry_layout_PackPiece : goFn Tryd.prog 37 = true := by kernel_rfl
theorem g_aumbry_layout_PackVersion : goFn Tryd.prog 25 = true := by kernel_rfl
theorem g_aumbry_layout_Print : goFn Tryd.prog 15 = true := by kernel_rfl
theorem g_aumbry_layout_Unpack : goFn Tryd.prog 10 = true := by kernel_rfl
theorem g_aumbry_layout_UnpackPiece : goFn Tryd.prog 35 = true := by kernel_rfl
theorem g_aumbry_layout_UnpackVersion : goFn Tryd.prog 23 = true := by kernel_rfl
theorem g_aumbry_layout_hashes : goFn Tryd.prog 61 = true := by kernel_rfl
theorem g_aumbry_layout_kn : goFn Tryd.prog 59 = true := by kernel_rfl
theorem g_aumbry_layout_nums : goFn Tryd.prog 41 = true := by kernel_rfl
theorem g_aumbry_layout_row : goFn Tryd.prog 56 = true := by kernel_rfl
end Go.Proofs.YtmjmjjkigblbgaaDoor
