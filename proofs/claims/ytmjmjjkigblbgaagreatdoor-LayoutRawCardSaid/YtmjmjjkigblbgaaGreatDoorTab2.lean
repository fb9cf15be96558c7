/- The functions of chapter 14. -/
import Derived.Test.YtmjmjjkigblbgaaGreatDoorKeepN
set_option linter.unusedVariables false
set_option linter.unusedSimpArgs false
set_option maxRecDepth 8192
namespace Go.Proofs.YtmjmjjkigblbgaaGreatDoor
open Go Go.F
theorem g_aumbry_aumbrylaw14_cutPiece : goFn Tryz.prog 22 = true := by kernel_rfl
theorem g_aumbry_aumbrylaw14_cutShare : goFn Tryz.prog 21 = true := by kernel_rfl
theorem g_aumbry_aumbrylaw14_wakes : goFn Tryz.prog 12 = true := by kernel_rfl
theorem g_aumbry_aumbryref01_Get : goFn Tryz.prog 76 = true := by kernel_rfl
theorem g_aumbry_aumbryref01_TakeNet : goFn Tryz.prog 112 = true := by kernel_rfl
theorem g_aumbry_aumbryref01_TakeNets : goFn Tryz.prog 74 = true := by kernel_rfl
theorem g_aumbry_aumbryref13_PackVersion : goFn Tryz.prog 47 = true := by kernel_rfl
theorem g_aumbry_aumbryref13_PrintUeb : goFn Tryz.prog 31 = true := by kernel_rfl
theorem g_aumbry_aumbryref13_ShareLeaf : goFn Tryz.prog 37 = true := by kernel_rfl
theorem g_aumbry_aumbryref13_Unpack : goFn Tryz.prog 32 = true := by kernel_rfl
theorem g_aumbry_aumbryref13_hash : goFn Tryz.prog 75 = true := by kernel_rfl
theorem g_aumbry_aumbryref13_leaves : goFn Tryz.prog 78 = true := by kernel_rfl
theorem g_aumbry_layout_May : goFn Tryz.prog 63 = true := by kernel_rfl
theorem g_aumbry_layout_Pack : goFn Tryz.prog 65 = true := by kernel_rfl
theorem g_aumbry_layout_PackVersion : goFn Tryz.prog 53 = true := by kernel_rfl
theorem g_aumbry_layout_Print : goFn Tryz.prog 26 = true := by kernel_rfl
theorem g_aumbry_layout_ShareLeaf : goFn Tryz.prog 29 = true := by kernel_rfl
theorem g_aumbry_layout_Unpack : goFn Tryz.prog 24 = true := by kernel_rfl
theorem g_aumbry_layout_kn : goFn Tryz.prog 66 = true := by kernel_rfl
theorem g_aumbry_layout_nums : goFn Tryz.prog 62 = true := by kernel_rfl
end Go.Proofs.YtmjmjjkigblbgaaGreatDoor
