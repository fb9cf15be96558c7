/- The functions of chapter 14. -/
import Derived.Test.YtmjmjjkigblbgaaGreatDoorKeepN
set_option linter.unusedVariables false
set_option linter.unusedSimpArgs false
set_option maxRecDepth 8192
namespace Go.Proofs.YtmjmjjkigblbgaaGreatDoor
open Go Go.F
theorem g_aumbry_aumbrylaw14_made : goFn Tryz.prog 8 = true := by kernel_rfl
theorem g_aumbry_aumbrylaw14_wakes : goFn Tryz.prog 12 = true := by kernel_rfl
theorem g_aumbry_aumbryref01_Get : goFn Tryz.prog 76 = true := by kernel_rfl
theorem g_aumbry_aumbryref01_Stream : goFn Tryz.prog 60 = true := by kernel_rfl
theorem g_aumbry_aumbryref01_TakeNet : goFn Tryz.prog 112 = true := by kernel_rfl
theorem g_aumbry_aumbryref01_TakeNets : goFn Tryz.prog 74 = true := by kernel_rfl
theorem g_aumbry_aumbryref01_block : goFn Tryz.prog 103 = true := by kernel_rfl
theorem g_aumbry_aumbryref01_boxes : goFn Tryz.prog 101 = true := by kernel_rfl
theorem g_aumbry_aumbryref01_expand : goFn Tryz.prog 102 = true := by kernel_rfl
theorem g_aumbry_aumbryref01_twice : goFn Tryz.prog 131 = true := by kernel_rfl
theorem g_aumbry_aumbryref04_Dot : goFn Tryz.prog 171 = true := by kernel_rfl
theorem g_aumbry_aumbryref04_Encode : goFn Tryz.prog 81 = true := by kernel_rfl
theorem g_aumbry_aumbryref04_Inv : goFn Tryz.prog 170 = true := by kernel_rfl
theorem g_aumbry_aumbryref04_Inverse : goFn Tryz.prog 153 = true := by kernel_rfl
theorem g_aumbry_aumbryref04_Matrix : goFn Tryz.prog 116 = true := by kernel_rfl
theorem g_aumbry_aumbryref04_Mul : goFn Tryz.prog 117 = true := by kernel_rfl
theorem g_aumbry_aumbryref04_Pad : goFn Tryz.prog 115 = true := by kernel_rfl
theorem g_aumbry_aumbryref04_Pow : goFn Tryz.prog 168 = true := by kernel_rfl
theorem g_aumbry_aumbryref04_Product : goFn Tryz.prog 154 = true := by kernel_rfl
theorem g_aumbry_aumbryref04_Unit : goFn Tryz.prog 169 = true := by kernel_rfl
theorem g_aumbry_aumbryref04_Vandermonde : goFn Tryz.prog 152 = true := by kernel_rfl
theorem g_aumbry_aumbryref04_column : goFn Tryz.prog 172 = true := by kernel_rfl
theorem g_aumbry_aumbryref13_Leaves : goFn Tryz.prog 44 = true := by kernel_rfl
theorem g_aumbry_aumbryref13_Pack : goFn Tryz.prog 100 = true := by kernel_rfl
theorem g_aumbry_aumbryref13_PrintUeb : goFn Tryz.prog 31 = true := by kernel_rfl
theorem g_aumbry_aumbryref13_ShareLeaf : goFn Tryz.prog 37 = true := by kernel_rfl
theorem g_aumbry_aumbryref13_Unpack : goFn Tryz.prog 32 = true := by kernel_rfl
theorem g_aumbry_aumbryref13_hash : goFn Tryz.prog 75 = true := by kernel_rfl
theorem g_aumbry_aumbryref13_leaves : goFn Tryz.prog 78 = true := by kernel_rfl
theorem g_aumbry_aumbryref18_Crypt : goFn Tryz.prog 99 = true := by kernel_rfl
theorem g_aumbry_aumbryref18_Encode : goFn Tryz.prog 23 = true := by kernel_rfl
theorem g_aumbry_aumbryref18_may : goFn Tryz.prog 58 = true := by kernel_rfl
theorem g_aumbry_aumbryref18_segments : goFn Tryz.prog 98 = true := by kernel_rfl
theorem g_aumbry_aumbryref18_shares : goFn Tryz.prog 59 = true := by kernel_rfl
theorem g_aumbry_layout_May : goFn Tryz.prog 63 = true := by kernel_rfl
theorem g_aumbry_layout_Pack : goFn Tryz.prog 65 = true := by kernel_rfl
theorem g_aumbry_layout_Print : goFn Tryz.prog 26 = true := by kernel_rfl
theorem g_aumbry_layout_ShareLeaf : goFn Tryz.prog 29 = true := by kernel_rfl
theorem g_aumbry_layout_Unpack : goFn Tryz.prog 24 = true := by kernel_rfl
theorem g_aumbry_layout_kn : goFn Tryz.prog 66 = true := by kernel_rfl
theorem g_aumbry_layout_nums : goFn Tryz.prog 62 = true := by kernel_rfl
end Go.Proofs.YtmjmjjkigblbgaaGreatDoor
