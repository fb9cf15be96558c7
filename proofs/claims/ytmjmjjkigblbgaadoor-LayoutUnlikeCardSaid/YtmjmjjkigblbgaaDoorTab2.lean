/- The functions of chapter 14. -/
import Derived.Test.YtmjmjjkigblbgaaDoorKeepN
set_option linter.unusedVariables false
set_option linter.unusedSimpArgs false
set_option maxRecDepth 8192
namespace Go.Proofs.YtmjmjjkigblbgaaDoor
open Go Go.F
theorem g_aumbry_aumbrykeep_CopyRows_byte : goFn Tryd.prog 55 = true := by kernel_rfl
theorem g_aumbry_aumbrykeep_Share : goFn Tryd.prog 22 = true := by kernel_rfl
theorem g_aumbry_aumbrylaw14_made : goFn Tryd.prog 18 = true := by kernel_rfl
theorem g_aumbry_aumbrylaw14_turned : goFn Tryd.prog 20 = true := by kernel_rfl
theorem g_aumbry_aumbrylaw14_wakes : goFn Tryd.prog 17 = true := by kernel_rfl
theorem g_aumbry_aumbryref01_Stream : goFn Tryd.prog 85 = true := by kernel_rfl
theorem g_aumbry_aumbryref01_block : goFn Tryd.prog 107 = true := by kernel_rfl
theorem g_aumbry_aumbryref01_boxes : goFn Tryd.prog 105 = true := by kernel_rfl
theorem g_aumbry_aumbryref01_expand : goFn Tryd.prog 106 = true := by kernel_rfl
theorem g_aumbry_aumbryref01_twice : goFn Tryd.prog 120 = true := by kernel_rfl
theorem g_aumbry_aumbryref04_Dot : goFn Tryd.prog 135 = true := by kernel_rfl
theorem g_aumbry_aumbryref04_Encode : goFn Tryd.prog 102 = true := by kernel_rfl
theorem g_aumbry_aumbryref04_Inv : goFn Tryd.prog 134 = true := by kernel_rfl
theorem g_aumbry_aumbryref04_Inverse : goFn Tryd.prog 126 = true := by kernel_rfl
theorem g_aumbry_aumbryref04_Matrix : goFn Tryd.prog 117 = true := by kernel_rfl
theorem g_aumbry_aumbryref04_Mul : goFn Tryd.prog 118 = true := by kernel_rfl
theorem g_aumbry_aumbryref04_Pad : goFn Tryd.prog 116 = true := by kernel_rfl
theorem g_aumbry_aumbryref04_Pow : goFn Tryd.prog 132 = true := by kernel_rfl
theorem g_aumbry_aumbryref04_Product : goFn Tryd.prog 127 = true := by kernel_rfl
theorem g_aumbry_aumbryref04_Unit : goFn Tryd.prog 133 = true := by kernel_rfl
theorem g_aumbry_aumbryref04_Vandermonde : goFn Tryd.prog 125 = true := by kernel_rfl
theorem g_aumbry_aumbryref04_column : goFn Tryd.prog 136 = true := by kernel_rfl
theorem g_aumbry_aumbryref13_Leaves : goFn Tryd.prog 119 = true := by kernel_rfl
theorem g_aumbry_aumbryref13_Pack : goFn Tryd.prog 14 = true := by kernel_rfl
theorem g_aumbry_aumbryref13_PrintUeb : goFn Tryd.prog 16 = true := by kernel_rfl
theorem g_aumbry_aumbryref13_ShareLeaf : goFn Tryd.prog 33 = true := by kernel_rfl
theorem g_aumbry_aumbryref13_leaves : goFn Tryd.prog 68 = true := by kernel_rfl
theorem g_aumbry_aumbryref18_Crypt : goFn Tryd.prog 103 = true := by kernel_rfl
theorem g_aumbry_aumbryref18_Encode : goFn Tryd.prog 53 = true := by kernel_rfl
theorem g_aumbry_aumbryref18_may : goFn Tryd.prog 83 = true := by kernel_rfl
theorem g_aumbry_aumbryref18_segments : goFn Tryd.prog 101 = true := by kernel_rfl
theorem g_aumbry_aumbryref18_shares : goFn Tryd.prog 84 = true := by kernel_rfl
theorem g_aumbry_layout_May : goFn Tryd.prog 42 = true := by kernel_rfl
theorem g_aumbry_layout_Pack : goFn Tryd.prog 12 = true := by kernel_rfl
theorem g_aumbry_layout_PackShare : goFn Tryd.prog 21 = true := by kernel_rfl
theorem g_aumbry_layout_Print : goFn Tryd.prog 15 = true := by kernel_rfl
theorem g_aumbry_layout_Unpack : goFn Tryd.prog 10 = true := by kernel_rfl
theorem g_aumbry_layout_kn : goFn Tryd.prog 59 = true := by kernel_rfl
theorem g_aumbry_layout_nums : goFn Tryd.prog 41 = true := by kernel_rfl
theorem g_aumbry_layout_row : goFn Tryd.prog 56 = true := by kernel_rfl
end Go.Proofs.YtmjmjjkigblbgaaDoor
