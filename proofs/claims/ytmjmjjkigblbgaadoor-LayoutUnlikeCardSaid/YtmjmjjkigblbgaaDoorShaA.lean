/- The words of SHA-256 in the program: RotateLeft32, the block. Conditions: each contract's own. -/
import Derived.Test.YtmjmjjkigblbgaaDoorRows
import Derived.Test.YtmjmjjkigblbgaaDoorFBase
import Derived.Test.YtmjmjjkigblbgaaDoorAuAll
set_option linter.unusedVariables false
set_option linter.unusedSimpArgs false
set_option maxRecDepth 8192
namespace Go.Proofs.YtmjmjjkigblbgaaDoor
open Go Go.F Go.RowKit

theorem and31 : ∀ r : Fin 32, 0 < r.val → bits .and .u64 (IntKind.u64.wrap (-(r.val : Int))) 31 = ((32 - r.val : Nat) : Int) := by decide +kernel
theorem sub31 : ∀ r : Fin 32, 0 < r.val → IntKind.u64.wrap (32 - ((32 - r.val : Nat) : Int)) = (r.val : Int) := by decide +kernel

theorem rot (a : BitVec 32) (k : Int) (w : World) (hk : -32 < k ∧ k < 0) : Calls Tryd.prog 124 #[wV a, .int .i64 k] w fun e w' => e = .returned (wV (Go.Sha.rotr a k.natAbs)) ∧ w = w' := by
 obtain ⟨r, hr⟩ : ∃ r : Fin 32, r.val = k.natAbs := ⟨⟨k.natAbs, by omega⟩, rfl⟩
 have hk' : k = -(r.val : Int) := by omega
 have h1 := and31 r (by omega)
 have h2 := sub31 r (by omega)
 rw [← hr]
 subst hk'
 clear hr
 refine enter2 _ Tryd.func124 rfl Tryd.ntmps124 Tryd.results124 rfl ?_
 repeat (first | refine W_seq ?_ | refine W_region ?_ | refine Wd ?_ | refine W_block ?_ | refine W_exit ?_ | refine W_skip ?_ | refine W_ret ?_ | refine T_nil ?_ | refine T_w rfl rfl rfl rfl rfl rfl rfl ?_ | refine T_wb rfl rfl rfl rfl rfl rfl rfl ?_ | refine T_wnot rfl rfl rfl rfl rfl ?_ | refine T_wshl rfl rfl rfl rfl rfl rfl rfl ?_ | refine T_wshr rfl rfl rfl rfl rfl rfl rfl ?_ | refine Ar ?_ | refine Pv ?_ | refine T_wshlv rfl rfl rfl h1 (by omega) rfl rfl rfl ?_ | (refine T_wshrv (q := r.val) rfl rfl rfl (by rw [h1]; exact h2) (by omega) rfl rfl rfl ?_))
 refine ⟨_, ⟨_, _, rfl, rfl, rfl⟩, ?_, rfl⟩
 simp only [oneOf, Go.Sha.rotr]
 congr 3
 rw [BitVec.or_comm]

end Go.Proofs.YtmjmjjkigblbgaaDoor
