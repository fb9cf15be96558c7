/- Walks of the program's functions. -/
import Derived.Test.YtmjmjjkigblbgaaGreatDoorTur
import Derived.Test.YtmjmjjkigblbgaaGreatDoorFDag
import Derived.Test.YtmjmjjkigblbgaaGreatDoorTreeA
set_option linter.unusedVariables false
set_option linter.unusedSimpArgs false
set_option maxRecDepth 8192
namespace Go.Proofs.YtmjmjjkigblbgaaGreatDoor
open Go Go.F Go.RowKit

theorem inv1_w {W : World} {H : Hp} {B : Bp} {w : World} (C0 : Wk W H B w) (i j : Nat) {pb n m : Nat} {a1 : Option Addr} {c1 : Nat} (hp : VaB B pb (.slice a1 n c1)) (h1 : RoB B (.slice a1 n c1) n m) (hi : i < n) (hj : j < m) :
  Calls Tryz.prog 139 #[.int .i64 ((i : Nat) : Int), .int .i64 ((j : Nat) : Int), .pointer (some ⟨pb, 0, none⟩)] w fun e w' => ∃ B', B.le B' ∧ Wk W H B' w' ∧ ∃ x : UInt8, e = .returned (bV x) := by
 refine enter3 _ Tryz.func139 rfl Tryz.ntmps139 Tryz.results139 rfl (Wr (Pv (Nr ?_)))
 refine T_loadVK C0 hp rfl rfl rfl rfl rfl rfl rfl (Pv ?_)
 refine Aw h1 fun b21 o22 t23 q24 f25 hb26 hq27 hf28 => ?_
 have hr29 : RwB B b21 o22 m := ⟨_, _, _, hb26, hq27, hf28⟩
 refine Av C0 hr29 fun a30 c31 r32 => ?_
 refine Pv ?_
 refine At r32 fun b33 o34 q35 hb36 hq37 => ?_
 refine As C0 hb36 fun x38 => ?_
 refine Pv (T_nil (W_ret ?_))
 refine ⟨_, ⟨_, _, rfl, rfl, rfl⟩, B, (Bp.le.refl _), C0, ?_⟩
 exact ⟨(x38 : UInt8), rfl⟩


set_option maxHeartbeats 8000000 in
theorem inv_w {W : World} {H : Hp} {B : Bp} {w : World} (C0 : Wk W H B w) {a1 : Option Addr} {n c1 : Nat} (h1 : RoB B (.slice a1 n c1) n n) (hn : 1 ≤ n ∧ n ≤ 16) :
  Calls Tryz.prog 108 #[.slice a1 n c1] w fun e w' => ∃ B', B.le B' ∧ Wk W H B' w' ∧ ∃ a n' c z, e = .returned (.tuple #[.slice a n' c, .int .i64 z]) ∧ n' ≤ 16 ∧ RoB B' (.slice a n' c) n' n := by
 refine Aa Tryz.func108 Tryz.ntmps108 Tryz.results108 (Wr ?_)
 refine T_boxK C0 (.va 35 (.slice a1 n c1)) (fun _ => trivial) rfl rfl rfl rfl rfl rfl rfl rfl fun b21 w26 B23 hl24 hb22 C25 => ?_
 have hb22' : VaB B23 b21 (.slice a1 n c1) := ⟨_, hb22⟩
 refine P2 (T_nil ?_)
 iterate 2 refine W_seq ?_
 refine W_plan (planW Tryz.prog) rfl (by kernel_rfl) trivial ?_
 have C27 := C25.drew
 refine T_loadVK C27 hb22' rfl rfl rfl rfl rfl rfl rfl (Cw g_aumbry_matrix_may ((may_w C27 (h1.mono hl24) (by omega) (by omega)).mono ?_))
 rintro e w31 ⟨B28, hl29, C30, q32, rfl, hq33⟩
 refine ⟨_, rfl, ?_⟩
 refine P2 ?_
 refine Tp 14 (fun h34' => ?_) (fun h34' => ?_)
 ·have h34 := h34'
  iterate 7 refine No ?_
  refine Pv (T_nil ?_)
  refine W_cond_true rfl (Wr (P2 (T_nil (W_ret ?_))))
  refine ⟨_, ⟨_, _, rfl, rfl, ⟨_, _, rfl, rfl, rfl⟩⟩, B28, (hl24.trans hl29), C30, ?_⟩
  exact ⟨_, _, _, _, rfl, by omega, .inl ⟨rfl, rfl⟩⟩
 have h34 := h34'
 refine Ys ?_
 refine T_loadVK C30 (hb22'.mono hl29) rfl rfl rfl rfl rfl rfl rfl (Ys ?_)
 refine Pv ?_
 refine Ys ?_
 refine T_loadVK C30 (hb22'.mono hl29) rfl rfl rfl rfl rfl rfl rfl (Ys ?_)
 refine Aw (h1.mono (hl24.trans hl29)) fun b35 o36 t37 q38 f39 hb40 hq41 hf42 => ?_
 have hr43 : RwB B28 b35 o36 n := ⟨_, _, _, hb40, hq41, hf42⟩
 refine Ys ?_
 refine Av C30 hr43 fun a44 c45 r46 => ?_
 iterate 2 (refine Ys ?_; refine Pv ?_)
 refine Pv (T_nil ?_)
 refine W_cond_not rfl (fun h47 => ?_) (fun h47 => ?_)
 ·refine Wr (P2 (T_nil (W_ret ?_)))
  refine ⟨_, ⟨_, _, rfl, rfl, ⟨_, _, rfl, rfl, rfl⟩⟩, B28, (hl24.trans hl29), C30, ?_⟩
  exact ⟨_, _, _, _, rfl, by omega, .inl ⟨rfl, rfl⟩⟩
 refine W_skip (Wr (Cw g_aumbry_gf_New ((gnew_w C30 ).mono ?_)))
 rintro e w51 ⟨B48, hl49, C50, b52, rfl, hg53⟩
 refine ⟨_, rfl, ?_⟩
 refine Pv (Nr ?_)
 refine T_loadVK C50 (hb22'.mono (hl29.trans hl49)) rfl rfl rfl rfl rfl rfl rfl (P2 (Nr ?_))
 refine P2 ?_
 refine T_makeF rfl rfl rfl rfl rfl rfl ?_
 have hf54 : FnB Tryz.prog W H B48 (.func (.func 139) #[] #[.pointer (some ⟨b21, 0, none⟩)]) (AIJ n n) := ⟨_, [], [.pointer (some ⟨b21, 0, none⟩)], rfl, g_aumbry_matrix_Inverse_1, fun B1 w1 hl C1 args hA => by obtain ⟨i, j, hi, hj, rfl⟩ := hA; exact inv1_w C1 i j ((hb22'.mono (hl29.trans hl49)).mono hl) ((h1.mono (hl24.trans (hl29.trans hl49))).mono hl) hi hj⟩
 refine Cw g_aumbry_matrix_made ((made_w C50 n n hf54 (by omega) (by omega)).mono ?_)
 rintro e w58 ⟨B55, hl56, C57, a59, c60, rfl, r61⟩
 refine ⟨_, rfl, ?_⟩
 refine Pv (Nr ?_)
 refine Pv ?_
 refine Cw g_aumbry_matrix_Unit ((unit_w C57 n (by omega)).mono ?_)
 rintro e w65 ⟨B62, hl63, C64, a66, c67, rfl, r68⟩
 refine ⟨_, rfl, ?_⟩
 refine Pv (T_nil (W_seq (Wr ?_)))
 refine P2 (T_nil (W_block ?_))
 refine W_loop (fun M ρ w' => ∃ (k : Nat) (B69 : Bp), M = n - k ∧ k ≤ n ∧ ρ = [(4, .pointer (some ⟨b52, 0, none⟩)), (5, .int .i64 ((n : Nat) : Int)), (6, .slice a59 n c60), (7, .slice a66 n c67), (32, .int .i64 ((n : Nat) : Int)), (33, .int .i64 (k : Int))] ∧ B62.le B69 ∧ Wk W H B69 w')
  (n - 0) [(4, .pointer (some ⟨b52, 0, none⟩)), (5, .int .i64 ((n : Nat) : Int)), (6, .slice a59 n c60), (7, .slice a66 n c67), (32, .int .i64 ((n : Nat) : Int)), (33, .int .i64 ((0 : Nat) : Int))] ⟨rfl, ciI, rfl, rfl, ciI, ciI, trivial⟩ ⟨0, B62, rfl, (by exact Nat.zero_le _), rfl, Bp.le.refl _, C64⟩ ?_
 rintro M ρ w72 ⟨k, B69, rfl, hp73, rfl, hl70, C71⟩
 refine Wr (Pv (T_nil (W_seq ?_)))
 refine Ab (fun h74 => ?_) (fun h74 => ?_)
 ·refine W_skip (W_seq (W_block (Wr (P2 (Nr ?_)))))
  refine P2 (T_nil (W_seq (W_block ?_)))
  refine W_loop (fun M ρ w' => ∃ (p : Nat) (B75 : Bp), M = n - p ∧ k ≤ p ∧ p ≤ n ∧ ρ = [(4, .pointer (some ⟨b52, 0, none⟩)), (5, .int .i64 ((n : Nat) : Int)), (6, .slice a59 n c60), (7, .slice a66 n c67), (8, .int .i64 (k : Int)), (9, .int .i64 (p : Int)), (32, .int .i64 ((n : Nat) : Int)), (33, .int .i64 (k : Int))] ∧ B69.le B75 ∧ Wk W H B75 w')
   (n - k) [(4, .pointer (some ⟨b52, 0, none⟩)), (5, .int .i64 ((n : Nat) : Int)), (6, .slice a59 n c60), (7, .slice a66 n c67), (8, .int .i64 (k : Int)), (9, .int .i64 ((k : Nat) : Int)), (32, .int .i64 ((n : Nat) : Int)), (33, .int .i64 (k : Int))] ⟨rfl, ciI, rfl, rfl, ciI, ciI, ciI, ciI, trivial⟩ ⟨k, B69, rfl, (by omega), (by omega), rfl, Bp.le.refl _, C71⟩ ?_
  rintro M ρ w78 ⟨p, B75, rfl, hp79, hp80, rfl, hl76, C77⟩
  refine W_seq (Wr ?_)
  iterate 4 refine Pv ?_
  refine Td 40 (fun h81 => ?_) (fun h81 => ?_)
  ·iterate 2 (refine Ys ?_; refine Pv ?_)
   refine Ys ?_
   refine Aw (r61.mono (hl63.trans (hl70.trans hl76))) fun b82 o83 t84 q85 f86 hb87 hq88 hf89 => ?_
   have hr90 : RwB B75 b82 o83 n := ⟨_, _, _, hb87, hq88, hf89⟩
   refine Ys ?_
   refine Av C77 hr90 fun a91 c92 r93 => ?_
   refine Ys ?_
   refine Pv ?_
   refine Ys ?_
   refine At r93 fun b94 o95 q96 hb97 hq98 => ?_
   refine Ys ?_
   refine As C77 hb97 fun x99 => ?_
   refine Ys ?_
   refine P2 (T_nil ?_)
   refine Ab (fun h100 => ?_) (fun h100 => ?_)
   ·refine W_skip (W_block (W_region (Pv ?_)))
    refine Ar ?_
    refine Pv (T_nil ?_)
    exact ⟨n - (p + 1), [(4, .pointer (some ⟨b52, 0, none⟩)), (5, .int .i64 ((n : Nat) : Int)), (6, .slice a59 n c60), (7, .slice a66 n c67), (8, .int .i64 (k : Int)), (9, .int .i64 ((p + 1 : Nat) : Int)), (32, .int .i64 ((n : Nat) : Int)), (33, .int .i64 (k : Int))], by omega, ⟨rfl, ciI, rfl, rfl, ciI, ciI, ciI, ciI, trivial⟩, p + 1, B75, rfl, (by omega), (by omega), rfl, hl76, C77⟩
   refine W_exit (W_seq (Wr (P3 (T_nil ?_))))
   refine Ab (fun h101 => ?_) (fun h101 => ?_)
   ·refine Wr (P2 (T_nil (W_ret ?_)))
    refine ⟨_, ⟨_, _, rfl, rfl, ⟨_, _, rfl, rfl, rfl⟩⟩, B75, (hl24.trans (hl29.trans (hl49.trans (hl56.trans (hl63.trans (hl70.trans hl76)))))), C77, ?_⟩
    exact ⟨_, _, _, _, rfl, by omega, .inl ⟨rfl, rfl⟩⟩
   refine W_skip (W_seq (W_plan (planW Tryz.prog) rfl (by kernel_rfl) trivial ?_))
   have C102 := C77.drew
   iterate 6 refine Pv ?_
   refine Aw (r61.mono (hl63.trans (hl70.trans hl76))) fun b103 o104 t105 q106 f107 hb108 hq109 hf110 => ?_
   have hr111 : RwB B75 b103 o104 n := ⟨_, _, _, hb108, hq109, hf110⟩
   refine Av C102 hr111 fun a112 c113 r114 => ?_
   refine P2 ?_
   refine Aw (r61.mono (hl63.trans (hl70.trans hl76))) fun b115 o116 t117 q118 f119 hb120 hq121 hf122 => ?_
   have hr123 : RwB B75 b115 o116 n := ⟨_, _, _, hb120, hq121, hf122⟩
   refine Av C102 hr123 fun a124 c125 r126 => ?_
   refine Aw (r61.mono (hl63.trans (hl70.trans hl76))) fun b127 o128 t129 q130 f131 hb132 hq133 hf134 => ?_
   have hr135 : RwB B75 b127 o128 n := ⟨_, _, _, hb132, hq133, hf134⟩
   refine T_storeWK C102 hr135 r114 (fun _ => trivial) rfl rfl rfl rfl rfl rfl rfl rfl fun w139 B136 hl137 C138 => (Aw (r61.mono (hl63.trans (hl70.trans (hl76.trans hl137)))) fun b140 o141 t142 q143 f144 hb145 hq146 hf147 => ?_)
   have hr148 : RwB B136 b140 o141 n := ⟨_, _, _, hb145, hq146, hf147⟩
   refine T_storeWK C138 hr148 (r126.mono hl137) (fun _ => trivial) rfl rfl rfl rfl rfl rfl rfl rfl fun w152 B149 hl150 C151 => (T_nil (W_seq (W_plan (planW Tryz.prog) rfl (by kernel_rfl) trivial ?_)))
   have C153 := C151.drew
   iterate 6 refine Pv ?_
   refine Aw (r68.mono (hl70.trans (hl76.trans (hl137.trans hl150)))) fun b154 o155 t156 q157 f158 hb159 hq160 hf161 => ?_
   have hr162 : RwB B149 b154 o155 n := ⟨_, _, _, hb159, hq160, hf161⟩
   refine Av C153 hr162 fun a163 c164 r165 => ?_
   refine P2 ?_
   refine Aw (r68.mono (hl70.trans (hl76.trans (hl137.trans hl150)))) fun b166 o167 t168 q169 f170 hb171 hq172 hf173 => ?_
   have hr174 : RwB B149 b166 o167 n := ⟨_, _, _, hb171, hq172, hf173⟩
   refine Av C153 hr174 fun a175 c176 r177 => ?_
   refine Aw (r68.mono (hl70.trans (hl76.trans (hl137.trans hl150)))) fun b178 o179 t180 q181 f182 hb183 hq184 hf185 => ?_
   have hr186 : RwB B149 b178 o179 n := ⟨_, _, _, hb183, hq184, hf185⟩
   refine T_storeWK C153 hr186 r165 (fun _ => trivial) rfl rfl rfl rfl rfl rfl rfl rfl fun w190 B187 hl188 C189 => (Aw (r68.mono (hl70.trans (hl76.trans (hl137.trans (hl150.trans hl188))))) fun b191 o192 t193 q194 f195 hb196 hq197 hf198 => ?_)
   have hr199 : RwB B187 b191 o192 n := ⟨_, _, _, hb196, hq197, hf198⟩
   refine T_storeWK C189 hr199 (r177.mono hl188) (fun _ => trivial) rfl rfl rfl rfl rfl rfl rfl rfl fun w203 B200 hl201 C202 => (T_nil (W_seq (W_join (W := W) (H := H) (Bc := B200) [(4, .pointer (some ⟨b52, 0, none⟩)), (5, .int .i64 ((n : Nat) : Int)), (6, .slice a59 n c60), (7, .slice a66 n c67), (8, .int .i64 (k : Int)), (32, .int .i64 ((n : Nat) : Int)), (33, .int .i64 (k : Int))] (fun w207 B204 hl205 C206 => ?_) (fun J208 => ?_))))
   ·refine Wr (P2 (T_nil (W_block ?_)))
    refine W_loop (fun M ρ w' => ∃ (r : Nat) (B209 : Bp), M = n - r ∧ r ≤ n ∧ ρ = [(4, .pointer (some ⟨b52, 0, none⟩)), (5, .int .i64 ((n : Nat) : Int)), (6, .slice a59 n c60), (7, .slice a66 n c67), (8, .int .i64 (k : Int)), (32, .int .i64 ((n : Nat) : Int)), (33, .int .i64 (k : Int)), (104, .int .i64 ((n : Nat) : Int)), (105, .int .i64 (r : Int))] ∧ B204.le B209 ∧ Wk W H B209 w')
     (n - 0) [(4, .pointer (some ⟨b52, 0, none⟩)), (5, .int .i64 ((n : Nat) : Int)), (6, .slice a59 n c60), (7, .slice a66 n c67), (8, .int .i64 (k : Int)), (32, .int .i64 ((n : Nat) : Int)), (33, .int .i64 (k : Int)), (104, .int .i64 ((n : Nat) : Int)), (105, .int .i64 ((0 : Nat) : Int))] ⟨rfl, ciI, rfl, rfl, ciI, ciI, ciI, ciI, ciI, trivial⟩ ⟨0, B204, rfl, (by exact Nat.zero_le _), rfl, Bp.le.refl _, C206⟩ ?_
    rintro M ρ w212 ⟨r, B209, rfl, hp213, rfl, hl210, C211⟩
    refine Wr (Pv (T_nil (W_seq ?_)))
    refine Ab (fun h214 => ?_) (fun h214 => ?_)
    ·refine W_skip (W_seq (W_block (Wr (P2 (Nr ?_)))))
     refine P3 (T_nil ?_)
     refine W_cond_not rfl (fun h215 => ?_) (fun h215 => ?_)
     ·refine W_plan (planW Tryz.prog) rfl (by kernel_rfl) trivial ?_
      have C216 := C211.drew
      refine Pv ?_
      refine T_makeF rfl rfl rfl rfl rfl rfl ?_
      have hf217 : FnB Tryz.prog W H B209 (.func (.func 142) #[.pointer (some ⟨b52, 0, none⟩)] #[]) ABB := ⟨_, [.pointer (some ⟨b52, 0, none⟩)], [], rfl, g_aumbry_gf_Field_Mul, fun B1 w1 hl C1 args hA => by obtain ⟨x, y, rfl⟩ := hA; exact gmul_w C1 ((hg53.mono (hl56.trans (hl63.trans (hl70.trans (hl76.trans (hl137.trans (hl150.trans (hl188.trans (hl201.trans (hl205.trans hl210)))))))))).mono hl) x y⟩
      refine P2 ?_
      refine Aw (r61.mono (hl63.trans (hl70.trans (hl76.trans (hl137.trans (hl150.trans (hl188.trans (hl201.trans (hl205.trans hl210))))))))) fun b218 o219 t220 q221 f222 hb223 hq224 hf225 => ?_
      have hr226 : RwB B209 b218 o219 n := ⟨_, _, _, hb223, hq224, hf225⟩
      refine Av C216 hr226 fun a227 c228 r229 => ?_
      refine Pv ?_
      refine At r229 fun b230 o231 q232 hb233 hq234 => ?_
      refine As C216 hb233 fun x235 => ?_
      refine P2 ?_
      refine Aw (r61.mono (hl63.trans (hl70.trans (hl76.trans (hl137.trans (hl150.trans (hl188.trans (hl201.trans (hl205.trans hl210))))))))) fun b236 o237 t238 q239 f240 hb241 hq242 hf243 => ?_
      have hr244 : RwB B209 b236 o237 n := ⟨_, _, _, hb241, hq242, hf243⟩
      refine Av C216 hr244 fun a245 c246 r247 => ?_
      refine P2 ?_
      refine Aw (r61.mono (hl63.trans (hl70.trans (hl76.trans (hl137.trans (hl150.trans (hl188.trans (hl201.trans (hl205.trans hl210))))))))) fun b248 o249 t250 q251 f252 hb253 hq254 hf255 => ?_
      have hr256 : RwB B209 b248 o249 n := ⟨_, _, _, hb253, hq254, hf255⟩
      refine Av C216 hr256 fun a257 c258 r259 => ?_
      refine P2 ?_
      refine Aw (r68.mono (hl70.trans (hl76.trans (hl137.trans (hl150.trans (hl188.trans (hl201.trans (hl205.trans hl210)))))))) fun b260 o261 t262 q263 f264 hb265 hq266 hf267 => ?_
      have hr268 : RwB B209 b260 o261 n := ⟨_, _, _, hb265, hq266, hf267⟩
      refine Av C216 hr268 fun a269 c270 r271 => ?_
      refine P2 ?_
      refine Aw (r68.mono (hl70.trans (hl76.trans (hl137.trans (hl150.trans (hl188.trans (hl201.trans (hl205.trans hl210)))))))) fun b272 o273 t274 q275 f276 hb277 hq278 hf279 => ?_
      have hr280 : RwB B209 b272 o273 n := ⟨_, _, _, hb277, hq278, hf279⟩
      refine Av C216 hr280 fun a281 c282 r283 => ?_
      refine Cw g_aumbry_matrix_take ((take_w C216 hf217 x235 r247 r259 r271 r283 (by omega)).mono ?_)
      rintro e w287 ⟨B284, hl285, C286, rfl⟩
      refine ⟨_, rfl, ?_⟩
      refine T_nil (W_region (Ar ?_))
      refine Pv (T_nil ?_)
      exact ⟨n - (r + 1), [(4, .pointer (some ⟨b52, 0, none⟩)), (5, .int .i64 ((n : Nat) : Int)), (6, .slice a59 n c60), (7, .slice a66 n c67), (8, .int .i64 (k : Int)), (32, .int .i64 ((n : Nat) : Int)), (33, .int .i64 (k : Int)), (104, .int .i64 ((n : Nat) : Int)), (105, .int .i64 ((r + 1 : Nat) : Int))], by omega, ⟨rfl, ciI, rfl, rfl, ciI, ciI, ciI, ciI, ciI, trivial⟩, r + 1, B284, rfl, (by omega), rfl, (hl210.trans hl285), C286⟩
     refine W_skip (W_region (Ar ?_))
     refine Pv (T_nil ?_)
     exact ⟨n - (r + 1), [(4, .pointer (some ⟨b52, 0, none⟩)), (5, .int .i64 ((n : Nat) : Int)), (6, .slice a59 n c60), (7, .slice a66 n c67), (8, .int .i64 (k : Int)), (32, .int .i64 ((n : Nat) : Int)), (33, .int .i64 (k : Int)), (104, .int .i64 ((n : Nat) : Int)), (105, .int .i64 ((r + 1 : Nat) : Int))], by omega, ⟨rfl, ciI, rfl, rfl, ciI, ciI, ciI, ciI, ciI, trivial⟩, r + 1, B209, rfl, (by omega), rfl, hl210, C211⟩
    refine W_exit (W_region (Ar ?_))
    refine Pv (T_nil ?_)
    exact ⟨n - (k + 1), [(4, .pointer (some ⟨b52, 0, none⟩)), (5, .int .i64 ((n : Nat) : Int)), (6, .slice a59 n c60), (7, .slice a66 n c67), (32, .int .i64 ((n : Nat) : Int)), (33, .int .i64 ((k + 1 : Nat) : Int))], by omega, ⟨rfl, ciI, rfl, rfl, ciI, ciI, trivial⟩, k + 1, B209, rfl, (by omega), rfl, (hl70.trans (hl76.trans (hl137.trans (hl150.trans (hl188.trans (hl201.trans (hl205.trans hl210))))))), C211⟩
   refine W_tree (planW Tryz.prog) (.step 0 (.step 1 (.step 2 (.step 3 (.step 4 (.step 5 (.step 7 (.step 11 (.step 12 (.step 13 (.step 15 (.step 16 (.step 17 (.fork3 6 14 18 (.step 8 (.fork3 9 14 18 (.fork3 10 14 18 (.step 14 (.step 18 (.step 19 (.step 20 .done)))) (.fork 10 18 (.step 18 (.step 19 (.step 20 .done))) (.fork 10 19 (.step 19 (.step 20 .done)) (.step 10 (.step 20 .done)))) (.fork 10 14 (.step 14 (.step 19 (.step 20 .done))) (.fork 10 19 (.step 19 (.step 20 .done)) (.step 10 (.step 20 .done))))) (.fork 9 18 (.fork 10 18 (.step 18 (.step 19 (.step 20 .done))) (.fork 10 19 (.step 19 (.step 20 .done)) (.step 10 (.step 20 .done)))) (.fork 9 19 (.fork 10 19 (.step 19 (.step 20 .done)) (.step 10 (.step 20 .done))) (.step 9 (.step 10 (.step 20 .done))))) (.fork 9 14 (.fork 10 14 (.step 14 (.step 19 (.step 20 .done))) (.fork 10 19 (.step 19 (.step 20 .done)) (.step 10 (.step 20 .done)))) (.fork 9 19 (.fork 10 19 (.step 19 (.step 20 .done)) (.step 10 (.step 20 .done))) (.step 9 (.step 10 (.step 20 .done))))))) (.fork 6 18 (.step 8 (.fork 9 18 (.fork 10 18 (.step 18 (.step 19 (.step 20 .done))) (.fork 10 19 (.step 19 (.step 20 .done)) (.step 10 (.step 20 .done)))) (.fork 9 19 (.fork 10 19 (.step 19 (.step 20 .done)) (.step 10 (.step 20 .done))) (.step 9 (.step 10 (.step 20 .done)))))) (.fork 6 19 (.step 8 (.fork 9 19 (.fork 10 19 (.step 19 (.step 20 .done)) (.step 10 (.step 20 .done))) (.step 9 (.step 10 (.step 20 .done))))) (.step 6 (.step 8 (.step 9 (.step 10 (.step 20 .done))))))) (.fork 6 14 (.step 8 (.fork 9 14 (.fork 10 14 (.step 14 (.step 19 (.step 20 .done))) (.fork 10 19 (.step 19 (.step 20 .done)) (.step 10 (.step 20 .done)))) (.fork 9 19 (.fork 10 19 (.step 19 (.step 20 .done)) (.step 10 (.step 20 .done))) (.step 9 (.step 10 (.step 20 .done)))))) (.fork 6 19 (.step 8 (.fork 9 19 (.fork 10 19 (.step 19 (.step 20 .done)) (.step 10 (.step 20 .done))) (.step 9 (.step 10 (.step 20 .done))))) (.step 6 (.step 8 (.step 9 (.step 10 (.step 20 .done))))))))))))))))))))) rfl (by kernel_rfl) trivial ?_
   have C288 := C202.drew
   refine TT_step rfl (Pv ?_)
   refine Nt rfl (T_makeF rfl rfl rfl rfl rfl rfl ?_)
   have hf289 : FnB Tryz.prog W H B200 (.func (.func 142) #[.pointer (some ⟨b52, 0, none⟩)] #[]) ABB := ⟨_, [.pointer (some ⟨b52, 0, none⟩)], [], rfl, g_aumbry_gf_Field_Mul, fun B1 w1 hl C1 args hA => by obtain ⟨x, y, rfl⟩ := hA; exact gmul_w C1 ((hg53.mono (hl56.trans (hl63.trans (hl70.trans (hl76.trans (hl137.trans (hl150.trans (hl188.trans hl201)))))))).mono hl) x y⟩
   iterate 3 (refine T_nil ?_; refine TT_step rfl ?_; refine Pv ?_)
   refine Nt rfl (Aw (r61.mono (hl63.trans (hl70.trans (hl76.trans (hl137.trans (hl150.trans (hl188.trans hl201))))))) fun b290 o291 t292 q293 f294 hb295 hq296 hf297 => ?_)
   have hr298 : RwB B200 b290 o291 n := ⟨_, _, _, hb295, hq296, hf297⟩
   iterate 3 (refine T_nil ?_; refine TT_step rfl ?_; refine Pv ?_)
   refine Nt rfl (Aw (r61.mono (hl63.trans (hl70.trans (hl76.trans (hl137.trans (hl150.trans (hl188.trans hl201))))))) fun b299 o300 t301 q302 f303 hb304 hq305 hf306 => ?_)
   have hr307 : RwB B200 b299 o300 n := ⟨_, _, _, hb304, hq305, hf306⟩
   iterate 2 (refine T_nil ?_; refine TT_step rfl ?_; refine Pv ?_)
   refine Nt rfl (Aw (r68.mono (hl70.trans (hl76.trans (hl137.trans (hl150.trans (hl188.trans hl201)))))) fun b308 o309 t310 q311 f312 hb313 hq314 hf315 => ?_)
   have hr316 : RwB B200 b308 o309 n := ⟨_, _, _, hb313, hq314, hf315⟩
   refine T_nil (TT_dag (t := (.step 20 .done)) (fun ρ w' => ∃ (x330 : UInt8) (a337 : Option Addr) (c338 : Nat) (B344 : Bp), ρ = [(4, .pointer (some ⟨b52, 0, none⟩)), (5, .int .i64 ((n : Nat) : Int)), (6, .slice a59 n c60), (7, .slice a66 n c67), (8, .int .i64 (k : Int)), (32, .int .i64 ((n : Nat) : Int)), (33, .int .i64 (k : Int)), (84, .func (.func 142) #[.pointer (some ⟨b52, 0, none⟩)] #[]), (93, bV x330), (102, .slice a337 2 c338)] ∧ B200.le B344 ∧ Wk W H B344 w' ∧ RoB B344 (.slice a337 2 c338) 2 n) ?_ (fun J345 => ?_))
   ·rintro ρ w348 ⟨x330, a337, c338, B344, rfl, hl346, C347, r349⟩
    refine TT_step rfl (Cw g_aumbry_matrix_scale ((scale_w C347 (hf289.mono hl346) x330 r349 (by omega) (by omega)).mono ?_))
    rintro e w353 ⟨B350, hl351, C352, rfl⟩
    refine ⟨_, rfl, ?_⟩
    refine T_nil (TT_done ?_)
    exact Ws (J208 _ _ (hl346.trans hl351) C352)
   refine TT_dag (t := (.step 19 (.step 20 .done))) (fun ρ w' => ∃ (x367 : UInt8) (a368 : Option Addr) (c369 : Nat) (a371 : Option Addr) (c372 : Nat) (B374 : Bp), ρ = [(4, .pointer (some ⟨b52, 0, none⟩)), (5, .int .i64 ((n : Nat) : Int)), (6, .slice a59 n c60), (7, .slice a66 n c67), (8, .int .i64 (k : Int)), (32, .int .i64 ((n : Nat) : Int)), (33, .int .i64 (k : Int)), (84, .func (.func 142) #[.pointer (some ⟨b52, 0, none⟩)] #[]), (93, bV x367), (97, .slice a368 n c369), (101, .slice a371 n c372)] ∧ B200.le B374 ∧ Wk W H B374 w' ∧ SlB B374 (.slice a368 n c369) n ∧ SlB B374 (.slice a371 n c372) n) ?_ (fun J375 => ?_)
   ·rintro ρ w378 ⟨x367, a368, c369, a371, c372, B374, rfl, hl376, C377, r379, r380⟩
    refine TT_step rfl (T_lit2KR C377 (fun _ => trivial) rfl rfl rfl r379 r380 rfl rfl rfl rfl rfl rfl rfl rfl fun a381 c382 w387 B384 hl385 r383 C386 => (T_nil ?_))
    exact TT_subA (J345 _ _ ⟨x367, a381, c382, B384, rfl, (hl376.trans hl385), C386, r383⟩)
   refine TT_dag (t := (.step 10 (.step 20 .done))) (fun ρ w' => ∃ (x396 : UInt8) (a403 : Option Addr) (c404 : Nat) (B410 : Bp), ρ = [(4, .pointer (some ⟨b52, 0, none⟩)), (5, .int .i64 ((n : Nat) : Int)), (6, .slice a59 n c60), (7, .slice a66 n c67), (8, .int .i64 (k : Int)), (32, .int .i64 ((n : Nat) : Int)), (33, .int .i64 (k : Int)), (84, .func (.func 142) #[.pointer (some ⟨b52, 0, none⟩)] #[]), (85, .pointer (some ⟨b52, 0, none⟩)), (92, bV x396), (102, .slice a403 2 c404)] ∧ B200.le B410 ∧ Wk W H B410 w' ∧ RoB B410 (.slice a403 2 c404) 2 n) ?_ (fun J411 => ?_)
   ·rintro ρ w414 ⟨x396, a403, c404, B410, rfl, hl412, C413, r415⟩
    refine TT_step rfl (Cw g_aumbry_gf_Field_Inv ((ginv_w C413 (hg53.mono (hl56.trans (hl63.trans (hl70.trans (hl76.trans (hl137.trans (hl150.trans (hl188.trans (hl201.trans hl412))))))))) x396).mono ?_))
    rintro e w419 ⟨B416, hl417, C418, x420, rfl⟩
    refine ⟨_, rfl, ?_⟩
    refine T_nil ?_
    exact TT_subA (J345 _ _ ⟨x420, a403, c404, B416, rfl, (hl412.trans hl417), C418, (r415.mono hl417)⟩)
   refine TT_dag (t := (.step 18 (.step 19 (.step 20 .done)))) (fun ρ w' => ∃ (x434 : UInt8) (a435 : Option Addr) (c436 : Nat) (B438 : Bp), ρ = [(4, .pointer (some ⟨b52, 0, none⟩)), (5, .int .i64 ((n : Nat) : Int)), (6, .slice a59 n c60), (7, .slice a66 n c67), (8, .int .i64 (k : Int)), (32, .int .i64 ((n : Nat) : Int)), (33, .int .i64 (k : Int)), (84, .func (.func 142) #[.pointer (some ⟨b52, 0, none⟩)] #[]), (93, bV x434), (97, .slice a435 n c436), (100, .pointer (some ⟨b308, o309, none⟩))] ∧ B200.le B438 ∧ Wk W H B438 w' ∧ SlB B438 (.slice a435 n c436) n) ?_ (fun J439 => ?_)
   ·rintro ρ w442 ⟨x434, a435, c436, B438, rfl, hl440, C441, r443⟩
    refine TT_step rfl (Av C441 (hr316.mono hl440) fun a444 c445 r446 => (T_nil ?_))
    exact TT_subA (J375 _ _ ⟨x434, a435, c436, a444, c445, B438, rfl, hl440, C441, r443, r446⟩)
   refine TT_dag (t := (.fork 10 19 (.step 19 (.step 20 .done)) (.step 10 (.step 20 .done)))) (fun ρ w' => ∃ (x455 : UInt8) (a456 : Option Addr) (c457 : Nat) (a459 : Option Addr) (c460 : Nat) (B462 : Bp), ρ = [(4, .pointer (some ⟨b52, 0, none⟩)), (5, .int .i64 ((n : Nat) : Int)), (6, .slice a59 n c60), (7, .slice a66 n c67), (8, .int .i64 (k : Int)), (32, .int .i64 ((n : Nat) : Int)), (33, .int .i64 (k : Int)), (84, .func (.func 142) #[.pointer (some ⟨b52, 0, none⟩)] #[]), (85, .pointer (some ⟨b52, 0, none⟩)), (92, bV x455), (97, .slice a456 n c457), (101, .slice a459 n c460)] ∧ B200.le B462 ∧ Wk W H B462 w' ∧ SlB B462 (.slice a456 n c457) n ∧ SlB B462 (.slice a459 n c460) n) ?_ (fun J463 => ?_)
   ·rintro ρ w466 ⟨x455, a456, c457, a459, c460, B462, rfl, hl464, C465, r467, r468⟩
    refine TT_fork rfl rfl ?_ ?_
    ·refine Cw g_aumbry_gf_Field_Inv ((ginv_w C465 (hg53.mono (hl56.trans (hl63.trans (hl70.trans (hl76.trans (hl137.trans (hl150.trans (hl188.trans (hl201.trans hl464))))))))) x455).mono ?_)
     rintro e w472 ⟨B469, hl470, C471, x473, rfl⟩
     refine ⟨_, rfl, ?_⟩
     refine T_nil ?_
     exact TT_subA (J375 _ _ ⟨x473, a456, c457, a459, c460, B469, rfl, (hl464.trans hl470), C471, (r467.mono hl470), (r468.mono hl470)⟩)
    refine T_lit2KR C465 (fun _ => trivial) rfl rfl rfl r467 r468 rfl rfl rfl rfl rfl rfl rfl rfl fun a474 c475 w480 B477 hl478 r476 C479 => (T_nil ?_)
    exact TT_subA (J411 _ _ ⟨x455, a474, c475, B477, rfl, (hl464.trans hl478), C479, r476⟩)
   refine TT_dag (t := (.fork 10 18 (.step 18 (.step 19 (.step 20 .done))) (.fork 10 19 (.step 19 (.step 20 .done)) (.step 10 (.step 20 .done))))) (fun ρ w' => ∃ (x511 : UInt8) (a512 : Option Addr) (c513 : Nat) (B515 : Bp), ρ = [(4, .pointer (some ⟨b52, 0, none⟩)), (5, .int .i64 ((n : Nat) : Int)), (6, .slice a59 n c60), (7, .slice a66 n c67), (8, .int .i64 (k : Int)), (32, .int .i64 ((n : Nat) : Int)), (33, .int .i64 (k : Int)), (84, .func (.func 142) #[.pointer (some ⟨b52, 0, none⟩)] #[]), (85, .pointer (some ⟨b52, 0, none⟩)), (92, bV x511), (97, .slice a512 n c513), (100, .pointer (some ⟨b308, o309, none⟩))] ∧ B200.le B515 ∧ Wk W H B515 w' ∧ SlB B515 (.slice a512 n c513) n) ?_ (fun J516 => ?_)
   ·rintro ρ w519 ⟨x511, a512, c513, B515, rfl, hl517, C518, r520⟩
    refine TT_fork rfl rfl ?_ ?_
    ·refine Cw g_aumbry_gf_Field_Inv ((ginv_w C518 (hg53.mono (hl56.trans (hl63.trans (hl70.trans (hl76.trans (hl137.trans (hl150.trans (hl188.trans (hl201.trans hl517))))))))) x511).mono ?_)
     rintro e w524 ⟨B521, hl522, C523, x525, rfl⟩
     refine ⟨_, rfl, ?_⟩
     refine T_nil ?_
     exact TT_subA (J439 _ _ ⟨x525, a512, c513, B521, rfl, (hl517.trans hl522), C523, (r520.mono hl522)⟩)
    refine Av C518 (hr316.mono hl517) fun a526 c527 r528 => (T_nil ?_)
    exact TT_subF (J463 _ _ ⟨x511, a512, c513, a526, c527, B515, rfl, hl517, C518, r520, r528⟩)
   refine TT_dag (t := (.fork 10 14 (.step 14 (.step 19 (.step 20 .done))) (.fork 10 19 (.step 19 (.step 20 .done)) (.step 10 (.step 20 .done))))) (fun ρ w' => ∃ (x537 : UInt8) (a538 : Option Addr) (c539 : Nat) (B541 : Bp), ρ = [(4, .pointer (some ⟨b52, 0, none⟩)), (5, .int .i64 ((n : Nat) : Int)), (6, .slice a59 n c60), (7, .slice a66 n c67), (8, .int .i64 (k : Int)), (32, .int .i64 ((n : Nat) : Int)), (33, .int .i64 (k : Int)), (84, .func (.func 142) #[.pointer (some ⟨b52, 0, none⟩)] #[]), (85, .pointer (some ⟨b52, 0, none⟩)), (92, bV x537), (96, .pointer (some ⟨b299, o300, none⟩)), (101, .slice a538 n c539)] ∧ B200.le B541 ∧ Wk W H B541 w' ∧ SlB B541 (.slice a538 n c539) n) ?_ (fun J542 => ?_)
   ·rintro ρ w545 ⟨x537, a538, c539, B541, rfl, hl543, C544, r546⟩
    refine TT_fork rfl rfl ?_ ?_
    ·refine Cw g_aumbry_gf_Field_Inv ((ginv_w C544 (hg53.mono (hl56.trans (hl63.trans (hl70.trans (hl76.trans (hl137.trans (hl150.trans (hl188.trans (hl201.trans hl543))))))))) x537).mono ?_)
     rintro e w550 ⟨B547, hl548, C549, x551, rfl⟩
     refine ⟨_, rfl, ?_⟩
     refine Nt rfl (Av C549 (hr307.mono (hl543.trans hl548)) fun a552 c553 r554 => (T_nil ?_))
     exact TT_subA (J375 _ _ ⟨x551, a552, c553, a538, c539, B547, rfl, (hl543.trans hl548), C549, r554, (r546.mono hl548)⟩)
    refine Av C544 (hr307.mono hl543) fun a555 c556 r557 => (T_nil ?_)
    exact TT_subF (J463 _ _ ⟨x537, a555, c556, a538, c539, B541, rfl, hl543, C544, r557, r546⟩)
   refine TT_dag (t := (.fork 6 19 (.step 8 (.fork 9 19 (.fork 10 19 (.step 19 (.step 20 .done)) (.step 10 (.step 20 .done))) (.step 9 (.step 10 (.step 20 .done))))) (.step 6 (.step 8 (.step 9 (.step 10 (.step 20 .done))))))) (fun ρ w' => ∃ (a597 : Option Addr) (c598 : Nat) (a600 : Option Addr) (c601 : Nat) (B603 : Bp), ρ = [(4, .pointer (some ⟨b52, 0, none⟩)), (5, .int .i64 ((n : Nat) : Int)), (6, .slice a59 n c60), (7, .slice a66 n c67), (8, .int .i64 (k : Int)), (32, .int .i64 ((n : Nat) : Int)), (33, .int .i64 (k : Int)), (84, .func (.func 142) #[.pointer (some ⟨b52, 0, none⟩)] #[]), (85, .pointer (some ⟨b52, 0, none⟩)), (88, .pointer (some ⟨b290, o291, none⟩)), (90, .int .i64 (k : Int)), (97, .slice a597 n c598), (101, .slice a600 n c601)] ∧ B200.le B603 ∧ Wk W H B603 w' ∧ SlB B603 (.slice a597 n c598) n ∧ SlB B603 (.slice a600 n c601) n) ?_ (fun J604 => ?_)
   ·rintro ρ w607 ⟨a597, c598, a600, c601, B603, rfl, hl605, C606, r608, r609⟩
    refine TT_fork rfl rfl ?_ ?_
    ·refine Av C606 (hr298.mono hl605) fun a610 c611 r612 => ?_
     refine Nt rfl (At r612 fun b613 o614 q615 hb616 hq617 => (T_nil ?_))
     refine TT_fork rfl rfl ?_ ?_
     ·refine As C606 hb616 fun x618 => (T_nil ?_)
      exact TT_subF (J463 _ _ ⟨x618, a597, c598, a600, c601, B603, rfl, hl605, C606, r608, r609⟩)
     refine T_lit2KR C606 (fun _ => trivial) rfl rfl rfl r608 r609 rfl rfl rfl rfl rfl rfl rfl rfl fun a619 c620 w625 B622 hl623 r621 C624 => (Nt rfl (As C624 (hb616.mono hl623) fun x626 => (T_nil ?_)))
     exact TT_subA (J411 _ _ ⟨x626, a619, c620, B622, rfl, (hl605.trans hl623), C624, r621⟩)
    refine T_lit2KR C606 (fun _ => trivial) rfl rfl rfl r608 r609 rfl rfl rfl rfl rfl rfl rfl rfl fun a627 c628 w633 B630 hl631 r629 C632 => (Nt rfl (Av C632 (hr298.mono (hl605.trans hl631)) fun a634 c635 r636 => ?_))
    refine Nt rfl (At r636 fun b637 o638 q639 hb640 hq641 => ?_)
    refine Nt rfl (As C632 hb640 fun x642 => (T_nil ?_))
    exact TT_subA (J411 _ _ ⟨x642, a627, c628, B630, rfl, (hl605.trans hl631), C632, r629⟩)
   refine TT_fork3 rfl rfl rfl ?_ ?_ ?_
   ·refine Av C288 hr298 fun a643 c644 r645 => ?_
    refine Nt rfl (At r645 fun b646 o647 q648 hb649 hq650 => (T_nil ?_))
    refine TT_fork3 rfl rfl rfl ?_ ?_ ?_
    ·refine As C288 hb649 fun x651 => (T_nil ?_)
     refine TT_fork3 rfl rfl rfl ?_ ?_ ?_
     ·refine Cw g_aumbry_gf_Field_Inv ((ginv_w C288 (hg53.mono (hl56.trans (hl63.trans (hl70.trans (hl76.trans (hl137.trans (hl150.trans (hl188.trans hl201)))))))) x651).mono ?_)
      rintro e w655 ⟨B652, hl653, C654, x656, rfl⟩
      refine ⟨_, rfl, ?_⟩
      refine Nt rfl (Av C654 (hr307.mono hl653) fun a657 c658 r659 => (T_nil ?_))
      exact TT_subA (J439 _ _ ⟨x656, a657, c658, B652, rfl, hl653, C654, r659⟩)
     ·refine Av C288 hr307 fun a660 c661 r662 => (T_nil ?_)
      exact TT_subF (J516 _ _ ⟨x651, a660, c661, B200, rfl, (Bp.le.refl _), C288, r662⟩)
     refine Av C288 hr316 fun a663 c664 r665 => (T_nil ?_)
     exact TT_subF (J542 _ _ ⟨x651, a663, c664, B200, rfl, (Bp.le.refl _), C288, r665⟩)
    ·refine Av C288 hr307 fun a666 c667 r668 => (T_nil ?_)
     refine TT_fork rfl rfl ?_ ?_
     ·refine As C288 hb649 fun x669 => (T_nil ?_)
      exact TT_subF (J516 _ _ ⟨x669, a666, c667, B200, rfl, (Bp.le.refl _), C288, r668⟩)
     refine Av C288 hr316 fun a670 c671 r672 => (T_nil ?_)
     refine TT_fork rfl rfl ?_ ?_
     ·refine As C288 hb649 fun x673 => (T_nil ?_)
      exact TT_subF (J463 _ _ ⟨x673, a666, c667, a670, c671, B200, rfl, (Bp.le.refl _), C288, r668, r672⟩)
     refine T_lit2KR C288 (fun _ => trivial) rfl rfl rfl r668 r672 rfl rfl rfl rfl rfl rfl rfl rfl fun a674 c675 w680 B677 hl678 r676 C679 => (Nt rfl (As C679 (hb649.mono hl678) fun x681 => (T_nil ?_)))
     exact TT_subA (J411 _ _ ⟨x681, a674, c675, B677, rfl, hl678, C679, r676⟩)
    refine Av C288 hr316 fun a682 c683 r684 => (T_nil ?_)
    refine TT_fork rfl rfl ?_ ?_
    ·refine As C288 hb649 fun x685 => (T_nil ?_)
     exact TT_subF (J542 _ _ ⟨x685, a682, c683, B200, rfl, (Bp.le.refl _), C288, r684⟩)
    refine Av C288 hr307 fun a686 c687 r688 => (T_nil ?_)
    refine TT_fork rfl rfl ?_ ?_
    ·refine As C288 hb649 fun x689 => (T_nil ?_)
     exact TT_subF (J463 _ _ ⟨x689, a686, c687, a682, c683, B200, rfl, (Bp.le.refl _), C288, r688, r684⟩)
    refine T_lit2KR C288 (fun _ => trivial) rfl rfl rfl r688 r684 rfl rfl rfl rfl rfl rfl rfl rfl fun a690 c691 w696 B693 hl694 r692 C695 => (Nt rfl (As C695 (hb649.mono hl694) fun x697 => (T_nil ?_)))
    exact TT_subA (J411 _ _ ⟨x697, a690, c691, B693, rfl, hl694, C695, r692⟩)
   ·refine Av C288 hr307 fun a698 c699 r700 => (T_nil ?_)
    refine TT_fork rfl rfl ?_ ?_
    ·refine Av C288 hr298 fun a701 c702 r703 => ?_
     refine Nt rfl (At r703 fun b704 o705 q706 hb707 hq708 => (T_nil ?_))
     refine TT_fork rfl rfl ?_ ?_
     ·refine As C288 hb707 fun x709 => (T_nil ?_)
      exact TT_subF (J516 _ _ ⟨x709, a698, c699, B200, rfl, (Bp.le.refl _), C288, r700⟩)
     refine Av C288 hr316 fun a710 c711 r712 => (T_nil ?_)
     refine TT_fork rfl rfl ?_ ?_
     ·refine As C288 hb707 fun x713 => (T_nil ?_)
      exact TT_subF (J463 _ _ ⟨x713, a698, c699, a710, c711, B200, rfl, (Bp.le.refl _), C288, r700, r712⟩)
     refine T_lit2KR C288 (fun _ => trivial) rfl rfl rfl r700 r712 rfl rfl rfl rfl rfl rfl rfl rfl fun a714 c715 w720 B717 hl718 r716 C719 => (Nt rfl (As C719 (hb707.mono hl718) fun x721 => (T_nil ?_)))
     exact TT_subA (J411 _ _ ⟨x721, a714, c715, B717, rfl, hl718, C719, r716⟩)
    refine Av C288 hr316 fun a722 c723 r724 => (T_nil ?_)
    exact TT_subF (J604 _ _ ⟨a698, c699, a722, c723, B200, rfl, (Bp.le.refl _), C288, r700, r724⟩)
   refine Av C288 hr316 fun a725 c726 r727 => (T_nil ?_)
   refine TT_fork rfl rfl ?_ ?_
   ·refine Av C288 hr298 fun a728 c729 r730 => ?_
    refine Nt rfl (At r730 fun b731 o732 q733 hb734 hq735 => (T_nil ?_))
    refine TT_fork rfl rfl ?_ ?_
    ·refine As C288 hb734 fun x736 => (T_nil ?_)
     exact TT_subF (J542 _ _ ⟨x736, a725, c726, B200, rfl, (Bp.le.refl _), C288, r727⟩)
    refine Av C288 hr307 fun a737 c738 r739 => (T_nil ?_)
    refine TT_fork rfl rfl ?_ ?_
    ·refine As C288 hb734 fun x740 => (T_nil ?_)
     exact TT_subF (J463 _ _ ⟨x740, a737, c738, a725, c726, B200, rfl, (Bp.le.refl _), C288, r739, r727⟩)
    refine T_lit2KR C288 (fun _ => trivial) rfl rfl rfl r739 r727 rfl rfl rfl rfl rfl rfl rfl rfl fun a741 c742 w747 B744 hl745 r743 C746 => (Nt rfl (As C746 (hb734.mono hl745) fun x748 => (T_nil ?_)))
    exact TT_subA (J411 _ _ ⟨x748, a741, c742, B744, rfl, hl745, C746, r743⟩)
   refine Av C288 hr307 fun a749 c750 r751 => (T_nil ?_)
   exact TT_subF (J604 _ _ ⟨a749, c750, a725, c726, B200, rfl, (Bp.le.refl _), C288, r751, r727⟩)
  iterate 8 refine No ?_
  refine Pv (T_nil ?_)
  refine W_cond_false rfl (W_exit (W_seq (Wr (P3 (T_nil ?_)))))
  refine Ab (fun h752 => ?_) (fun h752 => ?_)
  ·refine Wr (P2 (T_nil (W_ret ?_)))
   refine ⟨_, ⟨_, _, rfl, rfl, ⟨_, _, rfl, rfl, rfl⟩⟩, B75, (hl24.trans (hl29.trans (hl49.trans (hl56.trans (hl63.trans (hl70.trans hl76)))))), C77, ?_⟩
   exact ⟨_, _, _, _, rfl, by omega, .inl ⟨rfl, rfl⟩⟩
  refine W_skip (W_seq (W_plan (planW Tryz.prog) rfl (by kernel_rfl) trivial ?_))
  have C753 := C77.drew
  iterate 6 refine Pv ?_
  refine Aw (r61.mono (hl63.trans (hl70.trans hl76))) fun b754 o755 t756 q757 f758 hb759 hq760 hf761 => ?_
  have hr762 : RwB B75 b754 o755 n := ⟨_, _, _, hb759, hq760, hf761⟩
  refine Av C753 hr762 fun a763 c764 r765 => ?_
  refine P2 ?_
  refine Aw (r61.mono (hl63.trans (hl70.trans hl76))) fun b766 o767 t768 q769 f770 hb771 hq772 hf773 => ?_
  have hr774 : RwB B75 b766 o767 n := ⟨_, _, _, hb771, hq772, hf773⟩
  refine Av C753 hr774 fun a775 c776 r777 => ?_
  refine Aw (r61.mono (hl63.trans (hl70.trans hl76))) fun b778 o779 t780 q781 f782 hb783 hq784 hf785 => ?_
  have hr786 : RwB B75 b778 o779 n := ⟨_, _, _, hb783, hq784, hf785⟩
  refine T_storeWK C753 hr786 r765 (fun _ => trivial) rfl rfl rfl rfl rfl rfl rfl rfl fun w790 B787 hl788 C789 => (Aw (r61.mono (hl63.trans (hl70.trans (hl76.trans hl788)))) fun b791 o792 t793 q794 f795 hb796 hq797 hf798 => ?_)
  have hr799 : RwB B787 b791 o792 n := ⟨_, _, _, hb796, hq797, hf798⟩
  refine T_storeWK C789 hr799 (r777.mono hl788) (fun _ => trivial) rfl rfl rfl rfl rfl rfl rfl rfl fun w803 B800 hl801 C802 => (T_nil (W_seq (W_plan (planW Tryz.prog) rfl (by kernel_rfl) trivial ?_)))
  have C804 := C802.drew
  iterate 6 refine Pv ?_
  refine Aw (r68.mono (hl70.trans (hl76.trans (hl788.trans hl801)))) fun b805 o806 t807 q808 f809 hb810 hq811 hf812 => ?_
  have hr813 : RwB B800 b805 o806 n := ⟨_, _, _, hb810, hq811, hf812⟩
  refine Av C804 hr813 fun a814 c815 r816 => ?_
  refine P2 ?_
  refine Aw (r68.mono (hl70.trans (hl76.trans (hl788.trans hl801)))) fun b817 o818 t819 q820 f821 hb822 hq823 hf824 => ?_
  have hr825 : RwB B800 b817 o818 n := ⟨_, _, _, hb822, hq823, hf824⟩
  refine Av C804 hr825 fun a826 c827 r828 => ?_
  refine Aw (r68.mono (hl70.trans (hl76.trans (hl788.trans hl801)))) fun b829 o830 t831 q832 f833 hb834 hq835 hf836 => ?_
  have hr837 : RwB B800 b829 o830 n := ⟨_, _, _, hb834, hq835, hf836⟩
  refine T_storeWK C804 hr837 r816 (fun _ => trivial) rfl rfl rfl rfl rfl rfl rfl rfl fun w841 B838 hl839 C840 => (Aw (r68.mono (hl70.trans (hl76.trans (hl788.trans (hl801.trans hl839))))) fun b842 o843 t844 q845 f846 hb847 hq848 hf849 => ?_)
  have hr850 : RwB B838 b842 o843 n := ⟨_, _, _, hb847, hq848, hf849⟩
  refine T_storeWK C840 hr850 (r828.mono hl839) (fun _ => trivial) rfl rfl rfl rfl rfl rfl rfl rfl fun w854 B851 hl852 C853 => (T_nil (W_seq (W_join (W := W) (H := H) (Bc := B851) [(4, .pointer (some ⟨b52, 0, none⟩)), (5, .int .i64 ((n : Nat) : Int)), (6, .slice a59 n c60), (7, .slice a66 n c67), (8, .int .i64 (k : Int)), (32, .int .i64 ((n : Nat) : Int)), (33, .int .i64 (k : Int))] (fun w858 B855 hl856 C857 => ?_) (fun J859 => ?_))))
  ·refine Wr (P2 (T_nil (W_block ?_)))
   refine W_loop (fun M ρ w' => ∃ (r : Nat) (B860 : Bp), M = n - r ∧ r ≤ n ∧ ρ = [(4, .pointer (some ⟨b52, 0, none⟩)), (5, .int .i64 ((n : Nat) : Int)), (6, .slice a59 n c60), (7, .slice a66 n c67), (8, .int .i64 (k : Int)), (32, .int .i64 ((n : Nat) : Int)), (33, .int .i64 (k : Int)), (104, .int .i64 ((n : Nat) : Int)), (105, .int .i64 (r : Int))] ∧ B855.le B860 ∧ Wk W H B860 w')
    (n - 0) [(4, .pointer (some ⟨b52, 0, none⟩)), (5, .int .i64 ((n : Nat) : Int)), (6, .slice a59 n c60), (7, .slice a66 n c67), (8, .int .i64 (k : Int)), (32, .int .i64 ((n : Nat) : Int)), (33, .int .i64 (k : Int)), (104, .int .i64 ((n : Nat) : Int)), (105, .int .i64 ((0 : Nat) : Int))] ⟨rfl, ciI, rfl, rfl, ciI, ciI, ciI, ciI, ciI, trivial⟩ ⟨0, B855, rfl, (by exact Nat.zero_le _), rfl, Bp.le.refl _, C857⟩ ?_
   rintro M ρ w863 ⟨r, B860, rfl, hp864, rfl, hl861, C862⟩
   refine Wr (Pv (T_nil (W_seq ?_)))
   refine Ab (fun h865 => ?_) (fun h865 => ?_)
   ·refine W_skip (W_seq (W_block (Wr (P2 (Nr ?_)))))
    refine P3 (T_nil ?_)
    refine W_cond_not rfl (fun h866 => ?_) (fun h866 => ?_)
    ·refine W_plan (planW Tryz.prog) rfl (by kernel_rfl) trivial ?_
     have C867 := C862.drew
     refine Pv ?_
     refine T_makeF rfl rfl rfl rfl rfl rfl ?_
     have hf868 : FnB Tryz.prog W H B860 (.func (.func 142) #[.pointer (some ⟨b52, 0, none⟩)] #[]) ABB := ⟨_, [.pointer (some ⟨b52, 0, none⟩)], [], rfl, g_aumbry_gf_Field_Mul, fun B1 w1 hl C1 args hA => by obtain ⟨x, y, rfl⟩ := hA; exact gmul_w C1 ((hg53.mono (hl56.trans (hl63.trans (hl70.trans (hl76.trans (hl788.trans (hl801.trans (hl839.trans (hl852.trans (hl856.trans hl861)))))))))).mono hl) x y⟩
     refine P2 ?_
     refine Aw (r61.mono (hl63.trans (hl70.trans (hl76.trans (hl788.trans (hl801.trans (hl839.trans (hl852.trans (hl856.trans hl861))))))))) fun b869 o870 t871 q872 f873 hb874 hq875 hf876 => ?_
     have hr877 : RwB B860 b869 o870 n := ⟨_, _, _, hb874, hq875, hf876⟩
     refine Av C867 hr877 fun a878 c879 r880 => ?_
     refine Pv ?_
     refine At r880 fun b881 o882 q883 hb884 hq885 => ?_
     refine As C867 hb884 fun x886 => ?_
     refine P2 ?_
     refine Aw (r61.mono (hl63.trans (hl70.trans (hl76.trans (hl788.trans (hl801.trans (hl839.trans (hl852.trans (hl856.trans hl861))))))))) fun b887 o888 t889 q890 f891 hb892 hq893 hf894 => ?_
     have hr895 : RwB B860 b887 o888 n := ⟨_, _, _, hb892, hq893, hf894⟩
     refine Av C867 hr895 fun a896 c897 r898 => ?_
     refine P2 ?_
     refine Aw (r61.mono (hl63.trans (hl70.trans (hl76.trans (hl788.trans (hl801.trans (hl839.trans (hl852.trans (hl856.trans hl861))))))))) fun b899 o900 t901 q902 f903 hb904 hq905 hf906 => ?_
     have hr907 : RwB B860 b899 o900 n := ⟨_, _, _, hb904, hq905, hf906⟩
     refine Av C867 hr907 fun a908 c909 r910 => ?_
     refine P2 ?_
     refine Aw (r68.mono (hl70.trans (hl76.trans (hl788.trans (hl801.trans (hl839.trans (hl852.trans (hl856.trans hl861)))))))) fun b911 o912 t913 q914 f915 hb916 hq917 hf918 => ?_
     have hr919 : RwB B860 b911 o912 n := ⟨_, _, _, hb916, hq917, hf918⟩
     refine Av C867 hr919 fun a920 c921 r922 => ?_
     refine P2 ?_
     refine Aw (r68.mono (hl70.trans (hl76.trans (hl788.trans (hl801.trans (hl839.trans (hl852.trans (hl856.trans hl861)))))))) fun b923 o924 t925 q926 f927 hb928 hq929 hf930 => ?_
     have hr931 : RwB B860 b923 o924 n := ⟨_, _, _, hb928, hq929, hf930⟩
     refine Av C867 hr931 fun a932 c933 r934 => ?_
     refine Cw g_aumbry_matrix_take ((take_w C867 hf868 x886 r898 r910 r922 r934 (by omega)).mono ?_)
     rintro e w938 ⟨B935, hl936, C937, rfl⟩
     refine ⟨_, rfl, ?_⟩
     refine T_nil (W_region (Ar ?_))
     refine Pv (T_nil ?_)
     exact ⟨n - (r + 1), [(4, .pointer (some ⟨b52, 0, none⟩)), (5, .int .i64 ((n : Nat) : Int)), (6, .slice a59 n c60), (7, .slice a66 n c67), (8, .int .i64 (k : Int)), (32, .int .i64 ((n : Nat) : Int)), (33, .int .i64 (k : Int)), (104, .int .i64 ((n : Nat) : Int)), (105, .int .i64 ((r + 1 : Nat) : Int))], by omega, ⟨rfl, ciI, rfl, rfl, ciI, ciI, ciI, ciI, ciI, trivial⟩, r + 1, B935, rfl, (by omega), rfl, (hl861.trans hl936), C937⟩
    refine W_skip (W_region (Ar ?_))
    refine Pv (T_nil ?_)
    exact ⟨n - (r + 1), [(4, .pointer (some ⟨b52, 0, none⟩)), (5, .int .i64 ((n : Nat) : Int)), (6, .slice a59 n c60), (7, .slice a66 n c67), (8, .int .i64 (k : Int)), (32, .int .i64 ((n : Nat) : Int)), (33, .int .i64 (k : Int)), (104, .int .i64 ((n : Nat) : Int)), (105, .int .i64 ((r + 1 : Nat) : Int))], by omega, ⟨rfl, ciI, rfl, rfl, ciI, ciI, ciI, ciI, ciI, trivial⟩, r + 1, B860, rfl, (by omega), rfl, hl861, C862⟩
   refine W_exit (W_region (Ar ?_))
   refine Pv (T_nil ?_)
   exact ⟨n - (k + 1), [(4, .pointer (some ⟨b52, 0, none⟩)), (5, .int .i64 ((n : Nat) : Int)), (6, .slice a59 n c60), (7, .slice a66 n c67), (32, .int .i64 ((n : Nat) : Int)), (33, .int .i64 ((k + 1 : Nat) : Int))], by omega, ⟨rfl, ciI, rfl, rfl, ciI, ciI, trivial⟩, k + 1, B860, rfl, (by omega), rfl, (hl70.trans (hl76.trans (hl788.trans (hl801.trans (hl839.trans (hl852.trans (hl856.trans hl861))))))), C862⟩
  refine W_tree (planW Tryz.prog) (.step 0 (.step 1 (.step 2 (.step 3 (.step 4 (.step 5 (.step 7 (.step 11 (.step 12 (.step 13 (.step 15 (.step 16 (.step 17 (.fork3 6 14 18 (.step 8 (.fork3 9 14 18 (.fork3 10 14 18 (.step 14 (.step 18 (.step 19 (.step 20 .done)))) (.fork 10 18 (.step 18 (.step 19 (.step 20 .done))) (.fork 10 19 (.step 19 (.step 20 .done)) (.step 10 (.step 20 .done)))) (.fork 10 14 (.step 14 (.step 19 (.step 20 .done))) (.fork 10 19 (.step 19 (.step 20 .done)) (.step 10 (.step 20 .done))))) (.fork 9 18 (.fork 10 18 (.step 18 (.step 19 (.step 20 .done))) (.fork 10 19 (.step 19 (.step 20 .done)) (.step 10 (.step 20 .done)))) (.fork 9 19 (.fork 10 19 (.step 19 (.step 20 .done)) (.step 10 (.step 20 .done))) (.step 9 (.step 10 (.step 20 .done))))) (.fork 9 14 (.fork 10 14 (.step 14 (.step 19 (.step 20 .done))) (.fork 10 19 (.step 19 (.step 20 .done)) (.step 10 (.step 20 .done)))) (.fork 9 19 (.fork 10 19 (.step 19 (.step 20 .done)) (.step 10 (.step 20 .done))) (.step 9 (.step 10 (.step 20 .done))))))) (.fork 6 18 (.step 8 (.fork 9 18 (.fork 10 18 (.step 18 (.step 19 (.step 20 .done))) (.fork 10 19 (.step 19 (.step 20 .done)) (.step 10 (.step 20 .done)))) (.fork 9 19 (.fork 10 19 (.step 19 (.step 20 .done)) (.step 10 (.step 20 .done))) (.step 9 (.step 10 (.step 20 .done)))))) (.fork 6 19 (.step 8 (.fork 9 19 (.fork 10 19 (.step 19 (.step 20 .done)) (.step 10 (.step 20 .done))) (.step 9 (.step 10 (.step 20 .done))))) (.step 6 (.step 8 (.step 9 (.step 10 (.step 20 .done))))))) (.fork 6 14 (.step 8 (.fork 9 14 (.fork 10 14 (.step 14 (.step 19 (.step 20 .done))) (.fork 10 19 (.step 19 (.step 20 .done)) (.step 10 (.step 20 .done)))) (.fork 9 19 (.fork 10 19 (.step 19 (.step 20 .done)) (.step 10 (.step 20 .done))) (.step 9 (.step 10 (.step 20 .done)))))) (.fork 6 19 (.step 8 (.fork 9 19 (.fork 10 19 (.step 19 (.step 20 .done)) (.step 10 (.step 20 .done))) (.step 9 (.step 10 (.step 20 .done))))) (.step 6 (.step 8 (.step 9 (.step 10 (.step 20 .done))))))))))))))))))))) rfl (by kernel_rfl) trivial ?_
  have C939 := C853.drew
  refine TT_step rfl (Pv ?_)
  refine Nt rfl (T_makeF rfl rfl rfl rfl rfl rfl ?_)
  have hf940 : FnB Tryz.prog W H B851 (.func (.func 142) #[.pointer (some ⟨b52, 0, none⟩)] #[]) ABB := ⟨_, [.pointer (some ⟨b52, 0, none⟩)], [], rfl, g_aumbry_gf_Field_Mul, fun B1 w1 hl C1 args hA => by obtain ⟨x, y, rfl⟩ := hA; exact gmul_w C1 ((hg53.mono (hl56.trans (hl63.trans (hl70.trans (hl76.trans (hl788.trans (hl801.trans (hl839.trans hl852)))))))).mono hl) x y⟩
  iterate 3 (refine T_nil ?_; refine TT_step rfl ?_; refine Pv ?_)
  refine Nt rfl (Aw (r61.mono (hl63.trans (hl70.trans (hl76.trans (hl788.trans (hl801.trans (hl839.trans hl852))))))) fun b941 o942 t943 q944 f945 hb946 hq947 hf948 => ?_)
  have hr949 : RwB B851 b941 o942 n := ⟨_, _, _, hb946, hq947, hf948⟩
  iterate 3 (refine T_nil ?_; refine TT_step rfl ?_; refine Pv ?_)
  refine Nt rfl (Aw (r61.mono (hl63.trans (hl70.trans (hl76.trans (hl788.trans (hl801.trans (hl839.trans hl852))))))) fun b950 o951 t952 q953 f954 hb955 hq956 hf957 => ?_)
  have hr958 : RwB B851 b950 o951 n := ⟨_, _, _, hb955, hq956, hf957⟩
  iterate 2 (refine T_nil ?_; refine TT_step rfl ?_; refine Pv ?_)
  refine Nt rfl (Aw (r68.mono (hl70.trans (hl76.trans (hl788.trans (hl801.trans (hl839.trans hl852)))))) fun b959 o960 t961 q962 f963 hb964 hq965 hf966 => ?_)
  have hr967 : RwB B851 b959 o960 n := ⟨_, _, _, hb964, hq965, hf966⟩
  refine T_nil (TT_dag (t := (.step 20 .done)) (fun ρ w' => ∃ (x981 : UInt8) (a988 : Option Addr) (c989 : Nat) (B995 : Bp), ρ = [(4, .pointer (some ⟨b52, 0, none⟩)), (5, .int .i64 ((n : Nat) : Int)), (6, .slice a59 n c60), (7, .slice a66 n c67), (8, .int .i64 (k : Int)), (32, .int .i64 ((n : Nat) : Int)), (33, .int .i64 (k : Int)), (84, .func (.func 142) #[.pointer (some ⟨b52, 0, none⟩)] #[]), (93, bV x981), (102, .slice a988 2 c989)] ∧ B851.le B995 ∧ Wk W H B995 w' ∧ RoB B995 (.slice a988 2 c989) 2 n) ?_ (fun J996 => ?_))
  ·rintro ρ w999 ⟨x981, a988, c989, B995, rfl, hl997, C998, r1000⟩
   refine TT_step rfl (Cw g_aumbry_matrix_scale ((scale_w C998 (hf940.mono hl997) x981 r1000 (by omega) (by omega)).mono ?_))
   rintro e w1004 ⟨B1001, hl1002, C1003, rfl⟩
   refine ⟨_, rfl, ?_⟩
   refine T_nil (TT_done ?_)
   exact Ws (J859 _ _ (hl997.trans hl1002) C1003)
  refine TT_dag (t := (.step 19 (.step 20 .done))) (fun ρ w' => ∃ (x1018 : UInt8) (a1019 : Option Addr) (c1020 : Nat) (a1022 : Option Addr) (c1023 : Nat) (B1025 : Bp), ρ = [(4, .pointer (some ⟨b52, 0, none⟩)), (5, .int .i64 ((n : Nat) : Int)), (6, .slice a59 n c60), (7, .slice a66 n c67), (8, .int .i64 (k : Int)), (32, .int .i64 ((n : Nat) : Int)), (33, .int .i64 (k : Int)), (84, .func (.func 142) #[.pointer (some ⟨b52, 0, none⟩)] #[]), (93, bV x1018), (97, .slice a1019 n c1020), (101, .slice a1022 n c1023)] ∧ B851.le B1025 ∧ Wk W H B1025 w' ∧ SlB B1025 (.slice a1019 n c1020) n ∧ SlB B1025 (.slice a1022 n c1023) n) ?_ (fun J1026 => ?_)
  ·rintro ρ w1029 ⟨x1018, a1019, c1020, a1022, c1023, B1025, rfl, hl1027, C1028, r1030, r1031⟩
   refine TT_step rfl (T_lit2KR C1028 (fun _ => trivial) rfl rfl rfl r1030 r1031 rfl rfl rfl rfl rfl rfl rfl rfl fun a1032 c1033 w1038 B1035 hl1036 r1034 C1037 => (T_nil ?_))
   exact TT_subA (J996 _ _ ⟨x1018, a1032, c1033, B1035, rfl, (hl1027.trans hl1036), C1037, r1034⟩)
  refine TT_dag (t := (.step 10 (.step 20 .done))) (fun ρ w' => ∃ (x1047 : UInt8) (a1054 : Option Addr) (c1055 : Nat) (B1061 : Bp), ρ = [(4, .pointer (some ⟨b52, 0, none⟩)), (5, .int .i64 ((n : Nat) : Int)), (6, .slice a59 n c60), (7, .slice a66 n c67), (8, .int .i64 (k : Int)), (32, .int .i64 ((n : Nat) : Int)), (33, .int .i64 (k : Int)), (84, .func (.func 142) #[.pointer (some ⟨b52, 0, none⟩)] #[]), (85, .pointer (some ⟨b52, 0, none⟩)), (92, bV x1047), (102, .slice a1054 2 c1055)] ∧ B851.le B1061 ∧ Wk W H B1061 w' ∧ RoB B1061 (.slice a1054 2 c1055) 2 n) ?_ (fun J1062 => ?_)
  ·rintro ρ w1065 ⟨x1047, a1054, c1055, B1061, rfl, hl1063, C1064, r1066⟩
   refine TT_step rfl (Cw g_aumbry_gf_Field_Inv ((ginv_w C1064 (hg53.mono (hl56.trans (hl63.trans (hl70.trans (hl76.trans (hl788.trans (hl801.trans (hl839.trans (hl852.trans hl1063))))))))) x1047).mono ?_))
   rintro e w1070 ⟨B1067, hl1068, C1069, x1071, rfl⟩
   refine ⟨_, rfl, ?_⟩
   refine T_nil ?_
   exact TT_subA (J996 _ _ ⟨x1071, a1054, c1055, B1067, rfl, (hl1063.trans hl1068), C1069, (r1066.mono hl1068)⟩)
  refine TT_dag (t := (.step 18 (.step 19 (.step 20 .done)))) (fun ρ w' => ∃ (x1085 : UInt8) (a1086 : Option Addr) (c1087 : Nat) (B1089 : Bp), ρ = [(4, .pointer (some ⟨b52, 0, none⟩)), (5, .int .i64 ((n : Nat) : Int)), (6, .slice a59 n c60), (7, .slice a66 n c67), (8, .int .i64 (k : Int)), (32, .int .i64 ((n : Nat) : Int)), (33, .int .i64 (k : Int)), (84, .func (.func 142) #[.pointer (some ⟨b52, 0, none⟩)] #[]), (93, bV x1085), (97, .slice a1086 n c1087), (100, .pointer (some ⟨b959, o960, none⟩))] ∧ B851.le B1089 ∧ Wk W H B1089 w' ∧ SlB B1089 (.slice a1086 n c1087) n) ?_ (fun J1090 => ?_)
  ·rintro ρ w1093 ⟨x1085, a1086, c1087, B1089, rfl, hl1091, C1092, r1094⟩
   refine TT_step rfl (Av C1092 (hr967.mono hl1091) fun a1095 c1096 r1097 => (T_nil ?_))
   exact TT_subA (J1026 _ _ ⟨x1085, a1086, c1087, a1095, c1096, B1089, rfl, hl1091, C1092, r1094, r1097⟩)
  refine TT_dag (t := (.fork 10 19 (.step 19 (.step 20 .done)) (.step 10 (.step 20 .done)))) (fun ρ w' => ∃ (x1106 : UInt8) (a1107 : Option Addr) (c1108 : Nat) (a1110 : Option Addr) (c1111 : Nat) (B1113 : Bp), ρ = [(4, .pointer (some ⟨b52, 0, none⟩)), (5, .int .i64 ((n : Nat) : Int)), (6, .slice a59 n c60), (7, .slice a66 n c67), (8, .int .i64 (k : Int)), (32, .int .i64 ((n : Nat) : Int)), (33, .int .i64 (k : Int)), (84, .func (.func 142) #[.pointer (some ⟨b52, 0, none⟩)] #[]), (85, .pointer (some ⟨b52, 0, none⟩)), (92, bV x1106), (97, .slice a1107 n c1108), (101, .slice a1110 n c1111)] ∧ B851.le B1113 ∧ Wk W H B1113 w' ∧ SlB B1113 (.slice a1107 n c1108) n ∧ SlB B1113 (.slice a1110 n c1111) n) ?_ (fun J1114 => ?_)
  ·rintro ρ w1117 ⟨x1106, a1107, c1108, a1110, c1111, B1113, rfl, hl1115, C1116, r1118, r1119⟩
   refine TT_fork rfl rfl ?_ ?_
   ·refine Cw g_aumbry_gf_Field_Inv ((ginv_w C1116 (hg53.mono (hl56.trans (hl63.trans (hl70.trans (hl76.trans (hl788.trans (hl801.trans (hl839.trans (hl852.trans hl1115))))))))) x1106).mono ?_)
    rintro e w1123 ⟨B1120, hl1121, C1122, x1124, rfl⟩
    refine ⟨_, rfl, ?_⟩
    refine T_nil ?_
    exact TT_subA (J1026 _ _ ⟨x1124, a1107, c1108, a1110, c1111, B1120, rfl, (hl1115.trans hl1121), C1122, (r1118.mono hl1121), (r1119.mono hl1121)⟩)
   refine T_lit2KR C1116 (fun _ => trivial) rfl rfl rfl r1118 r1119 rfl rfl rfl rfl rfl rfl rfl rfl fun a1125 c1126 w1131 B1128 hl1129 r1127 C1130 => (T_nil ?_)
   exact TT_subA (J1062 _ _ ⟨x1106, a1125, c1126, B1128, rfl, (hl1115.trans hl1129), C1130, r1127⟩)
  refine TT_dag (t := (.fork 10 18 (.step 18 (.step 19 (.step 20 .done))) (.fork 10 19 (.step 19 (.step 20 .done)) (.step 10 (.step 20 .done))))) (fun ρ w' => ∃ (x1162 : UInt8) (a1163 : Option Addr) (c1164 : Nat) (B1166 : Bp), ρ = [(4, .pointer (some ⟨b52, 0, none⟩)), (5, .int .i64 ((n : Nat) : Int)), (6, .slice a59 n c60), (7, .slice a66 n c67), (8, .int .i64 (k : Int)), (32, .int .i64 ((n : Nat) : Int)), (33, .int .i64 (k : Int)), (84, .func (.func 142) #[.pointer (some ⟨b52, 0, none⟩)] #[]), (85, .pointer (some ⟨b52, 0, none⟩)), (92, bV x1162), (97, .slice a1163 n c1164), (100, .pointer (some ⟨b959, o960, none⟩))] ∧ B851.le B1166 ∧ Wk W H B1166 w' ∧ SlB B1166 (.slice a1163 n c1164) n) ?_ (fun J1167 => ?_)
  ·rintro ρ w1170 ⟨x1162, a1163, c1164, B1166, rfl, hl1168, C1169, r1171⟩
   refine TT_fork rfl rfl ?_ ?_
   ·refine Cw g_aumbry_gf_Field_Inv ((ginv_w C1169 (hg53.mono (hl56.trans (hl63.trans (hl70.trans (hl76.trans (hl788.trans (hl801.trans (hl839.trans (hl852.trans hl1168))))))))) x1162).mono ?_)
    rintro e w1175 ⟨B1172, hl1173, C1174, x1176, rfl⟩
    refine ⟨_, rfl, ?_⟩
    refine T_nil ?_
    exact TT_subA (J1090 _ _ ⟨x1176, a1163, c1164, B1172, rfl, (hl1168.trans hl1173), C1174, (r1171.mono hl1173)⟩)
   refine Av C1169 (hr967.mono hl1168) fun a1177 c1178 r1179 => (T_nil ?_)
   exact TT_subF (J1114 _ _ ⟨x1162, a1163, c1164, a1177, c1178, B1166, rfl, hl1168, C1169, r1171, r1179⟩)
  refine TT_dag (t := (.fork 10 14 (.step 14 (.step 19 (.step 20 .done))) (.fork 10 19 (.step 19 (.step 20 .done)) (.step 10 (.step 20 .done))))) (fun ρ w' => ∃ (x1188 : UInt8) (a1189 : Option Addr) (c1190 : Nat) (B1192 : Bp), ρ = [(4, .pointer (some ⟨b52, 0, none⟩)), (5, .int .i64 ((n : Nat) : Int)), (6, .slice a59 n c60), (7, .slice a66 n c67), (8, .int .i64 (k : Int)), (32, .int .i64 ((n : Nat) : Int)), (33, .int .i64 (k : Int)), (84, .func (.func 142) #[.pointer (some ⟨b52, 0, none⟩)] #[]), (85, .pointer (some ⟨b52, 0, none⟩)), (92, bV x1188), (96, .pointer (some ⟨b950, o951, none⟩)), (101, .slice a1189 n c1190)] ∧ B851.le B1192 ∧ Wk W H B1192 w' ∧ SlB B1192 (.slice a1189 n c1190) n) ?_ (fun J1193 => ?_)
  ·rintro ρ w1196 ⟨x1188, a1189, c1190, B1192, rfl, hl1194, C1195, r1197⟩
   refine TT_fork rfl rfl ?_ ?_
   ·refine Cw g_aumbry_gf_Field_Inv ((ginv_w C1195 (hg53.mono (hl56.trans (hl63.trans (hl70.trans (hl76.trans (hl788.trans (hl801.trans (hl839.trans (hl852.trans hl1194))))))))) x1188).mono ?_)
    rintro e w1201 ⟨B1198, hl1199, C1200, x1202, rfl⟩
    refine ⟨_, rfl, ?_⟩
    refine Nt rfl (Av C1200 (hr958.mono (hl1194.trans hl1199)) fun a1203 c1204 r1205 => (T_nil ?_))
    exact TT_subA (J1026 _ _ ⟨x1202, a1203, c1204, a1189, c1190, B1198, rfl, (hl1194.trans hl1199), C1200, r1205, (r1197.mono hl1199)⟩)
   refine Av C1195 (hr958.mono hl1194) fun a1206 c1207 r1208 => (T_nil ?_)
   exact TT_subF (J1114 _ _ ⟨x1188, a1206, c1207, a1189, c1190, B1192, rfl, hl1194, C1195, r1208, r1197⟩)
  refine TT_dag (t := (.fork 6 19 (.step 8 (.fork 9 19 (.fork 10 19 (.step 19 (.step 20 .done)) (.step 10 (.step 20 .done))) (.step 9 (.step 10 (.step 20 .done))))) (.step 6 (.step 8 (.step 9 (.step 10 (.step 20 .done))))))) (fun ρ w' => ∃ (a1248 : Option Addr) (c1249 : Nat) (a1251 : Option Addr) (c1252 : Nat) (B1254 : Bp), ρ = [(4, .pointer (some ⟨b52, 0, none⟩)), (5, .int .i64 ((n : Nat) : Int)), (6, .slice a59 n c60), (7, .slice a66 n c67), (8, .int .i64 (k : Int)), (32, .int .i64 ((n : Nat) : Int)), (33, .int .i64 (k : Int)), (84, .func (.func 142) #[.pointer (some ⟨b52, 0, none⟩)] #[]), (85, .pointer (some ⟨b52, 0, none⟩)), (88, .pointer (some ⟨b941, o942, none⟩)), (90, .int .i64 (k : Int)), (97, .slice a1248 n c1249), (101, .slice a1251 n c1252)] ∧ B851.le B1254 ∧ Wk W H B1254 w' ∧ SlB B1254 (.slice a1248 n c1249) n ∧ SlB B1254 (.slice a1251 n c1252) n) ?_ (fun J1255 => ?_)
  ·rintro ρ w1258 ⟨a1248, c1249, a1251, c1252, B1254, rfl, hl1256, C1257, r1259, r1260⟩
   refine TT_fork rfl rfl ?_ ?_
   ·refine Av C1257 (hr949.mono hl1256) fun a1261 c1262 r1263 => ?_
    refine Nt rfl (At r1263 fun b1264 o1265 q1266 hb1267 hq1268 => (T_nil ?_))
    refine TT_fork rfl rfl ?_ ?_
    ·refine As C1257 hb1267 fun x1269 => (T_nil ?_)
     exact TT_subF (J1114 _ _ ⟨x1269, a1248, c1249, a1251, c1252, B1254, rfl, hl1256, C1257, r1259, r1260⟩)
    refine T_lit2KR C1257 (fun _ => trivial) rfl rfl rfl r1259 r1260 rfl rfl rfl rfl rfl rfl rfl rfl fun a1270 c1271 w1276 B1273 hl1274 r1272 C1275 => (Nt rfl (As C1275 (hb1267.mono hl1274) fun x1277 => (T_nil ?_)))
    exact TT_subA (J1062 _ _ ⟨x1277, a1270, c1271, B1273, rfl, (hl1256.trans hl1274), C1275, r1272⟩)
   refine T_lit2KR C1257 (fun _ => trivial) rfl rfl rfl r1259 r1260 rfl rfl rfl rfl rfl rfl rfl rfl fun a1278 c1279 w1284 B1281 hl1282 r1280 C1283 => (Nt rfl (Av C1283 (hr949.mono (hl1256.trans hl1282)) fun a1285 c1286 r1287 => ?_))
   refine Nt rfl (At r1287 fun b1288 o1289 q1290 hb1291 hq1292 => ?_)
   refine Nt rfl (As C1283 hb1291 fun x1293 => (T_nil ?_))
   exact TT_subA (J1062 _ _ ⟨x1293, a1278, c1279, B1281, rfl, (hl1256.trans hl1282), C1283, r1280⟩)
  refine TT_fork3 rfl rfl rfl ?_ ?_ ?_
  ·refine Av C939 hr949 fun a1294 c1295 r1296 => ?_
   refine Nt rfl (At r1296 fun b1297 o1298 q1299 hb1300 hq1301 => (T_nil ?_))
   refine TT_fork3 rfl rfl rfl ?_ ?_ ?_
   ·refine As C939 hb1300 fun x1302 => (T_nil ?_)
    refine TT_fork3 rfl rfl rfl ?_ ?_ ?_
    ·refine Cw g_aumbry_gf_Field_Inv ((ginv_w C939 (hg53.mono (hl56.trans (hl63.trans (hl70.trans (hl76.trans (hl788.trans (hl801.trans (hl839.trans hl852)))))))) x1302).mono ?_)
     rintro e w1306 ⟨B1303, hl1304, C1305, x1307, rfl⟩
     refine ⟨_, rfl, ?_⟩
     refine Nt rfl (Av C1305 (hr958.mono hl1304) fun a1308 c1309 r1310 => (T_nil ?_))
     exact TT_subA (J1090 _ _ ⟨x1307, a1308, c1309, B1303, rfl, hl1304, C1305, r1310⟩)
    ·refine Av C939 hr958 fun a1311 c1312 r1313 => (T_nil ?_)
     exact TT_subF (J1167 _ _ ⟨x1302, a1311, c1312, B851, rfl, (Bp.le.refl _), C939, r1313⟩)
    refine Av C939 hr967 fun a1314 c1315 r1316 => (T_nil ?_)
    exact TT_subF (J1193 _ _ ⟨x1302, a1314, c1315, B851, rfl, (Bp.le.refl _), C939, r1316⟩)
   ·refine Av C939 hr958 fun a1317 c1318 r1319 => (T_nil ?_)
    refine TT_fork rfl rfl ?_ ?_
    ·refine As C939 hb1300 fun x1320 => (T_nil ?_)
     exact TT_subF (J1167 _ _ ⟨x1320, a1317, c1318, B851, rfl, (Bp.le.refl _), C939, r1319⟩)
    refine Av C939 hr967 fun a1321 c1322 r1323 => (T_nil ?_)
    refine TT_fork rfl rfl ?_ ?_
    ·refine As C939 hb1300 fun x1324 => (T_nil ?_)
     exact TT_subF (J1114 _ _ ⟨x1324, a1317, c1318, a1321, c1322, B851, rfl, (Bp.le.refl _), C939, r1319, r1323⟩)
    refine T_lit2KR C939 (fun _ => trivial) rfl rfl rfl r1319 r1323 rfl rfl rfl rfl rfl rfl rfl rfl fun a1325 c1326 w1331 B1328 hl1329 r1327 C1330 => (Nt rfl (As C1330 (hb1300.mono hl1329) fun x1332 => (T_nil ?_)))
    exact TT_subA (J1062 _ _ ⟨x1332, a1325, c1326, B1328, rfl, hl1329, C1330, r1327⟩)
   refine Av C939 hr967 fun a1333 c1334 r1335 => (T_nil ?_)
   refine TT_fork rfl rfl ?_ ?_
   ·refine As C939 hb1300 fun x1336 => (T_nil ?_)
    exact TT_subF (J1193 _ _ ⟨x1336, a1333, c1334, B851, rfl, (Bp.le.refl _), C939, r1335⟩)
   refine Av C939 hr958 fun a1337 c1338 r1339 => (T_nil ?_)
   refine TT_fork rfl rfl ?_ ?_
   ·refine As C939 hb1300 fun x1340 => (T_nil ?_)
    exact TT_subF (J1114 _ _ ⟨x1340, a1337, c1338, a1333, c1334, B851, rfl, (Bp.le.refl _), C939, r1339, r1335⟩)
   refine T_lit2KR C939 (fun _ => trivial) rfl rfl rfl r1339 r1335 rfl rfl rfl rfl rfl rfl rfl rfl fun a1341 c1342 w1347 B1344 hl1345 r1343 C1346 => (Nt rfl (As C1346 (hb1300.mono hl1345) fun x1348 => (T_nil ?_)))
   exact TT_subA (J1062 _ _ ⟨x1348, a1341, c1342, B1344, rfl, hl1345, C1346, r1343⟩)
  ·refine Av C939 hr958 fun a1349 c1350 r1351 => (T_nil ?_)
   refine TT_fork rfl rfl ?_ ?_
   ·refine Av C939 hr949 fun a1352 c1353 r1354 => ?_
    refine Nt rfl (At r1354 fun b1355 o1356 q1357 hb1358 hq1359 => (T_nil ?_))
    refine TT_fork rfl rfl ?_ ?_
    ·refine As C939 hb1358 fun x1360 => (T_nil ?_)
     exact TT_subF (J1167 _ _ ⟨x1360, a1349, c1350, B851, rfl, (Bp.le.refl _), C939, r1351⟩)
    refine Av C939 hr967 fun a1361 c1362 r1363 => (T_nil ?_)
    refine TT_fork rfl rfl ?_ ?_
    ·refine As C939 hb1358 fun x1364 => (T_nil ?_)
     exact TT_subF (J1114 _ _ ⟨x1364, a1349, c1350, a1361, c1362, B851, rfl, (Bp.le.refl _), C939, r1351, r1363⟩)
    refine T_lit2KR C939 (fun _ => trivial) rfl rfl rfl r1351 r1363 rfl rfl rfl rfl rfl rfl rfl rfl fun a1365 c1366 w1371 B1368 hl1369 r1367 C1370 => (Nt rfl (As C1370 (hb1358.mono hl1369) fun x1372 => (T_nil ?_)))
    exact TT_subA (J1062 _ _ ⟨x1372, a1365, c1366, B1368, rfl, hl1369, C1370, r1367⟩)
   refine Av C939 hr967 fun a1373 c1374 r1375 => (T_nil ?_)
   exact TT_subF (J1255 _ _ ⟨a1349, c1350, a1373, c1374, B851, rfl, (Bp.le.refl _), C939, r1351, r1375⟩)
  refine Av C939 hr967 fun a1376 c1377 r1378 => (T_nil ?_)
  refine TT_fork rfl rfl ?_ ?_
  ·refine Av C939 hr949 fun a1379 c1380 r1381 => ?_
   refine Nt rfl (At r1381 fun b1382 o1383 q1384 hb1385 hq1386 => (T_nil ?_))
   refine TT_fork rfl rfl ?_ ?_
   ·refine As C939 hb1385 fun x1387 => (T_nil ?_)
    exact TT_subF (J1193 _ _ ⟨x1387, a1376, c1377, B851, rfl, (Bp.le.refl _), C939, r1378⟩)
   refine Av C939 hr958 fun a1388 c1389 r1390 => (T_nil ?_)
   refine TT_fork rfl rfl ?_ ?_
   ·refine As C939 hb1385 fun x1391 => (T_nil ?_)
    exact TT_subF (J1114 _ _ ⟨x1391, a1388, c1389, a1376, c1377, B851, rfl, (Bp.le.refl _), C939, r1390, r1378⟩)
   refine T_lit2KR C939 (fun _ => trivial) rfl rfl rfl r1390 r1378 rfl rfl rfl rfl rfl rfl rfl rfl fun a1392 c1393 w1398 B1395 hl1396 r1394 C1397 => (Nt rfl (As C1397 (hb1385.mono hl1396) fun x1399 => (T_nil ?_)))
   exact TT_subA (J1062 _ _ ⟨x1399, a1392, c1393, B1395, rfl, hl1396, C1397, r1394⟩)
  refine Av C939 hr958 fun a1400 c1401 r1402 => (T_nil ?_)
  exact TT_subF (J1255 _ _ ⟨a1400, c1401, a1376, c1377, B851, rfl, (Bp.le.refl _), C939, r1402, r1378⟩)
 refine W_exit (Wr (P3 (T_nil (W_ret ?_))))
 refine ⟨_, ⟨_, _, rfl, rfl, ⟨_, _, rfl, rfl, rfl⟩⟩, B69, (hl24.trans (hl29.trans (hl49.trans (hl56.trans (hl63.trans hl70))))), C71, ?_⟩
 exact ⟨_, _, _, _, rfl, by omega, (r68.mono hl70)⟩


theorem mul1_w {W : World} {H : Hp} {B : Bp} {w : World} (C0 : Wk W H B w) (i j : Nat) {db : Nat} {dv : Value} (hd : VaB B db dv) (hf : FnB Tryz.prog W H B dv ASS) {ab : Nat} {a1 : Option Addr} {n m c1 : Nat} (ha : VaB B ab (.slice a1 n c1)) (h1 : RoB B (.slice a1 n c1) n m) {bb : Nat} {a2 : Option Addr} {n2 m2 c2 : Nat} (hb : VaB B bb (.slice a2 n2 c2)) (h2 : RoB B (.slice a2 n2 c2) n2 m2) (hi : i < n) (hj : j < m2) (hm : m ≤ 16) (hn2 : n2 ≤ 16) :
  Calls Tryz.prog 146 #[.int .i64 ((i : Nat) : Int), .int .i64 ((j : Nat) : Int), .pointer (some ⟨db, 0, none⟩), .pointer (some ⟨ab, 0, none⟩), .pointer (some ⟨bb, 0, none⟩)] w fun e w' => ∃ B', B.le B' ∧ Wk W H B' w' ∧ ∃ x : UInt8, e = .returned (bV x) := by
 obtain ⟨dvf, dva, dvc, rfl⟩ := hf.shape
 refine enter5 _ Tryz.func146 rfl Tryz.ntmps146 Tryz.results146 rfl (Wr (Pv (T_nil (W_seq ?_))))
 refine W_tree (planW Tryz.prog) (.step 2 (.step 5 (.step 6 (.fork3 0 1 7 (.fork 1 7 (.step 3 (.fork 4 7 (.step 7 (.step 8 (.step 9 .done))) (.step 4 (.step 8 (.step 9 .done))))) (.step 1 (.step 3 (.step 4 (.step 8 (.step 9 .done)))))) (.step 3 (.fork3 0 4 7 (.fork 4 7 (.step 7 (.step 8 (.step 9 .done))) (.step 4 (.step 8 (.step 9 .done)))) (.fork 0 7 (.step 7 (.step 8 (.step 9 .done))) (.step 0 (.step 8 (.step 9 .done)))) (.step 0 (.step 4 (.step 8 (.step 9 .done)))))) (.step 0 (.step 1 (.step 3 (.step 4 (.step 8 (.step 9 .done)))))))))) rfl (by kernel_rfl) trivial ?_
 have C21 := C0.drew
 refine TT_step rfl (Pv ?_)
 refine Nt rfl (T_loadVK C21 hb rfl rfl rfl rfl rfl rfl rfl (Nt rfl (Pv (T_nil ?_))))
 refine TT_fork3 rfl rfl rfl ?_ ?_ ?_
 ·refine T_loadVK C21 hd rfl rfl rfl rfl rfl rfl rfl (T_nil (TT_fork rfl rfl ?_ ?_))
  ·refine T_loadVK C21 ha rfl rfl rfl rfl rfl rfl rfl (Nt rfl (Aw h1 fun b22 o23 t24 q25 f26 hb27 hq28 hf29 => ?_))
   have hr30 : RwB B b22 o23 m := ⟨_, _, _, hb27, hq28, hf29⟩
   refine T_nil (TT_fork rfl rfl ?_ ?_)
   ·refine Av C21 hr30 fun a31 c32 r33 => ?_
    refine Nt rfl (Cw g_aumbry_matrix_column ((mcol_w C21 h2 j (by omega) (by omega)).mono ?_))
    rintro e w37 ⟨B34, hl35, C36, a38, c39, rfl, r40⟩
    refine ⟨_, rfl, ?_⟩
    refine Nt rfl (T_callF C36 (hf.mono hl35) (fun _ => trivial) rfl rfl rfl ⟨_, _, _, _, (r33.mono hl35), (r40).sl, by omega, by omega, rfl⟩ rfl rfl rfl rfl fun x41 w45 B42 hl43 C44 => ?_)
    refine Nt rfl (Pv (T_nil (TT_done (W_ret ?_))))
    refine ⟨_, ⟨_, _, rfl, rfl, rfl⟩, B42, (hl35.trans hl43), C44, ?_⟩
    exact ⟨(x41 : UInt8), rfl⟩
   refine Cw g_aumbry_matrix_column ((mcol_w C21 h2 j (by omega) (by omega)).mono ?_)
   rintro e w49 ⟨B46, hl47, C48, a50, c51, rfl, r52⟩
   refine ⟨_, rfl, ?_⟩
   refine Nt rfl (Av C48 (hr30.mono hl47) fun a53 c54 r55 => ?_)
   refine Nt rfl (T_callF C48 (hf.mono hl47) (fun _ => trivial) rfl rfl rfl ⟨_, _, _, _, r55, (r52).sl, by omega, by omega, rfl⟩ rfl rfl rfl rfl fun x56 w60 B57 hl58 C59 => ?_)
   refine Nt rfl (Pv (T_nil (TT_done (W_ret ?_))))
   refine ⟨_, ⟨_, _, rfl, rfl, rfl⟩, B57, (hl47.trans hl58), C59, ?_⟩
   exact ⟨(x56 : UInt8), rfl⟩
  refine Cw g_aumbry_matrix_column ((mcol_w C21 h2 j (by omega) (by omega)).mono ?_)
  rintro e w64 ⟨B61, hl62, C63, a65, c66, rfl, r67⟩
  refine ⟨_, rfl, ?_⟩
  refine Nt rfl (T_loadVK C63 (ha.mono hl62) rfl rfl rfl rfl rfl rfl rfl (Nt rfl (Aw (h1.mono hl62) fun b68 o69 t70 q71 f72 hb73 hq74 hf75 => ?_)))
  have hr76 : RwB B61 b68 o69 m := ⟨_, _, _, hb73, hq74, hf75⟩
  refine Nt rfl (Av C63 hr76 fun a77 c78 r79 => ?_)
  refine Nt rfl (T_callF C63 (hf.mono hl62) (fun _ => trivial) rfl rfl rfl ⟨_, _, _, _, r79, (r67).sl, by omega, by omega, rfl⟩ rfl rfl rfl rfl fun x80 w84 B81 hl82 C83 => ?_)
  refine Nt rfl (Pv (T_nil (TT_done (W_ret ?_))))
  refine ⟨_, ⟨_, _, rfl, rfl, rfl⟩, B81, (hl62.trans hl82), C83, ?_⟩
  exact ⟨(x80 : UInt8), rfl⟩
 ·refine T_loadVK C21 ha rfl rfl rfl rfl rfl rfl rfl (Nt rfl (Aw h1 fun b85 o86 t87 q88 f89 hb90 hq91 hf92 => ?_))
  have hr93 : RwB B b85 o86 m := ⟨_, _, _, hb90, hq91, hf92⟩
  refine T_nil (TT_fork3 rfl rfl rfl ?_ ?_ ?_)
  ·refine T_loadVK C21 hd rfl rfl rfl rfl rfl rfl rfl (T_nil (TT_fork rfl rfl ?_ ?_))
   ·refine Av C21 hr93 fun a94 c95 r96 => ?_
    refine Nt rfl (Cw g_aumbry_matrix_column ((mcol_w C21 h2 j (by omega) (by omega)).mono ?_))
    rintro e w100 ⟨B97, hl98, C99, a101, c102, rfl, r103⟩
    refine ⟨_, rfl, ?_⟩
    refine Nt rfl (T_callF C99 (hf.mono hl98) (fun _ => trivial) rfl rfl rfl ⟨_, _, _, _, (r96.mono hl98), (r103).sl, by omega, by omega, rfl⟩ rfl rfl rfl rfl fun x104 w108 B105 hl106 C107 => ?_)
    refine Nt rfl (Pv (T_nil (TT_done (W_ret ?_))))
    refine ⟨_, ⟨_, _, rfl, rfl, rfl⟩, B105, (hl98.trans hl106), C107, ?_⟩
    exact ⟨(x104 : UInt8), rfl⟩
   refine Cw g_aumbry_matrix_column ((mcol_w C21 h2 j (by omega) (by omega)).mono ?_)
   rintro e w112 ⟨B109, hl110, C111, a113, c114, rfl, r115⟩
   refine ⟨_, rfl, ?_⟩
   refine Nt rfl (Av C111 (hr93.mono hl110) fun a116 c117 r118 => ?_)
   refine Nt rfl (T_callF C111 (hf.mono hl110) (fun _ => trivial) rfl rfl rfl ⟨_, _, _, _, r118, (r115).sl, by omega, by omega, rfl⟩ rfl rfl rfl rfl fun x119 w123 B120 hl121 C122 => ?_)
   refine Nt rfl (Pv (T_nil (TT_done (W_ret ?_))))
   refine ⟨_, ⟨_, _, rfl, rfl, rfl⟩, B120, (hl110.trans hl121), C122, ?_⟩
   exact ⟨(x119 : UInt8), rfl⟩
  ·refine Av C21 hr93 fun a124 c125 r126 => (T_nil ?_)
   refine TT_fork rfl rfl ?_ ?_
   ·refine T_loadVK C21 hd rfl rfl rfl rfl rfl rfl rfl (Nt rfl (Cw g_aumbry_matrix_column ((mcol_w C21 h2 j (by omega) (by omega)).mono ?_)))
    rintro e w130 ⟨B127, hl128, C129, a131, c132, rfl, r133⟩
    refine ⟨_, rfl, ?_⟩
    refine Nt rfl (T_callF C129 (hf.mono hl128) (fun _ => trivial) rfl rfl rfl ⟨_, _, _, _, (r126.mono hl128), (r133).sl, by omega, by omega, rfl⟩ rfl rfl rfl rfl fun x134 w138 B135 hl136 C137 => ?_)
    refine Nt rfl (Pv (T_nil (TT_done (W_ret ?_))))
    refine ⟨_, ⟨_, _, rfl, rfl, rfl⟩, B135, (hl128.trans hl136), C137, ?_⟩
    exact ⟨(x134 : UInt8), rfl⟩
   refine Cw g_aumbry_matrix_column ((mcol_w C21 h2 j (by omega) (by omega)).mono ?_)
   rintro e w142 ⟨B139, hl140, C141, a143, c144, rfl, r145⟩
   refine ⟨_, rfl, ?_⟩
   refine Nt rfl (T_loadVK C141 (hd.mono hl140) rfl rfl rfl rfl rfl rfl rfl (Nt rfl (T_callF C141 (hf.mono hl140) (fun _ => trivial) rfl rfl rfl ⟨_, _, _, _, (r126.mono hl140), (r145).sl, by omega, by omega, rfl⟩ rfl rfl rfl rfl fun x146 w150 B147 hl148 C149 => ?_)))
   refine Nt rfl (Pv (T_nil (TT_done (W_ret ?_))))
   refine ⟨_, ⟨_, _, rfl, rfl, rfl⟩, B147, (hl140.trans hl148), C149, ?_⟩
   exact ⟨(x146 : UInt8), rfl⟩
  refine Cw g_aumbry_matrix_column ((mcol_w C21 h2 j (by omega) (by omega)).mono ?_)
  rintro e w154 ⟨B151, hl152, C153, a155, c156, rfl, r157⟩
  refine ⟨_, rfl, ?_⟩
  refine Nt rfl (T_loadVK C153 (hd.mono hl152) rfl rfl rfl rfl rfl rfl rfl (Nt rfl (Av C153 (hr93.mono hl152) fun a158 c159 r160 => ?_)))
  refine Nt rfl (T_callF C153 (hf.mono hl152) (fun _ => trivial) rfl rfl rfl ⟨_, _, _, _, r160, (r157).sl, by omega, by omega, rfl⟩ rfl rfl rfl rfl fun x161 w165 B162 hl163 C164 => ?_)
  refine Nt rfl (Pv (T_nil (TT_done (W_ret ?_))))
  refine ⟨_, ⟨_, _, rfl, rfl, rfl⟩, B162, (hl152.trans hl163), C164, ?_⟩
  exact ⟨(x161 : UInt8), rfl⟩
 refine Cw g_aumbry_matrix_column ((mcol_w C21 h2 j (by omega) (by omega)).mono ?_)
 rintro e w169 ⟨B166, hl167, C168, a170, c171, rfl, r172⟩
 refine ⟨_, rfl, ?_⟩
 refine Nt rfl (T_loadVK C168 (hd.mono hl167) rfl rfl rfl rfl rfl rfl rfl (Nt rfl (T_loadVK C168 (ha.mono hl167) rfl rfl rfl rfl rfl rfl rfl (Nt rfl (Aw (h1.mono hl167) fun b173 o174 t175 q176 f177 hb178 hq179 hf180 => ?_)))))
 have hr181 : RwB B166 b173 o174 m := ⟨_, _, _, hb178, hq179, hf180⟩
 refine Nt rfl (Av C168 hr181 fun a182 c183 r184 => ?_)
 refine Nt rfl (T_callF C168 (hf.mono hl167) (fun _ => trivial) rfl rfl rfl ⟨_, _, _, _, r184, (r172).sl, by omega, by omega, rfl⟩ rfl rfl rfl rfl fun x185 w189 B186 hl187 C188 => ?_)
 refine Nt rfl (Pv (T_nil (TT_done (W_ret ?_))))
 refine ⟨_, ⟨_, _, rfl, rfl, rfl⟩, B186, (hl167.trans hl187), C188, ?_⟩
 exact ⟨(x185 : UInt8), rfl⟩


theorem mmul_w {W : World} {H : Hp} {B : Bp} {w : World} (C0 : Wk W H B w) {a1 : Option Addr} {n m c1 : Nat} (h1 : RoB B (.slice a1 n c1) n m) {a2 : Option Addr} {n2 m2 c2 : Nat} (h2 : RoB B (.slice a2 n2 c2) n2 m2) (hn : n ≤ 16) (hm : m ≤ 16) (hn2 : n2 ≤ 16) (hm2 : m2 ≤ 16) :
  Calls Tryz.prog 109 #[.slice a1 n c1, .slice a2 n2 c2] w fun e w' => ∃ B', B.le B' ∧ Wk W H B' w' ∧ ∃ a n' c z, e = .returned (.tuple #[.slice a n' c, .int .i64 z]) := by
 refine enter2 _ Tryz.func109 rfl Tryz.ntmps109 Tryz.results109 rfl (Wr (T_boxK C0 (.va 35 (.slice a1 n c1)) (fun _ => trivial) rfl rfl rfl rfl rfl rfl rfl rfl fun b21 w26 B23 hl24 hb22 C25 => ?_))
 have hb22' : VaB B23 b21 (.slice a1 n c1) := ⟨_, hb22⟩
 refine T_boxK C25 (.va 35 (.slice a2 n2 c2)) (fun _ => trivial) rfl rfl rfl rfl rfl rfl rfl rfl fun b27 w32 B29 hl30 hb28 C31 => ?_
 have hb28' : VaB B29 b27 (.slice a2 n2 c2) := ⟨_, hb28⟩
 refine P2 (T_nil ?_)
 iterate 2 refine W_seq ?_
 refine W_plan (planW Tryz.prog) rfl (by kernel_rfl) trivial ?_
 have C33 := C31.drew
 refine T_loadVK C33 (hb22'.mono hl30) rfl rfl rfl rfl rfl rfl rfl (Cw g_aumbry_matrix_may ((may_w C33 (h1.mono (hl24.trans hl30)) (by omega) (by omega)).mono ?_))
 rintro e w37 ⟨B34, hl35, C36, q38, rfl, hq39⟩
 refine ⟨_, rfl, ?_⟩
 refine P2 ?_
 refine Tp 10 (fun h40' => ?_) (fun h40' => ?_)
 ·have h40 := h40'
  iterate 3 refine No ?_
  refine P2 ?_
  iterate 7 refine No ?_
  refine Pv (T_nil ?_)
  refine W_cond_true rfl (Wr (P2 (T_nil (W_ret ?_))))
  refine ⟨_, ⟨_, _, rfl, rfl, ⟨_, _, rfl, rfl, rfl⟩⟩, B34, (hl24.trans (hl30.trans hl35)), C36, ?_⟩
  exact ⟨_, _, _, _, rfl⟩
 have h40 := h40'
 refine Ys ?_
 refine T_loadVK C36 (hb28'.mono hl35) rfl rfl rfl rfl rfl rfl rfl (Ys ?_)
 refine Cw g_aumbry_matrix_may ((may_w C36 (h2.mono (hl24.trans (hl30.trans hl35))) (by omega) (by omega)).mono ?_)
 rintro e w44 ⟨B41, hl42, C43, q45, rfl, hq46⟩
 refine ⟨_, rfl, ?_⟩
 refine Ys ?_
 refine P3 ?_
 refine Tp 15 (fun h47' => ?_) (fun h47' => ?_)
 ·have h47 := h47'
  iterate 7 refine No ?_
  refine Pv (T_nil ?_)
  refine W_cond_true rfl (Wr (P2 (T_nil (W_ret ?_))))
  refine ⟨_, ⟨_, _, rfl, rfl, ⟨_, _, rfl, rfl, rfl⟩⟩, B41, (hl24.trans (hl30.trans (hl35.trans hl42))), C43, ?_⟩
  exact ⟨_, _, _, _, rfl⟩
 have h47 := h47'
 refine Ys ?_
 have HN1 := hq39 (by simpa using h40)
 have HN2 := hq46 (by simpa using h47)
 refine T_loadVK C43 (hb22'.mono (hl30.trans (hl35.trans hl42))) rfl rfl rfl rfl rfl rfl rfl (Ys ?_)
 refine Aw (h1.mono (hl24.trans (hl30.trans (hl35.trans hl42)))) fun b48 o49 t50 q51 f52 hb53 hq54 hf55 => ?_
 have hr56 : RwB B41 b48 o49 m := ⟨_, _, _, hb53, hq54, hf55⟩
 refine Ys ?_
 refine Av C43 hr56 fun a57 c58 r59 => ?_
 refine Ys ?_
 refine Pv ?_
 refine Ys ?_
 refine T_loadVK C43 (hb28'.mono (hl35.trans hl42)) rfl rfl rfl rfl rfl rfl rfl ?_
 iterate 2 (refine Ys ?_; refine Pv ?_)
 refine Pv (T_nil ?_)
 refine W_cond_not rfl (fun h60 => ?_) (fun h60 => ?_)
 ·refine Wr (P2 (T_nil (W_ret ?_)))
  refine ⟨_, ⟨_, _, rfl, rfl, ⟨_, _, rfl, rfl, rfl⟩⟩, B41, (hl24.trans (hl30.trans (hl35.trans hl42))), C43, ?_⟩
  exact ⟨_, _, _, _, rfl⟩
 refine W_skip (Wr (Cw g_aumbry_gf_New ((gnew_w C43 ).mono ?_)))
 rintro e w64 ⟨B61, hl62, C63, b65, rfl, hg66⟩
 refine ⟨_, rfl, ?_⟩
 refine T_makeF rfl rfl rfl rfl rfl rfl ?_
 have hf67 : FnB Tryz.prog W H B61 (.func (.func 145) #[.pointer (some ⟨b65, 0, none⟩)] #[]) ASS := ⟨_, [.pointer (some ⟨b65, 0, none⟩)], [], rfl, g_aumbry_gf_Field_Dot, fun B1 w1 hl C1 args hA => by obtain ⟨v, u, q1, q2, s1, s2, l1, l2, rfl⟩ := hA; obtain ⟨a1, c1, rfl⟩ := s1.shape; obtain ⟨a2, c2, rfl⟩ := s2.shape; exact gdot_w C1 (hg66.mono hl) s1 s2 l1 l2⟩
 refine T_allocVK C63 (fun _ => trivial) rfl rfl rfl rfl rfl rfl rfl rfl fun b68 w73 B70 hl71 hb69 C72 => (T_storeVK C72 hb69 (fun _ => trivial) rfl rfl rfl rfl rfl rfl rfl rfl rfl rfl fun w78 B75 hl76 hv74 C77 => (T_nil (W_seq (W_plan (planW Tryz.prog) rfl (by kernel_rfl) trivial ?_))))
 have C79 := C77.drew
 refine T_loadVK C79 (hb22'.mono (hl30.trans (hl35.trans (hl42.trans (hl62.trans (hl71.trans hl76)))))) rfl rfl rfl rfl rfl rfl rfl (Pv ?_)
 refine T_loadVK C79 (hb28'.mono (hl35.trans (hl42.trans (hl62.trans (hl71.trans hl76))))) rfl rfl rfl rfl rfl rfl rfl (Aw (h2.mono (hl24.trans (hl30.trans (hl35.trans (hl42.trans (hl62.trans (hl71.trans hl76))))))) fun b80 o81 t82 q83 f84 hb85 hq86 hf87 => ?_)
 have hr88 : RwB B75 b80 o81 m2 := ⟨_, _, _, hb85, hq86, hf87⟩
 refine Av C79 hr88 fun a89 c90 r91 => ?_
 refine Pv ?_
 refine T_makeF rfl rfl rfl rfl rfl rfl ?_
 have hf92 : FnB Tryz.prog W H B75 (.func (.func 146) #[] #[.pointer (some ⟨b68, 0, none⟩), .pointer (some ⟨b21, 0, none⟩), .pointer (some ⟨b27, 0, none⟩)]) (AIJ n m2) := ⟨_, [], [.pointer (some ⟨b68, 0, none⟩), .pointer (some ⟨b21, 0, none⟩), .pointer (some ⟨b27, 0, none⟩)], rfl, g_aumbry_matrix_Mul_1, fun B1 w1 hl C1 args hA => by obtain ⟨i, j, hi, hj, rfl⟩ := hA; exact mul1_w C1 i j (hv74.mono hl) ((hf67.mono (hl71.trans hl76)).mono hl) ((hb22'.mono (hl30.trans (hl35.trans (hl42.trans (hl62.trans (hl71.trans hl76)))))).mono hl) ((h1.mono (hl24.trans (hl30.trans (hl35.trans (hl42.trans (hl62.trans (hl71.trans hl76))))))).mono hl) ((hb28'.mono (hl35.trans (hl42.trans (hl62.trans (hl71.trans hl76))))).mono hl) ((h2.mono (hl24.trans (hl30.trans (hl35.trans (hl42.trans (hl62.trans (hl71.trans hl76))))))).mono hl) hi hj (by omega) (by omega)⟩
 refine Cw g_aumbry_matrix_made ((made_w C79 n m2 hf92 (by omega) (by omega)).mono ?_)
 rintro e w96 ⟨B93, hl94, C95, a97, c98, rfl, r99⟩
 refine ⟨_, rfl, ?_⟩
 refine P2 (T_nil (W_ret ?_))
 refine ⟨_, ⟨_, _, rfl, rfl, ⟨_, _, rfl, rfl, rfl⟩⟩, B93, (hl24.trans (hl30.trans (hl35.trans (hl42.trans (hl62.trans (hl71.trans (hl76.trans hl94))))))), C95, ?_⟩
 exact ⟨_, _, _, _, rfl⟩


theorem rsnew_w {W : World} {H : Hp} {B : Bp} {w : World} (C0 : Wk W H B w) (k n : Nat) (hk : 1 ≤ k ∧ k ≤ n) (hn : n ≤ 16) :
  Calls Tryz.prog 68 #[.int .i64 ((k : Nat) : Int), .int .i64 ((n : Nat) : Int)] w fun e w' => ∃ B', B.le B' ∧ Wk W H B' w' ∧ ∃ b v, e = .returned (.tuple #[.pointer (some ⟨b, 0, none⟩), .int .i64 0]) ∧ w'.heap[b]? = some (.cells #[.int .i64 (k : Int), .int .i64 (n : Int), v] 135 (0, 0)) ∧ W.heap.size ≤ b := by
 refine enter2 _ Tryz.func68 rfl Tryz.ntmps68 Tryz.results68 rfl (Wr (P2 (T_nil (W_seq (Wr ?_)))))
 refine P3 ?_
 refine T_bool 13 false rfl (decide_eq_false (by omega)) ?_
 iterate 3 (refine Ys ?_; refine Pv ?_)
 refine P2 ?_
 refine T_bool 18 false rfl (decide_eq_false (by omega)) ?_
 iterate 2 (refine Ys ?_; refine Pv ?_)
 refine Pv (T_nil ?_)
 refine W_bool 21 false rfl (decide_eq_false (by omega)) ?_
 refine W_cond_false rfl (W_skip (Wr (P2 ?_)))
 refine Cw g_aumbry_matrix_Vandermonde ((vand_w C0 n k (by omega) (by omega)).mono ?_)
 rintro e w24 ⟨B21, hl22, C23, a25, c26, rfl, r27⟩
 refine ⟨_, rfl, ?_⟩
 refine Pv (Nr ?_)
 refine P2 ?_
 refine T_sliceKR (l := 0) (h := k) r27 rfl rfl rfl rfl rfl rfl rfl rfl rfl rfl (bound_of (by omega)) rfl (by omega) (by omega) fun a28 c29 r30 => ?_
 refine Cw g_aumbry_matrix_Inverse ((inv_w C23 r30 (by omega)).mono ?_)
 rintro e w34 ⟨B31, hl32, C33, a35, n36, c37, z38, rfl, hn39, r40⟩
 refine ⟨_, rfl, ?_⟩
 iterate 5 refine Pv ?_
 refine Nr (P2 ?_)
 refine Cw g_aumbry_matrix_Mul ((mmul_w C33 (r27.mono hl32) r40 (by omega) (by omega) (by omega) (by omega)).mono ?_)
 rintro e w44 ⟨B41, hl42, C43, a45, n46, c47, z48, rfl⟩
 refine ⟨_, rfl, ?_⟩
 iterate 5 refine Pv ?_
 refine Nr (P3 ?_)
 refine Ag (cells := #[.int .i64 ((k : Nat) : Int), .int .i64 ((n : Nat) : Int), .slice a45 n46 c47]) ?_
 refine T_boxCK C43 (fun _ => trivial) rfl rfl rfl rfl rfl rfl fun b49 w54 hb50 C53 => (P2 (T_nil (W_ret ?_)))
 refine ⟨_, ⟨_, _, rfl, rfl, ⟨_, _, rfl, rfl, rfl⟩⟩, B41, (hl22.trans (hl32.trans hl42)), C53, ?_⟩
 exact ⟨_, _, rfl, hb50⟩

end Go.Proofs.YtmjmjjkigblbgaaGreatDoor
namespace Go.Proofs.YtmjmjjkigblbgaaGreatDoor
open Go Go.F Go.RowKit
open Go.Au

theorem pow_bd {k : Nat} (h : k ≤ 41) : 2 ^ k ≤ 2199023255552 := (show 2 ^ k ≤ 2 ^ 41 from Nat.pow_le_pow_right (by omega) h)
theorem pow_gt {m k : Nat} (h : 1 < 2 ^ (m - k)) : k < m := by
 rcases Nat.lt_or_ge k m with h1 | h1
 ·exact h1
 ·rw [show m - k = 0 by omega] at h; simp at h
theorem pow_done {m k : Nat} (h : k ≤ m) (h1 : ¬ 1 < 2 ^ (m - k)) : k = m := by
 rcases Nat.lt_or_ge k m with h2 | h2
 ·rw [show m - k = (m - k - 1) + 1 by omega, Nat.pow_succ] at h1
  have := Nat.pow_pos (n := m - k - 1) (show 0 < 2 by omega)
  omega
 ·omega
theorem pow_half {m k : Nat} (h : k < m) : ((2 ^ (m - k) : Nat) : Int) / 2 = ((2 ^ (m - (k + 1)) : Nat) : Int) := by
 have e : 2 ^ (m - k) = 2 ^ (m - (k + 1)) * 2 := by rw [← Nat.pow_succ]; congr 1; omega
 rw [e]; generalize 2 ^ (m - (k + 1)) = x; omega
theorem pow_lt_pad {n q : Nat} (h : 2 ^ q < padN n) : q < lg n := by
 rcases Nat.lt_or_ge q (lg n) with h1 | h1
 ·exact h1
 ·have h2 : 2 ^ lg n ≤ 2 ^ q := Nat.pow_le_pow_right (by omega) h1
  unfold padN at h; omega
theorem pow_lg {n q : Nat} (h : q ≤ lg n) (h1 : ¬ 2 ^ q < padN n) : q = lg n := by
 rcases Nat.lt_or_ge q (lg n) with h2 | h2
 ·exact absurd (Nat.pow_lt_pow_right (by omega) h2) h1
 ·omega
theorem shl1 {k : Nat} (h : k < 62) : IntKind.i64.wrap ((1 : Int) * 2 ^ (min ((k : Nat) : Int).toNat IntKind.i64.bits)) = ((2 ^ k : Nat) : Int) := by
 have e : min ((k : Nat) : Int).toNat IntKind.i64.bits = k := by show min k 64 = k; omega
 have hp : 2 ^ k ≤ 2305843009213693952 := (show 2 ^ k ≤ 2 ^ 61 from Nat.pow_le_pow_right (by omega) (by omega))
 have hc : (2 : Int) ^ k = ((2 ^ k : Nat) : Int) := (Int.natCast_pow 2 k).symm
 rw [e, Int.one_mul, hc]
 generalize 2 ^ k = x at *
 exact wrap64_id (by omega) (by omega)
theorem onW_odd {i : Nat} {x q : List UInt8} (h : i % 2 = 1) : onW i x q = q ++ x := if_pos h
theorem onW_even {i : Nat} {x q : List UInt8} (h : ¬ i % 2 = 1) : onW i x q = x ++ q := if_neg h
theorem wnode {i : Nat} {c q d : List UInt8} (h : onW i c q = d) (hl : d.length = 64) : Go.Au.node (d.take 32) ((d.drop 32).take 32) = nodeP (onW i c q) := by
 subst h; unfold nodeP
 rw [List.take_of_length_le (l := List.drop 32 _) (by rw [List.length_drop]; omega)]
theorem climb_even {i k : Nat} {x : List UInt8} {p : List (List UInt8)} (h : ¬ i / 2 ^ k % 2 = 1) (hc : (climb i x p k).length = 32) : Go.Au.node (climb i x p k) (p.getD k []) = climb i x p (k + 1) := by
 rw [climb, onW_even h, nodeP_app hc]
theorem climb_odd {i k : Nat} {x : List UInt8} {p : List (List UInt8)} (h : i / 2 ^ k % 2 = 1) (hc : (p.getD k []).length = 32) : Go.Au.node (p.getD k []) (climb i x p k) = climb i x p (k + 1) := by
 rw [climb, onW_odd h, nodeP_app hc]
theorem way_end {W w : World} {H : Hp} {D : List (List UInt8)} {et : TypeId} {k c : Nat} {a : Option Addr} {hv bv : Value} (hl : D.length = k) (hc : k ≤ c) (ho : rowZ w W.heap.size et 64 (.slice a k c) k (hcells D)) (hall : ∀ h ∈ D, h.length = 64) (hB : Below W.heap.size W w) :
  ∃ a' c', D.length ≤ c' ∧ Ending.returned (.tuple #[.slice a k c, hv, bv]) = .returned (.tuple #[.slice a' D.length c', hv, bv]) ∧ RdH (F.ext H W.heap.size w) (.slice a' D.length c') 64 D ∧ Below W.heap.size W w := by
 subst hl; exact ⟨a, c, hc, rfl, ⟨hall, Rd.of_own_ext ho⟩, hB⟩
theorem high_ok {H : Hp} {w : World} (hH : H.le (hw w)) (n : Int) (hn : n ≤ 2199023255552) :
  Calls Tryz.prog 148 #[.int .i64 n] w fun e w' => e = .returned (.int .i64 ((lg n.toNat : Nat) : Int)) ∧ Below w.heap.size w w' := by
 have hlg := lg_le (n := n.toNat) (m := 41) (by show _ ≤ 2199023255552; omega)
 have hp0 : padN n.toNat = 2 ^ ((lg n.toNat) - 0) := rfl
 refine Aa Tryz.func148 Tryz.ntmps148 Tryz.results148 ?_
 have S0 := St.start w hH
 refine Wr (Pv (Nr ?_))
 refine Pv (T_nil (W_seq (Wr ?_)))
 refine Pv ?_
 refine Cs g_aumbry_tree_Pad ((pad_ok S0.le n (by omega)).mono ?_)
 rintro e w2 ⟨rfl, hB1⟩
 have S3 := S0.call hB1
 refine ⟨_, rfl, trivial, ?_⟩
 refine Pv (T_nil (W_block ?_))
 refine W_loop (fun M ρ w' => ∃ (k : Nat) (G4 : Hp), M = (lg n.toNat) - k ∧ k ≤ (lg n.toNat) ∧ ρ = [(3, .int .i64 (k : Int)), (4, .int .i64 ((2 ^ ((lg n.toNat) - k) : Nat) : Int))] ∧ H.le G4 ∧ St w H G4 [] w')
  ((lg n.toNat) - 0) [(3, .int .i64 ((0 : Nat) : Int)), (4, .int .i64 ((2 ^ ((lg n.toNat) - 0) : Nat) : Int))] ⟨ciI, ciI, trivial⟩ ⟨0, H, rfl, (by exact Nat.zero_le _), rfl, Hp.le.refl _, S3⟩ ?_
 rintro M ρ w6 ⟨k, G4, rfl, hp8, rfl, hl5, S7⟩
 have hpb := pow_bd (k := (lg n.toNat) - k) (by omega)
 refine W_seq (Wr (P2 (T_nil ?_)))
 refine Ab (fun h9 => ?_) (fun h9 => ?_)
 ·refine W_skip (W_seq (W_block (W_region ?_)))
  have hk := pow_gt (m := (lg n.toNat)) (k := k) (by omega)
  refine Pv ?_
  refine Ar ?_
  refine Pv (T_nil (W_region ?_))
  refine Pv ?_
  refine T_quo rfl rfl rfl rfl rfl rfl (by omega) ?_
  refine T_re (v' := .int .i64 ((2 ^ ((lg n.toNat) - (k + 1)) : Nat) : Int)) (congrArg (Value.int .i64) (pow_half hk)) (Pv (T_nil ?_))
  exact ⟨(lg n.toNat) - (k + 1), [(3, .int .i64 ((k + 1 : Nat) : Int)), (4, .int .i64 ((2 ^ ((lg n.toNat) - (k + 1)) : Nat) : Int))], by omega, ⟨ciI, ciI, trivial⟩, k + 1, G4, rfl, (by omega), rfl, hl5, S7⟩
 refine W_exit (Wr (P2 (T_nil (W_ret ?_))))
 refine ⟨_, ⟨_, _, rfl, rfl, rfl⟩, ?_⟩
 have hk : k = (lg n.toNat) := pow_done (by assumption) (by omega)
 exact ⟨by rw [hk]; rfl, S7.below⟩


theorem way_ok {H : Hp} {w : World} (hH : H.le (hw w)) (hT : Tabs H) (n i : Int) {x : List UInt8} (hx : x.length = 32) {p : List (List UInt8)} {aa3 : Option Addr} {nn3 cc3 : Nat} (hp : RdH H (.slice aa3 nn3 cc3) 32 p) :
  Calls Tryz.prog 110 #[.int .i64 n, .int .i64 i, hV x, .slice aa3 nn3 cc3] w fun e w' => ∃ a c, (waysH n i x p).length ≤ c ∧ e = .returned (.tuple #[.slice a (waysH n i x p).length c, hV (climbH n i x p), .bool (okW n i p.length)]) ∧ RdH (F.ext H w.heap.size w') (.slice a (waysH n i x p).length c) 64 (waysH n i x p) ∧ Below w.heap.size w w' := by
 obtain rfl : nn3 = p.length := hp.len
 have hpcap : p.length ≤ cc3 := hp.2.capOf
 refine enter4 _ Tryz.func110 rfl Tryz.ntmps110 Tryz.results110 rfl ?_
 have S0 := St.start w hH
 refine Wr (Ao S0 fun b1 w2 S3 => ?_)
 refine Pv ?_
 refine Af S3 fun b4 w5 S6 => ?_
 refine Pv (T_nil (W_seq (Wr ?_)))
 refine P3 ?_
 refine Td 17 (fun h7 => ?_) (fun h7 => ?_)
 ·iterate 3 refine No ?_
  iterate 2 (refine Pv ?_; refine Pv ?_; refine No ?_; refine No ?_)
  iterate 3 refine No ?_
  refine Pv (T_nil ?_)
  refine W_cond_true rfl (Wr (T_buildA (cells := (hV (List.replicate 32 0)).cells) rfl rfl rfl rfl rfl rfl rfl rfl rfl rfl (Pv ?_)))
  refine Ak (hl := by exact hVs List.length_replicate) (hl2 := by exact hVs List.length_replicate) (h1 := by exact one_hA _) 0 S6 fun w8 S9 => ?_
  refine Pv (T_nil (W_ret ?_))
  refine ⟨_, ⟨_, _, rfl, rfl, ⟨_, _, _, rfl, rfl, run_loadVarA rfl rfl (hVs List.length_replicate) (S9.cells 0 rfl), ⟨_, _, rfl, rfl, rfl⟩⟩⟩, ?_⟩
  have hno : okW n i p.length = false := okW_no (by omega)
  rw [waysH_no hno, climbH_no hno, hno]
  exact ⟨none, 0, Nat.le_refl _, rfl, ⟨fun _ h => (by cases h), Rd.nil _ 64⟩, S9.below⟩
 iterate 3 (refine Ys ?_; refine Pv ?_)
 refine P2 ?_
 refine Td 22 (fun h10 => ?_) (fun h10 => ?_)
 ·iterate 2 refine No ?_
  refine P2 ?_
  iterate 5 refine No ?_
  refine Pv (T_nil ?_)
  refine W_cond_true rfl (Wr (T_buildA (cells := (hV (List.replicate 32 0)).cells) rfl rfl rfl rfl rfl rfl rfl rfl rfl rfl (Pv ?_)))
  refine Ak (hl := by exact hVs List.length_replicate) (hl2 := by exact hVs List.length_replicate) (h1 := by exact one_hA _) 0 S6 fun w11 S12 => ?_
  refine Pv (T_nil (W_ret ?_))
  refine ⟨_, ⟨_, _, rfl, rfl, ⟨_, _, _, rfl, rfl, run_loadVarA rfl rfl (hVs List.length_replicate) (S12.cells 0 rfl), ⟨_, _, rfl, rfl, rfl⟩⟩⟩, ?_⟩
  have hno : okW n i p.length = false := okW_no (by omega)
  rw [waysH_no hno, climbH_no hno, hno]
  exact ⟨none, 0, Nat.le_refl _, rfl, ⟨fun _ h => (by cases h), Rd.nil _ 64⟩, S12.below⟩
 iterate 2 (refine Ys ?_; refine Pv ?_)
 refine P2 ?_
 refine Td 26 (fun h13 => ?_) (fun h13 => ?_)
 ·iterate 5 refine No ?_
  refine Pv (T_nil ?_)
  refine W_cond_true rfl (Wr (T_buildA (cells := (hV (List.replicate 32 0)).cells) rfl rfl rfl rfl rfl rfl rfl rfl rfl rfl (Pv ?_)))
  refine Ak (hl := by exact hVs List.length_replicate) (hl2 := by exact hVs List.length_replicate) (h1 := by exact one_hA _) 0 S6 fun w14 S15 => ?_
  refine Pv (T_nil (W_ret ?_))
  refine ⟨_, ⟨_, _, rfl, rfl, ⟨_, _, _, rfl, rfl, run_loadVarA rfl rfl (hVs List.length_replicate) (S15.cells 0 rfl), ⟨_, _, rfl, rfl, rfl⟩⟩⟩, ?_⟩
  have hno : okW n i p.length = false := okW_no (by omega)
  rw [waysH_no hno, climbH_no hno, hno]
  exact ⟨none, 0, Nat.le_refl _, rfl, ⟨fun _ h => (by cases h), Rd.nil _ 64⟩, S15.below⟩
 iterate 3 (refine Ys ?_; refine Pv ?_)
 refine Ys ?_
 refine Cs g_aumbry_tree_high ((high_ok S6.le n (by omega)).mono ?_)
 rintro e w17 ⟨rfl, hB16⟩
 have S18 := S6.call hB16
 refine ⟨_, rfl, trivial, ?_⟩
 refine Ys ?_
 refine P2 (T_nil ?_)
 refine W_cond_not rfl (fun h19 => ?_) (fun h19 => ?_)
 ·refine Wr (T_buildA (cells := (hV (List.replicate 32 0)).cells) rfl rfl rfl rfl rfl rfl rfl rfl rfl rfl (Pv ?_))
  refine Ak (hl := by exact hVs List.length_replicate) (hl2 := by exact hVs List.length_replicate) (h1 := by exact one_hA _) 0 S18 fun w20 S21 => ?_
  refine Pv (T_nil (W_ret ?_))
  refine ⟨_, ⟨_, _, rfl, rfl, ⟨_, _, _, rfl, rfl, run_loadVarA rfl rfl (hVs List.length_replicate) (S21.cells 0 rfl), ⟨_, _, rfl, rfl, rfl⟩⟩⟩, ?_⟩
  have hno : okW n i p.length = false := okW_no (by omega)
  rw [waysH_no hno, climbH_no hno, hno]
  exact ⟨none, 0, Nat.le_refl _, rfl, ⟨fun _ h => (by cases h), Rd.nil _ 64⟩, S21.below⟩
 refine W_skip (Wr (Pv (T_nil (W_seq (Wr ?_)))))
 refine P3 (T_nil (W_block ?_))
 have hlg := lg_le (n := n.toNat) (m := 8) (by omega)
 have S22 := S18.nilRow 171 64
 refine W_loop (fun M ρ w' => ∃ (k : Nat) (a25 : Option Addr) (c26 : Nat) (G23 : Hp), M = p.length - k ∧ k ≤ p.length ∧ ρ = [(1, .int .i64 ((i.toNat / 2 ^ k : Nat) : Int)), (6, .pointer (some ⟨b1, 0, none⟩)), (9, .pointer (some ⟨b4, 0, none⟩)), (11, .slice a25 k c26), (34, .slice aa3 p.length cc3), (35, .int .i64 ((p.length : Nat) : Int)), (36, .int .i64 (k : Int))] ∧ H.le G23 ∧ St w H G23 [.row 171 64 (.slice a25 k c26) k (hcells (Go.Au.ways i.toNat x p k)), .blk b4 (hV (List.replicate 32 0) : Value).cells 27, .blk b1 (hV (climb i.toNat x p k) : Value).cells 27] w' ∧ (∀ y ∈ Go.Au.ways i.toNat x p k, y.length = 64) ∧ k ≤ c26)
  (p.length - 0) [(1, .int .i64 ((i.toNat / 2 ^ 0 : Nat) : Int)), (6, .pointer (some ⟨b1, 0, none⟩)), (9, .pointer (some ⟨b4, 0, none⟩)), (11, .slice none 0 0), (34, .slice aa3 p.length cc3), (35, .int .i64 ((p.length : Nat) : Int)), (36, .int .i64 ((0 : Nat) : Int))] ⟨ciI, rfl, rfl, rfl, rfl, ciI, ciI, trivial⟩ ⟨0, none, 0, H, rfl, (by omega), rfl, Hp.le.refl _, S22, (fun _ h => by cases h), (Nat.le_refl _)⟩ ?_
 rintro M ρ w29 ⟨k, a25, c26, G23, rfl, hp31, rfl, hl24, S30, hh28, hc27⟩
 refine Wr (Pv (T_nil (W_seq ?_)))
 refine Ab (fun h32 => ?_) (fun h32 => ?_)
 ·refine W_skip (W_seq (W_block (Wr ?_)))
  have hnn := Int.natCast_nonneg (i.toNat / 2 ^ k)
  have hdl := Nat.div_le_self i.toNat (2 ^ k)
  refine Aj k (hp.mono hl24).2 fun b33 o34 hc35 => ?_
  have hc36 := cells_h (hp.mono hl24).1 k (by omega) hc35
  have hl37 := len_h (hp.mono hl24).1 k (by omega)
  refine T_loadGA _ S30 hc36 rfl rfl rfl rfl rfl rfl rfl rfl (hVs hl37) (Af S30 fun b38 w39 S40 => ?_)
  refine Ak (hl := by exact hVs hl37) (hl2 := by exact hVs hl37) (h1 := by exact one_hA _) 0 S40 fun w41 S42 => (Nr ?_)
  refine An (hl := by exact hVs (climb_len _ hx _ _)) 3 S42 ?_
  refine An (hl := by exact hVs hl37) 0 S42 ?_
  have hl43 : ((climb i.toNat x p k) ++ (p.getD k [])).length = 64 := by rw [List.length_append, (climb_len _ hx _ _), hl37]
  refine T_buildA (cells := (hV ((climb i.toNat x p k) ++ (p.getD k []))).cells) rfl rfl rfl rfl rfl rfl (fill2 (by decide) rfl rfl (climb_len _ hx _ _) hl37) rfl rfl rfl ?_
  refine Af S42 fun b44 w45 S46 => ?_
  refine Ak (hl := by exact hVs hl43) (hl2 := by exact hVs hl43) (h1 := by exact one_hA _) 0 S46 fun w47 S48 => (T_nil (W_seq (Wr ?_)))
  refine Pv ?_
  refine T_rem rfl rfl rfl rfl rfl rfl (by omega) ?_
  refine Pv (T_nil ?_)
  refine Ab (fun h49 => ?_) (fun h49 => ?_)
  ·refine W_region (An (hl := by exact hVs hl37) 1 S48 ?_)
   refine An (hl := by exact hVs (climb_len _ hx _ _)) 4 S48 ?_
   have hl50 : ((p.getD k []) ++ (climb i.toNat x p k)).length = 64 := by rw [List.length_append, hl37, (climb_len _ hx _ _)]
   refine T_buildA (cells := (hV ((p.getD k []) ++ (climb i.toNat x p k))).cells) rfl rfl rfl rfl rfl rfl (fill2 (by decide) rfl rfl hl37 (climb_len _ hx _ _)) rfl rfl rfl ?_
   refine Ak (hl := by exact hVs hl50) (hl2 := by exact (hVs hl50).trans (hVs hl43).symm) (h1 := by exact one_hA _) 0 S48 fun w51 S52 => (Nr ?_)
   refine Pv ?_
   refine An (hl := by exact hVs hl50) 0 S52 ?_
   refine T_re (v' := hV (onW (i.toNat / 2 ^ k) (climb i.toNat x p k) (p.getD k []))) (congrArg (fun q => hV q) (onW_odd (by omega)).symm) ?_
   refine T_litS (hcells [(onW (i.toNat / 2 ^ k) (climb i.toNat x p k) (p.getD k []))]) rfl rfl rfl rfl rfl rfl rfl rfl rfl rfl rfl rfl rfl (one_h (onW_len (climb_len _ hx _ _) (len_h hp.1 k (by omega)))) (by simp [hcells, hV, Value.cells]) fun a53 w54 hB55 ho56 => ?_
   have S57 := S52.own hB55 ho56
   refine ⟨trivial, ?_⟩
   have hD58 : (Go.Au.ways i.toNat x p k ++ [(onW (i.toNat / 2 ^ k) (climb i.toNat x p k) (p.getD k []))]) = Go.Au.ways i.toNat x p (k + 1) := (ways_snoc _ _ _ _)
   refine Ai (h1 := by exact one_hcells _) (hn' := by first | rfl | (simp; done) | (simp; omega) | omega) (hx' := by rw [← hD58]; simp [hcells_append, hcells]) (hbytes := by show _ * 64 ≤ _; omega) 3 (k + 1) (hcells (Go.Au.ways i.toNat x p (k + 1))) S57 (S57.rd 0 rfl) fun a59 c60 w61 hc62 S63 => ?_
   have hh64 : ∀ y ∈ Go.Au.ways i.toNat x p (k + 1), y.length = 64 := by rw [← hD58]; exact (all_app hh28 (all_h1 (onW_len (climb_len _ hx _ _) (len_h hp.1 k (by omega)))))
   refine Pv (Nr ?_)
   refine T_idxAm 0 rfl rfl rfl rfl rfl rfl rfl rfl (by decide) rfl ?_
   have hl66 : ((p.getD k []) ++ (climb i.toNat x p k)).length = 64 := hl50
   have hl65 : (((p.getD k []) ++ (climb i.toNat x p k)).take 32).length = 32 := by simp only [List.length_take, List.length_drop]; omega
   refine T_loadAS ((((p.getD k []) ++ (climb i.toNat x p k)).take 32).map bV).toArray 1 S63 rfl rfl rfl rfl rfl rfl rfl rfl rfl (hVs hl65) (hV_cut (l := ((p.getD k []) ++ (climb i.toNat x p k))) (q := 0) (m := 32) (by omega)) ?_
   refine T_idxAm 32 rfl rfl rfl rfl rfl rfl rfl rfl (by decide) rfl ?_
   have hl68 : ((p.getD k []) ++ (climb i.toNat x p k)).length = 64 := hl50
   have hl67 : ((((p.getD k []) ++ (climb i.toNat x p k)).drop 32).take 32).length = 32 := by simp only [List.length_take, List.length_drop]; omega
   refine T_loadAS (((((p.getD k []) ++ (climb i.toNat x p k)).drop 32).take 32).map bV).toArray 1 S63 rfl rfl rfl rfl rfl rfl rfl rfl rfl (hVs hl67) (hV_cut (l := ((p.getD k []) ++ (climb i.toNat x p k))) (q := 32) (m := 32) (by omega)) ?_
   refine Cs g_aumbry_tree_Node ((node_ok S63.le (hT.mono hl24) hl65 hl67).mono ?_)
   rintro e w70 ⟨rfl, hB69⟩
   have S71 := S63.call hB69
   refine ⟨_, rfl, trivial, ?_⟩
   refine T_re (v' := hV (climb i.toNat x p (k + 1))) (congrArg (fun q => hV q) (wnode (onW_odd (by omega)) hl50)) ?_
   refine Ak (hl := by exact hVs (climb_len _ hx _ _)) (hl2 := by exact (hVs (climb_len _ hx _ _)).trans (hVs (climb_len _ hx _ _)).symm) (h1 := by exact one_hA _) 5 S71 fun w72 S73 => (T_nil (W_region ?_))
   refine Pv ?_
   refine T_quo rfl rfl rfl rfl rfl rfl (by omega) ?_
   refine T_re (v' := .int .i64 ((i.toNat / 2 ^ (k + 1) : Nat) : Int)) (congrArg (Value.int .i64) (half_int _ _)) (Pv (T_nil (W_region ?_)))
   refine Ar ?_
   refine Pv (T_nil ?_)
   have S74 := S73.drop 2
   have S75 := S74.drop 1
   have S76 := S75.drop 0
   exact ⟨p.length - (k + 1), [(1, .int .i64 ((i.toNat / 2 ^ (k + 1) : Nat) : Int)), (6, .pointer (some ⟨b1, 0, none⟩)), (9, .pointer (some ⟨b4, 0, none⟩)), (11, .slice a59 (k + 1) c60), (34, .slice aa3 p.length cc3), (35, .int .i64 ((p.length : Nat) : Int)), (36, .int .i64 ((k + 1 : Nat) : Int))], by omega, ⟨ciI, rfl, rfl, rfl, rfl, ciI, ciI, trivial⟩, k + 1, a59, c60, G23, rfl, (by omega), rfl, hl24, S76, hh64, hc62⟩
  refine W_skip (Wr (Pv ?_))
  refine An (hl := by exact hVs hl43) 0 S48 ?_
  refine T_re (v' := hV (onW (i.toNat / 2 ^ k) (climb i.toNat x p k) (p.getD k []))) (congrArg (fun q => hV q) (onW_even (by omega)).symm) ?_
  refine T_litS (hcells [(onW (i.toNat / 2 ^ k) (climb i.toNat x p k) (p.getD k []))]) rfl rfl rfl rfl rfl rfl rfl rfl rfl rfl rfl rfl rfl (one_h (onW_len (climb_len _ hx _ _) (len_h hp.1 k (by omega)))) (by simp [hcells, hV, Value.cells]) fun a77 w78 hB79 ho80 => ?_
  have S81 := S48.own hB79 ho80
  refine ⟨trivial, ?_⟩
  have hD82 : (Go.Au.ways i.toNat x p k ++ [(onW (i.toNat / 2 ^ k) (climb i.toNat x p k) (p.getD k []))]) = Go.Au.ways i.toNat x p (k + 1) := (ways_snoc _ _ _ _)
  refine Ai (h1 := by exact one_hcells _) (hn' := by first | rfl | (simp; done) | (simp; omega) | omega) (hx' := by rw [← hD82]; simp [hcells_append, hcells]) (hbytes := by show _ * 64 ≤ _; omega) 3 (k + 1) (hcells (Go.Au.ways i.toNat x p (k + 1))) S81 (S81.rd 0 rfl) fun a83 c84 w85 hc86 S87 => ?_
  have hh88 : ∀ y ∈ Go.Au.ways i.toNat x p (k + 1), y.length = 64 := by rw [← hD82]; exact (all_app hh28 (all_h1 (onW_len (climb_len _ hx _ _) (len_h hp.1 k (by omega)))))
  refine Pv (Nr ?_)
  refine T_idxAm 0 rfl rfl rfl rfl rfl rfl rfl rfl (by decide) rfl ?_
  have hl90 : ((climb i.toNat x p k) ++ (p.getD k [])).length = 64 := hl43
  have hl89 : (((climb i.toNat x p k) ++ (p.getD k [])).take 32).length = 32 := by simp only [List.length_take, List.length_drop]; omega
  refine T_loadAS ((((climb i.toNat x p k) ++ (p.getD k [])).take 32).map bV).toArray 1 S87 rfl rfl rfl rfl rfl rfl rfl rfl rfl (hVs hl89) (hV_cut (l := ((climb i.toNat x p k) ++ (p.getD k []))) (q := 0) (m := 32) (by omega)) ?_
  refine T_idxAm 32 rfl rfl rfl rfl rfl rfl rfl rfl (by decide) rfl ?_
  have hl92 : ((climb i.toNat x p k) ++ (p.getD k [])).length = 64 := hl43
  have hl91 : ((((climb i.toNat x p k) ++ (p.getD k [])).drop 32).take 32).length = 32 := by simp only [List.length_take, List.length_drop]; omega
  refine T_loadAS (((((climb i.toNat x p k) ++ (p.getD k [])).drop 32).take 32).map bV).toArray 1 S87 rfl rfl rfl rfl rfl rfl rfl rfl rfl (hVs hl91) (hV_cut (l := ((climb i.toNat x p k) ++ (p.getD k []))) (q := 32) (m := 32) (by omega)) ?_
  refine Cs g_aumbry_tree_Node ((node_ok S87.le (hT.mono hl24) hl89 hl91).mono ?_)
  rintro e w94 ⟨rfl, hB93⟩
  have S95 := S87.call hB93
  refine ⟨_, rfl, trivial, ?_⟩
  refine T_re (v' := hV (climb i.toNat x p (k + 1))) (congrArg (fun q => hV q) (wnode (onW_even (by omega)) hl43)) ?_
  refine Ak (hl := by exact hVs (climb_len _ hx _ _)) (hl2 := by exact (hVs (climb_len _ hx _ _)).trans (hVs (climb_len _ hx _ _)).symm) (h1 := by exact one_hA _) 5 S95 fun w96 S97 => (T_nil (W_region ?_))
  refine Pv ?_
  refine T_quo rfl rfl rfl rfl rfl rfl (by omega) ?_
  refine T_re (v' := .int .i64 ((i.toNat / 2 ^ (k + 1) : Nat) : Int)) (congrArg (Value.int .i64) (half_int _ _)) (Pv (T_nil (W_region ?_)))
  refine Ar ?_
  refine Pv (T_nil ?_)
  have S98 := S97.drop 2
  have S99 := S98.drop 1
  have S100 := S99.drop 0
  exact ⟨p.length - (k + 1), [(1, .int .i64 ((i.toNat / 2 ^ (k + 1) : Nat) : Int)), (6, .pointer (some ⟨b1, 0, none⟩)), (9, .pointer (some ⟨b4, 0, none⟩)), (11, .slice a83 (k + 1) c84), (34, .slice aa3 p.length cc3), (35, .int .i64 ((p.length : Nat) : Int)), (36, .int .i64 ((k + 1 : Nat) : Int))], by omega, ⟨ciI, rfl, rfl, rfl, rfl, ciI, ciI, trivial⟩, k + 1, a83, c84, G23, rfl, (by omega), rfl, hl24, S100, hh88, hc86⟩
 refine W_exit (W_seq (W_draw rfl (by kernel_rfl) ?_))
 have S101 := S30.drew
 refine Pv ?_
 refine An (hl := by exact hVs (climb_len _ hx _ _)) 2 S101 ?_
 refine Pv ?_
 refine Ak (hl := by exact hVs (climb_len _ hx _ _)) (hl2 := by exact hVs (climb_len _ hx _ _)) (h1 := by exact one_hA _) 1 S101 fun w102 S103 => ?_
 refine Pv (T_nil (W_ret ?_))
 refine ⟨_, ⟨_, _, rfl, rfl, ⟨_, _, _, rfl, rfl, run_loadVarA rfl rfl (hVs (climb_len _ hx _ _)) (S103.cells 1 rfl), ⟨_, _, rfl, rfl, rfl⟩⟩⟩, ?_⟩
 have hok : okW n i p.length = true := okW_mk (by omega)
 obtain rfl : k = p.length := by omega
 rw [waysH_ok hok, climbH_ok hok, hok]
 exact way_end (ways_len _ _ _ _) hc27 (S103.row 0 rfl) hh28 S103.below


theorem climb_ok {H : Hp} {w : World} (hH : H.le (hw w)) (hT : Tabs H) (n i : Int) {x : List UInt8} (hx : x.length = 32) {p : List (List UInt8)} {aa3 : Option Addr} {nn3 cc3 : Nat} (hp : RdH H (.slice aa3 nn3 cc3) 32 p) :
  Calls Tryz.prog 70 #[.int .i64 n, .int .i64 i, hV x, .slice aa3 nn3 cc3] w fun e w' => e = .returned (.tuple #[hV (climbH n i x p), .bool (okW n i p.length)]) ∧ Below w.heap.size w w' := by
 obtain rfl : nn3 = p.length := hp.len
 have hpcap : p.length ≤ cc3 := hp.2.capOf
 refine enter4 _ Tryz.func70 rfl Tryz.ntmps70 Tryz.results70 rfl ?_
 have S0 := St.start w hH
 refine Wr (Ao S0 fun b1 w2 S3 => ?_)
 refine Af S3 fun b4 w5 S6 => ?_
 refine Pv (Nr ?_)
 refine P2 ?_
 refine An (hl := by exact hVs hx) 1 S6 ?_
 refine Pv ?_
 refine Cs g_aumbry_tree_way ((way_ok S6.le hT n i hx hp).mono ?_)
 rintro e w12 ⟨a7, c8, hc9, rfl, hr10, hB11⟩
 obtain ⟨G14, eG16⟩ : ∃ G, G = F.ext H w5.heap.size w12 := ⟨_, rfl⟩
 obtain ⟨hl15, S13⟩ := S6.ext hB11
 rw [← eG16] at hl15 S13 hr10
 refine ⟨_, rfl, trivial, ?_⟩
 iterate 4 refine Pv ?_
 refine Af S13 fun b17 w18 S19 => ?_
 refine Pv ?_
 refine Ak (hl := by exact hVs (climbH_len _ _ hx _)) (hl2 := by exact hVs (climbH_len _ _ hx _)) (h1 := by exact one_hA _) 0 S19 fun w20 S21 => ?_
 refine Pv (Nr ?_)
 refine An (hl := by exact hVs (climbH_len _ _ hx _)) 0 S21 ?_
 refine Pv ?_
 refine Ak (hl := by exact hVs (climbH_len _ _ hx _)) (hl2 := by exact hVs (climbH_len _ _ hx _)) (h1 := by exact one_hA _) 1 S21 fun w22 S23 => ?_
 refine Pv (T_nil (W_ret ?_))
 refine ⟨_, ⟨_, _, _, rfl, rfl, run_loadVarA rfl rfl (hVs (climbH_len _ _ hx _)) (S23.cells 1 rfl), ⟨_, _, rfl, rfl, rfl⟩⟩, ?_⟩
 exact ⟨rfl, S23.below⟩


theorem climbR_ok {H : Hp} {w : World} (hH : H.le (hw w)) (n i : Int) {x : List UInt8} (hx : x.length = 32) {p : List (List UInt8)} {aa3 : Option Addr} {nn3 cc3 : Nat} (hp : RdH H (.slice aa3 nn3 cc3) 32 p) :
  Calls Tryz.prog 77 #[.int .i64 n, .int .i64 i, hV x, .slice aa3 nn3 cc3] w fun e w' => e = .returned (.tuple #[hV (climbH n i x p), .bool (okW n i p.length)]) ∧ Below w.heap.size w w' := by
 obtain rfl : nn3 = p.length := hp.len
 have hpcap : p.length ≤ cc3 := hp.2.capOf
 refine enter4 _ Tryz.func77 rfl Tryz.ntmps77 Tryz.results77 rfl ?_
 have S0 := St.start w hH
 refine Wr (Ao S0 fun b1 w2 S3 => ?_)
 refine Af S3 fun b4 w5 S6 => ?_
 refine Pv (T_nil (W_seq (Wr ?_)))
 refine P3 ?_
 refine Td 14 (fun h7 => ?_) (fun h7 => ?_)
 ·iterate 3 refine No ?_
  refine P2 ?_
  iterate 2 refine No ?_
  refine Pv (T_nil ?_)
  refine W_cond_true rfl (Wr (T_buildA (cells := (hV (List.replicate 32 0)).cells) rfl rfl rfl rfl rfl rfl rfl rfl rfl rfl (Ak (hl := by exact hVs List.length_replicate) (hl2 := by exact hVs List.length_replicate) (h1 := by exact one_hA _) 0 S6 fun w8 S9 => ?_)))
  refine Pv (T_nil (W_ret ?_))
  refine ⟨_, ⟨_, _, _, rfl, rfl, run_loadVarA rfl rfl (hVs List.length_replicate) (S9.cells 0 rfl), ⟨_, _, rfl, rfl, rfl⟩⟩, ?_⟩
  have hno : okW n i p.length = false := okW_no (by omega)
  rw [climbH_no hno, hno]
  exact ⟨rfl, S9.below⟩
 iterate 3 (refine Ys ?_; refine Pv ?_)
 refine P2 ?_
 refine Td 19 (fun h10 => ?_) (fun h10 => ?_)
 ·iterate 2 refine No ?_
  refine Pv (T_nil ?_)
  refine W_cond_true rfl (Wr (T_buildA (cells := (hV (List.replicate 32 0)).cells) rfl rfl rfl rfl rfl rfl rfl rfl rfl rfl (Ak (hl := by exact hVs List.length_replicate) (hl2 := by exact hVs List.length_replicate) (h1 := by exact one_hA _) 0 S6 fun w11 S12 => ?_)))
  refine Pv (T_nil (W_ret ?_))
  refine ⟨_, ⟨_, _, _, rfl, rfl, run_loadVarA rfl rfl (hVs List.length_replicate) (S12.cells 0 rfl), ⟨_, _, rfl, rfl, rfl⟩⟩, ?_⟩
  have hno : okW n i p.length = false := okW_no (by omega)
  rw [climbH_no hno, hno]
  exact ⟨rfl, S12.below⟩
 iterate 2 (refine Ys ?_; refine Pv ?_)
 refine Pv (T_nil ?_)
 refine Ab (fun h13 => ?_) (fun h13 => ?_)
 ·refine Wr (T_buildA (cells := (hV (List.replicate 32 0)).cells) rfl rfl rfl rfl rfl rfl rfl rfl rfl rfl (Ak (hl := by exact hVs List.length_replicate) (hl2 := by exact hVs List.length_replicate) (h1 := by exact one_hA _) 0 S6 fun w14 S15 => ?_))
  refine Pv (T_nil (W_ret ?_))
  refine ⟨_, ⟨_, _, _, rfl, rfl, run_loadVarA rfl rfl (hVs List.length_replicate) (S15.cells 0 rfl), ⟨_, _, rfl, rfl, rfl⟩⟩, ?_⟩
  have hno : okW n i p.length = false := okW_no (by omega)
  rw [climbH_no hno, hno]
  exact ⟨rfl, S15.below⟩
 refine W_skip (Wr (Pv (T_nil (W_seq (W_block ?_)))))
 have hlg := lg_le (n := n.toNat) (m := 8) (by omega)
 refine W_loop (fun M ρ w' => ∃ (q : Nat) (G16 : Hp), M = (lg n.toNat) - q ∧ q ≤ (lg n.toNat) ∧ ρ = [(0, .int .i64 n), (1, .int .i64 i), (3, .slice aa3 p.length cc3), (6, .pointer (some ⟨b1, 0, none⟩)), (8, .pointer (some ⟨b4, 0, none⟩)), (10, .int .i64 (q : Int))] ∧ H.le G16 ∧ St w H G16 [.blk b4 (hV (List.replicate 32 0) : Value).cells 27, .blk b1 (hV x : Value).cells 27] w')
  ((lg n.toNat) - 0) [(0, .int .i64 n), (1, .int .i64 i), (3, .slice aa3 p.length cc3), (6, .pointer (some ⟨b1, 0, none⟩)), (8, .pointer (some ⟨b4, 0, none⟩)), (10, .int .i64 ((0 : Nat) : Int))] ⟨ciI, ciI, rfl, rfl, rfl, ciI, trivial⟩ ⟨0, H, rfl, (by exact Nat.zero_le _), rfl, Hp.le.refl _, S6⟩ ?_
 rintro M ρ w18 ⟨q, G16, rfl, hp20, rfl, hl17, S19⟩
 refine W_seq (Wr (P2 ?_))
 refine T_re (v' := .int .u64 ((q : Nat) : Int)) (congrArg (Value.int .u64) (by rw [IntKind.wrap_u64]; omega)) ?_
 refine T_shl rfl rfl rfl rfl rfl rfl (by omega) ?_
 refine T_re (v' := .int .i64 ((2 ^ q : Nat) : Int)) (congrArg (Value.int .i64) (shl1 (by omega))) ?_
 refine Pv ?_
 refine Cs g_aumbry_aumbryref07_Pad ((padR_ok S19.le n (by omega)).mono ?_)
 rintro e w22 ⟨rfl, hB21⟩
 have S23 := S19.call hB21
 refine ⟨_, rfl, trivial, ?_⟩
 refine Pv (T_nil ?_)
 refine Ab (fun h24 => ?_) (fun h24 => ?_)
 ·refine W_skip (W_block (W_region ?_))
  have hq := pow_lt_pad (n := n.toNat) (q := q) (by omega)
  refine Pv ?_
  refine Ar ?_
  refine Pv (T_nil ?_)
  exact ⟨(lg n.toNat) - (q + 1), [(0, .int .i64 n), (1, .int .i64 i), (3, .slice aa3 p.length cc3), (6, .pointer (some ⟨b1, 0, none⟩)), (8, .pointer (some ⟨b4, 0, none⟩)), (10, .int .i64 ((q + 1 : Nat) : Int))], by omega, ⟨ciI, ciI, rfl, rfl, rfl, ciI, trivial⟩, q + 1, G16, rfl, (by omega), rfl, hl17, S23⟩
 refine W_exit (W_seq (Wr ?_))
 obtain rfl : q = lg n.toNat := pow_lg (by assumption) (by omega)
 iterate 4 refine Pv ?_
 refine T_nil (W_cond_not rfl (fun h25 => ?_) (fun h25 => ?_))
 ·refine Wr (T_buildA (cells := (hV (List.replicate 32 0)).cells) rfl rfl rfl rfl rfl rfl rfl rfl rfl rfl (Ak (hl := by exact hVs List.length_replicate) (hl2 := by exact hVs List.length_replicate) (h1 := by exact one_hA _) 0 S23 fun w26 S27 => ?_))
  refine Pv (T_nil (W_ret ?_))
  refine ⟨_, ⟨_, _, _, rfl, rfl, run_loadVarA rfl rfl (hVs List.length_replicate) (S27.cells 0 rfl), ⟨_, _, rfl, rfl, rfl⟩⟩, ?_⟩
  have hno : okW n i p.length = false := okW_no (by omega)
  rw [climbH_no hno, hno]
  exact ⟨rfl, S27.below⟩
 refine W_skip (W_seq (Wr (P3 (T_nil (W_block ?_)))))
 refine W_loop (fun M ρ w' => ∃ (k : Nat) (G28 : Hp), M = p.length - k ∧ k ≤ p.length ∧ ρ = [(1, .int .i64 ((i.toNat / 2 ^ k : Nat) : Int)), (3, .slice aa3 p.length cc3), (6, .pointer (some ⟨b1, 0, none⟩)), (8, .pointer (some ⟨b4, 0, none⟩)), (38, .int .i64 ((p.length : Nat) : Int)), (39, .int .i64 (k : Int))] ∧ G16.le G28 ∧ St w H G28 [.blk b4 (hV (List.replicate 32 0) : Value).cells 27, .blk b1 (hV (climb i.toNat x p k) : Value).cells 27] w')
  (p.length - 0) [(1, .int .i64 ((i.toNat / 2 ^ 0 : Nat) : Int)), (3, .slice aa3 p.length cc3), (6, .pointer (some ⟨b1, 0, none⟩)), (8, .pointer (some ⟨b4, 0, none⟩)), (38, .int .i64 ((p.length : Nat) : Int)), (39, .int .i64 ((0 : Nat) : Int))] ⟨ciI, rfl, rfl, rfl, ciI, ciI, trivial⟩ ⟨0, G16, rfl, (by omega), rfl, Hp.le.refl _, S23⟩ ?_
 rintro M ρ w30 ⟨k, G28, rfl, hp32, rfl, hl29, S31⟩
 refine Wr (Pv (T_nil (W_seq ?_)))
 refine Ab (fun h33 => ?_) (fun h33 => ?_)
 ·refine W_skip (W_seq (W_block (Wr ?_)))
  have hnn := Int.natCast_nonneg (i.toNat / 2 ^ k)
  have hdl := Nat.div_le_self i.toNat (2 ^ k)
  refine P2 (T_nil (W_seq (Wr ?_)))
  refine Pv ?_
  refine T_rem rfl rfl rfl rfl rfl rfl (by omega) ?_
  refine Pv (T_nil ?_)
  refine Ab (fun h34 => ?_) (fun h34 => ?_)
  ·refine W_draw rfl (by kernel_rfl) ?_
   have S35 := S31.drew
   refine An (hl := by exact hVs (climb_len _ hx _ _)) 1 S35 ?_
   refine P2 ?_
   refine Aj k (hp.mono (hl17.trans hl29)).2 fun b36 o37 hc38 => ?_
   have hc39 := cells_h (hp.mono (hl17.trans hl29)).1 k (by omega) hc38
   have hl40 := len_h (hp.mono (hl17.trans hl29)).1 k (by omega)
   refine T_loadGA _ S35 hc39 rfl rfl rfl rfl rfl rfl rfl rfl (hVs hl40) (Cs g_aumbry_aumbryref07_Node ((nodeR_ok S35.le (climb_len _ hx _ _) hl40).mono ?_))
   rintro e w42 ⟨rfl, hB41⟩
   have S43 := S35.call hB41
   refine ⟨_, rfl, trivial, ?_⟩
   refine T_re (v' := hV (climb i.toNat x p (k + 1))) (congrArg (fun q => hV q) (climb_even (by omega) (climb_len _ hx _ _))) ?_
   refine Ak (hl := by exact hVs (climb_len _ hx _ _)) (hl2 := by exact (hVs (climb_len _ hx _ _)).trans (hVs (climb_len _ hx _ _)).symm) (h1 := by exact one_hA _) 1 S43 fun w44 S45 => (T_nil (W_region ?_))
   refine Pv ?_
   refine T_quo rfl rfl rfl rfl rfl rfl (by omega) ?_
   refine T_re (v' := .int .i64 ((i.toNat / 2 ^ (k + 1) : Nat) : Int)) (congrArg (Value.int .i64) (half_int _ _)) (Pv (T_nil (W_region ?_)))
   refine Ar ?_
   refine Pv (T_nil ?_)
   exact ⟨p.length - (k + 1), [(1, .int .i64 ((i.toNat / 2 ^ (k + 1) : Nat) : Int)), (3, .slice aa3 p.length cc3), (6, .pointer (some ⟨b1, 0, none⟩)), (8, .pointer (some ⟨b4, 0, none⟩)), (38, .int .i64 ((p.length : Nat) : Int)), (39, .int .i64 ((k + 1 : Nat) : Int))], by omega, ⟨ciI, rfl, rfl, rfl, ciI, ciI, trivial⟩, k + 1, G28, rfl, (by omega), rfl, hl29, S45⟩
  refine W_draw rfl (by kernel_rfl) ?_
  have S46 := S31.drew
  refine P2 ?_
  refine Aj k (hp.mono (hl17.trans hl29)).2 fun b47 o48 hc49 => ?_
  have hc50 := cells_h (hp.mono (hl17.trans hl29)).1 k (by omega) hc49
  have hl51 := len_h (hp.mono (hl17.trans hl29)).1 k (by omega)
  refine T_loadGA _ S46 hc50 rfl rfl rfl rfl rfl rfl rfl rfl (hVs hl51) (An (hl := by exact hVs (climb_len _ hx _ _)) 1 S46 ?_)
  refine Cs g_aumbry_aumbryref07_Node ((nodeR_ok S46.le hl51 (climb_len _ hx _ _)).mono ?_)
  rintro e w53 ⟨rfl, hB52⟩
  have S54 := S46.call hB52
  refine ⟨_, rfl, trivial, ?_⟩
  refine T_re (v' := hV (climb i.toNat x p (k + 1))) (congrArg (fun q => hV q) (climb_odd (by omega) (len_h hp.1 k (by omega)))) ?_
  refine Ak (hl := by exact hVs (climb_len _ hx _ _)) (hl2 := by exact (hVs (climb_len _ hx _ _)).trans (hVs (climb_len _ hx _ _)).symm) (h1 := by exact one_hA _) 1 S54 fun w55 S56 => (T_nil (W_region ?_))
  refine Pv ?_
  refine T_quo rfl rfl rfl rfl rfl rfl (by omega) ?_
  refine T_re (v' := .int .i64 ((i.toNat / 2 ^ (k + 1) : Nat) : Int)) (congrArg (Value.int .i64) (half_int _ _)) (Pv (T_nil (W_region ?_)))
  refine Ar ?_
  refine Pv (T_nil ?_)
  exact ⟨p.length - (k + 1), [(1, .int .i64 ((i.toNat / 2 ^ (k + 1) : Nat) : Int)), (3, .slice aa3 p.length cc3), (6, .pointer (some ⟨b1, 0, none⟩)), (8, .pointer (some ⟨b4, 0, none⟩)), (38, .int .i64 ((p.length : Nat) : Int)), (39, .int .i64 ((k + 1 : Nat) : Int))], by omega, ⟨ciI, rfl, rfl, rfl, ciI, ciI, trivial⟩, k + 1, G28, rfl, (by omega), rfl, hl29, S56⟩
 refine W_exit (Wr (An (hl := by exact hVs (climb_len _ hx _ _)) 1 S31 ?_))
 refine Ak (hl := by exact hVs (climb_len _ hx _ _)) (hl2 := by exact hVs (climb_len _ hx _ _)) (h1 := by exact one_hA _) 0 S31 fun w57 S58 => ?_
 refine Pv (T_nil (W_ret ?_))
 refine ⟨_, ⟨_, _, _, rfl, rfl, run_loadVarA rfl rfl (hVs (climb_len _ hx _ _)) (S58.cells 0 rfl), ⟨_, _, rfl, rfl, rfl⟩⟩, ?_⟩
 have hok : okW n i p.length = true := okW_mk (by omega)
 obtain rfl : k = p.length := by omega
 rw [climbH_ok hok, hok]
 exact ⟨rfl, S58.below⟩


theorem check_ok {H : Hp} {w : World} (hH : H.le (hw w)) (hT : Tabs H) {r : List UInt8} (hr : r.length = 32) (n i : Int) {x : List UInt8} (hx : x.length = 32) {p : List (List UInt8)} {aa4 : Option Addr} {nn4 cc4 : Nat} (hp : RdH H (.slice aa4 nn4 cc4) 32 p) :
  Calls Tryz.prog 28 #[hV r, .int .i64 n, .int .i64 i, hV x, .slice aa4 nn4 cc4] w fun e w' => e = .returned (.bool (okW n i p.length && decide (climbH n i x p = r))) ∧ Below w.heap.size w w' := by
 obtain rfl : nn4 = p.length := hp.len
 have hpcap : p.length ≤ cc4 := hp.2.capOf
 refine enter5 _ Tryz.func28 rfl Tryz.ntmps28 Tryz.results28 rfl ?_
 have S0 := St.start w hH
 refine Wr (Ao S0 fun b1 w2 S3 => ?_)
 refine Ao S3 fun b4 w5 S6 => ?_
 refine Pv (Nr ?_)
 refine P2 ?_
 refine An (hl := by exact hVs hx) 0 S6 ?_
 refine Pv ?_
 refine Cs g_aumbry_tree_Climb ((climb_ok S6.le hT n i hx hp).mono ?_)
 rintro e w8 ⟨rfl, hB7⟩
 have S9 := S6.call hB7
 refine ⟨_, rfl, trivial, ?_⟩
 refine P3 ?_
 refine Af S9 fun b10 w11 S12 => ?_
 refine Ak (hl := by exact hVs (climbH_len _ _ hx _)) (hl2 := by exact hVs (climbH_len _ _ hx _)) (h1 := by exact one_hA _) 0 S12 fun w13 S14 => ?_
 refine Pv (Nr ?_)
 refine P2 ?_
 refine Tp 22 (fun h15' => ?_) (fun h15' => ?_)
 ·have h15 := h15'
  refine Ys ?_
  refine An (hl := by exact hVs (climbH_len _ _ hx _)) 0 S14 ?_
  refine Ys ?_
  refine An (hl := by exact hVs hr) 2 S14 ?_
  refine Ys ?_
  refine T_eqB (xs := climbH n i x p) (ys := r) rfl rfl rfl rfl rfl rfl rfl rfl rfl rfl rfl (climbH_len _ _ hx _) hr (P2 (T_nil (W_ret ?_)))
  refine ⟨_, ⟨_, _, rfl, rfl, rfl⟩, ?_⟩
  exact ⟨by rw [h15, Bool.true_and]; rfl, S14.below⟩
 have h15 := h15'
 iterate 3 refine No ?_
 refine P2 (T_nil (W_ret ?_))
 refine ⟨_, ⟨_, _, rfl, rfl, rfl⟩, ?_⟩
 exact ⟨by rw [h15]; rfl, S14.below⟩

end Go.Proofs.YtmjmjjkigblbgaaGreatDoor
