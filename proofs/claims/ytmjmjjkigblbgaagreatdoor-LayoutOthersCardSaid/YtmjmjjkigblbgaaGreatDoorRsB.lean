/- Inverses in the program: safe, and of what shape. -/
import Derived.Test.YtmjmjjkigblbgaaGreatDoorRsA
set_option linter.unusedVariables false
set_option linter.unusedSimpArgs false
set_option maxRecDepth 8192
namespace Go.Proofs.YtmjmjjkigblbgaaGreatDoor
open Go Go.F Go.RowKit

theorem inv1_w {W : World} {H : Hp} {B : Bp} {w : World} (C0 : Wk W H B w) (i j : Nat) {pb n m : Nat} {a1 : Option Addr} {c1 : Nat} (hp : VaB B pb (.slice a1 n c1)) (h1 : RoB B (.slice a1 n c1) n m) (hi : i < n) (hj : j < m) :
  Calls Tryz.prog 139 #[.int .i64 ((i : Nat) : Int), .int .i64 ((j : Nat) : Int), .pointer (some ⟨pb, 0, none⟩)] w fun e w' => ∃ B', B.le B' ∧ Wk W H B' w' ∧ ∃ x : UInt8, e = .returned (bV x) := by
 refine enter3 _ Tryz.func139 rfl Tryz.ntmps139 Tryz.results139 rfl (Wr (Pv (Nr ?_)))
 refine T_loadVK C0 hp rfl rfl rfl rfl rfl rfl rfl (Pv ?_)
 refine Aq h1 fun b21 o22 t23 q24 f25 hb26 hq27 hf28 => ?_
 have hr29 : RwB B b21 o22 m := ⟨_, _, _, hb26, hq27, hf28⟩
 refine Ap C0 hr29 fun a30 c31 r32 => ?_
 refine Pv ?_
 refine Ao r32 fun b33 o34 q35 hb36 hq37 => ?_
 refine An C0 hb36 fun x38 => ?_
 refine Pv (T_nil (W_ret ?_))
 refine ⟨_, ⟨_, _, rfl, rfl, rfl⟩, B, (Bp.le.refl _), C0, ?_⟩
 exact ⟨(x38 : UInt8), rfl⟩


set_option maxHeartbeats 8000000 in
theorem inv_w {W : World} {H : Hp} {B : Bp} {w : World} (C0 : Wk W H B w) {a1 : Option Addr} {n c1 : Nat} (h1 : RoB B (.slice a1 n c1) n n) (hn : 1 ≤ n ∧ n ≤ 16) :
  Calls Tryz.prog 108 #[.slice a1 n c1] w fun e w' => ∃ B', B.le B' ∧ Wk W H B' w' ∧ ∃ a n' c z, e = .returned (.tuple #[.slice a n' c, .int .i64 z]) ∧ n' ≤ 16 ∧ RoB B' (.slice a n' c) n' n := by
 refine enter1 _ Tryz.func108 rfl Tryz.ntmps108 Tryz.results108 rfl (Wr (T_boxK C0 (.va 35 (.slice a1 n c1)) (fun _ => trivial) rfl rfl rfl rfl rfl rfl rfl rfl fun b21 w26 B23 hl24 hb22 C25 => ?_))
 have hb22' : VaB B23 b21 (.slice a1 n c1) := ⟨_, hb22⟩
 iterate 2 refine Pv ?_
 refine T_nil ?_
 iterate 2 refine W_seq ?_
 refine W_plan (planW Tryz.prog) rfl (by kernel_rfl) trivial ?_
 have C27 := C25.drew
 refine T_loadVK C27 hb22' rfl rfl rfl rfl rfl rfl rfl (Cw g_aumbry_matrix_may ((may_w C27 (h1.mono hl24) (by omega) (by omega)).mono ?_))
 rintro e w31 ⟨B28, hl29, C30, q32, rfl, hq33⟩
 refine ⟨_, rfl, ?_⟩
 iterate 2 refine Pv ?_
 refine Tp 14 (fun h34' => ?_) (fun h34' => ?_)
 ·have h34 := h34'
  iterate 7 refine No ?_
  refine Pv (T_nil ?_)
  refine W_cond_true rfl (Wr ?_)
  iterate 2 refine Pv ?_
  refine T_nil (W_ret ?_)
  refine ⟨_, ⟨_, _, rfl, rfl, ⟨_, _, rfl, rfl, rfl⟩⟩, B28, (hl24.trans hl29), C30, ?_⟩
  exact ⟨_, _, _, _, rfl, by omega, .inl ⟨rfl, rfl⟩⟩
 have h34 := h34'
 refine Ys ?_
 refine T_loadVK C30 (hb22'.mono hl29) rfl rfl rfl rfl rfl rfl rfl (Ys ?_)
 refine Pv ?_
 refine Ys ?_
 refine T_loadVK C30 (hb22'.mono hl29) rfl rfl rfl rfl rfl rfl rfl (Ys ?_)
 refine Aq (h1.mono (hl24.trans hl29)) fun b35 o36 t37 q38 f39 hb40 hq41 hf42 => ?_
 have hr43 : RwB B28 b35 o36 n := ⟨_, _, _, hb40, hq41, hf42⟩
 refine Ys ?_
 refine Ap C30 hr43 fun a44 c45 r46 => ?_
 iterate 2 (refine Ys ?_; refine Pv ?_)
 refine Pv (T_nil ?_)
 refine W_cond_not rfl (fun h47 => ?_) (fun h47 => ?_)
 ·refine Wr ?_
  iterate 2 refine Pv ?_
  refine T_nil (W_ret ?_)
  refine ⟨_, ⟨_, _, rfl, rfl, ⟨_, _, rfl, rfl, rfl⟩⟩, B28, (hl24.trans hl29), C30, ?_⟩
  exact ⟨_, _, _, _, rfl, by omega, .inl ⟨rfl, rfl⟩⟩
 refine W_skip (Wr (Cw g_aumbry_gf_New ((gnew_w C30 ).mono ?_)))
 rintro e w51 ⟨B48, hl49, C50, b52, rfl, hg53⟩
 refine ⟨_, rfl, ?_⟩
 refine Pv (Nr ?_)
 refine T_loadVK C50 (hb22'.mono (hl29.trans hl49)) rfl rfl rfl rfl rfl rfl rfl ?_
 iterate 2 refine Pv ?_
 refine Nr ?_
 iterate 2 refine Pv ?_
 refine T_makeF rfl rfl rfl rfl rfl rfl ?_
 have hf54 : FnB Tryz.prog W H B48 (.func (.func 139) #[] #[.pointer (some ⟨b21, 0, none⟩)]) (AIJ n n) := ⟨_, [], [.pointer (some ⟨b21, 0, none⟩)], rfl, g_aumbry_matrix_Inverse_1, fun B1 w1 hl C1 args hA => by obtain ⟨i, j, hi, hj, rfl⟩ := hA; exact inv1_w C1 i j ((hb22'.mono (hl29.trans hl49)).mono hl) ((h1.mono (hl24.trans (hl29.trans hl49))).mono hl) hi hj⟩
 refine Cw g_aumbry_matrix_made ((made_w C50 n n hf54 (by omega) (by omega)).mono ?_)
 rintro e w58 ⟨B55, hl56, C57, a59, c60, rfl, r61⟩
 refine ⟨_, rfl, ?_⟩
 refine Pv (Nr ?_)
 refine Pv ?_
 refine Cw g_aumbry_matrix_Unit ((unit_w C57 n (by omega)).mono ?_)
 rintro e w65 ⟨B62, hl63, C64, a66, c67, rfl, r68⟩
 refine ⟨_, rfl, ?_⟩
 refine Pv (T_nil (W_seq (Wr ?_)))
 iterate 2 refine Pv ?_
 refine T_nil (W_block ?_)
 refine W_loop (fun M ρ w' => ∃ (k : Nat) (B69 : Bp), M = n - k ∧ k ≤ n ∧ ρ = [(4, .pointer (some ⟨b52, 0, none⟩)), (5, .int .i64 ((n : Nat) : Int)), (6, .slice a59 n c60), (7, .slice a66 n c67), (32, .int .i64 ((n : Nat) : Int)), (33, .int .i64 (k : Int))] ∧ B62.le B69 ∧ Wk W H B69 w')
  (n - 0) [(4, .pointer (some ⟨b52, 0, none⟩)), (5, .int .i64 ((n : Nat) : Int)), (6, .slice a59 n c60), (7, .slice a66 n c67), (32, .int .i64 ((n : Nat) : Int)), (33, .int .i64 ((0 : Nat) : Int))] ⟨rfl, ciI, rfl, rfl, ciI, ciI, trivial⟩ ⟨0, B62, rfl, (by exact Nat.zero_le _), rfl, Bp.le.refl _, C64⟩ ?_
 rintro M ρ w72 ⟨k, B69, rfl, hp73, rfl, hl70, C71⟩
 refine Wr (Pv (T_nil (W_seq ?_)))
 refine Aa (fun h74 => ?_) (fun h74 => ?_)
 ·refine W_skip (W_seq (W_block (Wr ?_)))
  iterate 2 refine Pv ?_
  refine Nr ?_
  iterate 2 refine Pv ?_
  refine T_nil (W_seq (W_block ?_))
  refine W_loop (fun M ρ w' => ∃ (p : Nat) (B75 : Bp), M = n - p ∧ k ≤ p ∧ p ≤ n ∧ ρ = [(4, .pointer (some ⟨b52, 0, none⟩)), (5, .int .i64 ((n : Nat) : Int)), (6, .slice a59 n c60), (7, .slice a66 n c67), (8, .int .i64 (k : Int)), (9, .int .i64 (p : Int)), (32, .int .i64 ((n : Nat) : Int)), (33, .int .i64 (k : Int))] ∧ B69.le B75 ∧ Wk W H B75 w')
   (n - k) [(4, .pointer (some ⟨b52, 0, none⟩)), (5, .int .i64 ((n : Nat) : Int)), (6, .slice a59 n c60), (7, .slice a66 n c67), (8, .int .i64 (k : Int)), (9, .int .i64 ((k : Nat) : Int)), (32, .int .i64 ((n : Nat) : Int)), (33, .int .i64 (k : Int))] ⟨rfl, ciI, rfl, rfl, ciI, ciI, ciI, ciI, trivial⟩ ⟨k, B69, rfl, (by omega), (by omega), rfl, Bp.le.refl _, C71⟩ ?_
  rintro M ρ w78 ⟨p, B75, rfl, hp79, hp80, rfl, hl76, C77⟩
  refine W_seq (Wr ?_)
  iterate 4 refine Pv ?_
  refine Tp 40 (fun h81' => ?_) (fun h81' => ?_)
  ·have h81 := of_decide_eq_true h81'
   iterate 2 (refine Ys ?_; refine Pv ?_)
   refine Ys ?_
   refine Aq (r61.mono (hl63.trans (hl70.trans hl76))) fun b82 o83 t84 q85 f86 hb87 hq88 hf89 => ?_
   have hr90 : RwB B75 b82 o83 n := ⟨_, _, _, hb87, hq88, hf89⟩
   refine Ys ?_
   refine Ap C77 hr90 fun a91 c92 r93 => ?_
   refine Ys ?_
   refine Pv ?_
   refine Ys ?_
   refine Ao r93 fun b94 o95 q96 hb97 hq98 => ?_
   refine Ys ?_
   refine An C77 hb97 fun x99 => ?_
   refine Ys ?_
   iterate 2 refine Pv ?_
   refine T_nil (Aa (fun h100 => ?_) (fun h100 => ?_))
   ·refine W_skip (W_block (W_region (Pv ?_)))
    refine Ar ?_
    refine Pv (T_nil ?_)
    exact ⟨n - (p + 1), [(4, .pointer (some ⟨b52, 0, none⟩)), (5, .int .i64 ((n : Nat) : Int)), (6, .slice a59 n c60), (7, .slice a66 n c67), (8, .int .i64 (k : Int)), (9, .int .i64 ((p + 1 : Nat) : Int)), (32, .int .i64 ((n : Nat) : Int)), (33, .int .i64 (k : Int))], by omega, ⟨rfl, ciI, rfl, rfl, ciI, ciI, ciI, ciI, trivial⟩, p + 1, B75, rfl, (by omega), (by omega), rfl, hl76, C77⟩
   refine W_exit (W_seq (Wr ?_))
   iterate 3 refine Pv ?_
   refine T_nil (Aa (fun h101 => ?_) (fun h101 => ?_))
   ·refine Wr ?_
    iterate 2 refine Pv ?_
    refine T_nil (W_ret ?_)
    refine ⟨_, ⟨_, _, rfl, rfl, ⟨_, _, rfl, rfl, rfl⟩⟩, B75, (hl24.trans (hl29.trans (hl49.trans (hl56.trans (hl63.trans (hl70.trans hl76)))))), C77, ?_⟩
    exact ⟨_, _, _, _, rfl, by omega, .inl ⟨rfl, rfl⟩⟩
   refine W_skip (W_seq (W_plan (planW Tryz.prog) rfl (by kernel_rfl) trivial ?_))
   have C102 := C77.drew
   iterate 6 refine Pv ?_
   refine Aq (r61.mono (hl63.trans (hl70.trans hl76))) fun b103 o104 t105 q106 f107 hb108 hq109 hf110 => ?_
   have hr111 : RwB B75 b103 o104 n := ⟨_, _, _, hb108, hq109, hf110⟩
   refine Ap C102 hr111 fun a112 c113 r114 => ?_
   iterate 2 refine Pv ?_
   refine Aq (r61.mono (hl63.trans (hl70.trans hl76))) fun b115 o116 t117 q118 f119 hb120 hq121 hf122 => ?_
   have hr123 : RwB B75 b115 o116 n := ⟨_, _, _, hb120, hq121, hf122⟩
   refine Ap C102 hr123 fun a124 c125 r126 => ?_
   refine Aq (r61.mono (hl63.trans (hl70.trans hl76))) fun b127 o128 t129 q130 f131 hb132 hq133 hf134 => ?_
   have hr135 : RwB B75 b127 o128 n := ⟨_, _, _, hb132, hq133, hf134⟩
   refine T_storeWK C102 hr135 r114 (fun _ => trivial) rfl rfl rfl rfl rfl rfl rfl rfl fun w139 B136 hl137 C138 => (Aq (r61.mono (hl63.trans (hl70.trans (hl76.trans hl137)))) fun b140 o141 t142 q143 f144 hb145 hq146 hf147 => ?_)
   have hr148 : RwB B136 b140 o141 n := ⟨_, _, _, hb145, hq146, hf147⟩
   refine T_storeWK C138 hr148 (r126.mono hl137) (fun _ => trivial) rfl rfl rfl rfl rfl rfl rfl rfl fun w152 B149 hl150 C151 => (T_nil (W_seq (W_plan (planW Tryz.prog) rfl (by kernel_rfl) trivial ?_)))
   have C153 := C151.drew
   iterate 6 refine Pv ?_
   refine Aq (r68.mono (hl70.trans (hl76.trans (hl137.trans hl150)))) fun b154 o155 t156 q157 f158 hb159 hq160 hf161 => ?_
   have hr162 : RwB B149 b154 o155 n := ⟨_, _, _, hb159, hq160, hf161⟩
   refine Ap C153 hr162 fun a163 c164 r165 => ?_
   iterate 2 refine Pv ?_
   refine Aq (r68.mono (hl70.trans (hl76.trans (hl137.trans hl150)))) fun b166 o167 t168 q169 f170 hb171 hq172 hf173 => ?_
   have hr174 : RwB B149 b166 o167 n := ⟨_, _, _, hb171, hq172, hf173⟩
   refine Ap C153 hr174 fun a175 c176 r177 => ?_
   refine Aq (r68.mono (hl70.trans (hl76.trans (hl137.trans hl150)))) fun b178 o179 t180 q181 f182 hb183 hq184 hf185 => ?_
   have hr186 : RwB B149 b178 o179 n := ⟨_, _, _, hb183, hq184, hf185⟩
   refine T_storeWK C153 hr186 r165 (fun _ => trivial) rfl rfl rfl rfl rfl rfl rfl rfl fun w190 B187 hl188 C189 => (Aq (r68.mono (hl70.trans (hl76.trans (hl137.trans (hl150.trans hl188))))) fun b191 o192 t193 q194 f195 hb196 hq197 hf198 => ?_)
   have hr199 : RwB B187 b191 o192 n := ⟨_, _, _, hb196, hq197, hf198⟩
   refine T_storeWK C189 hr199 (r177.mono hl188) (fun _ => trivial) rfl rfl rfl rfl rfl rfl rfl rfl fun w203 B200 hl201 C202 => (T_nil (W_seq (W_join (W := W) (H := H) (Bc := B200) [(4, .pointer (some ⟨b52, 0, none⟩)), (5, .int .i64 ((n : Nat) : Int)), (6, .slice a59 n c60), (7, .slice a66 n c67), (8, .int .i64 (k : Int)), (32, .int .i64 ((n : Nat) : Int)), (33, .int .i64 (k : Int))] (fun w207 B204 hl205 C206 => ?_) (fun J208 => ?_))))
   ·refine Wr ?_
    iterate 2 refine Pv ?_
    refine T_nil (W_block ?_)
    refine W_loop (fun M ρ w' => ∃ (r : Nat) (B209 : Bp), M = n - r ∧ r ≤ n ∧ ρ = [(4, .pointer (some ⟨b52, 0, none⟩)), (5, .int .i64 ((n : Nat) : Int)), (6, .slice a59 n c60), (7, .slice a66 n c67), (8, .int .i64 (k : Int)), (32, .int .i64 ((n : Nat) : Int)), (33, .int .i64 (k : Int)), (104, .int .i64 ((n : Nat) : Int)), (105, .int .i64 (r : Int))] ∧ B204.le B209 ∧ Wk W H B209 w')
     (n - 0) [(4, .pointer (some ⟨b52, 0, none⟩)), (5, .int .i64 ((n : Nat) : Int)), (6, .slice a59 n c60), (7, .slice a66 n c67), (8, .int .i64 (k : Int)), (32, .int .i64 ((n : Nat) : Int)), (33, .int .i64 (k : Int)), (104, .int .i64 ((n : Nat) : Int)), (105, .int .i64 ((0 : Nat) : Int))] ⟨rfl, ciI, rfl, rfl, ciI, ciI, ciI, ciI, ciI, trivial⟩ ⟨0, B204, rfl, (by exact Nat.zero_le _), rfl, Bp.le.refl _, C206⟩ ?_
    rintro M ρ w212 ⟨r, B209, rfl, hp213, rfl, hl210, C211⟩
    refine Wr (Pv (T_nil (W_seq ?_)))
    refine Aa (fun h214 => ?_) (fun h214 => ?_)
    ·refine W_skip (W_seq (W_block (Wr ?_)))
     iterate 2 refine Pv ?_
     refine Nr ?_
     iterate 3 refine Pv ?_
     refine T_nil (W_cond_not rfl (fun h215 => ?_) (fun h215 => ?_))
     ·refine W_plan (planW Tryz.prog) rfl (by kernel_rfl) trivial ?_
      have C216 := C211.drew
      refine Pv ?_
      refine T_makeF rfl rfl rfl rfl rfl rfl ?_
      have hf217 : FnB Tryz.prog W H B209 (.func (.func 142) #[.pointer (some ⟨b52, 0, none⟩)] #[]) ABB := ⟨_, [.pointer (some ⟨b52, 0, none⟩)], [], rfl, g_aumbry_gf_Field_Mul, fun B1 w1 hl C1 args hA => by obtain ⟨x, y, rfl⟩ := hA; exact gmul_w C1 ((hg53.mono (hl56.trans (hl63.trans (hl70.trans (hl76.trans (hl137.trans (hl150.trans (hl188.trans (hl201.trans (hl205.trans hl210)))))))))).mono hl) x y⟩
      iterate 2 refine Pv ?_
      refine Aq (r61.mono (hl63.trans (hl70.trans (hl76.trans (hl137.trans (hl150.trans (hl188.trans (hl201.trans (hl205.trans hl210))))))))) fun b218 o219 t220 q221 f222 hb223 hq224 hf225 => ?_
      have hr226 : RwB B209 b218 o219 n := ⟨_, _, _, hb223, hq224, hf225⟩
      refine Ap C216 hr226 fun a227 c228 r229 => ?_
      refine Pv ?_
      refine Ao r229 fun b230 o231 q232 hb233 hq234 => ?_
      refine An C216 hb233 fun x235 => ?_
      iterate 2 refine Pv ?_
      refine Aq (r61.mono (hl63.trans (hl70.trans (hl76.trans (hl137.trans (hl150.trans (hl188.trans (hl201.trans (hl205.trans hl210))))))))) fun b236 o237 t238 q239 f240 hb241 hq242 hf243 => ?_
      have hr244 : RwB B209 b236 o237 n := ⟨_, _, _, hb241, hq242, hf243⟩
      refine Ap C216 hr244 fun a245 c246 r247 => ?_
      iterate 2 refine Pv ?_
      refine Aq (r61.mono (hl63.trans (hl70.trans (hl76.trans (hl137.trans (hl150.trans (hl188.trans (hl201.trans (hl205.trans hl210))))))))) fun b248 o249 t250 q251 f252 hb253 hq254 hf255 => ?_
      have hr256 : RwB B209 b248 o249 n := ⟨_, _, _, hb253, hq254, hf255⟩
      refine Ap C216 hr256 fun a257 c258 r259 => ?_
      iterate 2 refine Pv ?_
      refine Aq (r68.mono (hl70.trans (hl76.trans (hl137.trans (hl150.trans (hl188.trans (hl201.trans (hl205.trans hl210)))))))) fun b260 o261 t262 q263 f264 hb265 hq266 hf267 => ?_
      have hr268 : RwB B209 b260 o261 n := ⟨_, _, _, hb265, hq266, hf267⟩
      refine Ap C216 hr268 fun a269 c270 r271 => ?_
      iterate 2 refine Pv ?_
      refine Aq (r68.mono (hl70.trans (hl76.trans (hl137.trans (hl150.trans (hl188.trans (hl201.trans (hl205.trans hl210)))))))) fun b272 o273 t274 q275 f276 hb277 hq278 hf279 => ?_
      have hr280 : RwB B209 b272 o273 n := ⟨_, _, _, hb277, hq278, hf279⟩
      refine Ap C216 hr280 fun a281 c282 r283 => ?_
      refine Cw g_aumbry_matrix_take ((take_w C216 hf217 x235 r247 r259 r271 r283 (by omega)).mono ?_)
      rintro e w287 ⟨B284, hl285, C286, rfl⟩
      refine ⟨_, rfl, ?_⟩
      refine T_nil (W_region (Ar ?_))
      refine Pv (T_nil ?_)
      exact ⟨n - (r + 1), [(4, .pointer (some ⟨b52, 0, none⟩)), (5, .int .i64 ((n : Nat) : Int)), (6, .slice a59 n c60), (7, .slice a66 n c67), (8, .int .i64 (k : Int)), (32, .int .i64 ((n : Nat) : Int)), (33, .int .i64 (k : Int)), (104, .int .i64 ((n : Nat) : Int)), (105, .int .i64 ((r + 1 : Nat) : Int))], by omega, ⟨rfl, ciI, rfl, rfl, ciI, ciI, ciI, ciI, ciI, trivial⟩, r + 1, B284, rfl, (by omega), rfl, (hl210.trans hl285), C286⟩
     refine W_skip (W_region (Ar ?_))
     refine Pv (T_nil ?_)
     exact ⟨n - (r + 1), [(4, .pointer (some ⟨b52, 0, none⟩)), (5, .int .i64 ((n : Nat) : Int)), (6, .slice a59 n c60), (7, .slice a66 n c67), (8, .int .i64 (k : Int)), (32, .int .i64 ((n : Nat) : Int)), (33, .int .i64 (k : Int)), (104, .int .i64 ((n : Nat) : Int)), (105, .int .i64 ((r + 1 : Nat) : Int))], by omega, ⟨rfl, ciI, rfl, rfl, ciI, ciI, ciI, ciI, ciI, trivial⟩, r + 1, B209, rfl, (by omega), rfl, hl210, C211⟩
    refine W_exit (W_region (Ar ?_))
    refine Pv (T_nil ?_)
    exact ⟨n - (k + 1), [(4, .pointer (some ⟨b52, 0, none⟩)), (5, .int .i64 ((n : Nat) : Int)), (6, .slice a59 n c60), (7, .slice a66 n c67), (32, .int .i64 ((n : Nat) : Int)), (33, .int .i64 ((k + 1 : Nat) : Int))], by omega, ⟨rfl, ciI, rfl, rfl, ciI, ciI, trivial⟩, k + 1, B209, rfl, (by omega), rfl, (hl70.trans (hl76.trans (hl137.trans (hl150.trans (hl188.trans (hl201.trans (hl205.trans hl210))))))), C211⟩
   refine W_tree (planW Tryz.prog) (.step 0 (.step 1 (.step 2 (.step 3 (.step 4 (.step 5 (.step 7 (.step 11 (.step 12 (.step 13 (.step 15 (.step 16 (.step 17 (.fork3 6 14 18 (.step 8 (.fork3 9 14 18 (.fork3 10 14 18 (.step 14 (.step 18 (.step 19 (.step 20 .done)))) (.fork 10 18 (.step 18 (.step 19 (.step 20 .done))) (.fork 10 19 (.step 19 (.step 20 .done)) (.step 10 (.step 20 .done)))) (.fork 10 14 (.step 14 (.step 19 (.step 20 .done))) (.fork 10 19 (.step 19 (.step 20 .done)) (.step 10 (.step 20 .done))))) (.fork 9 18 (.fork 10 18 (.step 18 (.step 19 (.step 20 .done))) (.fork 10 19 (.step 19 (.step 20 .done)) (.step 10 (.step 20 .done)))) (.fork 9 19 (.fork 10 19 (.step 19 (.step 20 .done)) (.step 10 (.step 20 .done))) (.step 9 (.step 10 (.step 20 .done))))) (.fork 9 14 (.fork 10 14 (.step 14 (.step 19 (.step 20 .done))) (.fork 10 19 (.step 19 (.step 20 .done)) (.step 10 (.step 20 .done)))) (.fork 9 19 (.fork 10 19 (.step 19 (.step 20 .done)) (.step 10 (.step 20 .done))) (.step 9 (.step 10 (.step 20 .done))))))) (.fork 6 18 (.step 8 (.fork 9 18 (.fork 10 18 (.step 18 (.step 19 (.step 20 .done))) (.fork 10 19 (.step 19 (.step 20 .done)) (.step 10 (.step 20 .done)))) (.fork 9 19 (.fork 10 19 (.step 19 (.step 20 .done)) (.step 10 (.step 20 .done))) (.step 9 (.step 10 (.step 20 .done)))))) (.fork 6 19 (.step 8 (.fork 9 19 (.fork 10 19 (.step 19 (.step 20 .done)) (.step 10 (.step 20 .done))) (.step 9 (.step 10 (.step 20 .done))))) (.step 6 (.step 8 (.step 9 (.step 10 (.step 20 .done))))))) (.fork 6 14 (.step 8 (.fork 9 14 (.fork 10 14 (.step 14 (.step 19 (.step 20 .done))) (.fork 10 19 (.step 19 (.step 20 .done)) (.step 10 (.step 20 .done)))) (.fork 9 19 (.fork 10 19 (.step 19 (.step 20 .done)) (.step 10 (.step 20 .done))) (.step 9 (.step 10 (.step 20 .done)))))) (.fork 6 19 (.step 8 (.fork 9 19 (.fork 10 19 (.step 19 (.step 20 .done)) (.step 10 (.step 20 .done))) (.step 9 (.step 10 (.step 20 .done))))) (.step 6 (.step 8 (.step 9 (.step 10 (.step 20 .done))))))))))))))))))))) rfl (by kernel_rfl) trivial ?_
   have C288 := C202.drew
   refine TT_step rfl (Pv ?_)
   refine Nt rfl (T_makeF rfl rfl rfl rfl rfl rfl ?_)
   have hf289 : FnB Tryz.prog W H B200 (.func (.func 142) #[.pointer (some ⟨b52, 0, none⟩)] #[]) ABB := ⟨_, [.pointer (some ⟨b52, 0, none⟩)], [], rfl, g_aumbry_gf_Field_Mul, fun B1 w1 hl C1 args hA => by obtain ⟨x, y, rfl⟩ := hA; exact gmul_w C1 ((hg53.mono (hl56.trans (hl63.trans (hl70.trans (hl76.trans (hl137.trans (hl150.trans (hl188.trans hl201)))))))).mono hl) x y⟩
   iterate 3 (refine T_nil ?_; refine TT_step rfl ?_; refine Pv ?_)
   refine Nt rfl (Aq (r61.mono (hl63.trans (hl70.trans (hl76.trans (hl137.trans (hl150.trans (hl188.trans hl201))))))) fun b290 o291 t292 q293 f294 hb295 hq296 hf297 => ?_)
   have hr298 : RwB B200 b290 o291 n := ⟨_, _, _, hb295, hq296, hf297⟩
   iterate 3 (refine T_nil ?_; refine TT_step rfl ?_; refine Pv ?_)
   refine Nt rfl (Aq (r61.mono (hl63.trans (hl70.trans (hl76.trans (hl137.trans (hl150.trans (hl188.trans hl201))))))) fun b299 o300 t301 q302 f303 hb304 hq305 hf306 => ?_)
   have hr307 : RwB B200 b299 o300 n := ⟨_, _, _, hb304, hq305, hf306⟩
   iterate 2 (refine T_nil ?_; refine TT_step rfl ?_; refine Pv ?_)
   refine Nt rfl (Aq (r68.mono (hl70.trans (hl76.trans (hl137.trans (hl150.trans (hl188.trans hl201)))))) fun b308 o309 t310 q311 f312 hb313 hq314 hf315 => ?_)
   have hr316 : RwB B200 b308 o309 n := ⟨_, _, _, hb313, hq314, hf315⟩
   refine T_nil (TT_fork3 rfl rfl rfl ?_ ?_ ?_)
   ·refine Ap C288 hr298 fun a317 c318 r319 => ?_
    refine Nt rfl (Ao r319 fun b320 o321 q322 hb323 hq324 => (T_nil ?_))
    refine TT_fork3 rfl rfl rfl ?_ ?_ ?_
    ·refine An C288 hb323 fun x325 => (T_nil ?_)
     refine TT_fork3 rfl rfl rfl ?_ ?_ ?_
     ·refine Cw g_aumbry_gf_Field_Inv ((ginv_w C288 (hg53.mono (hl56.trans (hl63.trans (hl70.trans (hl76.trans (hl137.trans (hl150.trans (hl188.trans hl201)))))))) x325).mono ?_)
      rintro e w329 ⟨B326, hl327, C328, x330, rfl⟩
      refine ⟨_, rfl, ?_⟩
      refine Nt rfl (Ap C328 (hr307.mono hl327) fun a331 c332 r333 => ?_)
      refine Nt rfl (Ap C328 (hr316.mono hl327) fun a334 c335 r336 => ?_)
      refine Nt rfl (As C328 r333 r336 fun a337 c338 w343 B340 hl341 r339 C342 => ?_)
      refine Nt rfl (Cw g_aumbry_matrix_scale ((scale_w C342 (hf289.mono (hl327.trans hl341)) x330 r339 (by omega) (by omega)).mono ?_))
      rintro e w347 ⟨B344, hl345, C346, rfl⟩
      refine ⟨_, rfl, ?_⟩
      refine T_nil (TT_done ?_)
      exact Ws (J208 _ _ (hl327.trans (hl341.trans hl345)) C346) ⟨rfl, rfl, rfl, rfl, rfl, rfl, rfl, trivial⟩
     ·refine Ap C288 hr307 fun a348 c349 r350 => (T_nil ?_)
      refine TT_fork rfl rfl ?_ ?_
      ·refine Cw g_aumbry_gf_Field_Inv ((ginv_w C288 (hg53.mono (hl56.trans (hl63.trans (hl70.trans (hl76.trans (hl137.trans (hl150.trans (hl188.trans hl201)))))))) x325).mono ?_)
       rintro e w354 ⟨B351, hl352, C353, x355, rfl⟩
       refine ⟨_, rfl, ?_⟩
       refine Nt rfl (Ap C353 (hr316.mono hl352) fun a356 c357 r358 => ?_)
       refine Nt rfl (As C353 (r350.mono hl352) r358 fun a359 c360 w365 B362 hl363 r361 C364 => ?_)
       refine Nt rfl (Cw g_aumbry_matrix_scale ((scale_w C364 (hf289.mono (hl352.trans hl363)) x355 r361 (by omega) (by omega)).mono ?_))
       rintro e w369 ⟨B366, hl367, C368, rfl⟩
       refine ⟨_, rfl, ?_⟩
       refine T_nil (TT_done ?_)
       exact Ws (J208 _ _ (hl352.trans (hl363.trans hl367)) C368) ⟨rfl, rfl, rfl, rfl, rfl, rfl, rfl, trivial⟩
      refine Ap C288 hr316 fun a370 c371 r372 => (T_nil ?_)
      refine TT_fork rfl rfl ?_ ?_
      ·refine Cw g_aumbry_gf_Field_Inv ((ginv_w C288 (hg53.mono (hl56.trans (hl63.trans (hl70.trans (hl76.trans (hl137.trans (hl150.trans (hl188.trans hl201)))))))) x325).mono ?_)
       rintro e w376 ⟨B373, hl374, C375, x377, rfl⟩
       refine ⟨_, rfl, ?_⟩
       refine Nt rfl (As C375 (r350.mono hl374) (r372.mono hl374) fun a378 c379 w384 B381 hl382 r380 C383 => ?_)
       refine Nt rfl (Cw g_aumbry_matrix_scale ((scale_w C383 (hf289.mono (hl374.trans hl382)) x377 r380 (by omega) (by omega)).mono ?_))
       rintro e w388 ⟨B385, hl386, C387, rfl⟩
       refine ⟨_, rfl, ?_⟩
       refine T_nil (TT_done ?_)
       exact Ws (J208 _ _ (hl374.trans (hl382.trans hl386)) C387) ⟨rfl, rfl, rfl, rfl, rfl, rfl, rfl, trivial⟩
      refine As C288 r350 r372 fun a389 c390 w395 B392 hl393 r391 C394 => ?_
      refine Nt rfl (Cw g_aumbry_gf_Field_Inv ((ginv_w C394 (hg53.mono (hl56.trans (hl63.trans (hl70.trans (hl76.trans (hl137.trans (hl150.trans (hl188.trans (hl201.trans hl393))))))))) x325).mono ?_))
      rintro e w399 ⟨B396, hl397, C398, x400, rfl⟩
      refine ⟨_, rfl, ?_⟩
      refine Nt rfl (Cw g_aumbry_matrix_scale ((scale_w C398 (hf289.mono (hl393.trans hl397)) x400 (r391.mono hl397) (by omega) (by omega)).mono ?_))
      rintro e w404 ⟨B401, hl402, C403, rfl⟩
      refine ⟨_, rfl, ?_⟩
      refine T_nil (TT_done ?_)
      exact Ws (J208 _ _ (hl393.trans (hl397.trans hl402)) C403) ⟨rfl, rfl, rfl, rfl, rfl, rfl, rfl, trivial⟩
     refine Ap C288 hr316 fun a405 c406 r407 => (T_nil ?_)
     refine TT_fork rfl rfl ?_ ?_
     ·refine Cw g_aumbry_gf_Field_Inv ((ginv_w C288 (hg53.mono (hl56.trans (hl63.trans (hl70.trans (hl76.trans (hl137.trans (hl150.trans (hl188.trans hl201)))))))) x325).mono ?_)
      rintro e w411 ⟨B408, hl409, C410, x412, rfl⟩
      refine ⟨_, rfl, ?_⟩
      refine Nt rfl (Ap C410 (hr307.mono hl409) fun a413 c414 r415 => ?_)
      refine Nt rfl (As C410 r415 (r407.mono hl409) fun a416 c417 w422 B419 hl420 r418 C421 => ?_)
      refine Nt rfl (Cw g_aumbry_matrix_scale ((scale_w C421 (hf289.mono (hl409.trans hl420)) x412 r418 (by omega) (by omega)).mono ?_))
      rintro e w426 ⟨B423, hl424, C425, rfl⟩
      refine ⟨_, rfl, ?_⟩
      refine T_nil (TT_done ?_)
      exact Ws (J208 _ _ (hl409.trans (hl420.trans hl424)) C425) ⟨rfl, rfl, rfl, rfl, rfl, rfl, rfl, trivial⟩
     refine Ap C288 hr307 fun a427 c428 r429 => (T_nil ?_)
     refine TT_fork rfl rfl ?_ ?_
     ·refine Cw g_aumbry_gf_Field_Inv ((ginv_w C288 (hg53.mono (hl56.trans (hl63.trans (hl70.trans (hl76.trans (hl137.trans (hl150.trans (hl188.trans hl201)))))))) x325).mono ?_)
      rintro e w433 ⟨B430, hl431, C432, x434, rfl⟩
      refine ⟨_, rfl, ?_⟩
      refine Nt rfl (As C432 (r429.mono hl431) (r407.mono hl431) fun a435 c436 w441 B438 hl439 r437 C440 => ?_)
      refine Nt rfl (Cw g_aumbry_matrix_scale ((scale_w C440 (hf289.mono (hl431.trans hl439)) x434 r437 (by omega) (by omega)).mono ?_))
      rintro e w445 ⟨B442, hl443, C444, rfl⟩
      refine ⟨_, rfl, ?_⟩
      refine T_nil (TT_done ?_)
      exact Ws (J208 _ _ (hl431.trans (hl439.trans hl443)) C444) ⟨rfl, rfl, rfl, rfl, rfl, rfl, rfl, trivial⟩
     refine As C288 r429 r407 fun a446 c447 w452 B449 hl450 r448 C451 => ?_
     refine Nt rfl (Cw g_aumbry_gf_Field_Inv ((ginv_w C451 (hg53.mono (hl56.trans (hl63.trans (hl70.trans (hl76.trans (hl137.trans (hl150.trans (hl188.trans (hl201.trans hl450))))))))) x325).mono ?_))
     rintro e w456 ⟨B453, hl454, C455, x457, rfl⟩
     refine ⟨_, rfl, ?_⟩
     refine Nt rfl (Cw g_aumbry_matrix_scale ((scale_w C455 (hf289.mono (hl450.trans hl454)) x457 (r448.mono hl454) (by omega) (by omega)).mono ?_))
     rintro e w461 ⟨B458, hl459, C460, rfl⟩
     refine ⟨_, rfl, ?_⟩
     refine T_nil (TT_done ?_)
     exact Ws (J208 _ _ (hl450.trans (hl454.trans hl459)) C460) ⟨rfl, rfl, rfl, rfl, rfl, rfl, rfl, trivial⟩
    ·refine Ap C288 hr307 fun a462 c463 r464 => (T_nil ?_)
     refine TT_fork rfl rfl ?_ ?_
     ·refine An C288 hb323 fun x465 => (T_nil ?_)
      refine TT_fork rfl rfl ?_ ?_
      ·refine Cw g_aumbry_gf_Field_Inv ((ginv_w C288 (hg53.mono (hl56.trans (hl63.trans (hl70.trans (hl76.trans (hl137.trans (hl150.trans (hl188.trans hl201)))))))) x465).mono ?_)
       rintro e w469 ⟨B466, hl467, C468, x470, rfl⟩
       refine ⟨_, rfl, ?_⟩
       refine Nt rfl (Ap C468 (hr316.mono hl467) fun a471 c472 r473 => ?_)
       refine Nt rfl (As C468 (r464.mono hl467) r473 fun a474 c475 w480 B477 hl478 r476 C479 => ?_)
       refine Nt rfl (Cw g_aumbry_matrix_scale ((scale_w C479 (hf289.mono (hl467.trans hl478)) x470 r476 (by omega) (by omega)).mono ?_))
       rintro e w484 ⟨B481, hl482, C483, rfl⟩
       refine ⟨_, rfl, ?_⟩
       refine T_nil (TT_done ?_)
       exact Ws (J208 _ _ (hl467.trans (hl478.trans hl482)) C483) ⟨rfl, rfl, rfl, rfl, rfl, rfl, rfl, trivial⟩
      refine Ap C288 hr316 fun a485 c486 r487 => (T_nil ?_)
      refine TT_fork rfl rfl ?_ ?_
      ·refine Cw g_aumbry_gf_Field_Inv ((ginv_w C288 (hg53.mono (hl56.trans (hl63.trans (hl70.trans (hl76.trans (hl137.trans (hl150.trans (hl188.trans hl201)))))))) x465).mono ?_)
       rintro e w491 ⟨B488, hl489, C490, x492, rfl⟩
       refine ⟨_, rfl, ?_⟩
       refine Nt rfl (As C490 (r464.mono hl489) (r487.mono hl489) fun a493 c494 w499 B496 hl497 r495 C498 => ?_)
       refine Nt rfl (Cw g_aumbry_matrix_scale ((scale_w C498 (hf289.mono (hl489.trans hl497)) x492 r495 (by omega) (by omega)).mono ?_))
       rintro e w503 ⟨B500, hl501, C502, rfl⟩
       refine ⟨_, rfl, ?_⟩
       refine T_nil (TT_done ?_)
       exact Ws (J208 _ _ (hl489.trans (hl497.trans hl501)) C502) ⟨rfl, rfl, rfl, rfl, rfl, rfl, rfl, trivial⟩
      refine As C288 r464 r487 fun a504 c505 w510 B507 hl508 r506 C509 => ?_
      refine Nt rfl (Cw g_aumbry_gf_Field_Inv ((ginv_w C509 (hg53.mono (hl56.trans (hl63.trans (hl70.trans (hl76.trans (hl137.trans (hl150.trans (hl188.trans (hl201.trans hl508))))))))) x465).mono ?_))
      rintro e w514 ⟨B511, hl512, C513, x515, rfl⟩
      refine ⟨_, rfl, ?_⟩
      refine Nt rfl (Cw g_aumbry_matrix_scale ((scale_w C513 (hf289.mono (hl508.trans hl512)) x515 (r506.mono hl512) (by omega) (by omega)).mono ?_))
      rintro e w519 ⟨B516, hl517, C518, rfl⟩
      refine ⟨_, rfl, ?_⟩
      refine T_nil (TT_done ?_)
      exact Ws (J208 _ _ (hl508.trans (hl512.trans hl517)) C518) ⟨rfl, rfl, rfl, rfl, rfl, rfl, rfl, trivial⟩
     refine Ap C288 hr316 fun a520 c521 r522 => (T_nil ?_)
     refine TT_fork rfl rfl ?_ ?_
     ·refine An C288 hb323 fun x523 => (T_nil ?_)
      refine TT_fork rfl rfl ?_ ?_
      ·refine Cw g_aumbry_gf_Field_Inv ((ginv_w C288 (hg53.mono (hl56.trans (hl63.trans (hl70.trans (hl76.trans (hl137.trans (hl150.trans (hl188.trans hl201)))))))) x523).mono ?_)
       rintro e w527 ⟨B524, hl525, C526, x528, rfl⟩
       refine ⟨_, rfl, ?_⟩
       refine Nt rfl (As C526 (r464.mono hl525) (r522.mono hl525) fun a529 c530 w535 B532 hl533 r531 C534 => ?_)
       refine Nt rfl (Cw g_aumbry_matrix_scale ((scale_w C534 (hf289.mono (hl525.trans hl533)) x528 r531 (by omega) (by omega)).mono ?_))
       rintro e w539 ⟨B536, hl537, C538, rfl⟩
       refine ⟨_, rfl, ?_⟩
       refine T_nil (TT_done ?_)
       exact Ws (J208 _ _ (hl525.trans (hl533.trans hl537)) C538) ⟨rfl, rfl, rfl, rfl, rfl, rfl, rfl, trivial⟩
      refine As C288 r464 r522 fun a540 c541 w546 B543 hl544 r542 C545 => ?_
      refine Nt rfl (Cw g_aumbry_gf_Field_Inv ((ginv_w C545 (hg53.mono (hl56.trans (hl63.trans (hl70.trans (hl76.trans (hl137.trans (hl150.trans (hl188.trans (hl201.trans hl544))))))))) x523).mono ?_))
      rintro e w550 ⟨B547, hl548, C549, x551, rfl⟩
      refine ⟨_, rfl, ?_⟩
      refine Nt rfl (Cw g_aumbry_matrix_scale ((scale_w C549 (hf289.mono (hl544.trans hl548)) x551 (r542.mono hl548) (by omega) (by omega)).mono ?_))
      rintro e w555 ⟨B552, hl553, C554, rfl⟩
      refine ⟨_, rfl, ?_⟩
      refine T_nil (TT_done ?_)
      exact Ws (J208 _ _ (hl544.trans (hl548.trans hl553)) C554) ⟨rfl, rfl, rfl, rfl, rfl, rfl, rfl, trivial⟩
     refine As C288 r464 r522 fun a556 c557 w562 B559 hl560 r558 C561 => ?_
     refine Nt rfl (An C561 (hb323.mono hl560) fun x563 => ?_)
     refine Nt rfl (Cw g_aumbry_gf_Field_Inv ((ginv_w C561 (hg53.mono (hl56.trans (hl63.trans (hl70.trans (hl76.trans (hl137.trans (hl150.trans (hl188.trans (hl201.trans hl560))))))))) x563).mono ?_))
     rintro e w567 ⟨B564, hl565, C566, x568, rfl⟩
     refine ⟨_, rfl, ?_⟩
     refine Nt rfl (Cw g_aumbry_matrix_scale ((scale_w C566 (hf289.mono (hl560.trans hl565)) x568 (r558.mono hl565) (by omega) (by omega)).mono ?_))
     rintro e w572 ⟨B569, hl570, C571, rfl⟩
     refine ⟨_, rfl, ?_⟩
     refine T_nil (TT_done ?_)
     exact Ws (J208 _ _ (hl560.trans (hl565.trans hl570)) C571) ⟨rfl, rfl, rfl, rfl, rfl, rfl, rfl, trivial⟩
    refine Ap C288 hr316 fun a573 c574 r575 => (T_nil ?_)
    refine TT_fork rfl rfl ?_ ?_
    ·refine An C288 hb323 fun x576 => (T_nil ?_)
     refine TT_fork rfl rfl ?_ ?_
     ·refine Cw g_aumbry_gf_Field_Inv ((ginv_w C288 (hg53.mono (hl56.trans (hl63.trans (hl70.trans (hl76.trans (hl137.trans (hl150.trans (hl188.trans hl201)))))))) x576).mono ?_)
      rintro e w580 ⟨B577, hl578, C579, x581, rfl⟩
      refine ⟨_, rfl, ?_⟩
      refine Nt rfl (Ap C579 (hr307.mono hl578) fun a582 c583 r584 => ?_)
      refine Nt rfl (As C579 r584 (r575.mono hl578) fun a585 c586 w591 B588 hl589 r587 C590 => ?_)
      refine Nt rfl (Cw g_aumbry_matrix_scale ((scale_w C590 (hf289.mono (hl578.trans hl589)) x581 r587 (by omega) (by omega)).mono ?_))
      rintro e w595 ⟨B592, hl593, C594, rfl⟩
      refine ⟨_, rfl, ?_⟩
      refine T_nil (TT_done ?_)
      exact Ws (J208 _ _ (hl578.trans (hl589.trans hl593)) C594) ⟨rfl, rfl, rfl, rfl, rfl, rfl, rfl, trivial⟩
     refine Ap C288 hr307 fun a596 c597 r598 => (T_nil ?_)
     refine TT_fork rfl rfl ?_ ?_
     ·refine Cw g_aumbry_gf_Field_Inv ((ginv_w C288 (hg53.mono (hl56.trans (hl63.trans (hl70.trans (hl76.trans (hl137.trans (hl150.trans (hl188.trans hl201)))))))) x576).mono ?_)
      rintro e w602 ⟨B599, hl600, C601, x603, rfl⟩
      refine ⟨_, rfl, ?_⟩
      refine Nt rfl (As C601 (r598.mono hl600) (r575.mono hl600) fun a604 c605 w610 B607 hl608 r606 C609 => ?_)
      refine Nt rfl (Cw g_aumbry_matrix_scale ((scale_w C609 (hf289.mono (hl600.trans hl608)) x603 r606 (by omega) (by omega)).mono ?_))
      rintro e w614 ⟨B611, hl612, C613, rfl⟩
      refine ⟨_, rfl, ?_⟩
      refine T_nil (TT_done ?_)
      exact Ws (J208 _ _ (hl600.trans (hl608.trans hl612)) C613) ⟨rfl, rfl, rfl, rfl, rfl, rfl, rfl, trivial⟩
     refine As C288 r598 r575 fun a615 c616 w621 B618 hl619 r617 C620 => ?_
     refine Nt rfl (Cw g_aumbry_gf_Field_Inv ((ginv_w C620 (hg53.mono (hl56.trans (hl63.trans (hl70.trans (hl76.trans (hl137.trans (hl150.trans (hl188.trans (hl201.trans hl619))))))))) x576).mono ?_))
     rintro e w625 ⟨B622, hl623, C624, x626, rfl⟩
     refine ⟨_, rfl, ?_⟩
     refine Nt rfl (Cw g_aumbry_matrix_scale ((scale_w C624 (hf289.mono (hl619.trans hl623)) x626 (r617.mono hl623) (by omega) (by omega)).mono ?_))
     rintro e w630 ⟨B627, hl628, C629, rfl⟩
     refine ⟨_, rfl, ?_⟩
     refine T_nil (TT_done ?_)
     exact Ws (J208 _ _ (hl619.trans (hl623.trans hl628)) C629) ⟨rfl, rfl, rfl, rfl, rfl, rfl, rfl, trivial⟩
    refine Ap C288 hr307 fun a631 c632 r633 => (T_nil ?_)
    refine TT_fork rfl rfl ?_ ?_
    ·refine An C288 hb323 fun x634 => (T_nil ?_)
     refine TT_fork rfl rfl ?_ ?_
     ·refine Cw g_aumbry_gf_Field_Inv ((ginv_w C288 (hg53.mono (hl56.trans (hl63.trans (hl70.trans (hl76.trans (hl137.trans (hl150.trans (hl188.trans hl201)))))))) x634).mono ?_)
      rintro e w638 ⟨B635, hl636, C637, x639, rfl⟩
      refine ⟨_, rfl, ?_⟩
      refine Nt rfl (As C637 (r633.mono hl636) (r575.mono hl636) fun a640 c641 w646 B643 hl644 r642 C645 => ?_)
      refine Nt rfl (Cw g_aumbry_matrix_scale ((scale_w C645 (hf289.mono (hl636.trans hl644)) x639 r642 (by omega) (by omega)).mono ?_))
      rintro e w650 ⟨B647, hl648, C649, rfl⟩
      refine ⟨_, rfl, ?_⟩
      refine T_nil (TT_done ?_)
      exact Ws (J208 _ _ (hl636.trans (hl644.trans hl648)) C649) ⟨rfl, rfl, rfl, rfl, rfl, rfl, rfl, trivial⟩
     refine As C288 r633 r575 fun a651 c652 w657 B654 hl655 r653 C656 => ?_
     refine Nt rfl (Cw g_aumbry_gf_Field_Inv ((ginv_w C656 (hg53.mono (hl56.trans (hl63.trans (hl70.trans (hl76.trans (hl137.trans (hl150.trans (hl188.trans (hl201.trans hl655))))))))) x634).mono ?_))
     rintro e w661 ⟨B658, hl659, C660, x662, rfl⟩
     refine ⟨_, rfl, ?_⟩
     refine Nt rfl (Cw g_aumbry_matrix_scale ((scale_w C660 (hf289.mono (hl655.trans hl659)) x662 (r653.mono hl659) (by omega) (by omega)).mono ?_))
     rintro e w666 ⟨B663, hl664, C665, rfl⟩
     refine ⟨_, rfl, ?_⟩
     refine T_nil (TT_done ?_)
     exact Ws (J208 _ _ (hl655.trans (hl659.trans hl664)) C665) ⟨rfl, rfl, rfl, rfl, rfl, rfl, rfl, trivial⟩
    refine As C288 r633 r575 fun a667 c668 w673 B670 hl671 r669 C672 => ?_
    refine Nt rfl (An C672 (hb323.mono hl671) fun x674 => ?_)
    refine Nt rfl (Cw g_aumbry_gf_Field_Inv ((ginv_w C672 (hg53.mono (hl56.trans (hl63.trans (hl70.trans (hl76.trans (hl137.trans (hl150.trans (hl188.trans (hl201.trans hl671))))))))) x674).mono ?_))
    rintro e w678 ⟨B675, hl676, C677, x679, rfl⟩
    refine ⟨_, rfl, ?_⟩
    refine Nt rfl (Cw g_aumbry_matrix_scale ((scale_w C677 (hf289.mono (hl671.trans hl676)) x679 (r669.mono hl676) (by omega) (by omega)).mono ?_))
    rintro e w683 ⟨B680, hl681, C682, rfl⟩
    refine ⟨_, rfl, ?_⟩
    refine T_nil (TT_done ?_)
    exact Ws (J208 _ _ (hl671.trans (hl676.trans hl681)) C682) ⟨rfl, rfl, rfl, rfl, rfl, rfl, rfl, trivial⟩
   ·refine Ap C288 hr307 fun a684 c685 r686 => (T_nil ?_)
    refine TT_fork rfl rfl ?_ ?_
    ·refine Ap C288 hr298 fun a687 c688 r689 => ?_
     refine Nt rfl (Ao r689 fun b690 o691 q692 hb693 hq694 => (T_nil ?_))
     refine TT_fork rfl rfl ?_ ?_
     ·refine An C288 hb693 fun x695 => (T_nil ?_)
      refine TT_fork rfl rfl ?_ ?_
      ·refine Cw g_aumbry_gf_Field_Inv ((ginv_w C288 (hg53.mono (hl56.trans (hl63.trans (hl70.trans (hl76.trans (hl137.trans (hl150.trans (hl188.trans hl201)))))))) x695).mono ?_)
       rintro e w699 ⟨B696, hl697, C698, x700, rfl⟩
       refine ⟨_, rfl, ?_⟩
       refine Nt rfl (Ap C698 (hr316.mono hl697) fun a701 c702 r703 => ?_)
       refine Nt rfl (As C698 (r686.mono hl697) r703 fun a704 c705 w710 B707 hl708 r706 C709 => ?_)
       refine Nt rfl (Cw g_aumbry_matrix_scale ((scale_w C709 (hf289.mono (hl697.trans hl708)) x700 r706 (by omega) (by omega)).mono ?_))
       rintro e w714 ⟨B711, hl712, C713, rfl⟩
       refine ⟨_, rfl, ?_⟩
       refine T_nil (TT_done ?_)
       exact Ws (J208 _ _ (hl697.trans (hl708.trans hl712)) C713) ⟨rfl, rfl, rfl, rfl, rfl, rfl, rfl, trivial⟩
      refine Ap C288 hr316 fun a715 c716 r717 => (T_nil ?_)
      refine TT_fork rfl rfl ?_ ?_
      ·refine Cw g_aumbry_gf_Field_Inv ((ginv_w C288 (hg53.mono (hl56.trans (hl63.trans (hl70.trans (hl76.trans (hl137.trans (hl150.trans (hl188.trans hl201)))))))) x695).mono ?_)
       rintro e w721 ⟨B718, hl719, C720, x722, rfl⟩
       refine ⟨_, rfl, ?_⟩
       refine Nt rfl (As C720 (r686.mono hl719) (r717.mono hl719) fun a723 c724 w729 B726 hl727 r725 C728 => ?_)
       refine Nt rfl (Cw g_aumbry_matrix_scale ((scale_w C728 (hf289.mono (hl719.trans hl727)) x722 r725 (by omega) (by omega)).mono ?_))
       rintro e w733 ⟨B730, hl731, C732, rfl⟩
       refine ⟨_, rfl, ?_⟩
       refine T_nil (TT_done ?_)
       exact Ws (J208 _ _ (hl719.trans (hl727.trans hl731)) C732) ⟨rfl, rfl, rfl, rfl, rfl, rfl, rfl, trivial⟩
      refine As C288 r686 r717 fun a734 c735 w740 B737 hl738 r736 C739 => ?_
      refine Nt rfl (Cw g_aumbry_gf_Field_Inv ((ginv_w C739 (hg53.mono (hl56.trans (hl63.trans (hl70.trans (hl76.trans (hl137.trans (hl150.trans (hl188.trans (hl201.trans hl738))))))))) x695).mono ?_))
      rintro e w744 ⟨B741, hl742, C743, x745, rfl⟩
      refine ⟨_, rfl, ?_⟩
      refine Nt rfl (Cw g_aumbry_matrix_scale ((scale_w C743 (hf289.mono (hl738.trans hl742)) x745 (r736.mono hl742) (by omega) (by omega)).mono ?_))
      rintro e w749 ⟨B746, hl747, C748, rfl⟩
      refine ⟨_, rfl, ?_⟩
      refine T_nil (TT_done ?_)
      exact Ws (J208 _ _ (hl738.trans (hl742.trans hl747)) C748) ⟨rfl, rfl, rfl, rfl, rfl, rfl, rfl, trivial⟩
     refine Ap C288 hr316 fun a750 c751 r752 => (T_nil ?_)
     refine TT_fork rfl rfl ?_ ?_
     ·refine An C288 hb693 fun x753 => (T_nil ?_)
      refine TT_fork rfl rfl ?_ ?_
      ·refine Cw g_aumbry_gf_Field_Inv ((ginv_w C288 (hg53.mono (hl56.trans (hl63.trans (hl70.trans (hl76.trans (hl137.trans (hl150.trans (hl188.trans hl201)))))))) x753).mono ?_)
       rintro e w757 ⟨B754, hl755, C756, x758, rfl⟩
       refine ⟨_, rfl, ?_⟩
       refine Nt rfl (As C756 (r686.mono hl755) (r752.mono hl755) fun a759 c760 w765 B762 hl763 r761 C764 => ?_)
       refine Nt rfl (Cw g_aumbry_matrix_scale ((scale_w C764 (hf289.mono (hl755.trans hl763)) x758 r761 (by omega) (by omega)).mono ?_))
       rintro e w769 ⟨B766, hl767, C768, rfl⟩
       refine ⟨_, rfl, ?_⟩
       refine T_nil (TT_done ?_)
       exact Ws (J208 _ _ (hl755.trans (hl763.trans hl767)) C768) ⟨rfl, rfl, rfl, rfl, rfl, rfl, rfl, trivial⟩
      refine As C288 r686 r752 fun a770 c771 w776 B773 hl774 r772 C775 => ?_
      refine Nt rfl (Cw g_aumbry_gf_Field_Inv ((ginv_w C775 (hg53.mono (hl56.trans (hl63.trans (hl70.trans (hl76.trans (hl137.trans (hl150.trans (hl188.trans (hl201.trans hl774))))))))) x753).mono ?_))
      rintro e w780 ⟨B777, hl778, C779, x781, rfl⟩
      refine ⟨_, rfl, ?_⟩
      refine Nt rfl (Cw g_aumbry_matrix_scale ((scale_w C779 (hf289.mono (hl774.trans hl778)) x781 (r772.mono hl778) (by omega) (by omega)).mono ?_))
      rintro e w785 ⟨B782, hl783, C784, rfl⟩
      refine ⟨_, rfl, ?_⟩
      refine T_nil (TT_done ?_)
      exact Ws (J208 _ _ (hl774.trans (hl778.trans hl783)) C784) ⟨rfl, rfl, rfl, rfl, rfl, rfl, rfl, trivial⟩
     refine As C288 r686 r752 fun a786 c787 w792 B789 hl790 r788 C791 => ?_
     refine Nt rfl (An C791 (hb693.mono hl790) fun x793 => ?_)
     refine Nt rfl (Cw g_aumbry_gf_Field_Inv ((ginv_w C791 (hg53.mono (hl56.trans (hl63.trans (hl70.trans (hl76.trans (hl137.trans (hl150.trans (hl188.trans (hl201.trans hl790))))))))) x793).mono ?_))
     rintro e w797 ⟨B794, hl795, C796, x798, rfl⟩
     refine ⟨_, rfl, ?_⟩
     refine Nt rfl (Cw g_aumbry_matrix_scale ((scale_w C796 (hf289.mono (hl790.trans hl795)) x798 (r788.mono hl795) (by omega) (by omega)).mono ?_))
     rintro e w802 ⟨B799, hl800, C801, rfl⟩
     refine ⟨_, rfl, ?_⟩
     refine T_nil (TT_done ?_)
     exact Ws (J208 _ _ (hl790.trans (hl795.trans hl800)) C801) ⟨rfl, rfl, rfl, rfl, rfl, rfl, rfl, trivial⟩
    refine Ap C288 hr316 fun a803 c804 r805 => (T_nil ?_)
    refine TT_fork rfl rfl ?_ ?_
    ·refine Ap C288 hr298 fun a806 c807 r808 => ?_
     refine Nt rfl (Ao r808 fun b809 o810 q811 hb812 hq813 => (T_nil ?_))
     refine TT_fork rfl rfl ?_ ?_
     ·refine An C288 hb812 fun x814 => (T_nil ?_)
      refine TT_fork rfl rfl ?_ ?_
      ·refine Cw g_aumbry_gf_Field_Inv ((ginv_w C288 (hg53.mono (hl56.trans (hl63.trans (hl70.trans (hl76.trans (hl137.trans (hl150.trans (hl188.trans hl201)))))))) x814).mono ?_)
       rintro e w818 ⟨B815, hl816, C817, x819, rfl⟩
       refine ⟨_, rfl, ?_⟩
       refine Nt rfl (As C817 (r686.mono hl816) (r805.mono hl816) fun a820 c821 w826 B823 hl824 r822 C825 => ?_)
       refine Nt rfl (Cw g_aumbry_matrix_scale ((scale_w C825 (hf289.mono (hl816.trans hl824)) x819 r822 (by omega) (by omega)).mono ?_))
       rintro e w830 ⟨B827, hl828, C829, rfl⟩
       refine ⟨_, rfl, ?_⟩
       refine T_nil (TT_done ?_)
       exact Ws (J208 _ _ (hl816.trans (hl824.trans hl828)) C829) ⟨rfl, rfl, rfl, rfl, rfl, rfl, rfl, trivial⟩
      refine As C288 r686 r805 fun a831 c832 w837 B834 hl835 r833 C836 => ?_
      refine Nt rfl (Cw g_aumbry_gf_Field_Inv ((ginv_w C836 (hg53.mono (hl56.trans (hl63.trans (hl70.trans (hl76.trans (hl137.trans (hl150.trans (hl188.trans (hl201.trans hl835))))))))) x814).mono ?_))
      rintro e w841 ⟨B838, hl839, C840, x842, rfl⟩
      refine ⟨_, rfl, ?_⟩
      refine Nt rfl (Cw g_aumbry_matrix_scale ((scale_w C840 (hf289.mono (hl835.trans hl839)) x842 (r833.mono hl839) (by omega) (by omega)).mono ?_))
      rintro e w846 ⟨B843, hl844, C845, rfl⟩
      refine ⟨_, rfl, ?_⟩
      refine T_nil (TT_done ?_)
      exact Ws (J208 _ _ (hl835.trans (hl839.trans hl844)) C845) ⟨rfl, rfl, rfl, rfl, rfl, rfl, rfl, trivial⟩
     refine As C288 r686 r805 fun a847 c848 w853 B850 hl851 r849 C852 => ?_
     refine Nt rfl (An C852 (hb812.mono hl851) fun x854 => ?_)
     refine Nt rfl (Cw g_aumbry_gf_Field_Inv ((ginv_w C852 (hg53.mono (hl56.trans (hl63.trans (hl70.trans (hl76.trans (hl137.trans (hl150.trans (hl188.trans (hl201.trans hl851))))))))) x854).mono ?_))
     rintro e w858 ⟨B855, hl856, C857, x859, rfl⟩
     refine ⟨_, rfl, ?_⟩
     refine Nt rfl (Cw g_aumbry_matrix_scale ((scale_w C857 (hf289.mono (hl851.trans hl856)) x859 (r849.mono hl856) (by omega) (by omega)).mono ?_))
     rintro e w863 ⟨B860, hl861, C862, rfl⟩
     refine ⟨_, rfl, ?_⟩
     refine T_nil (TT_done ?_)
     exact Ws (J208 _ _ (hl851.trans (hl856.trans hl861)) C862) ⟨rfl, rfl, rfl, rfl, rfl, rfl, rfl, trivial⟩
    refine As C288 r686 r805 fun a864 c865 w870 B867 hl868 r866 C869 => ?_
    refine Nt rfl (Ap C869 (hr298.mono hl868) fun a871 c872 r873 => ?_)
    refine Nt rfl (Ao r873 fun b874 o875 q876 hb877 hq878 => ?_)
    refine Nt rfl (An C869 hb877 fun x879 => ?_)
    refine Nt rfl (Cw g_aumbry_gf_Field_Inv ((ginv_w C869 (hg53.mono (hl56.trans (hl63.trans (hl70.trans (hl76.trans (hl137.trans (hl150.trans (hl188.trans (hl201.trans hl868))))))))) x879).mono ?_))
    rintro e w883 ⟨B880, hl881, C882, x884, rfl⟩
    refine ⟨_, rfl, ?_⟩
    refine Nt rfl (Cw g_aumbry_matrix_scale ((scale_w C882 (hf289.mono (hl868.trans hl881)) x884 (r866.mono hl881) (by omega) (by omega)).mono ?_))
    rintro e w888 ⟨B885, hl886, C887, rfl⟩
    refine ⟨_, rfl, ?_⟩
    refine T_nil (TT_done ?_)
    exact Ws (J208 _ _ (hl868.trans (hl881.trans hl886)) C887) ⟨rfl, rfl, rfl, rfl, rfl, rfl, rfl, trivial⟩
   refine Ap C288 hr316 fun a889 c890 r891 => (T_nil ?_)
   refine TT_fork rfl rfl ?_ ?_
   ·refine Ap C288 hr298 fun a892 c893 r894 => ?_
    refine Nt rfl (Ao r894 fun b895 o896 q897 hb898 hq899 => (T_nil ?_))
    refine TT_fork rfl rfl ?_ ?_
    ·refine An C288 hb898 fun x900 => (T_nil ?_)
     refine TT_fork rfl rfl ?_ ?_
     ·refine Cw g_aumbry_gf_Field_Inv ((ginv_w C288 (hg53.mono (hl56.trans (hl63.trans (hl70.trans (hl76.trans (hl137.trans (hl150.trans (hl188.trans hl201)))))))) x900).mono ?_)
      rintro e w904 ⟨B901, hl902, C903, x905, rfl⟩
      refine ⟨_, rfl, ?_⟩
      refine Nt rfl (Ap C903 (hr307.mono hl902) fun a906 c907 r908 => ?_)
      refine Nt rfl (As C903 r908 (r891.mono hl902) fun a909 c910 w915 B912 hl913 r911 C914 => ?_)
      refine Nt rfl (Cw g_aumbry_matrix_scale ((scale_w C914 (hf289.mono (hl902.trans hl913)) x905 r911 (by omega) (by omega)).mono ?_))
      rintro e w919 ⟨B916, hl917, C918, rfl⟩
      refine ⟨_, rfl, ?_⟩
      refine T_nil (TT_done ?_)
      exact Ws (J208 _ _ (hl902.trans (hl913.trans hl917)) C918) ⟨rfl, rfl, rfl, rfl, rfl, rfl, rfl, trivial⟩
     refine Ap C288 hr307 fun a920 c921 r922 => (T_nil ?_)
     refine TT_fork rfl rfl ?_ ?_
     ·refine Cw g_aumbry_gf_Field_Inv ((ginv_w C288 (hg53.mono (hl56.trans (hl63.trans (hl70.trans (hl76.trans (hl137.trans (hl150.trans (hl188.trans hl201)))))))) x900).mono ?_)
      rintro e w926 ⟨B923, hl924, C925, x927, rfl⟩
      refine ⟨_, rfl, ?_⟩
      refine Nt rfl (As C925 (r922.mono hl924) (r891.mono hl924) fun a928 c929 w934 B931 hl932 r930 C933 => ?_)
      refine Nt rfl (Cw g_aumbry_matrix_scale ((scale_w C933 (hf289.mono (hl924.trans hl932)) x927 r930 (by omega) (by omega)).mono ?_))
      rintro e w938 ⟨B935, hl936, C937, rfl⟩
      refine ⟨_, rfl, ?_⟩
      refine T_nil (TT_done ?_)
      exact Ws (J208 _ _ (hl924.trans (hl932.trans hl936)) C937) ⟨rfl, rfl, rfl, rfl, rfl, rfl, rfl, trivial⟩
     refine As C288 r922 r891 fun a939 c940 w945 B942 hl943 r941 C944 => ?_
     refine Nt rfl (Cw g_aumbry_gf_Field_Inv ((ginv_w C944 (hg53.mono (hl56.trans (hl63.trans (hl70.trans (hl76.trans (hl137.trans (hl150.trans (hl188.trans (hl201.trans hl943))))))))) x900).mono ?_))
     rintro e w949 ⟨B946, hl947, C948, x950, rfl⟩
     refine ⟨_, rfl, ?_⟩
     refine Nt rfl (Cw g_aumbry_matrix_scale ((scale_w C948 (hf289.mono (hl943.trans hl947)) x950 (r941.mono hl947) (by omega) (by omega)).mono ?_))
     rintro e w954 ⟨B951, hl952, C953, rfl⟩
     refine ⟨_, rfl, ?_⟩
     refine T_nil (TT_done ?_)
     exact Ws (J208 _ _ (hl943.trans (hl947.trans hl952)) C953) ⟨rfl, rfl, rfl, rfl, rfl, rfl, rfl, trivial⟩
    refine Ap C288 hr307 fun a955 c956 r957 => (T_nil ?_)
    refine TT_fork rfl rfl ?_ ?_
    ·refine An C288 hb898 fun x958 => (T_nil ?_)
     refine TT_fork rfl rfl ?_ ?_
     ·refine Cw g_aumbry_gf_Field_Inv ((ginv_w C288 (hg53.mono (hl56.trans (hl63.trans (hl70.trans (hl76.trans (hl137.trans (hl150.trans (hl188.trans hl201)))))))) x958).mono ?_)
      rintro e w962 ⟨B959, hl960, C961, x963, rfl⟩
      refine ⟨_, rfl, ?_⟩
      refine Nt rfl (As C961 (r957.mono hl960) (r891.mono hl960) fun a964 c965 w970 B967 hl968 r966 C969 => ?_)
      refine Nt rfl (Cw g_aumbry_matrix_scale ((scale_w C969 (hf289.mono (hl960.trans hl968)) x963 r966 (by omega) (by omega)).mono ?_))
      rintro e w974 ⟨B971, hl972, C973, rfl⟩
      refine ⟨_, rfl, ?_⟩
      refine T_nil (TT_done ?_)
      exact Ws (J208 _ _ (hl960.trans (hl968.trans hl972)) C973) ⟨rfl, rfl, rfl, rfl, rfl, rfl, rfl, trivial⟩
     refine As C288 r957 r891 fun a975 c976 w981 B978 hl979 r977 C980 => ?_
     refine Nt rfl (Cw g_aumbry_gf_Field_Inv ((ginv_w C980 (hg53.mono (hl56.trans (hl63.trans (hl70.trans (hl76.trans (hl137.trans (hl150.trans (hl188.trans (hl201.trans hl979))))))))) x958).mono ?_))
     rintro e w985 ⟨B982, hl983, C984, x986, rfl⟩
     refine ⟨_, rfl, ?_⟩
     refine Nt rfl (Cw g_aumbry_matrix_scale ((scale_w C984 (hf289.mono (hl979.trans hl983)) x986 (r977.mono hl983) (by omega) (by omega)).mono ?_))
     rintro e w990 ⟨B987, hl988, C989, rfl⟩
     refine ⟨_, rfl, ?_⟩
     refine T_nil (TT_done ?_)
     exact Ws (J208 _ _ (hl979.trans (hl983.trans hl988)) C989) ⟨rfl, rfl, rfl, rfl, rfl, rfl, rfl, trivial⟩
    refine As C288 r957 r891 fun a991 c992 w997 B994 hl995 r993 C996 => ?_
    refine Nt rfl (An C996 (hb898.mono hl995) fun x998 => ?_)
    refine Nt rfl (Cw g_aumbry_gf_Field_Inv ((ginv_w C996 (hg53.mono (hl56.trans (hl63.trans (hl70.trans (hl76.trans (hl137.trans (hl150.trans (hl188.trans (hl201.trans hl995))))))))) x998).mono ?_))
    rintro e w1002 ⟨B999, hl1000, C1001, x1003, rfl⟩
    refine ⟨_, rfl, ?_⟩
    refine Nt rfl (Cw g_aumbry_matrix_scale ((scale_w C1001 (hf289.mono (hl995.trans hl1000)) x1003 (r993.mono hl1000) (by omega) (by omega)).mono ?_))
    rintro e w1007 ⟨B1004, hl1005, C1006, rfl⟩
    refine ⟨_, rfl, ?_⟩
    refine T_nil (TT_done ?_)
    exact Ws (J208 _ _ (hl995.trans (hl1000.trans hl1005)) C1006) ⟨rfl, rfl, rfl, rfl, rfl, rfl, rfl, trivial⟩
   refine Ap C288 hr307 fun a1008 c1009 r1010 => (T_nil ?_)
   refine TT_fork rfl rfl ?_ ?_
   ·refine Ap C288 hr298 fun a1011 c1012 r1013 => ?_
    refine Nt rfl (Ao r1013 fun b1014 o1015 q1016 hb1017 hq1018 => (T_nil ?_))
    refine TT_fork rfl rfl ?_ ?_
    ·refine An C288 hb1017 fun x1019 => (T_nil ?_)
     refine TT_fork rfl rfl ?_ ?_
     ·refine Cw g_aumbry_gf_Field_Inv ((ginv_w C288 (hg53.mono (hl56.trans (hl63.trans (hl70.trans (hl76.trans (hl137.trans (hl150.trans (hl188.trans hl201)))))))) x1019).mono ?_)
      rintro e w1023 ⟨B1020, hl1021, C1022, x1024, rfl⟩
      refine ⟨_, rfl, ?_⟩
      refine Nt rfl (As C1022 (r1010.mono hl1021) (r891.mono hl1021) fun a1025 c1026 w1031 B1028 hl1029 r1027 C1030 => ?_)
      refine Nt rfl (Cw g_aumbry_matrix_scale ((scale_w C1030 (hf289.mono (hl1021.trans hl1029)) x1024 r1027 (by omega) (by omega)).mono ?_))
      rintro e w1035 ⟨B1032, hl1033, C1034, rfl⟩
      refine ⟨_, rfl, ?_⟩
      refine T_nil (TT_done ?_)
      exact Ws (J208 _ _ (hl1021.trans (hl1029.trans hl1033)) C1034) ⟨rfl, rfl, rfl, rfl, rfl, rfl, rfl, trivial⟩
     refine As C288 r1010 r891 fun a1036 c1037 w1042 B1039 hl1040 r1038 C1041 => ?_
     refine Nt rfl (Cw g_aumbry_gf_Field_Inv ((ginv_w C1041 (hg53.mono (hl56.trans (hl63.trans (hl70.trans (hl76.trans (hl137.trans (hl150.trans (hl188.trans (hl201.trans hl1040))))))))) x1019).mono ?_))
     rintro e w1046 ⟨B1043, hl1044, C1045, x1047, rfl⟩
     refine ⟨_, rfl, ?_⟩
     refine Nt rfl (Cw g_aumbry_matrix_scale ((scale_w C1045 (hf289.mono (hl1040.trans hl1044)) x1047 (r1038.mono hl1044) (by omega) (by omega)).mono ?_))
     rintro e w1051 ⟨B1048, hl1049, C1050, rfl⟩
     refine ⟨_, rfl, ?_⟩
     refine T_nil (TT_done ?_)
     exact Ws (J208 _ _ (hl1040.trans (hl1044.trans hl1049)) C1050) ⟨rfl, rfl, rfl, rfl, rfl, rfl, rfl, trivial⟩
    refine As C288 r1010 r891 fun a1052 c1053 w1058 B1055 hl1056 r1054 C1057 => ?_
    refine Nt rfl (An C1057 (hb1017.mono hl1056) fun x1059 => ?_)
    refine Nt rfl (Cw g_aumbry_gf_Field_Inv ((ginv_w C1057 (hg53.mono (hl56.trans (hl63.trans (hl70.trans (hl76.trans (hl137.trans (hl150.trans (hl188.trans (hl201.trans hl1056))))))))) x1059).mono ?_))
    rintro e w1063 ⟨B1060, hl1061, C1062, x1064, rfl⟩
    refine ⟨_, rfl, ?_⟩
    refine Nt rfl (Cw g_aumbry_matrix_scale ((scale_w C1062 (hf289.mono (hl1056.trans hl1061)) x1064 (r1054.mono hl1061) (by omega) (by omega)).mono ?_))
    rintro e w1068 ⟨B1065, hl1066, C1067, rfl⟩
    refine ⟨_, rfl, ?_⟩
    refine T_nil (TT_done ?_)
    exact Ws (J208 _ _ (hl1056.trans (hl1061.trans hl1066)) C1067) ⟨rfl, rfl, rfl, rfl, rfl, rfl, rfl, trivial⟩
   refine As C288 r1010 r891 fun a1069 c1070 w1075 B1072 hl1073 r1071 C1074 => ?_
   refine Nt rfl (Ap C1074 (hr298.mono hl1073) fun a1076 c1077 r1078 => ?_)
   refine Nt rfl (Ao r1078 fun b1079 o1080 q1081 hb1082 hq1083 => ?_)
   refine Nt rfl (An C1074 hb1082 fun x1084 => ?_)
   refine Nt rfl (Cw g_aumbry_gf_Field_Inv ((ginv_w C1074 (hg53.mono (hl56.trans (hl63.trans (hl70.trans (hl76.trans (hl137.trans (hl150.trans (hl188.trans (hl201.trans hl1073))))))))) x1084).mono ?_))
   rintro e w1088 ⟨B1085, hl1086, C1087, x1089, rfl⟩
   refine ⟨_, rfl, ?_⟩
   refine Nt rfl (Cw g_aumbry_matrix_scale ((scale_w C1087 (hf289.mono (hl1073.trans hl1086)) x1089 (r1071.mono hl1086) (by omega) (by omega)).mono ?_))
   rintro e w1093 ⟨B1090, hl1091, C1092, rfl⟩
   refine ⟨_, rfl, ?_⟩
   refine T_nil (TT_done ?_)
   exact Ws (J208 _ _ (hl1073.trans (hl1086.trans hl1091)) C1092) ⟨rfl, rfl, rfl, rfl, rfl, rfl, rfl, trivial⟩
  have h81 := of_decide_eq_false h81'
  iterate 8 refine No ?_
  refine Pv (T_nil ?_)
  refine W_cond_false rfl (W_exit (W_seq (Wr ?_)))
  iterate 3 refine Pv ?_
  refine T_nil (Aa (fun h1094 => ?_) (fun h1094 => ?_))
  ·refine Wr ?_
   iterate 2 refine Pv ?_
   refine T_nil (W_ret ?_)
   refine ⟨_, ⟨_, _, rfl, rfl, ⟨_, _, rfl, rfl, rfl⟩⟩, B75, (hl24.trans (hl29.trans (hl49.trans (hl56.trans (hl63.trans (hl70.trans hl76)))))), C77, ?_⟩
   exact ⟨_, _, _, _, rfl, by omega, .inl ⟨rfl, rfl⟩⟩
  refine W_skip (W_seq (W_plan (planW Tryz.prog) rfl (by kernel_rfl) trivial ?_))
  have C1095 := C77.drew
  iterate 6 refine Pv ?_
  refine Aq (r61.mono (hl63.trans (hl70.trans hl76))) fun b1096 o1097 t1098 q1099 f1100 hb1101 hq1102 hf1103 => ?_
  have hr1104 : RwB B75 b1096 o1097 n := ⟨_, _, _, hb1101, hq1102, hf1103⟩
  refine Ap C1095 hr1104 fun a1105 c1106 r1107 => ?_
  iterate 2 refine Pv ?_
  refine Aq (r61.mono (hl63.trans (hl70.trans hl76))) fun b1108 o1109 t1110 q1111 f1112 hb1113 hq1114 hf1115 => ?_
  have hr1116 : RwB B75 b1108 o1109 n := ⟨_, _, _, hb1113, hq1114, hf1115⟩
  refine Ap C1095 hr1116 fun a1117 c1118 r1119 => ?_
  refine Aq (r61.mono (hl63.trans (hl70.trans hl76))) fun b1120 o1121 t1122 q1123 f1124 hb1125 hq1126 hf1127 => ?_
  have hr1128 : RwB B75 b1120 o1121 n := ⟨_, _, _, hb1125, hq1126, hf1127⟩
  refine T_storeWK C1095 hr1128 r1107 (fun _ => trivial) rfl rfl rfl rfl rfl rfl rfl rfl fun w1132 B1129 hl1130 C1131 => (Aq (r61.mono (hl63.trans (hl70.trans (hl76.trans hl1130)))) fun b1133 o1134 t1135 q1136 f1137 hb1138 hq1139 hf1140 => ?_)
  have hr1141 : RwB B1129 b1133 o1134 n := ⟨_, _, _, hb1138, hq1139, hf1140⟩
  refine T_storeWK C1131 hr1141 (r1119.mono hl1130) (fun _ => trivial) rfl rfl rfl rfl rfl rfl rfl rfl fun w1145 B1142 hl1143 C1144 => (T_nil (W_seq (W_plan (planW Tryz.prog) rfl (by kernel_rfl) trivial ?_)))
  have C1146 := C1144.drew
  iterate 6 refine Pv ?_
  refine Aq (r68.mono (hl70.trans (hl76.trans (hl1130.trans hl1143)))) fun b1147 o1148 t1149 q1150 f1151 hb1152 hq1153 hf1154 => ?_
  have hr1155 : RwB B1142 b1147 o1148 n := ⟨_, _, _, hb1152, hq1153, hf1154⟩
  refine Ap C1146 hr1155 fun a1156 c1157 r1158 => ?_
  iterate 2 refine Pv ?_
  refine Aq (r68.mono (hl70.trans (hl76.trans (hl1130.trans hl1143)))) fun b1159 o1160 t1161 q1162 f1163 hb1164 hq1165 hf1166 => ?_
  have hr1167 : RwB B1142 b1159 o1160 n := ⟨_, _, _, hb1164, hq1165, hf1166⟩
  refine Ap C1146 hr1167 fun a1168 c1169 r1170 => ?_
  refine Aq (r68.mono (hl70.trans (hl76.trans (hl1130.trans hl1143)))) fun b1171 o1172 t1173 q1174 f1175 hb1176 hq1177 hf1178 => ?_
  have hr1179 : RwB B1142 b1171 o1172 n := ⟨_, _, _, hb1176, hq1177, hf1178⟩
  refine T_storeWK C1146 hr1179 r1158 (fun _ => trivial) rfl rfl rfl rfl rfl rfl rfl rfl fun w1183 B1180 hl1181 C1182 => (Aq (r68.mono (hl70.trans (hl76.trans (hl1130.trans (hl1143.trans hl1181))))) fun b1184 o1185 t1186 q1187 f1188 hb1189 hq1190 hf1191 => ?_)
  have hr1192 : RwB B1180 b1184 o1185 n := ⟨_, _, _, hb1189, hq1190, hf1191⟩
  refine T_storeWK C1182 hr1192 (r1170.mono hl1181) (fun _ => trivial) rfl rfl rfl rfl rfl rfl rfl rfl fun w1196 B1193 hl1194 C1195 => (T_nil (W_seq (W_join (W := W) (H := H) (Bc := B1193) [(4, .pointer (some ⟨b52, 0, none⟩)), (5, .int .i64 ((n : Nat) : Int)), (6, .slice a59 n c60), (7, .slice a66 n c67), (8, .int .i64 (k : Int)), (32, .int .i64 ((n : Nat) : Int)), (33, .int .i64 (k : Int))] (fun w1200 B1197 hl1198 C1199 => ?_) (fun J1201 => ?_))))
  ·refine Wr ?_
   iterate 2 refine Pv ?_
   refine T_nil (W_block ?_)
   refine W_loop (fun M ρ w' => ∃ (r : Nat) (B1202 : Bp), M = n - r ∧ r ≤ n ∧ ρ = [(4, .pointer (some ⟨b52, 0, none⟩)), (5, .int .i64 ((n : Nat) : Int)), (6, .slice a59 n c60), (7, .slice a66 n c67), (8, .int .i64 (k : Int)), (32, .int .i64 ((n : Nat) : Int)), (33, .int .i64 (k : Int)), (104, .int .i64 ((n : Nat) : Int)), (105, .int .i64 (r : Int))] ∧ B1197.le B1202 ∧ Wk W H B1202 w')
    (n - 0) [(4, .pointer (some ⟨b52, 0, none⟩)), (5, .int .i64 ((n : Nat) : Int)), (6, .slice a59 n c60), (7, .slice a66 n c67), (8, .int .i64 (k : Int)), (32, .int .i64 ((n : Nat) : Int)), (33, .int .i64 (k : Int)), (104, .int .i64 ((n : Nat) : Int)), (105, .int .i64 ((0 : Nat) : Int))] ⟨rfl, ciI, rfl, rfl, ciI, ciI, ciI, ciI, ciI, trivial⟩ ⟨0, B1197, rfl, (by exact Nat.zero_le _), rfl, Bp.le.refl _, C1199⟩ ?_
   rintro M ρ w1205 ⟨r, B1202, rfl, hp1206, rfl, hl1203, C1204⟩
   refine Wr (Pv (T_nil (W_seq ?_)))
   refine Aa (fun h1207 => ?_) (fun h1207 => ?_)
   ·refine W_skip (W_seq (W_block (Wr ?_)))
    iterate 2 refine Pv ?_
    refine Nr ?_
    iterate 3 refine Pv ?_
    refine T_nil (W_cond_not rfl (fun h1208 => ?_) (fun h1208 => ?_))
    ·refine W_plan (planW Tryz.prog) rfl (by kernel_rfl) trivial ?_
     have C1209 := C1204.drew
     refine Pv ?_
     refine T_makeF rfl rfl rfl rfl rfl rfl ?_
     have hf1210 : FnB Tryz.prog W H B1202 (.func (.func 142) #[.pointer (some ⟨b52, 0, none⟩)] #[]) ABB := ⟨_, [.pointer (some ⟨b52, 0, none⟩)], [], rfl, g_aumbry_gf_Field_Mul, fun B1 w1 hl C1 args hA => by obtain ⟨x, y, rfl⟩ := hA; exact gmul_w C1 ((hg53.mono (hl56.trans (hl63.trans (hl70.trans (hl76.trans (hl1130.trans (hl1143.trans (hl1181.trans (hl1194.trans (hl1198.trans hl1203)))))))))).mono hl) x y⟩
     iterate 2 refine Pv ?_
     refine Aq (r61.mono (hl63.trans (hl70.trans (hl76.trans (hl1130.trans (hl1143.trans (hl1181.trans (hl1194.trans (hl1198.trans hl1203))))))))) fun b1211 o1212 t1213 q1214 f1215 hb1216 hq1217 hf1218 => ?_
     have hr1219 : RwB B1202 b1211 o1212 n := ⟨_, _, _, hb1216, hq1217, hf1218⟩
     refine Ap C1209 hr1219 fun a1220 c1221 r1222 => ?_
     refine Pv ?_
     refine Ao r1222 fun b1223 o1224 q1225 hb1226 hq1227 => ?_
     refine An C1209 hb1226 fun x1228 => ?_
     iterate 2 refine Pv ?_
     refine Aq (r61.mono (hl63.trans (hl70.trans (hl76.trans (hl1130.trans (hl1143.trans (hl1181.trans (hl1194.trans (hl1198.trans hl1203))))))))) fun b1229 o1230 t1231 q1232 f1233 hb1234 hq1235 hf1236 => ?_
     have hr1237 : RwB B1202 b1229 o1230 n := ⟨_, _, _, hb1234, hq1235, hf1236⟩
     refine Ap C1209 hr1237 fun a1238 c1239 r1240 => ?_
     iterate 2 refine Pv ?_
     refine Aq (r61.mono (hl63.trans (hl70.trans (hl76.trans (hl1130.trans (hl1143.trans (hl1181.trans (hl1194.trans (hl1198.trans hl1203))))))))) fun b1241 o1242 t1243 q1244 f1245 hb1246 hq1247 hf1248 => ?_
     have hr1249 : RwB B1202 b1241 o1242 n := ⟨_, _, _, hb1246, hq1247, hf1248⟩
     refine Ap C1209 hr1249 fun a1250 c1251 r1252 => ?_
     iterate 2 refine Pv ?_
     refine Aq (r68.mono (hl70.trans (hl76.trans (hl1130.trans (hl1143.trans (hl1181.trans (hl1194.trans (hl1198.trans hl1203)))))))) fun b1253 o1254 t1255 q1256 f1257 hb1258 hq1259 hf1260 => ?_
     have hr1261 : RwB B1202 b1253 o1254 n := ⟨_, _, _, hb1258, hq1259, hf1260⟩
     refine Ap C1209 hr1261 fun a1262 c1263 r1264 => ?_
     iterate 2 refine Pv ?_
     refine Aq (r68.mono (hl70.trans (hl76.trans (hl1130.trans (hl1143.trans (hl1181.trans (hl1194.trans (hl1198.trans hl1203)))))))) fun b1265 o1266 t1267 q1268 f1269 hb1270 hq1271 hf1272 => ?_
     have hr1273 : RwB B1202 b1265 o1266 n := ⟨_, _, _, hb1270, hq1271, hf1272⟩
     refine Ap C1209 hr1273 fun a1274 c1275 r1276 => ?_
     refine Cw g_aumbry_matrix_take ((take_w C1209 hf1210 x1228 r1240 r1252 r1264 r1276 (by omega)).mono ?_)
     rintro e w1280 ⟨B1277, hl1278, C1279, rfl⟩
     refine ⟨_, rfl, ?_⟩
     refine T_nil (W_region (Ar ?_))
     refine Pv (T_nil ?_)
     exact ⟨n - (r + 1), [(4, .pointer (some ⟨b52, 0, none⟩)), (5, .int .i64 ((n : Nat) : Int)), (6, .slice a59 n c60), (7, .slice a66 n c67), (8, .int .i64 (k : Int)), (32, .int .i64 ((n : Nat) : Int)), (33, .int .i64 (k : Int)), (104, .int .i64 ((n : Nat) : Int)), (105, .int .i64 ((r + 1 : Nat) : Int))], by omega, ⟨rfl, ciI, rfl, rfl, ciI, ciI, ciI, ciI, ciI, trivial⟩, r + 1, B1277, rfl, (by omega), rfl, (hl1203.trans hl1278), C1279⟩
    refine W_skip (W_region (Ar ?_))
    refine Pv (T_nil ?_)
    exact ⟨n - (r + 1), [(4, .pointer (some ⟨b52, 0, none⟩)), (5, .int .i64 ((n : Nat) : Int)), (6, .slice a59 n c60), (7, .slice a66 n c67), (8, .int .i64 (k : Int)), (32, .int .i64 ((n : Nat) : Int)), (33, .int .i64 (k : Int)), (104, .int .i64 ((n : Nat) : Int)), (105, .int .i64 ((r + 1 : Nat) : Int))], by omega, ⟨rfl, ciI, rfl, rfl, ciI, ciI, ciI, ciI, ciI, trivial⟩, r + 1, B1202, rfl, (by omega), rfl, hl1203, C1204⟩
   refine W_exit (W_region (Ar ?_))
   refine Pv (T_nil ?_)
   exact ⟨n - (k + 1), [(4, .pointer (some ⟨b52, 0, none⟩)), (5, .int .i64 ((n : Nat) : Int)), (6, .slice a59 n c60), (7, .slice a66 n c67), (32, .int .i64 ((n : Nat) : Int)), (33, .int .i64 ((k + 1 : Nat) : Int))], by omega, ⟨rfl, ciI, rfl, rfl, ciI, ciI, trivial⟩, k + 1, B1202, rfl, (by omega), rfl, (hl70.trans (hl76.trans (hl1130.trans (hl1143.trans (hl1181.trans (hl1194.trans (hl1198.trans hl1203))))))), C1204⟩
  refine W_tree (planW Tryz.prog) (.step 0 (.step 1 (.step 2 (.step 3 (.step 4 (.step 5 (.step 7 (.step 11 (.step 12 (.step 13 (.step 15 (.step 16 (.step 17 (.fork3 6 14 18 (.step 8 (.fork3 9 14 18 (.fork3 10 14 18 (.step 14 (.step 18 (.step 19 (.step 20 .done)))) (.fork 10 18 (.step 18 (.step 19 (.step 20 .done))) (.fork 10 19 (.step 19 (.step 20 .done)) (.step 10 (.step 20 .done)))) (.fork 10 14 (.step 14 (.step 19 (.step 20 .done))) (.fork 10 19 (.step 19 (.step 20 .done)) (.step 10 (.step 20 .done))))) (.fork 9 18 (.fork 10 18 (.step 18 (.step 19 (.step 20 .done))) (.fork 10 19 (.step 19 (.step 20 .done)) (.step 10 (.step 20 .done)))) (.fork 9 19 (.fork 10 19 (.step 19 (.step 20 .done)) (.step 10 (.step 20 .done))) (.step 9 (.step 10 (.step 20 .done))))) (.fork 9 14 (.fork 10 14 (.step 14 (.step 19 (.step 20 .done))) (.fork 10 19 (.step 19 (.step 20 .done)) (.step 10 (.step 20 .done)))) (.fork 9 19 (.fork 10 19 (.step 19 (.step 20 .done)) (.step 10 (.step 20 .done))) (.step 9 (.step 10 (.step 20 .done))))))) (.fork 6 18 (.step 8 (.fork 9 18 (.fork 10 18 (.step 18 (.step 19 (.step 20 .done))) (.fork 10 19 (.step 19 (.step 20 .done)) (.step 10 (.step 20 .done)))) (.fork 9 19 (.fork 10 19 (.step 19 (.step 20 .done)) (.step 10 (.step 20 .done))) (.step 9 (.step 10 (.step 20 .done)))))) (.fork 6 19 (.step 8 (.fork 9 19 (.fork 10 19 (.step 19 (.step 20 .done)) (.step 10 (.step 20 .done))) (.step 9 (.step 10 (.step 20 .done))))) (.step 6 (.step 8 (.step 9 (.step 10 (.step 20 .done))))))) (.fork 6 14 (.step 8 (.fork 9 14 (.fork 10 14 (.step 14 (.step 19 (.step 20 .done))) (.fork 10 19 (.step 19 (.step 20 .done)) (.step 10 (.step 20 .done)))) (.fork 9 19 (.fork 10 19 (.step 19 (.step 20 .done)) (.step 10 (.step 20 .done))) (.step 9 (.step 10 (.step 20 .done)))))) (.fork 6 19 (.step 8 (.fork 9 19 (.fork 10 19 (.step 19 (.step 20 .done)) (.step 10 (.step 20 .done))) (.step 9 (.step 10 (.step 20 .done))))) (.step 6 (.step 8 (.step 9 (.step 10 (.step 20 .done))))))))))))))))))))) rfl (by kernel_rfl) trivial ?_
  have C1281 := C1195.drew
  refine TT_step rfl (Pv ?_)
  refine Nt rfl (T_makeF rfl rfl rfl rfl rfl rfl ?_)
  have hf1282 : FnB Tryz.prog W H B1193 (.func (.func 142) #[.pointer (some ⟨b52, 0, none⟩)] #[]) ABB := ⟨_, [.pointer (some ⟨b52, 0, none⟩)], [], rfl, g_aumbry_gf_Field_Mul, fun B1 w1 hl C1 args hA => by obtain ⟨x, y, rfl⟩ := hA; exact gmul_w C1 ((hg53.mono (hl56.trans (hl63.trans (hl70.trans (hl76.trans (hl1130.trans (hl1143.trans (hl1181.trans hl1194)))))))).mono hl) x y⟩
  iterate 3 (refine T_nil ?_; refine TT_step rfl ?_; refine Pv ?_)
  refine Nt rfl (Aq (r61.mono (hl63.trans (hl70.trans (hl76.trans (hl1130.trans (hl1143.trans (hl1181.trans hl1194))))))) fun b1283 o1284 t1285 q1286 f1287 hb1288 hq1289 hf1290 => ?_)
  have hr1291 : RwB B1193 b1283 o1284 n := ⟨_, _, _, hb1288, hq1289, hf1290⟩
  iterate 3 (refine T_nil ?_; refine TT_step rfl ?_; refine Pv ?_)
  refine Nt rfl (Aq (r61.mono (hl63.trans (hl70.trans (hl76.trans (hl1130.trans (hl1143.trans (hl1181.trans hl1194))))))) fun b1292 o1293 t1294 q1295 f1296 hb1297 hq1298 hf1299 => ?_)
  have hr1300 : RwB B1193 b1292 o1293 n := ⟨_, _, _, hb1297, hq1298, hf1299⟩
  iterate 2 (refine T_nil ?_; refine TT_step rfl ?_; refine Pv ?_)
  refine Nt rfl (Aq (r68.mono (hl70.trans (hl76.trans (hl1130.trans (hl1143.trans (hl1181.trans hl1194)))))) fun b1301 o1302 t1303 q1304 f1305 hb1306 hq1307 hf1308 => ?_)
  have hr1309 : RwB B1193 b1301 o1302 n := ⟨_, _, _, hb1306, hq1307, hf1308⟩
  refine T_nil (TT_fork3 rfl rfl rfl ?_ ?_ ?_)
  ·refine Ap C1281 hr1291 fun a1310 c1311 r1312 => ?_
   refine Nt rfl (Ao r1312 fun b1313 o1314 q1315 hb1316 hq1317 => (T_nil ?_))
   refine TT_fork3 rfl rfl rfl ?_ ?_ ?_
   ·refine An C1281 hb1316 fun x1318 => (T_nil ?_)
    refine TT_fork3 rfl rfl rfl ?_ ?_ ?_
    ·refine Cw g_aumbry_gf_Field_Inv ((ginv_w C1281 (hg53.mono (hl56.trans (hl63.trans (hl70.trans (hl76.trans (hl1130.trans (hl1143.trans (hl1181.trans hl1194)))))))) x1318).mono ?_)
     rintro e w1322 ⟨B1319, hl1320, C1321, x1323, rfl⟩
     refine ⟨_, rfl, ?_⟩
     refine Nt rfl (Ap C1321 (hr1300.mono hl1320) fun a1324 c1325 r1326 => ?_)
     refine Nt rfl (Ap C1321 (hr1309.mono hl1320) fun a1327 c1328 r1329 => ?_)
     refine Nt rfl (As C1321 r1326 r1329 fun a1330 c1331 w1336 B1333 hl1334 r1332 C1335 => ?_)
     refine Nt rfl (Cw g_aumbry_matrix_scale ((scale_w C1335 (hf1282.mono (hl1320.trans hl1334)) x1323 r1332 (by omega) (by omega)).mono ?_))
     rintro e w1340 ⟨B1337, hl1338, C1339, rfl⟩
     refine ⟨_, rfl, ?_⟩
     refine T_nil (TT_done ?_)
     exact Ws (J1201 _ _ (hl1320.trans (hl1334.trans hl1338)) C1339) ⟨rfl, rfl, rfl, rfl, rfl, rfl, rfl, trivial⟩
    ·refine Ap C1281 hr1300 fun a1341 c1342 r1343 => (T_nil ?_)
     refine TT_fork rfl rfl ?_ ?_
     ·refine Cw g_aumbry_gf_Field_Inv ((ginv_w C1281 (hg53.mono (hl56.trans (hl63.trans (hl70.trans (hl76.trans (hl1130.trans (hl1143.trans (hl1181.trans hl1194)))))))) x1318).mono ?_)
      rintro e w1347 ⟨B1344, hl1345, C1346, x1348, rfl⟩
      refine ⟨_, rfl, ?_⟩
      refine Nt rfl (Ap C1346 (hr1309.mono hl1345) fun a1349 c1350 r1351 => ?_)
      refine Nt rfl (As C1346 (r1343.mono hl1345) r1351 fun a1352 c1353 w1358 B1355 hl1356 r1354 C1357 => ?_)
      refine Nt rfl (Cw g_aumbry_matrix_scale ((scale_w C1357 (hf1282.mono (hl1345.trans hl1356)) x1348 r1354 (by omega) (by omega)).mono ?_))
      rintro e w1362 ⟨B1359, hl1360, C1361, rfl⟩
      refine ⟨_, rfl, ?_⟩
      refine T_nil (TT_done ?_)
      exact Ws (J1201 _ _ (hl1345.trans (hl1356.trans hl1360)) C1361) ⟨rfl, rfl, rfl, rfl, rfl, rfl, rfl, trivial⟩
     refine Ap C1281 hr1309 fun a1363 c1364 r1365 => (T_nil ?_)
     refine TT_fork rfl rfl ?_ ?_
     ·refine Cw g_aumbry_gf_Field_Inv ((ginv_w C1281 (hg53.mono (hl56.trans (hl63.trans (hl70.trans (hl76.trans (hl1130.trans (hl1143.trans (hl1181.trans hl1194)))))))) x1318).mono ?_)
      rintro e w1369 ⟨B1366, hl1367, C1368, x1370, rfl⟩
      refine ⟨_, rfl, ?_⟩
      refine Nt rfl (As C1368 (r1343.mono hl1367) (r1365.mono hl1367) fun a1371 c1372 w1377 B1374 hl1375 r1373 C1376 => ?_)
      refine Nt rfl (Cw g_aumbry_matrix_scale ((scale_w C1376 (hf1282.mono (hl1367.trans hl1375)) x1370 r1373 (by omega) (by omega)).mono ?_))
      rintro e w1381 ⟨B1378, hl1379, C1380, rfl⟩
      refine ⟨_, rfl, ?_⟩
      refine T_nil (TT_done ?_)
      exact Ws (J1201 _ _ (hl1367.trans (hl1375.trans hl1379)) C1380) ⟨rfl, rfl, rfl, rfl, rfl, rfl, rfl, trivial⟩
     refine As C1281 r1343 r1365 fun a1382 c1383 w1388 B1385 hl1386 r1384 C1387 => ?_
     refine Nt rfl (Cw g_aumbry_gf_Field_Inv ((ginv_w C1387 (hg53.mono (hl56.trans (hl63.trans (hl70.trans (hl76.trans (hl1130.trans (hl1143.trans (hl1181.trans (hl1194.trans hl1386))))))))) x1318).mono ?_))
     rintro e w1392 ⟨B1389, hl1390, C1391, x1393, rfl⟩
     refine ⟨_, rfl, ?_⟩
     refine Nt rfl (Cw g_aumbry_matrix_scale ((scale_w C1391 (hf1282.mono (hl1386.trans hl1390)) x1393 (r1384.mono hl1390) (by omega) (by omega)).mono ?_))
     rintro e w1397 ⟨B1394, hl1395, C1396, rfl⟩
     refine ⟨_, rfl, ?_⟩
     refine T_nil (TT_done ?_)
     exact Ws (J1201 _ _ (hl1386.trans (hl1390.trans hl1395)) C1396) ⟨rfl, rfl, rfl, rfl, rfl, rfl, rfl, trivial⟩
    refine Ap C1281 hr1309 fun a1398 c1399 r1400 => (T_nil ?_)
    refine TT_fork rfl rfl ?_ ?_
    ·refine Cw g_aumbry_gf_Field_Inv ((ginv_w C1281 (hg53.mono (hl56.trans (hl63.trans (hl70.trans (hl76.trans (hl1130.trans (hl1143.trans (hl1181.trans hl1194)))))))) x1318).mono ?_)
     rintro e w1404 ⟨B1401, hl1402, C1403, x1405, rfl⟩
     refine ⟨_, rfl, ?_⟩
     refine Nt rfl (Ap C1403 (hr1300.mono hl1402) fun a1406 c1407 r1408 => ?_)
     refine Nt rfl (As C1403 r1408 (r1400.mono hl1402) fun a1409 c1410 w1415 B1412 hl1413 r1411 C1414 => ?_)
     refine Nt rfl (Cw g_aumbry_matrix_scale ((scale_w C1414 (hf1282.mono (hl1402.trans hl1413)) x1405 r1411 (by omega) (by omega)).mono ?_))
     rintro e w1419 ⟨B1416, hl1417, C1418, rfl⟩
     refine ⟨_, rfl, ?_⟩
     refine T_nil (TT_done ?_)
     exact Ws (J1201 _ _ (hl1402.trans (hl1413.trans hl1417)) C1418) ⟨rfl, rfl, rfl, rfl, rfl, rfl, rfl, trivial⟩
    refine Ap C1281 hr1300 fun a1420 c1421 r1422 => (T_nil ?_)
    refine TT_fork rfl rfl ?_ ?_
    ·refine Cw g_aumbry_gf_Field_Inv ((ginv_w C1281 (hg53.mono (hl56.trans (hl63.trans (hl70.trans (hl76.trans (hl1130.trans (hl1143.trans (hl1181.trans hl1194)))))))) x1318).mono ?_)
     rintro e w1426 ⟨B1423, hl1424, C1425, x1427, rfl⟩
     refine ⟨_, rfl, ?_⟩
     refine Nt rfl (As C1425 (r1422.mono hl1424) (r1400.mono hl1424) fun a1428 c1429 w1434 B1431 hl1432 r1430 C1433 => ?_)
     refine Nt rfl (Cw g_aumbry_matrix_scale ((scale_w C1433 (hf1282.mono (hl1424.trans hl1432)) x1427 r1430 (by omega) (by omega)).mono ?_))
     rintro e w1438 ⟨B1435, hl1436, C1437, rfl⟩
     refine ⟨_, rfl, ?_⟩
     refine T_nil (TT_done ?_)
     exact Ws (J1201 _ _ (hl1424.trans (hl1432.trans hl1436)) C1437) ⟨rfl, rfl, rfl, rfl, rfl, rfl, rfl, trivial⟩
    refine As C1281 r1422 r1400 fun a1439 c1440 w1445 B1442 hl1443 r1441 C1444 => ?_
    refine Nt rfl (Cw g_aumbry_gf_Field_Inv ((ginv_w C1444 (hg53.mono (hl56.trans (hl63.trans (hl70.trans (hl76.trans (hl1130.trans (hl1143.trans (hl1181.trans (hl1194.trans hl1443))))))))) x1318).mono ?_))
    rintro e w1449 ⟨B1446, hl1447, C1448, x1450, rfl⟩
    refine ⟨_, rfl, ?_⟩
    refine Nt rfl (Cw g_aumbry_matrix_scale ((scale_w C1448 (hf1282.mono (hl1443.trans hl1447)) x1450 (r1441.mono hl1447) (by omega) (by omega)).mono ?_))
    rintro e w1454 ⟨B1451, hl1452, C1453, rfl⟩
    refine ⟨_, rfl, ?_⟩
    refine T_nil (TT_done ?_)
    exact Ws (J1201 _ _ (hl1443.trans (hl1447.trans hl1452)) C1453) ⟨rfl, rfl, rfl, rfl, rfl, rfl, rfl, trivial⟩
   ·refine Ap C1281 hr1300 fun a1455 c1456 r1457 => (T_nil ?_)
    refine TT_fork rfl rfl ?_ ?_
    ·refine An C1281 hb1316 fun x1458 => (T_nil ?_)
     refine TT_fork rfl rfl ?_ ?_
     ·refine Cw g_aumbry_gf_Field_Inv ((ginv_w C1281 (hg53.mono (hl56.trans (hl63.trans (hl70.trans (hl76.trans (hl1130.trans (hl1143.trans (hl1181.trans hl1194)))))))) x1458).mono ?_)
      rintro e w1462 ⟨B1459, hl1460, C1461, x1463, rfl⟩
      refine ⟨_, rfl, ?_⟩
      refine Nt rfl (Ap C1461 (hr1309.mono hl1460) fun a1464 c1465 r1466 => ?_)
      refine Nt rfl (As C1461 (r1457.mono hl1460) r1466 fun a1467 c1468 w1473 B1470 hl1471 r1469 C1472 => ?_)
      refine Nt rfl (Cw g_aumbry_matrix_scale ((scale_w C1472 (hf1282.mono (hl1460.trans hl1471)) x1463 r1469 (by omega) (by omega)).mono ?_))
      rintro e w1477 ⟨B1474, hl1475, C1476, rfl⟩
      refine ⟨_, rfl, ?_⟩
      refine T_nil (TT_done ?_)
      exact Ws (J1201 _ _ (hl1460.trans (hl1471.trans hl1475)) C1476) ⟨rfl, rfl, rfl, rfl, rfl, rfl, rfl, trivial⟩
     refine Ap C1281 hr1309 fun a1478 c1479 r1480 => (T_nil ?_)
     refine TT_fork rfl rfl ?_ ?_
     ·refine Cw g_aumbry_gf_Field_Inv ((ginv_w C1281 (hg53.mono (hl56.trans (hl63.trans (hl70.trans (hl76.trans (hl1130.trans (hl1143.trans (hl1181.trans hl1194)))))))) x1458).mono ?_)
      rintro e w1484 ⟨B1481, hl1482, C1483, x1485, rfl⟩
      refine ⟨_, rfl, ?_⟩
      refine Nt rfl (As C1483 (r1457.mono hl1482) (r1480.mono hl1482) fun a1486 c1487 w1492 B1489 hl1490 r1488 C1491 => ?_)
      refine Nt rfl (Cw g_aumbry_matrix_scale ((scale_w C1491 (hf1282.mono (hl1482.trans hl1490)) x1485 r1488 (by omega) (by omega)).mono ?_))
      rintro e w1496 ⟨B1493, hl1494, C1495, rfl⟩
      refine ⟨_, rfl, ?_⟩
      refine T_nil (TT_done ?_)
      exact Ws (J1201 _ _ (hl1482.trans (hl1490.trans hl1494)) C1495) ⟨rfl, rfl, rfl, rfl, rfl, rfl, rfl, trivial⟩
     refine As C1281 r1457 r1480 fun a1497 c1498 w1503 B1500 hl1501 r1499 C1502 => ?_
     refine Nt rfl (Cw g_aumbry_gf_Field_Inv ((ginv_w C1502 (hg53.mono (hl56.trans (hl63.trans (hl70.trans (hl76.trans (hl1130.trans (hl1143.trans (hl1181.trans (hl1194.trans hl1501))))))))) x1458).mono ?_))
     rintro e w1507 ⟨B1504, hl1505, C1506, x1508, rfl⟩
     refine ⟨_, rfl, ?_⟩
     refine Nt rfl (Cw g_aumbry_matrix_scale ((scale_w C1506 (hf1282.mono (hl1501.trans hl1505)) x1508 (r1499.mono hl1505) (by omega) (by omega)).mono ?_))
     rintro e w1512 ⟨B1509, hl1510, C1511, rfl⟩
     refine ⟨_, rfl, ?_⟩
     refine T_nil (TT_done ?_)
     exact Ws (J1201 _ _ (hl1501.trans (hl1505.trans hl1510)) C1511) ⟨rfl, rfl, rfl, rfl, rfl, rfl, rfl, trivial⟩
    refine Ap C1281 hr1309 fun a1513 c1514 r1515 => (T_nil ?_)
    refine TT_fork rfl rfl ?_ ?_
    ·refine An C1281 hb1316 fun x1516 => (T_nil ?_)
     refine TT_fork rfl rfl ?_ ?_
     ·refine Cw g_aumbry_gf_Field_Inv ((ginv_w C1281 (hg53.mono (hl56.trans (hl63.trans (hl70.trans (hl76.trans (hl1130.trans (hl1143.trans (hl1181.trans hl1194)))))))) x1516).mono ?_)
      rintro e w1520 ⟨B1517, hl1518, C1519, x1521, rfl⟩
      refine ⟨_, rfl, ?_⟩
      refine Nt rfl (As C1519 (r1457.mono hl1518) (r1515.mono hl1518) fun a1522 c1523 w1528 B1525 hl1526 r1524 C1527 => ?_)
      refine Nt rfl (Cw g_aumbry_matrix_scale ((scale_w C1527 (hf1282.mono (hl1518.trans hl1526)) x1521 r1524 (by omega) (by omega)).mono ?_))
      rintro e w1532 ⟨B1529, hl1530, C1531, rfl⟩
      refine ⟨_, rfl, ?_⟩
      refine T_nil (TT_done ?_)
      exact Ws (J1201 _ _ (hl1518.trans (hl1526.trans hl1530)) C1531) ⟨rfl, rfl, rfl, rfl, rfl, rfl, rfl, trivial⟩
     refine As C1281 r1457 r1515 fun a1533 c1534 w1539 B1536 hl1537 r1535 C1538 => ?_
     refine Nt rfl (Cw g_aumbry_gf_Field_Inv ((ginv_w C1538 (hg53.mono (hl56.trans (hl63.trans (hl70.trans (hl76.trans (hl1130.trans (hl1143.trans (hl1181.trans (hl1194.trans hl1537))))))))) x1516).mono ?_))
     rintro e w1543 ⟨B1540, hl1541, C1542, x1544, rfl⟩
     refine ⟨_, rfl, ?_⟩
     refine Nt rfl (Cw g_aumbry_matrix_scale ((scale_w C1542 (hf1282.mono (hl1537.trans hl1541)) x1544 (r1535.mono hl1541) (by omega) (by omega)).mono ?_))
     rintro e w1548 ⟨B1545, hl1546, C1547, rfl⟩
     refine ⟨_, rfl, ?_⟩
     refine T_nil (TT_done ?_)
     exact Ws (J1201 _ _ (hl1537.trans (hl1541.trans hl1546)) C1547) ⟨rfl, rfl, rfl, rfl, rfl, rfl, rfl, trivial⟩
    refine As C1281 r1457 r1515 fun a1549 c1550 w1555 B1552 hl1553 r1551 C1554 => ?_
    refine Nt rfl (An C1554 (hb1316.mono hl1553) fun x1556 => ?_)
    refine Nt rfl (Cw g_aumbry_gf_Field_Inv ((ginv_w C1554 (hg53.mono (hl56.trans (hl63.trans (hl70.trans (hl76.trans (hl1130.trans (hl1143.trans (hl1181.trans (hl1194.trans hl1553))))))))) x1556).mono ?_))
    rintro e w1560 ⟨B1557, hl1558, C1559, x1561, rfl⟩
    refine ⟨_, rfl, ?_⟩
    refine Nt rfl (Cw g_aumbry_matrix_scale ((scale_w C1559 (hf1282.mono (hl1553.trans hl1558)) x1561 (r1551.mono hl1558) (by omega) (by omega)).mono ?_))
    rintro e w1565 ⟨B1562, hl1563, C1564, rfl⟩
    refine ⟨_, rfl, ?_⟩
    refine T_nil (TT_done ?_)
    exact Ws (J1201 _ _ (hl1553.trans (hl1558.trans hl1563)) C1564) ⟨rfl, rfl, rfl, rfl, rfl, rfl, rfl, trivial⟩
   refine Ap C1281 hr1309 fun a1566 c1567 r1568 => (T_nil ?_)
   refine TT_fork rfl rfl ?_ ?_
   ·refine An C1281 hb1316 fun x1569 => (T_nil ?_)
    refine TT_fork rfl rfl ?_ ?_
    ·refine Cw g_aumbry_gf_Field_Inv ((ginv_w C1281 (hg53.mono (hl56.trans (hl63.trans (hl70.trans (hl76.trans (hl1130.trans (hl1143.trans (hl1181.trans hl1194)))))))) x1569).mono ?_)
     rintro e w1573 ⟨B1570, hl1571, C1572, x1574, rfl⟩
     refine ⟨_, rfl, ?_⟩
     refine Nt rfl (Ap C1572 (hr1300.mono hl1571) fun a1575 c1576 r1577 => ?_)
     refine Nt rfl (As C1572 r1577 (r1568.mono hl1571) fun a1578 c1579 w1584 B1581 hl1582 r1580 C1583 => ?_)
     refine Nt rfl (Cw g_aumbry_matrix_scale ((scale_w C1583 (hf1282.mono (hl1571.trans hl1582)) x1574 r1580 (by omega) (by omega)).mono ?_))
     rintro e w1588 ⟨B1585, hl1586, C1587, rfl⟩
     refine ⟨_, rfl, ?_⟩
     refine T_nil (TT_done ?_)
     exact Ws (J1201 _ _ (hl1571.trans (hl1582.trans hl1586)) C1587) ⟨rfl, rfl, rfl, rfl, rfl, rfl, rfl, trivial⟩
    refine Ap C1281 hr1300 fun a1589 c1590 r1591 => (T_nil ?_)
    refine TT_fork rfl rfl ?_ ?_
    ·refine Cw g_aumbry_gf_Field_Inv ((ginv_w C1281 (hg53.mono (hl56.trans (hl63.trans (hl70.trans (hl76.trans (hl1130.trans (hl1143.trans (hl1181.trans hl1194)))))))) x1569).mono ?_)
     rintro e w1595 ⟨B1592, hl1593, C1594, x1596, rfl⟩
     refine ⟨_, rfl, ?_⟩
     refine Nt rfl (As C1594 (r1591.mono hl1593) (r1568.mono hl1593) fun a1597 c1598 w1603 B1600 hl1601 r1599 C1602 => ?_)
     refine Nt rfl (Cw g_aumbry_matrix_scale ((scale_w C1602 (hf1282.mono (hl1593.trans hl1601)) x1596 r1599 (by omega) (by omega)).mono ?_))
     rintro e w1607 ⟨B1604, hl1605, C1606, rfl⟩
     refine ⟨_, rfl, ?_⟩
     refine T_nil (TT_done ?_)
     exact Ws (J1201 _ _ (hl1593.trans (hl1601.trans hl1605)) C1606) ⟨rfl, rfl, rfl, rfl, rfl, rfl, rfl, trivial⟩
    refine As C1281 r1591 r1568 fun a1608 c1609 w1614 B1611 hl1612 r1610 C1613 => ?_
    refine Nt rfl (Cw g_aumbry_gf_Field_Inv ((ginv_w C1613 (hg53.mono (hl56.trans (hl63.trans (hl70.trans (hl76.trans (hl1130.trans (hl1143.trans (hl1181.trans (hl1194.trans hl1612))))))))) x1569).mono ?_))
    rintro e w1618 ⟨B1615, hl1616, C1617, x1619, rfl⟩
    refine ⟨_, rfl, ?_⟩
    refine Nt rfl (Cw g_aumbry_matrix_scale ((scale_w C1617 (hf1282.mono (hl1612.trans hl1616)) x1619 (r1610.mono hl1616) (by omega) (by omega)).mono ?_))
    rintro e w1623 ⟨B1620, hl1621, C1622, rfl⟩
    refine ⟨_, rfl, ?_⟩
    refine T_nil (TT_done ?_)
    exact Ws (J1201 _ _ (hl1612.trans (hl1616.trans hl1621)) C1622) ⟨rfl, rfl, rfl, rfl, rfl, rfl, rfl, trivial⟩
   refine Ap C1281 hr1300 fun a1624 c1625 r1626 => (T_nil ?_)
   refine TT_fork rfl rfl ?_ ?_
   ·refine An C1281 hb1316 fun x1627 => (T_nil ?_)
    refine TT_fork rfl rfl ?_ ?_
    ·refine Cw g_aumbry_gf_Field_Inv ((ginv_w C1281 (hg53.mono (hl56.trans (hl63.trans (hl70.trans (hl76.trans (hl1130.trans (hl1143.trans (hl1181.trans hl1194)))))))) x1627).mono ?_)
     rintro e w1631 ⟨B1628, hl1629, C1630, x1632, rfl⟩
     refine ⟨_, rfl, ?_⟩
     refine Nt rfl (As C1630 (r1626.mono hl1629) (r1568.mono hl1629) fun a1633 c1634 w1639 B1636 hl1637 r1635 C1638 => ?_)
     refine Nt rfl (Cw g_aumbry_matrix_scale ((scale_w C1638 (hf1282.mono (hl1629.trans hl1637)) x1632 r1635 (by omega) (by omega)).mono ?_))
     rintro e w1643 ⟨B1640, hl1641, C1642, rfl⟩
     refine ⟨_, rfl, ?_⟩
     refine T_nil (TT_done ?_)
     exact Ws (J1201 _ _ (hl1629.trans (hl1637.trans hl1641)) C1642) ⟨rfl, rfl, rfl, rfl, rfl, rfl, rfl, trivial⟩
    refine As C1281 r1626 r1568 fun a1644 c1645 w1650 B1647 hl1648 r1646 C1649 => ?_
    refine Nt rfl (Cw g_aumbry_gf_Field_Inv ((ginv_w C1649 (hg53.mono (hl56.trans (hl63.trans (hl70.trans (hl76.trans (hl1130.trans (hl1143.trans (hl1181.trans (hl1194.trans hl1648))))))))) x1627).mono ?_))
    rintro e w1654 ⟨B1651, hl1652, C1653, x1655, rfl⟩
    refine ⟨_, rfl, ?_⟩
    refine Nt rfl (Cw g_aumbry_matrix_scale ((scale_w C1653 (hf1282.mono (hl1648.trans hl1652)) x1655 (r1646.mono hl1652) (by omega) (by omega)).mono ?_))
    rintro e w1659 ⟨B1656, hl1657, C1658, rfl⟩
    refine ⟨_, rfl, ?_⟩
    refine T_nil (TT_done ?_)
    exact Ws (J1201 _ _ (hl1648.trans (hl1652.trans hl1657)) C1658) ⟨rfl, rfl, rfl, rfl, rfl, rfl, rfl, trivial⟩
   refine As C1281 r1626 r1568 fun a1660 c1661 w1666 B1663 hl1664 r1662 C1665 => ?_
   refine Nt rfl (An C1665 (hb1316.mono hl1664) fun x1667 => ?_)
   refine Nt rfl (Cw g_aumbry_gf_Field_Inv ((ginv_w C1665 (hg53.mono (hl56.trans (hl63.trans (hl70.trans (hl76.trans (hl1130.trans (hl1143.trans (hl1181.trans (hl1194.trans hl1664))))))))) x1667).mono ?_))
   rintro e w1671 ⟨B1668, hl1669, C1670, x1672, rfl⟩
   refine ⟨_, rfl, ?_⟩
   refine Nt rfl (Cw g_aumbry_matrix_scale ((scale_w C1670 (hf1282.mono (hl1664.trans hl1669)) x1672 (r1662.mono hl1669) (by omega) (by omega)).mono ?_))
   rintro e w1676 ⟨B1673, hl1674, C1675, rfl⟩
   refine ⟨_, rfl, ?_⟩
   refine T_nil (TT_done ?_)
   exact Ws (J1201 _ _ (hl1664.trans (hl1669.trans hl1674)) C1675) ⟨rfl, rfl, rfl, rfl, rfl, rfl, rfl, trivial⟩
  ·refine Ap C1281 hr1300 fun a1677 c1678 r1679 => (T_nil ?_)
   refine TT_fork rfl rfl ?_ ?_
   ·refine Ap C1281 hr1291 fun a1680 c1681 r1682 => ?_
    refine Nt rfl (Ao r1682 fun b1683 o1684 q1685 hb1686 hq1687 => (T_nil ?_))
    refine TT_fork rfl rfl ?_ ?_
    ·refine An C1281 hb1686 fun x1688 => (T_nil ?_)
     refine TT_fork rfl rfl ?_ ?_
     ·refine Cw g_aumbry_gf_Field_Inv ((ginv_w C1281 (hg53.mono (hl56.trans (hl63.trans (hl70.trans (hl76.trans (hl1130.trans (hl1143.trans (hl1181.trans hl1194)))))))) x1688).mono ?_)
      rintro e w1692 ⟨B1689, hl1690, C1691, x1693, rfl⟩
      refine ⟨_, rfl, ?_⟩
      refine Nt rfl (Ap C1691 (hr1309.mono hl1690) fun a1694 c1695 r1696 => ?_)
      refine Nt rfl (As C1691 (r1679.mono hl1690) r1696 fun a1697 c1698 w1703 B1700 hl1701 r1699 C1702 => ?_)
      refine Nt rfl (Cw g_aumbry_matrix_scale ((scale_w C1702 (hf1282.mono (hl1690.trans hl1701)) x1693 r1699 (by omega) (by omega)).mono ?_))
      rintro e w1707 ⟨B1704, hl1705, C1706, rfl⟩
      refine ⟨_, rfl, ?_⟩
      refine T_nil (TT_done ?_)
      exact Ws (J1201 _ _ (hl1690.trans (hl1701.trans hl1705)) C1706) ⟨rfl, rfl, rfl, rfl, rfl, rfl, rfl, trivial⟩
     refine Ap C1281 hr1309 fun a1708 c1709 r1710 => (T_nil ?_)
     refine TT_fork rfl rfl ?_ ?_
     ·refine Cw g_aumbry_gf_Field_Inv ((ginv_w C1281 (hg53.mono (hl56.trans (hl63.trans (hl70.trans (hl76.trans (hl1130.trans (hl1143.trans (hl1181.trans hl1194)))))))) x1688).mono ?_)
      rintro e w1714 ⟨B1711, hl1712, C1713, x1715, rfl⟩
      refine ⟨_, rfl, ?_⟩
      refine Nt rfl (As C1713 (r1679.mono hl1712) (r1710.mono hl1712) fun a1716 c1717 w1722 B1719 hl1720 r1718 C1721 => ?_)
      refine Nt rfl (Cw g_aumbry_matrix_scale ((scale_w C1721 (hf1282.mono (hl1712.trans hl1720)) x1715 r1718 (by omega) (by omega)).mono ?_))
      rintro e w1726 ⟨B1723, hl1724, C1725, rfl⟩
      refine ⟨_, rfl, ?_⟩
      refine T_nil (TT_done ?_)
      exact Ws (J1201 _ _ (hl1712.trans (hl1720.trans hl1724)) C1725) ⟨rfl, rfl, rfl, rfl, rfl, rfl, rfl, trivial⟩
     refine As C1281 r1679 r1710 fun a1727 c1728 w1733 B1730 hl1731 r1729 C1732 => ?_
     refine Nt rfl (Cw g_aumbry_gf_Field_Inv ((ginv_w C1732 (hg53.mono (hl56.trans (hl63.trans (hl70.trans (hl76.trans (hl1130.trans (hl1143.trans (hl1181.trans (hl1194.trans hl1731))))))))) x1688).mono ?_))
     rintro e w1737 ⟨B1734, hl1735, C1736, x1738, rfl⟩
     refine ⟨_, rfl, ?_⟩
     refine Nt rfl (Cw g_aumbry_matrix_scale ((scale_w C1736 (hf1282.mono (hl1731.trans hl1735)) x1738 (r1729.mono hl1735) (by omega) (by omega)).mono ?_))
     rintro e w1742 ⟨B1739, hl1740, C1741, rfl⟩
     refine ⟨_, rfl, ?_⟩
     refine T_nil (TT_done ?_)
     exact Ws (J1201 _ _ (hl1731.trans (hl1735.trans hl1740)) C1741) ⟨rfl, rfl, rfl, rfl, rfl, rfl, rfl, trivial⟩
    refine Ap C1281 hr1309 fun a1743 c1744 r1745 => (T_nil ?_)
    refine TT_fork rfl rfl ?_ ?_
    ·refine An C1281 hb1686 fun x1746 => (T_nil ?_)
     refine TT_fork rfl rfl ?_ ?_
     ·refine Cw g_aumbry_gf_Field_Inv ((ginv_w C1281 (hg53.mono (hl56.trans (hl63.trans (hl70.trans (hl76.trans (hl1130.trans (hl1143.trans (hl1181.trans hl1194)))))))) x1746).mono ?_)
      rintro e w1750 ⟨B1747, hl1748, C1749, x1751, rfl⟩
      refine ⟨_, rfl, ?_⟩
      refine Nt rfl (As C1749 (r1679.mono hl1748) (r1745.mono hl1748) fun a1752 c1753 w1758 B1755 hl1756 r1754 C1757 => ?_)
      refine Nt rfl (Cw g_aumbry_matrix_scale ((scale_w C1757 (hf1282.mono (hl1748.trans hl1756)) x1751 r1754 (by omega) (by omega)).mono ?_))
      rintro e w1762 ⟨B1759, hl1760, C1761, rfl⟩
      refine ⟨_, rfl, ?_⟩
      refine T_nil (TT_done ?_)
      exact Ws (J1201 _ _ (hl1748.trans (hl1756.trans hl1760)) C1761) ⟨rfl, rfl, rfl, rfl, rfl, rfl, rfl, trivial⟩
     refine As C1281 r1679 r1745 fun a1763 c1764 w1769 B1766 hl1767 r1765 C1768 => ?_
     refine Nt rfl (Cw g_aumbry_gf_Field_Inv ((ginv_w C1768 (hg53.mono (hl56.trans (hl63.trans (hl70.trans (hl76.trans (hl1130.trans (hl1143.trans (hl1181.trans (hl1194.trans hl1767))))))))) x1746).mono ?_))
     rintro e w1773 ⟨B1770, hl1771, C1772, x1774, rfl⟩
     refine ⟨_, rfl, ?_⟩
     refine Nt rfl (Cw g_aumbry_matrix_scale ((scale_w C1772 (hf1282.mono (hl1767.trans hl1771)) x1774 (r1765.mono hl1771) (by omega) (by omega)).mono ?_))
     rintro e w1778 ⟨B1775, hl1776, C1777, rfl⟩
     refine ⟨_, rfl, ?_⟩
     refine T_nil (TT_done ?_)
     exact Ws (J1201 _ _ (hl1767.trans (hl1771.trans hl1776)) C1777) ⟨rfl, rfl, rfl, rfl, rfl, rfl, rfl, trivial⟩
    refine As C1281 r1679 r1745 fun a1779 c1780 w1785 B1782 hl1783 r1781 C1784 => ?_
    refine Nt rfl (An C1784 (hb1686.mono hl1783) fun x1786 => ?_)
    refine Nt rfl (Cw g_aumbry_gf_Field_Inv ((ginv_w C1784 (hg53.mono (hl56.trans (hl63.trans (hl70.trans (hl76.trans (hl1130.trans (hl1143.trans (hl1181.trans (hl1194.trans hl1783))))))))) x1786).mono ?_))
    rintro e w1790 ⟨B1787, hl1788, C1789, x1791, rfl⟩
    refine ⟨_, rfl, ?_⟩
    refine Nt rfl (Cw g_aumbry_matrix_scale ((scale_w C1789 (hf1282.mono (hl1783.trans hl1788)) x1791 (r1781.mono hl1788) (by omega) (by omega)).mono ?_))
    rintro e w1795 ⟨B1792, hl1793, C1794, rfl⟩
    refine ⟨_, rfl, ?_⟩
    refine T_nil (TT_done ?_)
    exact Ws (J1201 _ _ (hl1783.trans (hl1788.trans hl1793)) C1794) ⟨rfl, rfl, rfl, rfl, rfl, rfl, rfl, trivial⟩
   refine Ap C1281 hr1309 fun a1796 c1797 r1798 => (T_nil ?_)
   refine TT_fork rfl rfl ?_ ?_
   ·refine Ap C1281 hr1291 fun a1799 c1800 r1801 => ?_
    refine Nt rfl (Ao r1801 fun b1802 o1803 q1804 hb1805 hq1806 => (T_nil ?_))
    refine TT_fork rfl rfl ?_ ?_
    ·refine An C1281 hb1805 fun x1807 => (T_nil ?_)
     refine TT_fork rfl rfl ?_ ?_
     ·refine Cw g_aumbry_gf_Field_Inv ((ginv_w C1281 (hg53.mono (hl56.trans (hl63.trans (hl70.trans (hl76.trans (hl1130.trans (hl1143.trans (hl1181.trans hl1194)))))))) x1807).mono ?_)
      rintro e w1811 ⟨B1808, hl1809, C1810, x1812, rfl⟩
      refine ⟨_, rfl, ?_⟩
      refine Nt rfl (As C1810 (r1679.mono hl1809) (r1798.mono hl1809) fun a1813 c1814 w1819 B1816 hl1817 r1815 C1818 => ?_)
      refine Nt rfl (Cw g_aumbry_matrix_scale ((scale_w C1818 (hf1282.mono (hl1809.trans hl1817)) x1812 r1815 (by omega) (by omega)).mono ?_))
      rintro e w1823 ⟨B1820, hl1821, C1822, rfl⟩
      refine ⟨_, rfl, ?_⟩
      refine T_nil (TT_done ?_)
      exact Ws (J1201 _ _ (hl1809.trans (hl1817.trans hl1821)) C1822) ⟨rfl, rfl, rfl, rfl, rfl, rfl, rfl, trivial⟩
     refine As C1281 r1679 r1798 fun a1824 c1825 w1830 B1827 hl1828 r1826 C1829 => ?_
     refine Nt rfl (Cw g_aumbry_gf_Field_Inv ((ginv_w C1829 (hg53.mono (hl56.trans (hl63.trans (hl70.trans (hl76.trans (hl1130.trans (hl1143.trans (hl1181.trans (hl1194.trans hl1828))))))))) x1807).mono ?_))
     rintro e w1834 ⟨B1831, hl1832, C1833, x1835, rfl⟩
     refine ⟨_, rfl, ?_⟩
     refine Nt rfl (Cw g_aumbry_matrix_scale ((scale_w C1833 (hf1282.mono (hl1828.trans hl1832)) x1835 (r1826.mono hl1832) (by omega) (by omega)).mono ?_))
     rintro e w1839 ⟨B1836, hl1837, C1838, rfl⟩
     refine ⟨_, rfl, ?_⟩
     refine T_nil (TT_done ?_)
     exact Ws (J1201 _ _ (hl1828.trans (hl1832.trans hl1837)) C1838) ⟨rfl, rfl, rfl, rfl, rfl, rfl, rfl, trivial⟩
    refine As C1281 r1679 r1798 fun a1840 c1841 w1846 B1843 hl1844 r1842 C1845 => ?_
    refine Nt rfl (An C1845 (hb1805.mono hl1844) fun x1847 => ?_)
    refine Nt rfl (Cw g_aumbry_gf_Field_Inv ((ginv_w C1845 (hg53.mono (hl56.trans (hl63.trans (hl70.trans (hl76.trans (hl1130.trans (hl1143.trans (hl1181.trans (hl1194.trans hl1844))))))))) x1847).mono ?_))
    rintro e w1851 ⟨B1848, hl1849, C1850, x1852, rfl⟩
    refine ⟨_, rfl, ?_⟩
    refine Nt rfl (Cw g_aumbry_matrix_scale ((scale_w C1850 (hf1282.mono (hl1844.trans hl1849)) x1852 (r1842.mono hl1849) (by omega) (by omega)).mono ?_))
    rintro e w1856 ⟨B1853, hl1854, C1855, rfl⟩
    refine ⟨_, rfl, ?_⟩
    refine T_nil (TT_done ?_)
    exact Ws (J1201 _ _ (hl1844.trans (hl1849.trans hl1854)) C1855) ⟨rfl, rfl, rfl, rfl, rfl, rfl, rfl, trivial⟩
   refine As C1281 r1679 r1798 fun a1857 c1858 w1863 B1860 hl1861 r1859 C1862 => ?_
   refine Nt rfl (Ap C1862 (hr1291.mono hl1861) fun a1864 c1865 r1866 => ?_)
   refine Nt rfl (Ao r1866 fun b1867 o1868 q1869 hb1870 hq1871 => ?_)
   refine Nt rfl (An C1862 hb1870 fun x1872 => ?_)
   refine Nt rfl (Cw g_aumbry_gf_Field_Inv ((ginv_w C1862 (hg53.mono (hl56.trans (hl63.trans (hl70.trans (hl76.trans (hl1130.trans (hl1143.trans (hl1181.trans (hl1194.trans hl1861))))))))) x1872).mono ?_))
   rintro e w1876 ⟨B1873, hl1874, C1875, x1877, rfl⟩
   refine ⟨_, rfl, ?_⟩
   refine Nt rfl (Cw g_aumbry_matrix_scale ((scale_w C1875 (hf1282.mono (hl1861.trans hl1874)) x1877 (r1859.mono hl1874) (by omega) (by omega)).mono ?_))
   rintro e w1881 ⟨B1878, hl1879, C1880, rfl⟩
   refine ⟨_, rfl, ?_⟩
   refine T_nil (TT_done ?_)
   exact Ws (J1201 _ _ (hl1861.trans (hl1874.trans hl1879)) C1880) ⟨rfl, rfl, rfl, rfl, rfl, rfl, rfl, trivial⟩
  refine Ap C1281 hr1309 fun a1882 c1883 r1884 => (T_nil ?_)
  refine TT_fork rfl rfl ?_ ?_
  ·refine Ap C1281 hr1291 fun a1885 c1886 r1887 => ?_
   refine Nt rfl (Ao r1887 fun b1888 o1889 q1890 hb1891 hq1892 => (T_nil ?_))
   refine TT_fork rfl rfl ?_ ?_
   ·refine An C1281 hb1891 fun x1893 => (T_nil ?_)
    refine TT_fork rfl rfl ?_ ?_
    ·refine Cw g_aumbry_gf_Field_Inv ((ginv_w C1281 (hg53.mono (hl56.trans (hl63.trans (hl70.trans (hl76.trans (hl1130.trans (hl1143.trans (hl1181.trans hl1194)))))))) x1893).mono ?_)
     rintro e w1897 ⟨B1894, hl1895, C1896, x1898, rfl⟩
     refine ⟨_, rfl, ?_⟩
     refine Nt rfl (Ap C1896 (hr1300.mono hl1895) fun a1899 c1900 r1901 => ?_)
     refine Nt rfl (As C1896 r1901 (r1884.mono hl1895) fun a1902 c1903 w1908 B1905 hl1906 r1904 C1907 => ?_)
     refine Nt rfl (Cw g_aumbry_matrix_scale ((scale_w C1907 (hf1282.mono (hl1895.trans hl1906)) x1898 r1904 (by omega) (by omega)).mono ?_))
     rintro e w1912 ⟨B1909, hl1910, C1911, rfl⟩
     refine ⟨_, rfl, ?_⟩
     refine T_nil (TT_done ?_)
     exact Ws (J1201 _ _ (hl1895.trans (hl1906.trans hl1910)) C1911) ⟨rfl, rfl, rfl, rfl, rfl, rfl, rfl, trivial⟩
    refine Ap C1281 hr1300 fun a1913 c1914 r1915 => (T_nil ?_)
    refine TT_fork rfl rfl ?_ ?_
    ·refine Cw g_aumbry_gf_Field_Inv ((ginv_w C1281 (hg53.mono (hl56.trans (hl63.trans (hl70.trans (hl76.trans (hl1130.trans (hl1143.trans (hl1181.trans hl1194)))))))) x1893).mono ?_)
     rintro e w1919 ⟨B1916, hl1917, C1918, x1920, rfl⟩
     refine ⟨_, rfl, ?_⟩
     refine Nt rfl (As C1918 (r1915.mono hl1917) (r1884.mono hl1917) fun a1921 c1922 w1927 B1924 hl1925 r1923 C1926 => ?_)
     refine Nt rfl (Cw g_aumbry_matrix_scale ((scale_w C1926 (hf1282.mono (hl1917.trans hl1925)) x1920 r1923 (by omega) (by omega)).mono ?_))
     rintro e w1931 ⟨B1928, hl1929, C1930, rfl⟩
     refine ⟨_, rfl, ?_⟩
     refine T_nil (TT_done ?_)
     exact Ws (J1201 _ _ (hl1917.trans (hl1925.trans hl1929)) C1930) ⟨rfl, rfl, rfl, rfl, rfl, rfl, rfl, trivial⟩
    refine As C1281 r1915 r1884 fun a1932 c1933 w1938 B1935 hl1936 r1934 C1937 => ?_
    refine Nt rfl (Cw g_aumbry_gf_Field_Inv ((ginv_w C1937 (hg53.mono (hl56.trans (hl63.trans (hl70.trans (hl76.trans (hl1130.trans (hl1143.trans (hl1181.trans (hl1194.trans hl1936))))))))) x1893).mono ?_))
    rintro e w1942 ⟨B1939, hl1940, C1941, x1943, rfl⟩
    refine ⟨_, rfl, ?_⟩
    refine Nt rfl (Cw g_aumbry_matrix_scale ((scale_w C1941 (hf1282.mono (hl1936.trans hl1940)) x1943 (r1934.mono hl1940) (by omega) (by omega)).mono ?_))
    rintro e w1947 ⟨B1944, hl1945, C1946, rfl⟩
    refine ⟨_, rfl, ?_⟩
    refine T_nil (TT_done ?_)
    exact Ws (J1201 _ _ (hl1936.trans (hl1940.trans hl1945)) C1946) ⟨rfl, rfl, rfl, rfl, rfl, rfl, rfl, trivial⟩
   refine Ap C1281 hr1300 fun a1948 c1949 r1950 => (T_nil ?_)
   refine TT_fork rfl rfl ?_ ?_
   ·refine An C1281 hb1891 fun x1951 => (T_nil ?_)
    refine TT_fork rfl rfl ?_ ?_
    ·refine Cw g_aumbry_gf_Field_Inv ((ginv_w C1281 (hg53.mono (hl56.trans (hl63.trans (hl70.trans (hl76.trans (hl1130.trans (hl1143.trans (hl1181.trans hl1194)))))))) x1951).mono ?_)
     rintro e w1955 ⟨B1952, hl1953, C1954, x1956, rfl⟩
     refine ⟨_, rfl, ?_⟩
     refine Nt rfl (As C1954 (r1950.mono hl1953) (r1884.mono hl1953) fun a1957 c1958 w1963 B1960 hl1961 r1959 C1962 => ?_)
     refine Nt rfl (Cw g_aumbry_matrix_scale ((scale_w C1962 (hf1282.mono (hl1953.trans hl1961)) x1956 r1959 (by omega) (by omega)).mono ?_))
     rintro e w1967 ⟨B1964, hl1965, C1966, rfl⟩
     refine ⟨_, rfl, ?_⟩
     refine T_nil (TT_done ?_)
     exact Ws (J1201 _ _ (hl1953.trans (hl1961.trans hl1965)) C1966) ⟨rfl, rfl, rfl, rfl, rfl, rfl, rfl, trivial⟩
    refine As C1281 r1950 r1884 fun a1968 c1969 w1974 B1971 hl1972 r1970 C1973 => ?_
    refine Nt rfl (Cw g_aumbry_gf_Field_Inv ((ginv_w C1973 (hg53.mono (hl56.trans (hl63.trans (hl70.trans (hl76.trans (hl1130.trans (hl1143.trans (hl1181.trans (hl1194.trans hl1972))))))))) x1951).mono ?_))
    rintro e w1978 ⟨B1975, hl1976, C1977, x1979, rfl⟩
    refine ⟨_, rfl, ?_⟩
    refine Nt rfl (Cw g_aumbry_matrix_scale ((scale_w C1977 (hf1282.mono (hl1972.trans hl1976)) x1979 (r1970.mono hl1976) (by omega) (by omega)).mono ?_))
    rintro e w1983 ⟨B1980, hl1981, C1982, rfl⟩
    refine ⟨_, rfl, ?_⟩
    refine T_nil (TT_done ?_)
    exact Ws (J1201 _ _ (hl1972.trans (hl1976.trans hl1981)) C1982) ⟨rfl, rfl, rfl, rfl, rfl, rfl, rfl, trivial⟩
   refine As C1281 r1950 r1884 fun a1984 c1985 w1990 B1987 hl1988 r1986 C1989 => ?_
   refine Nt rfl (An C1989 (hb1891.mono hl1988) fun x1991 => ?_)
   refine Nt rfl (Cw g_aumbry_gf_Field_Inv ((ginv_w C1989 (hg53.mono (hl56.trans (hl63.trans (hl70.trans (hl76.trans (hl1130.trans (hl1143.trans (hl1181.trans (hl1194.trans hl1988))))))))) x1991).mono ?_))
   rintro e w1995 ⟨B1992, hl1993, C1994, x1996, rfl⟩
   refine ⟨_, rfl, ?_⟩
   refine Nt rfl (Cw g_aumbry_matrix_scale ((scale_w C1994 (hf1282.mono (hl1988.trans hl1993)) x1996 (r1986.mono hl1993) (by omega) (by omega)).mono ?_))
   rintro e w2000 ⟨B1997, hl1998, C1999, rfl⟩
   refine ⟨_, rfl, ?_⟩
   refine T_nil (TT_done ?_)
   exact Ws (J1201 _ _ (hl1988.trans (hl1993.trans hl1998)) C1999) ⟨rfl, rfl, rfl, rfl, rfl, rfl, rfl, trivial⟩
  refine Ap C1281 hr1300 fun a2001 c2002 r2003 => (T_nil ?_)
  refine TT_fork rfl rfl ?_ ?_
  ·refine Ap C1281 hr1291 fun a2004 c2005 r2006 => ?_
   refine Nt rfl (Ao r2006 fun b2007 o2008 q2009 hb2010 hq2011 => (T_nil ?_))
   refine TT_fork rfl rfl ?_ ?_
   ·refine An C1281 hb2010 fun x2012 => (T_nil ?_)
    refine TT_fork rfl rfl ?_ ?_
    ·refine Cw g_aumbry_gf_Field_Inv ((ginv_w C1281 (hg53.mono (hl56.trans (hl63.trans (hl70.trans (hl76.trans (hl1130.trans (hl1143.trans (hl1181.trans hl1194)))))))) x2012).mono ?_)
     rintro e w2016 ⟨B2013, hl2014, C2015, x2017, rfl⟩
     refine ⟨_, rfl, ?_⟩
     refine Nt rfl (As C2015 (r2003.mono hl2014) (r1884.mono hl2014) fun a2018 c2019 w2024 B2021 hl2022 r2020 C2023 => ?_)
     refine Nt rfl (Cw g_aumbry_matrix_scale ((scale_w C2023 (hf1282.mono (hl2014.trans hl2022)) x2017 r2020 (by omega) (by omega)).mono ?_))
     rintro e w2028 ⟨B2025, hl2026, C2027, rfl⟩
     refine ⟨_, rfl, ?_⟩
     refine T_nil (TT_done ?_)
     exact Ws (J1201 _ _ (hl2014.trans (hl2022.trans hl2026)) C2027) ⟨rfl, rfl, rfl, rfl, rfl, rfl, rfl, trivial⟩
    refine As C1281 r2003 r1884 fun a2029 c2030 w2035 B2032 hl2033 r2031 C2034 => ?_
    refine Nt rfl (Cw g_aumbry_gf_Field_Inv ((ginv_w C2034 (hg53.mono (hl56.trans (hl63.trans (hl70.trans (hl76.trans (hl1130.trans (hl1143.trans (hl1181.trans (hl1194.trans hl2033))))))))) x2012).mono ?_))
    rintro e w2039 ⟨B2036, hl2037, C2038, x2040, rfl⟩
    refine ⟨_, rfl, ?_⟩
    refine Nt rfl (Cw g_aumbry_matrix_scale ((scale_w C2038 (hf1282.mono (hl2033.trans hl2037)) x2040 (r2031.mono hl2037) (by omega) (by omega)).mono ?_))
    rintro e w2044 ⟨B2041, hl2042, C2043, rfl⟩
    refine ⟨_, rfl, ?_⟩
    refine T_nil (TT_done ?_)
    exact Ws (J1201 _ _ (hl2033.trans (hl2037.trans hl2042)) C2043) ⟨rfl, rfl, rfl, rfl, rfl, rfl, rfl, trivial⟩
   refine As C1281 r2003 r1884 fun a2045 c2046 w2051 B2048 hl2049 r2047 C2050 => ?_
   refine Nt rfl (An C2050 (hb2010.mono hl2049) fun x2052 => ?_)
   refine Nt rfl (Cw g_aumbry_gf_Field_Inv ((ginv_w C2050 (hg53.mono (hl56.trans (hl63.trans (hl70.trans (hl76.trans (hl1130.trans (hl1143.trans (hl1181.trans (hl1194.trans hl2049))))))))) x2052).mono ?_))
   rintro e w2056 ⟨B2053, hl2054, C2055, x2057, rfl⟩
   refine ⟨_, rfl, ?_⟩
   refine Nt rfl (Cw g_aumbry_matrix_scale ((scale_w C2055 (hf1282.mono (hl2049.trans hl2054)) x2057 (r2047.mono hl2054) (by omega) (by omega)).mono ?_))
   rintro e w2061 ⟨B2058, hl2059, C2060, rfl⟩
   refine ⟨_, rfl, ?_⟩
   refine T_nil (TT_done ?_)
   exact Ws (J1201 _ _ (hl2049.trans (hl2054.trans hl2059)) C2060) ⟨rfl, rfl, rfl, rfl, rfl, rfl, rfl, trivial⟩
  refine As C1281 r2003 r1884 fun a2062 c2063 w2068 B2065 hl2066 r2064 C2067 => ?_
  refine Nt rfl (Ap C2067 (hr1291.mono hl2066) fun a2069 c2070 r2071 => ?_)
  refine Nt rfl (Ao r2071 fun b2072 o2073 q2074 hb2075 hq2076 => ?_)
  refine Nt rfl (An C2067 hb2075 fun x2077 => ?_)
  refine Nt rfl (Cw g_aumbry_gf_Field_Inv ((ginv_w C2067 (hg53.mono (hl56.trans (hl63.trans (hl70.trans (hl76.trans (hl1130.trans (hl1143.trans (hl1181.trans (hl1194.trans hl2066))))))))) x2077).mono ?_))
  rintro e w2081 ⟨B2078, hl2079, C2080, x2082, rfl⟩
  refine ⟨_, rfl, ?_⟩
  refine Nt rfl (Cw g_aumbry_matrix_scale ((scale_w C2080 (hf1282.mono (hl2066.trans hl2079)) x2082 (r2064.mono hl2079) (by omega) (by omega)).mono ?_))
  rintro e w2086 ⟨B2083, hl2084, C2085, rfl⟩
  refine ⟨_, rfl, ?_⟩
  refine T_nil (TT_done ?_)
  exact Ws (J1201 _ _ (hl2066.trans (hl2079.trans hl2084)) C2085) ⟨rfl, rfl, rfl, rfl, rfl, rfl, rfl, trivial⟩
 refine W_exit (Wr ?_)
 iterate 3 refine Pv ?_
 refine T_nil (W_ret ?_)
 refine ⟨_, ⟨_, _, rfl, rfl, ⟨_, _, rfl, rfl, rfl⟩⟩, B69, (hl24.trans (hl29.trans (hl49.trans (hl56.trans (hl63.trans hl70))))), C71, ?_⟩
 exact ⟨_, _, _, _, rfl, by omega, (r68.mono hl70)⟩

end Go.Proofs.YtmjmjjkigblbgaaGreatDoor
