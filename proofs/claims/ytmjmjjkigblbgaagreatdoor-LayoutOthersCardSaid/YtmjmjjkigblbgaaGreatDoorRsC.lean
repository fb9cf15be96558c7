/- Products and shares in the program: safe, and of what shape. -/
import Derived.Test.YtmjmjjkigblbgaaGreatDoorRsB
set_option linter.unusedVariables false
set_option linter.unusedSimpArgs false
set_option maxRecDepth 8192
namespace Go.Proofs.YtmjmjjkigblbgaaGreatDoor
open Go Go.F Go.RowKit

theorem mul1_w {W : World} {H : Hp} {B : Bp} {w : World} (C0 : Wk W H B w) (i j : Nat) {db : Nat} {dv : Value} (hd : VaB B db dv) (hf : FnB Tryz.prog W H B dv ASS) {ab : Nat} {a1 : Option Addr} {n m c1 : Nat} (ha : VaB B ab (.slice a1 n c1)) (h1 : RoB B (.slice a1 n c1) n m) {bb : Nat} {a2 : Option Addr} {n2 m2 c2 : Nat} (hb : VaB B bb (.slice a2 n2 c2)) (h2 : RoB B (.slice a2 n2 c2) n2 m2) (hi : i < n) (hj : j < m2) (hm : m ≤ 16) (hn2 : n2 ≤ 16) :
  Calls Tryz.prog 146 #[.int .i64 ((i : Nat) : Int), .int .i64 ((j : Nat) : Int), .pointer (some ⟨db, 0, none⟩), .pointer (some ⟨ab, 0, none⟩), .pointer (some ⟨bb, 0, none⟩)] w fun e w' => ∃ B', B.le B' ∧ Wk W H B' w' ∧ ∃ x : UInt8, e = .returned (bV x) := by
 obtain ⟨dvf, dva, dvc, rfl⟩ := hf.shape
 refine enter5 _ Tryz.func146 rfl Tryz.ntmps146 Tryz.results146 rfl (Wr (Pv (T_nil (W_seq ?_))))
 refine W_tree (planW Tryz.prog) (.step 2 (.step 5 (.step 6 (.fork3 0 1 7 (.fork 1 7 (.step 3 (.fork 4 7 (.step 7 (.step 8 (.step 9 .done))) (.step 4 (.step 8 (.step 9 .done))))) (.step 1 (.step 3 (.step 4 (.step 8 (.step 9 .done)))))) (.step 3 (.fork3 0 4 7 (.fork 4 7 (.step 7 (.step 8 (.step 9 .done))) (.step 4 (.step 8 (.step 9 .done)))) (.fork 0 7 (.step 7 (.step 8 (.step 9 .done))) (.step 0 (.step 8 (.step 9 .done)))) (.step 0 (.step 4 (.step 8 (.step 9 .done)))))) (.step 0 (.step 1 (.step 3 (.step 4 (.step 8 (.step 9 .done)))))))))) rfl (by kernel_rfl) trivial ?_
 have C21 := C0.drew
 refine TT_step rfl (Pv ?_)
 refine Nt rfl (T_loadVK C21 hb rfl rfl rfl rfl rfl rfl rfl (Nt rfl (Pv (T_nil ?_))))
 refine TT_fork3 rfl rfl rfl ?_ ?_ ?_
 ·refine T_loadVK C21 hd rfl rfl rfl rfl rfl rfl rfl (T_nil (TT_fork rfl rfl ?_ ?_))
  ·refine T_loadVK C21 ha rfl rfl rfl rfl rfl rfl rfl (Nt rfl (Aq h1 fun b22 o23 t24 q25 f26 hb27 hq28 hf29 => ?_))
   have hr30 : RwB B b22 o23 m := ⟨_, _, _, hb27, hq28, hf29⟩
   refine T_nil (TT_fork rfl rfl ?_ ?_)
   ·refine Ap C21 hr30 fun a31 c32 r33 => ?_
    refine Nt rfl (Cw g_aumbry_matrix_column ((mcol_w C21 h2 j (by omega) (by omega)).mono ?_))
    rintro e w37 ⟨B34, hl35, C36, a38, c39, rfl, r40⟩
    refine ⟨_, rfl, ?_⟩
    refine Nt rfl (T_callF C36 (hf.mono hl35) (fun _ => trivial) rfl rfl rfl ⟨_, _, _, _, (r33.mono hl35), (r40).sl, by omega, by omega, rfl⟩ rfl rfl rfl rfl fun x41 w45 B42 hl43 C44 => ?_)
    refine Nt rfl (Pv (T_nil (TT_done (W_ret ?_))))
    refine ⟨_, ⟨_, _, rfl, rfl, rfl⟩, B42, (hl35.trans hl43), C44, ?_⟩
    exact ⟨(x41 : UInt8), rfl⟩
   refine Cw g_aumbry_matrix_column ((mcol_w C21 h2 j (by omega) (by omega)).mono ?_)
   rintro e w49 ⟨B46, hl47, C48, a50, c51, rfl, r52⟩
   refine ⟨_, rfl, ?_⟩
   refine Nt rfl (Ap C48 (hr30.mono hl47) fun a53 c54 r55 => ?_)
   refine Nt rfl (T_callF C48 (hf.mono hl47) (fun _ => trivial) rfl rfl rfl ⟨_, _, _, _, r55, (r52).sl, by omega, by omega, rfl⟩ rfl rfl rfl rfl fun x56 w60 B57 hl58 C59 => ?_)
   refine Nt rfl (Pv (T_nil (TT_done (W_ret ?_))))
   refine ⟨_, ⟨_, _, rfl, rfl, rfl⟩, B57, (hl47.trans hl58), C59, ?_⟩
   exact ⟨(x56 : UInt8), rfl⟩
  refine Cw g_aumbry_matrix_column ((mcol_w C21 h2 j (by omega) (by omega)).mono ?_)
  rintro e w64 ⟨B61, hl62, C63, a65, c66, rfl, r67⟩
  refine ⟨_, rfl, ?_⟩
  refine Nt rfl (T_loadVK C63 (ha.mono hl62) rfl rfl rfl rfl rfl rfl rfl (Nt rfl (Aq (h1.mono hl62) fun b68 o69 t70 q71 f72 hb73 hq74 hf75 => ?_)))
  have hr76 : RwB B61 b68 o69 m := ⟨_, _, _, hb73, hq74, hf75⟩
  refine Nt rfl (Ap C63 hr76 fun a77 c78 r79 => ?_)
  refine Nt rfl (T_callF C63 (hf.mono hl62) (fun _ => trivial) rfl rfl rfl ⟨_, _, _, _, r79, (r67).sl, by omega, by omega, rfl⟩ rfl rfl rfl rfl fun x80 w84 B81 hl82 C83 => ?_)
  refine Nt rfl (Pv (T_nil (TT_done (W_ret ?_))))
  refine ⟨_, ⟨_, _, rfl, rfl, rfl⟩, B81, (hl62.trans hl82), C83, ?_⟩
  exact ⟨(x80 : UInt8), rfl⟩
 ·refine T_loadVK C21 ha rfl rfl rfl rfl rfl rfl rfl (Nt rfl (Aq h1 fun b85 o86 t87 q88 f89 hb90 hq91 hf92 => ?_))
  have hr93 : RwB B b85 o86 m := ⟨_, _, _, hb90, hq91, hf92⟩
  refine T_nil (TT_fork3 rfl rfl rfl ?_ ?_ ?_)
  ·refine T_loadVK C21 hd rfl rfl rfl rfl rfl rfl rfl (T_nil (TT_fork rfl rfl ?_ ?_))
   ·refine Ap C21 hr93 fun a94 c95 r96 => ?_
    refine Nt rfl (Cw g_aumbry_matrix_column ((mcol_w C21 h2 j (by omega) (by omega)).mono ?_))
    rintro e w100 ⟨B97, hl98, C99, a101, c102, rfl, r103⟩
    refine ⟨_, rfl, ?_⟩
    refine Nt rfl (T_callF C99 (hf.mono hl98) (fun _ => trivial) rfl rfl rfl ⟨_, _, _, _, (r96.mono hl98), (r103).sl, by omega, by omega, rfl⟩ rfl rfl rfl rfl fun x104 w108 B105 hl106 C107 => ?_)
    refine Nt rfl (Pv (T_nil (TT_done (W_ret ?_))))
    refine ⟨_, ⟨_, _, rfl, rfl, rfl⟩, B105, (hl98.trans hl106), C107, ?_⟩
    exact ⟨(x104 : UInt8), rfl⟩
   refine Cw g_aumbry_matrix_column ((mcol_w C21 h2 j (by omega) (by omega)).mono ?_)
   rintro e w112 ⟨B109, hl110, C111, a113, c114, rfl, r115⟩
   refine ⟨_, rfl, ?_⟩
   refine Nt rfl (Ap C111 (hr93.mono hl110) fun a116 c117 r118 => ?_)
   refine Nt rfl (T_callF C111 (hf.mono hl110) (fun _ => trivial) rfl rfl rfl ⟨_, _, _, _, r118, (r115).sl, by omega, by omega, rfl⟩ rfl rfl rfl rfl fun x119 w123 B120 hl121 C122 => ?_)
   refine Nt rfl (Pv (T_nil (TT_done (W_ret ?_))))
   refine ⟨_, ⟨_, _, rfl, rfl, rfl⟩, B120, (hl110.trans hl121), C122, ?_⟩
   exact ⟨(x119 : UInt8), rfl⟩
  ·refine Ap C21 hr93 fun a124 c125 r126 => (T_nil ?_)
   refine TT_fork rfl rfl ?_ ?_
   ·refine T_loadVK C21 hd rfl rfl rfl rfl rfl rfl rfl (Nt rfl (Cw g_aumbry_matrix_column ((mcol_w C21 h2 j (by omega) (by omega)).mono ?_)))
    rintro e w130 ⟨B127, hl128, C129, a131, c132, rfl, r133⟩
    refine ⟨_, rfl, ?_⟩
    refine Nt rfl (T_callF C129 (hf.mono hl128) (fun _ => trivial) rfl rfl rfl ⟨_, _, _, _, (r126.mono hl128), (r133).sl, by omega, by omega, rfl⟩ rfl rfl rfl rfl fun x134 w138 B135 hl136 C137 => ?_)
    refine Nt rfl (Pv (T_nil (TT_done (W_ret ?_))))
    refine ⟨_, ⟨_, _, rfl, rfl, rfl⟩, B135, (hl128.trans hl136), C137, ?_⟩
    exact ⟨(x134 : UInt8), rfl⟩
   refine Cw g_aumbry_matrix_column ((mcol_w C21 h2 j (by omega) (by omega)).mono ?_)
   rintro e w142 ⟨B139, hl140, C141, a143, c144, rfl, r145⟩
   refine ⟨_, rfl, ?_⟩
   refine Nt rfl (T_loadVK C141 (hd.mono hl140) rfl rfl rfl rfl rfl rfl rfl (Nt rfl (T_callF C141 (hf.mono hl140) (fun _ => trivial) rfl rfl rfl ⟨_, _, _, _, (r126.mono hl140), (r145).sl, by omega, by omega, rfl⟩ rfl rfl rfl rfl fun x146 w150 B147 hl148 C149 => ?_)))
   refine Nt rfl (Pv (T_nil (TT_done (W_ret ?_))))
   refine ⟨_, ⟨_, _, rfl, rfl, rfl⟩, B147, (hl140.trans hl148), C149, ?_⟩
   exact ⟨(x146 : UInt8), rfl⟩
  refine Cw g_aumbry_matrix_column ((mcol_w C21 h2 j (by omega) (by omega)).mono ?_)
  rintro e w154 ⟨B151, hl152, C153, a155, c156, rfl, r157⟩
  refine ⟨_, rfl, ?_⟩
  refine Nt rfl (T_loadVK C153 (hd.mono hl152) rfl rfl rfl rfl rfl rfl rfl (Nt rfl (Ap C153 (hr93.mono hl152) fun a158 c159 r160 => ?_)))
  refine Nt rfl (T_callF C153 (hf.mono hl152) (fun _ => trivial) rfl rfl rfl ⟨_, _, _, _, r160, (r157).sl, by omega, by omega, rfl⟩ rfl rfl rfl rfl fun x161 w165 B162 hl163 C164 => ?_)
  refine Nt rfl (Pv (T_nil (TT_done (W_ret ?_))))
  refine ⟨_, ⟨_, _, rfl, rfl, rfl⟩, B162, (hl152.trans hl163), C164, ?_⟩
  exact ⟨(x161 : UInt8), rfl⟩
 refine Cw g_aumbry_matrix_column ((mcol_w C21 h2 j (by omega) (by omega)).mono ?_)
 rintro e w169 ⟨B166, hl167, C168, a170, c171, rfl, r172⟩
 refine ⟨_, rfl, ?_⟩
 refine Nt rfl (T_loadVK C168 (hd.mono hl167) rfl rfl rfl rfl rfl rfl rfl (Nt rfl (T_loadVK C168 (ha.mono hl167) rfl rfl rfl rfl rfl rfl rfl (Nt rfl (Aq (h1.mono hl167) fun b173 o174 t175 q176 f177 hb178 hq179 hf180 => ?_)))))
 have hr181 : RwB B166 b173 o174 m := ⟨_, _, _, hb178, hq179, hf180⟩
 refine Nt rfl (Ap C168 hr181 fun a182 c183 r184 => ?_)
 refine Nt rfl (T_callF C168 (hf.mono hl167) (fun _ => trivial) rfl rfl rfl ⟨_, _, _, _, r184, (r172).sl, by omega, by omega, rfl⟩ rfl rfl rfl rfl fun x185 w189 B186 hl187 C188 => ?_)
 refine Nt rfl (Pv (T_nil (TT_done (W_ret ?_))))
 refine ⟨_, ⟨_, _, rfl, rfl, rfl⟩, B186, (hl167.trans hl187), C188, ?_⟩
 exact ⟨(x185 : UInt8), rfl⟩


theorem mmul_w {W : World} {H : Hp} {B : Bp} {w : World} (C0 : Wk W H B w) {a1 : Option Addr} {n m c1 : Nat} (h1 : RoB B (.slice a1 n c1) n m) {a2 : Option Addr} {n2 m2 c2 : Nat} (h2 : RoB B (.slice a2 n2 c2) n2 m2) (hn : n ≤ 16) (hm : m ≤ 16) (hn2 : n2 ≤ 16) (hm2 : m2 ≤ 16) :
  Calls Tryz.prog 109 #[.slice a1 n c1, .slice a2 n2 c2] w fun e w' => ∃ B', B.le B' ∧ Wk W H B' w' ∧ ∃ a n' c z, e = .returned (.tuple #[.slice a n' c, .int .i64 z]) := by
 refine enter2 _ Tryz.func109 rfl Tryz.ntmps109 Tryz.results109 rfl (Wr (T_boxK C0 (.va 35 (.slice a1 n c1)) (fun _ => trivial) rfl rfl rfl rfl rfl rfl rfl rfl fun b21 w26 B23 hl24 hb22 C25 => ?_))
 have hb22' : VaB B23 b21 (.slice a1 n c1) := ⟨_, hb22⟩
 refine T_boxK C25 (.va 35 (.slice a2 n2 c2)) (fun _ => trivial) rfl rfl rfl rfl rfl rfl rfl rfl fun b27 w32 B29 hl30 hb28 C31 => ?_
 have hb28' : VaB B29 b27 (.slice a2 n2 c2) := ⟨_, hb28⟩
 iterate 2 refine Pv ?_
 refine T_nil ?_
 iterate 2 refine W_seq ?_
 refine W_plan (planW Tryz.prog) rfl (by kernel_rfl) trivial ?_
 have C33 := C31.drew
 refine T_loadVK C33 (hb22'.mono hl30) rfl rfl rfl rfl rfl rfl rfl (Cw g_aumbry_matrix_may ((may_w C33 (h1.mono (hl24.trans hl30)) (by omega) (by omega)).mono ?_))
 rintro e w37 ⟨B34, hl35, C36, q38, rfl, hq39⟩
 refine ⟨_, rfl, ?_⟩
 iterate 2 refine Pv ?_
 refine Tp 10 (fun h40' => ?_) (fun h40' => ?_)
 ·have h40 := h40'
  iterate 3 refine No ?_
  iterate 2 refine Pv ?_
  iterate 7 refine No ?_
  refine Pv (T_nil ?_)
  refine W_cond_true rfl (Wr ?_)
  iterate 2 refine Pv ?_
  refine T_nil (W_ret ?_)
  refine ⟨_, ⟨_, _, rfl, rfl, ⟨_, _, rfl, rfl, rfl⟩⟩, B34, (hl24.trans (hl30.trans hl35)), C36, ?_⟩
  exact ⟨_, _, _, _, rfl⟩
 have h40 := h40'
 refine Ys ?_
 refine T_loadVK C36 (hb28'.mono hl35) rfl rfl rfl rfl rfl rfl rfl (Ys ?_)
 refine Cw g_aumbry_matrix_may ((may_w C36 (h2.mono (hl24.trans (hl30.trans hl35))) (by omega) (by omega)).mono ?_)
 rintro e w44 ⟨B41, hl42, C43, q45, rfl, hq46⟩
 refine ⟨_, rfl, ?_⟩
 refine Ys ?_
 iterate 3 refine Pv ?_
 refine Tp 15 (fun h47' => ?_) (fun h47' => ?_)
 ·have h47 := h47'
  iterate 7 refine No ?_
  refine Pv (T_nil ?_)
  refine W_cond_true rfl (Wr ?_)
  iterate 2 refine Pv ?_
  refine T_nil (W_ret ?_)
  refine ⟨_, ⟨_, _, rfl, rfl, ⟨_, _, rfl, rfl, rfl⟩⟩, B41, (hl24.trans (hl30.trans (hl35.trans hl42))), C43, ?_⟩
  exact ⟨_, _, _, _, rfl⟩
 have h47 := h47'
 refine Ys ?_
 have HN1 := hq39 (by simpa using h40)
 have HN2 := hq46 (by simpa using h47)
 refine T_loadVK C43 (hb22'.mono (hl30.trans (hl35.trans hl42))) rfl rfl rfl rfl rfl rfl rfl (Ys ?_)
 refine Aq (h1.mono (hl24.trans (hl30.trans (hl35.trans hl42)))) fun b48 o49 t50 q51 f52 hb53 hq54 hf55 => ?_
 have hr56 : RwB B41 b48 o49 m := ⟨_, _, _, hb53, hq54, hf55⟩
 refine Ys ?_
 refine Ap C43 hr56 fun a57 c58 r59 => ?_
 refine Ys ?_
 refine Pv ?_
 refine Ys ?_
 refine T_loadVK C43 (hb28'.mono (hl35.trans hl42)) rfl rfl rfl rfl rfl rfl rfl ?_
 iterate 2 (refine Ys ?_; refine Pv ?_)
 refine Pv (T_nil ?_)
 refine W_cond_not rfl (fun h60 => ?_) (fun h60 => ?_)
 ·refine Wr ?_
  iterate 2 refine Pv ?_
  refine T_nil (W_ret ?_)
  refine ⟨_, ⟨_, _, rfl, rfl, ⟨_, _, rfl, rfl, rfl⟩⟩, B41, (hl24.trans (hl30.trans (hl35.trans hl42))), C43, ?_⟩
  exact ⟨_, _, _, _, rfl⟩
 refine W_skip (Wr (Cw g_aumbry_gf_New ((gnew_w C43 ).mono ?_)))
 rintro e w64 ⟨B61, hl62, C63, b65, rfl, hg66⟩
 refine ⟨_, rfl, ?_⟩
 refine T_makeF rfl rfl rfl rfl rfl rfl ?_
 have hf67 : FnB Tryz.prog W H B61 (.func (.func 145) #[.pointer (some ⟨b65, 0, none⟩)] #[]) ASS := ⟨_, [.pointer (some ⟨b65, 0, none⟩)], [], rfl, g_aumbry_gf_Field_Dot, fun B1 w1 hl C1 args hA => by obtain ⟨v, u, q1, q2, s1, s2, l1, l2, rfl⟩ := hA; obtain ⟨a1, c1, rfl⟩ := s1.shape; obtain ⟨a2, c2, rfl⟩ := s2.shape; exact gdot_w C1 (hg66.mono hl) s1 s2 l1 l2⟩
 refine T_allocVK C63 (fun _ => trivial) rfl rfl rfl rfl rfl rfl rfl rfl fun b68 w73 B70 hl71 hb69 C72 => (T_storeVK C72 hb69 (fun _ => trivial) rfl rfl rfl rfl rfl rfl rfl rfl rfl rfl fun w78 B75 hl76 hv74 C77 => (T_nil (W_seq (W_plan (planW Tryz.prog) rfl (by kernel_rfl) trivial ?_))))
 have C79 := C77.drew
 refine T_loadVK C79 (hb22'.mono (hl30.trans (hl35.trans (hl42.trans (hl62.trans (hl71.trans hl76)))))) rfl rfl rfl rfl rfl rfl rfl (Pv ?_)
 refine T_loadVK C79 (hb28'.mono (hl35.trans (hl42.trans (hl62.trans (hl71.trans hl76))))) rfl rfl rfl rfl rfl rfl rfl (Aq (h2.mono (hl24.trans (hl30.trans (hl35.trans (hl42.trans (hl62.trans (hl71.trans hl76))))))) fun b80 o81 t82 q83 f84 hb85 hq86 hf87 => ?_)
 have hr88 : RwB B75 b80 o81 m2 := ⟨_, _, _, hb85, hq86, hf87⟩
 refine Ap C79 hr88 fun a89 c90 r91 => ?_
 refine Pv ?_
 refine T_makeF rfl rfl rfl rfl rfl rfl ?_
 have hf92 : FnB Tryz.prog W H B75 (.func (.func 146) #[] #[.pointer (some ⟨b68, 0, none⟩), .pointer (some ⟨b21, 0, none⟩), .pointer (some ⟨b27, 0, none⟩)]) (AIJ n m2) := ⟨_, [], [.pointer (some ⟨b68, 0, none⟩), .pointer (some ⟨b21, 0, none⟩), .pointer (some ⟨b27, 0, none⟩)], rfl, g_aumbry_matrix_Mul_1, fun B1 w1 hl C1 args hA => by obtain ⟨i, j, hi, hj, rfl⟩ := hA; exact mul1_w C1 i j (hv74.mono hl) ((hf67.mono (hl71.trans hl76)).mono hl) ((hb22'.mono (hl30.trans (hl35.trans (hl42.trans (hl62.trans (hl71.trans hl76)))))).mono hl) ((h1.mono (hl24.trans (hl30.trans (hl35.trans (hl42.trans (hl62.trans (hl71.trans hl76))))))).mono hl) ((hb28'.mono (hl35.trans (hl42.trans (hl62.trans (hl71.trans hl76))))).mono hl) ((h2.mono (hl24.trans (hl30.trans (hl35.trans (hl42.trans (hl62.trans (hl71.trans hl76))))))).mono hl) hi hj (by omega) (by omega)⟩
 refine Cw g_aumbry_matrix_made ((made_w C79 n m2 hf92 (by omega) (by omega)).mono ?_)
 rintro e w96 ⟨B93, hl94, C95, a97, c98, rfl, r99⟩
 refine ⟨_, rfl, ?_⟩
 iterate 2 refine Pv ?_
 refine T_nil (W_ret ?_)
 refine ⟨_, ⟨_, _, rfl, rfl, ⟨_, _, rfl, rfl, rfl⟩⟩, B93, (hl24.trans (hl30.trans (hl35.trans (hl42.trans (hl62.trans (hl71.trans (hl76.trans hl94))))))), C95, ?_⟩
 exact ⟨_, _, _, _, rfl⟩


theorem rsnew_w {W : World} {H : Hp} {B : Bp} {w : World} (C0 : Wk W H B w) (k n : Nat) (hk : 1 ≤ k ∧ k ≤ n) (hn : n ≤ 16) :
  Calls Tryz.prog 68 #[.int .i64 ((k : Nat) : Int), .int .i64 ((n : Nat) : Int)] w fun e w' => ∃ B', B.le B' ∧ Wk W H B' w' ∧ ∃ b v, e = .returned (.tuple #[.pointer (some ⟨b, 0, none⟩), .int .i64 0]) ∧ w'.heap[b]? = some (.cells #[.int .i64 (k : Int), .int .i64 (n : Int), v] 135 (0, 0)) ∧ W.heap.size ≤ b := by
 refine enter2 _ Tryz.func68 rfl Tryz.ntmps68 Tryz.results68 rfl (Wr ?_)
 iterate 2 refine Pv ?_
 refine T_nil (W_seq (Wr ?_))
 iterate 3 refine Pv ?_
 refine T_bool 13 false rfl (decide_eq_false (by omega)) ?_
 iterate 3 (refine Ys ?_; refine Pv ?_)
 iterate 2 refine Pv ?_
 refine T_bool 18 false rfl (decide_eq_false (by omega)) ?_
 iterate 2 (refine Ys ?_; refine Pv ?_)
 refine Pv (T_nil ?_)
 refine W_bool 21 false rfl (decide_eq_false (by omega)) ?_
 refine W_cond_false rfl (W_skip (Wr ?_))
 iterate 2 refine Pv ?_
 refine Cw g_aumbry_matrix_Vandermonde ((vand_w C0 n k (by omega) (by omega)).mono ?_)
 rintro e w24 ⟨B21, hl22, C23, a25, c26, rfl, r27⟩
 refine ⟨_, rfl, ?_⟩
 refine Pv (Nr ?_)
 iterate 2 refine Pv ?_
 refine T_sliceKR (l := 0) (h := k) r27 rfl rfl rfl rfl rfl rfl rfl rfl rfl rfl (bound_of (by omega)) rfl (by omega) (by omega) fun a28 c29 r30 => ?_
 refine Cw g_aumbry_matrix_Inverse ((inv_w C23 r30 (by omega)).mono ?_)
 rintro e w34 ⟨B31, hl32, C33, a35, n36, c37, z38, rfl, hn39, r40⟩
 refine ⟨_, rfl, ?_⟩
 iterate 5 refine Pv ?_
 refine Nr ?_
 iterate 2 refine Pv ?_
 refine Cw g_aumbry_matrix_Mul ((mmul_w C33 (r27.mono hl32) r40 (by omega) (by omega) (by omega) (by omega)).mono ?_)
 rintro e w44 ⟨B41, hl42, C43, a45, n46, c47, z48, rfl⟩
 refine ⟨_, rfl, ?_⟩
 iterate 5 refine Pv ?_
 refine Nr ?_
 iterate 3 refine Pv ?_
 refine T_buildS (cells := #[.int .i64 ((k : Nat) : Int), .int .i64 ((n : Nat) : Int), .slice a45 n46 c47]) rfl rfl rfl rfl rfl rfl rfl rfl rfl rfl (T_boxCK C43 (fun _ => trivial) rfl rfl rfl rfl rfl rfl fun b49 w54 hb50 C53 => ?_)
 iterate 2 refine Pv ?_
 refine T_nil (W_ret ?_)
 refine ⟨_, ⟨_, _, rfl, rfl, ⟨_, _, rfl, rfl, rfl⟩⟩, B41, (hl22.trans (hl32.trans hl42)), C53, ?_⟩
 exact ⟨_, _, rfl, hb50⟩

end Go.Proofs.YtmjmjjkigblbgaaGreatDoor
