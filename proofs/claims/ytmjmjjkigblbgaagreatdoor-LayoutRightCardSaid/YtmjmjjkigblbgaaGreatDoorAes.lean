/- Walks of the program's functions. -/
import Derived.Test.YtmjmjjkigblbgaaGreatDoorRefB
import Derived.Test.YtmjmjjkigblbgaaGreatDoorFDoor
import Derived.Test.YtmjmjjkigblbgaaGreatDoorTreeA
import Derived.Test.YtmjmjjkigblbgaaGreatDoorAuMade
set_option linter.unusedVariables false
set_option linter.unusedSimpArgs false
set_option maxRecDepth 8192
namespace Go.Proofs.YtmjmjjkigblbgaaGreatDoor
open Go Go.F Go.RowKit


def tw (x : UInt8) : UInt8 := if 128 ≤ x.toNat then UInt8.ofNat (2 * x.toNat % 256) ^^^ 27 else UInt8.ofNat (2 * x.toNat % 256)
theorem tw_shl (x : UInt8) : Value.int .u8 (IntKind.u8.wrap ((x.toNat : Int) * 2 ^ (min (1 : Int).toNat IntKind.u8.bits))) = bV (UInt8.ofNat (2 * x.toNat % 256)) := by
 refine congrArg (Value.int .u8) ?_
 show IntKind.u8.wrap ((x.toNat : Int) * 2) = _
 rw [IntKind.wrap_u8, UInt8.toNat_ofNat']; omega
theorem rtwice_ok {H : Hp} {w : World} (hH : H.le (hw w)) (x : UInt8) :
  Calls Tryz.prog 131 #[bV x] w fun e w' => e = .returned (bV (tw x)) ∧ w' = w := by
 have hx8 := x.toNat_lt
 refine Aa Tryz.func131 Tryz.ntmps131 Tryz.results131 ?_
 have S0 := St.start w hH
 refine Wr (Pv (T_nil (W_seq (Wr ?_))))
 refine P2 (T_nil ?_)
 refine Ab (fun h1 => ?_) (fun h1 => ?_)
 ·refine Wr (Pv ?_)
  refine T_shl rfl rfl rfl rfl rfl rfl (by omega) ?_
  refine T_re (v' := bV (UInt8.ofNat (2 * x.toNat % 256))) (tw_shl x) (Pv ?_)
  refine T_re (v' := bV (UInt8.ofNat (2 * x.toNat % 256) ^^^ 27)) (congrArg (Value.int .u8) (xorU8 _ 27)) (Pv (T_nil (W_ret ?_)))
  refine ⟨_, ⟨_, _, rfl, rfl, rfl⟩, ?_⟩
  exact ⟨by unfold tw; rw [if_pos (by omega)]; rfl, rfl⟩
 refine W_skip (Wr (Pv ?_))
 refine T_shl rfl rfl rfl rfl rfl rfl (by omega) ?_
 refine T_re (v' := bV (UInt8.ofNat (2 * x.toNat % 256))) (tw_shl x) (Pv (T_nil (W_ret ?_)))
 refine ⟨_, ⟨_, _, rfl, rfl, rfl⟩, ?_⟩
 exact ⟨by unfold tw; rw [if_neg (by omega)]; rfl, rfl⟩


theorem rtwice_w {W : World} {H : Hp} {B : Bp} {w : World} (C0 : Wk W H B w) (x : UInt8) :
  Calls Tryz.prog 131 #[bV x] w fun e w' => ∃ B', B.le B' ∧ Wk W H B' w' ∧ e = .returned (bV (tw x)) :=
 (rtwice_ok C0.le x).mono fun e w' h => ⟨B, .refl B, by rw [h.2]; exact C0, h.1⟩

theorem aboxes_w {W : World} {H : Hp} {B : Bp} {w : World} (C0 : Wk W H B w)  :
  Calls Tryz.prog 101 #[] w fun e w' => ∃ B', B.le B' ∧ Wk W H B' w' ∧ ∃ l : List UInt8, l.length = 256 ∧ e = .returned (hV l) := by
 refine enter0 _ Tryz.func101 rfl Tryz.ntmps101 Tryz.results101 (Wr (T_allocK C0 (.by 121 256) (fun _ => trivial) rfl rfl rfl rfl rfl rfl rfl rfl (Kok.list _ _ (List.replicate 256 0) List.length_replicate) fun b21 w26 B23 hl24 hb22 C25 => ?_))
 have hb22' : ByB B23 b21 256 := ⟨_, hb22⟩
 refine Nr (T_allocK C25 (.by 121 256) (fun _ => trivial) rfl rfl rfl rfl rfl rfl rfl rfl (Kok.list _ _ (List.replicate 256 0) List.length_replicate) fun b27 w32 B29 hl30 hb28 C31 => ?_)
 have hb28' : ByB B29 b27 256 := ⟨_, hb28⟩
 refine T_allocK C31 (.by 121 256) (fun _ => trivial) rfl rfl rfl rfl rfl rfl rfl rfl (Kok.list _ _ (List.replicate 256 0) List.length_replicate) fun b33 w38 B35 hl36 hb34 C37 => ?_
 have hb34' : ByB B35 b33 256 := ⟨_, hb34⟩
 refine T_allocK C37 (.by 121 256) (fun _ => trivial) rfl rfl rfl rfl rfl rfl rfl rfl (Kok.list _ _ (List.replicate 256 0) List.length_replicate) fun b39 w44 B41 hl42 hb40 C43 => ?_
 have hb40' : ByB B41 b39 256 := ⟨_, hb40⟩
 refine Nr (Pv (T_nil (W_seq (Wr ?_))))
 refine Pv (T_nil (W_block ?_))
 refine W_loop (fun M ρ w' => ∃ (k : Nat) (x49 : UInt8) (B45 : Bp), M = 255 - k ∧ k ≤ 255 ∧ ρ = [(0, .pointer (some ⟨b21, 0, none⟩)), (1, .pointer (some ⟨b27, 0, none⟩)), (2, .pointer (some ⟨b33, 0, none⟩)), (3, .pointer (some ⟨b39, 0, none⟩)), (4, bV x49), (5, .int .i64 (k : Int))] ∧ B41.le B45 ∧ Wk W H B45 w')
  (255 - 0) [(0, .pointer (some ⟨b21, 0, none⟩)), (1, .pointer (some ⟨b27, 0, none⟩)), (2, .pointer (some ⟨b33, 0, none⟩)), (3, .pointer (some ⟨b39, 0, none⟩)), (4, .int .u8 1), (5, .int .i64 ((0 : Nat) : Int))] ⟨rfl, rfl, rfl, rfl, rfl, ciI, trivial⟩ ⟨0, 1, B41, rfl, (by omega), rfl, Bp.le.refl _, C43⟩ ?_
 rintro M ρ w48 ⟨k, x49, B45, rfl, hp50, rfl, hl46, C47⟩
 refine W_seq (Wr (P2 (T_nil ?_)))
 refine Ab (fun h51 => ?_) (fun h51 => ?_)
 ·refine W_skip (W_seq (W_block (Wr ?_)))
  iterate 5 refine Pv ?_
  refine T_gen8 (wk_wrap _) fun x52 => (Ac ?_)
  refine Aq (u := x49) C47 (hb28'.mono (hl36.trans (hl42.trans hl46))) fun w53 C54 => ?_
  have hb_x49 := x49.toNat_lt
  refine Ac ?_
  refine Aq (u := x52) C54 (hb34'.mono (hl42.trans hl46)) fun w55 C56 => (T_nil (W_region ?_))
  refine P2 ?_
  refine Cw g_aumbry_aumbryref01_twice ((rtwice_w C56 x49).mono ?_)
  rintro e w60 ⟨B57, hl58, C59, rfl⟩
  refine ⟨_, rfl, ?_⟩
  refine Pv ?_
  refine T_gen8 (wk_wrap _) fun x61 => (Pv (T_nil (W_region ?_)))
  refine Pv ?_
  refine Ar ?_
  refine Pv (T_nil ?_)
  exact ⟨255 - (k + 1), [(0, .pointer (some ⟨b21, 0, none⟩)), (1, .pointer (some ⟨b27, 0, none⟩)), (2, .pointer (some ⟨b33, 0, none⟩)), (3, .pointer (some ⟨b39, 0, none⟩)), (4, bV x61), (5, .int .i64 ((k + 1 : Nat) : Int))], by omega, ⟨rfl, rfl, rfl, rfl, rfl, ciI, trivial⟩, k + 1, x61, B57, rfl, (by omega), rfl, (hl46.trans hl58), C59⟩
 refine W_exit (W_seq (Wr (Pv (T_nil (W_block ?_)))))
 refine W_loop (fun M ρ w' => ∃ (k : Nat) (B62 : Bp), M = 256 - k ∧ k ≤ 256 ∧ ρ = [(0, .pointer (some ⟨b21, 0, none⟩)), (1, .pointer (some ⟨b27, 0, none⟩)), (2, .pointer (some ⟨b33, 0, none⟩)), (3, .pointer (some ⟨b39, 0, none⟩)), (25, .int .i64 (k : Int))] ∧ B45.le B62 ∧ Wk W H B62 w')
  (256 - 0) [(0, .pointer (some ⟨b21, 0, none⟩)), (1, .pointer (some ⟨b27, 0, none⟩)), (2, .pointer (some ⟨b33, 0, none⟩)), (3, .pointer (some ⟨b39, 0, none⟩)), (25, .int .i64 ((0 : Nat) : Int))] ⟨rfl, rfl, rfl, rfl, ciI, trivial⟩ ⟨0, B45, rfl, (by omega), rfl, Bp.le.refl _, C47⟩ ?_
 rintro M ρ w65 ⟨k, B62, rfl, hp66, rfl, hl63, C64⟩
 refine Wr (Pv (T_nil (W_seq ?_)))
 refine Ab (fun h67 => ?_) (fun h67 => ?_)
 ·refine W_skip (W_seq (W_block (Wr (P2 (Nr ?_)))))
  refine Pv (T_nil (W_seq (Wr ?_)))
  refine P2 (T_nil ?_)
  refine Ab (fun h68 => ?_) (fun h68 => ?_)
  ·refine W_region (Pv ?_)
   refine Ac ?_
   refine As C64 (hb34'.mono (hl42.trans (hl46.trans hl63))) fun x69 => ?_
   have hb_x69 := x69.toNat_lt
   refine T_b2i rfl rfl rfl rfl rfl rfl rfl (Ar ?_)
   refine T_rem rfl rfl rfl rfl rfl rfl (by omega) ?_
   refine Ac ?_
   refine As C64 (hb28'.mono (hl36.trans (hl42.trans (hl46.trans hl63)))) fun x70 => ?_
   refine Pv (Nr ?_)
   refine Pv (T_nil (W_seq (Wr ?_)))
   refine Pv (T_nil (W_block ?_))
   refine W_loop (fun M ρ w' => ∃ (j : Nat) (x75 : UInt8) (B71 : Bp), M = 5 - j ∧ j ≤ 5 ∧ ρ = [(0, .pointer (some ⟨b21, 0, none⟩)), (1, .pointer (some ⟨b27, 0, none⟩)), (2, .pointer (some ⟨b33, 0, none⟩)), (3, .pointer (some ⟨b39, 0, none⟩)), (6, .int .i64 (k : Int)), (7, bV x70), (8, bV x75), (9, .int .i64 (j : Int)), (25, .int .i64 (k : Int))] ∧ B62.le B71 ∧ Wk W H B71 w')
    (5 - 0) [(0, .pointer (some ⟨b21, 0, none⟩)), (1, .pointer (some ⟨b27, 0, none⟩)), (2, .pointer (some ⟨b33, 0, none⟩)), (3, .pointer (some ⟨b39, 0, none⟩)), (6, .int .i64 (k : Int)), (7, bV x70), (8, .int .u8 99), (9, .int .i64 ((0 : Nat) : Int)), (25, .int .i64 (k : Int))] ⟨rfl, rfl, rfl, rfl, ciI, rfl, rfl, ciI, ciI, trivial⟩ ⟨0, 99, B62, rfl, (by omega), rfl, Bp.le.refl _, C64⟩ ?_
   rintro M ρ w74 ⟨j, x75, B71, rfl, hp76, rfl, hl72, C73⟩
   refine W_seq (Wr (P2 (T_nil ?_)))
   refine Ab (fun h77 => ?_) (fun h77 => ?_)
   ·refine W_skip (W_seq (W_block (W_region ?_)))
    iterate 4 refine Pv ?_
    refine T_re (v' := .int .u64 ((j : Int))) (congrArg (Value.int .u64) (wrapU_id (by omega) (by omega))) ?_
    have hb_x70 := x70.toNat_lt
    refine T_shl rfl rfl rfl rfl rfl rfl (by omega) ?_
    refine T_gen8 (wk_wrap _) fun x78 => (P2 ?_)
    refine Ar ?_
    refine Pv ?_
    refine T_re (v' := .int .u64 ((8 : Int) - (j : Int))) (congrArg (Value.int .u64) (wrapU_id (by omega) (by omega))) ?_
    refine T_shr rfl rfl rfl rfl rfl rfl (by omega) ?_
    refine T_gen8 (wk_fdiv (by omega) (by omega)) fun x79 => ?_
    have hb_x78 := x78.toNat_lt
    have hb_x79 := x79.toNat_lt
    refine Pv ?_
    refine T_gen8 (wk_wrap _) fun x80 => ?_
    have hb_x75 := x75.toNat_lt
    have hb_x80 := x80.toNat_lt
    refine Pv ?_
    refine T_gen8 (wk_wrap _) fun x81 => (Pv (T_nil (W_region ?_)))
    refine Pv ?_
    refine Ar ?_
    refine Pv (T_nil ?_)
    exact ⟨5 - (j + 1), [(0, .pointer (some ⟨b21, 0, none⟩)), (1, .pointer (some ⟨b27, 0, none⟩)), (2, .pointer (some ⟨b33, 0, none⟩)), (3, .pointer (some ⟨b39, 0, none⟩)), (6, .int .i64 (k : Int)), (7, bV x70), (8, bV x81), (9, .int .i64 ((j + 1 : Nat) : Int)), (25, .int .i64 (k : Int))], by omega, ⟨rfl, rfl, rfl, rfl, ciI, rfl, rfl, ciI, ciI, trivial⟩, j + 1, x81, B71, rfl, (by omega), rfl, hl72, C73⟩
   refine W_exit (W_region (P2 ?_))
   refine Ac ?_
   refine Aq (u := x75) C73 (hb40'.mono (hl46.trans (hl63.trans hl72))) fun w82 C83 => (T_nil (W_region ?_))
   refine Ar ?_
   refine Pv (T_nil ?_)
   exact ⟨256 - (k + 1), [(0, .pointer (some ⟨b21, 0, none⟩)), (1, .pointer (some ⟨b27, 0, none⟩)), (2, .pointer (some ⟨b33, 0, none⟩)), (3, .pointer (some ⟨b39, 0, none⟩)), (25, .int .i64 ((k + 1 : Nat) : Int))], by omega, ⟨rfl, rfl, rfl, rfl, ciI, trivial⟩, k + 1, B71, rfl, (by omega), rfl, (hl63.trans hl72), C83⟩
  refine W_skip (Wr (Pv (T_nil (W_seq (Wr ?_)))))
  refine Pv (T_nil (W_block ?_))
  refine W_loop (fun M ρ w' => ∃ (j : Nat) (x88 : UInt8) (B84 : Bp), M = 5 - j ∧ j ≤ 5 ∧ ρ = [(0, .pointer (some ⟨b21, 0, none⟩)), (1, .pointer (some ⟨b27, 0, none⟩)), (2, .pointer (some ⟨b33, 0, none⟩)), (3, .pointer (some ⟨b39, 0, none⟩)), (6, .int .i64 (k : Int)), (7, .int .u8 0), (8, bV x88), (9, .int .i64 (j : Int)), (25, .int .i64 (k : Int))] ∧ B62.le B84 ∧ Wk W H B84 w')
   (5 - 0) [(0, .pointer (some ⟨b21, 0, none⟩)), (1, .pointer (some ⟨b27, 0, none⟩)), (2, .pointer (some ⟨b33, 0, none⟩)), (3, .pointer (some ⟨b39, 0, none⟩)), (6, .int .i64 (k : Int)), (7, .int .u8 0), (8, .int .u8 99), (9, .int .i64 ((0 : Nat) : Int)), (25, .int .i64 (k : Int))] ⟨rfl, rfl, rfl, rfl, ciI, rfl, rfl, ciI, ciI, trivial⟩ ⟨0, 99, B62, rfl, (by omega), rfl, Bp.le.refl _, C64⟩ ?_
  rintro M ρ w87 ⟨j, x88, B84, rfl, hp89, rfl, hl85, C86⟩
  refine W_seq (Wr (P2 (T_nil ?_)))
  refine Ab (fun h90 => ?_) (fun h90 => ?_)
  ·refine W_skip (W_seq (W_block (W_region ?_)))
   iterate 4 refine Pv ?_
   refine T_re (v' := .int .u64 ((j : Int))) (congrArg (Value.int .u64) (wrapU_id (by omega) (by omega))) ?_
   refine T_shl rfl rfl rfl rfl rfl rfl (by omega) ?_
   refine T_gen8 (wk_wrap _) fun x91 => (P2 ?_)
   refine Ar ?_
   refine Pv ?_
   refine T_re (v' := .int .u64 ((8 : Int) - (j : Int))) (congrArg (Value.int .u64) (wrapU_id (by omega) (by omega))) ?_
   refine T_shr rfl rfl rfl rfl rfl rfl (by omega) ?_
   refine T_gen8 (wk_fdiv (by omega) (by omega)) fun x92 => ?_
   have hb_x91 := x91.toNat_lt
   have hb_x92 := x92.toNat_lt
   refine Pv ?_
   refine T_gen8 (wk_wrap _) fun x93 => ?_
   have hb_x88 := x88.toNat_lt
   have hb_x93 := x93.toNat_lt
   refine Pv ?_
   refine T_gen8 (wk_wrap _) fun x94 => (Pv (T_nil (W_region ?_)))
   refine Pv ?_
   refine Ar ?_
   refine Pv (T_nil ?_)
   exact ⟨5 - (j + 1), [(0, .pointer (some ⟨b21, 0, none⟩)), (1, .pointer (some ⟨b27, 0, none⟩)), (2, .pointer (some ⟨b33, 0, none⟩)), (3, .pointer (some ⟨b39, 0, none⟩)), (6, .int .i64 (k : Int)), (7, .int .u8 0), (8, bV x94), (9, .int .i64 ((j + 1 : Nat) : Int)), (25, .int .i64 (k : Int))], by omega, ⟨rfl, rfl, rfl, rfl, ciI, rfl, rfl, ciI, ciI, trivial⟩, j + 1, x94, B84, rfl, (by omega), rfl, hl85, C86⟩
  refine W_exit (W_region (P2 ?_))
  refine Ac ?_
  refine Aq (u := x88) C86 (hb40'.mono (hl46.trans (hl63.trans hl85))) fun w95 C96 => (T_nil (W_region ?_))
  refine Ar ?_
  refine Pv (T_nil ?_)
  exact ⟨256 - (k + 1), [(0, .pointer (some ⟨b21, 0, none⟩)), (1, .pointer (some ⟨b27, 0, none⟩)), (2, .pointer (some ⟨b33, 0, none⟩)), (3, .pointer (some ⟨b39, 0, none⟩)), (25, .int .i64 ((k + 1 : Nat) : Int))], by omega, ⟨rfl, rfl, rfl, rfl, ciI, trivial⟩, k + 1, B84, rfl, (by omega), rfl, (hl63.trans hl85), C96⟩
 refine W_exit (Wr (T_loadAK C64 (hb40'.mono (hl46.trans hl63)) rfl rfl rfl rfl rfl rfl rfl rfl (by show _ + 256 ≤ _; omega) fun x97 hl98 => ?_))
 have hl98' : x97.length = 256 := hl98
 refine T_storeAK (l := x97) C64 (hb22'.mono (hl30.trans (hl36.trans (hl42.trans (hl46.trans hl63))))) (fun _ => trivial) rfl rfl rfl rfl rfl rfl rfl (show _ = 256 from hl98') (by rw [show x97.length = 256 from hl98']; omega) fun w99 C100 => (T_nil (W_ret ?_))
 obtain ⟨l101, hl102, hc103⟩ := C100.bytes (hb22'.mono (hl30.trans (hl36.trans (hl42.trans (hl46.trans hl63))))) (off := 0) (m := 256) (by omega)
 refine ⟨_, ⟨_, _, _, rfl, rfl, run_loadVarA rfl rfl (by first | (simp [hl102]; done) | (simp [hl102]; rfl)) hc103, rfl⟩, B62, (hl24.trans (hl30.trans (hl36.trans (hl42.trans (hl46.trans hl63))))), C100, ?_⟩
 exact ⟨l101, hl102, rfl⟩


theorem aexpand_w {W : World} {H : Hp} {B : Bp} {w : World} (C0 : Wk W H B w) {sb : Nat} (hsb : ByB B sb 256) {ky : List UInt8} (hky : ky.length = 16) :
  Calls Tryz.prog 102 #[.pointer (some ⟨sb, 0, none⟩), hV ky] w fun e w' => ∃ B', B.le B' ∧ Wk W H B' w' ∧ ∃ l : List UInt8, l.length = 176 ∧ e = .returned (hV l) := by
 refine enter2 _ Tryz.func102 rfl Tryz.ntmps102 Tryz.results102 rfl (Wr (T_boxK C0 (.by 23 16) (fun _ => trivial) rfl rfl rfl rfl rfl rfl rfl (Kok.list _ _ ky hky) fun b21 w26 B23 hl24 hb22 C25 => ?_))
 have hb22' : ByB B23 b21 16 := ⟨_, hb22⟩
 refine T_allocK C25 (.by 123 176) (fun _ => trivial) rfl rfl rfl rfl rfl rfl rfl rfl (Kok.list _ _ (List.replicate 176 0) List.length_replicate) fun b27 w32 B29 hl30 hb28 C31 => ?_
 have hb28' : ByB B29 b27 176 := ⟨_, hb28⟩
 refine Nr (T_allocK C31 (.by 123 176) (fun _ => trivial) rfl rfl rfl rfl rfl rfl rfl rfl (Kok.list _ _ (List.replicate 176 0) List.length_replicate) fun b33 w38 B35 hl36 hb34 C37 => ?_)
 have hb34' : ByB B35 b33 176 := ⟨_, hb34⟩
 refine Nr (T_loadAK C37 (hb22'.mono (hl30.trans hl36)) rfl rfl rfl rfl rfl rfl rfl rfl (by show _ + 16 ≤ _; omega) fun x39 hl40 => ?_)
 have hl40' : x39.length = 16 := hl40
 refine T_idxAm (0 + ((0 : Int)).toNat * 16) rfl rfl rfl rfl rfl rfl rfl rfl (by omega) rfl ?_
 refine T_storeAK (l := x39) C37 hb34' (fun _ => trivial) rfl rfl rfl rfl rfl rfl rfl (show _ = 16 from hl40') (by rw [show x39.length = 16 from hl40']; omega) fun w41 C42 => (Nr ?_)
 refine Pv (T_nil (W_seq (Wr ?_)))
 refine Pv (T_nil (W_block ?_))
 refine W_loop (fun M ρ w' => ∃ (r : Nat) (x47 : UInt8) (B43 : Bp), M = 11 - r ∧ r ≤ 11 ∧ 1 ≤ r ∧ ρ = [(0, .pointer (some ⟨sb, 0, none⟩)), (4, .pointer (some ⟨b27, 0, none⟩)), (5, .pointer (some ⟨b33, 0, none⟩)), (6, bV x47), (7, .int .i64 (r : Int))] ∧ B35.le B43 ∧ Wk W H B43 w')
  (11 - 1) [(0, .pointer (some ⟨sb, 0, none⟩)), (4, .pointer (some ⟨b27, 0, none⟩)), (5, .pointer (some ⟨b33, 0, none⟩)), (6, .int .u8 1), (7, .int .i64 ((1 : Nat) : Int))] ⟨rfl, rfl, rfl, rfl, ciI, trivial⟩ ⟨1, 1, B35, rfl, (by omega), (by omega), rfl, Bp.le.refl _, C42⟩ ?_
 rintro M ρ w46 ⟨r, x47, B43, rfl, hp48, hp49, rfl, hl44, C45⟩
 refine W_seq (Wr (P2 (T_nil ?_)))
 refine Ab (fun h50 => ?_) (fun h50 => ?_)
 ·refine W_skip (W_seq (W_block (Wr (Pv ?_))))
  refine Ar ?_
  refine T_idxAm (0 + ((r : Int) - (1 : Int)).toNat * 16) rfl rfl rfl rfl rfl rfl rfl rfl (by omega) rfl ?_
  refine T_loadAK C45 (hb34'.mono hl44) rfl rfl rfl rfl rfl rfl rfl rfl (by show _ + 16 ≤ _; omega) fun x51 hl52 => ?_
  have hl52' : x51.length = 16 := hl52
  refine T_allocK C45 (.by 22 16) (fun _ => trivial) rfl rfl rfl rfl rfl rfl rfl rfl (Kok.list _ _ (List.replicate 16 0) List.length_replicate) fun b53 w58 B55 hl56 hb54 C57 => ?_
  have hb54' : ByB B55 b53 16 := ⟨_, hb54⟩
  refine T_storeAK (l := x51) C57 hb54' (fun _ => trivial) rfl rfl rfl rfl rfl rfl rfl (show _ = 16 from hl52') (by rw [show x51.length = 16 from hl52']; omega) fun w59 C60 => (T_nil (W_seq ?_))
  obtain ⟨H61, hh62, C63, hth64⟩ := C60.hold
  refine W_plan (planF Tryz.prog H61 [23, 26, 31, 34, 37, 40, 43, 46]) rfl (by kernel_rfl) C63.le ?_
  have C65 := C63.drew
  refine Pv ?_
  refine Ac ?_
  obtain ⟨x66, hx67⟩ := hh62 _ _ ((0 + ((13 : Int)).toNat)) hb54' (by omega)
  refine Am hx67 ?_
  refine Pv ?_
  have hb_x66 := x66.toNat_lt
  refine Ac ?_
  obtain ⟨x68, hx69⟩ := hh62 _ _ ((0 + ((x66.toNat : Int)).toNat)) (hsb.mono (hl24.trans (hl30.trans (hl36.trans (hl44.trans hl56))))) (by omega)
  refine Am hx69 ?_
  refine Pv ?_
  have hb_x68 := x68.toNat_lt
  have hb_x47 := x47.toNat_lt
  refine Pv ?_
  refine T_gen8 (wk_wrap _) fun x70 => (Pv ?_)
  refine Ac ?_
  obtain ⟨x71, hx72⟩ := hh62 _ _ ((0 + ((14 : Int)).toNat)) hb54' (by omega)
  refine Am hx72 ?_
  refine Pv ?_
  have hb_x71 := x71.toNat_lt
  refine Ac ?_
  obtain ⟨x73, hx74⟩ := hh62 _ _ ((0 + ((x71.toNat : Int)).toNat)) (hsb.mono (hl24.trans (hl30.trans (hl36.trans (hl44.trans hl56))))) (by omega)
  refine Am hx74 ?_
  refine Pv ?_
  refine Ac ?_
  obtain ⟨x75, hx76⟩ := hh62 _ _ ((0 + ((15 : Int)).toNat)) hb54' (by omega)
  refine Am hx76 ?_
  refine Pv ?_
  have hb_x75 := x75.toNat_lt
  refine Ac ?_
  obtain ⟨x77, hx78⟩ := hh62 _ _ ((0 + ((x75.toNat : Int)).toNat)) (hsb.mono (hl24.trans (hl30.trans (hl36.trans (hl44.trans hl56))))) (by omega)
  refine Am hx78 ?_
  refine Pv ?_
  refine Ac ?_
  obtain ⟨x79, hx80⟩ := hh62 _ _ ((0 + ((12 : Int)).toNat)) hb54' (by omega)
  refine Am hx80 ?_
  refine Pv ?_
  have hb_x79 := x79.toNat_lt
  refine Ac ?_
  obtain ⟨x81, hx82⟩ := hh62 _ _ ((0 + ((x79.toNat : Int)).toNat)) (hsb.mono (hl24.trans (hl30.trans (hl36.trans (hl44.trans hl56))))) (by omega)
  refine Am hx82 ?_
  refine T_buildA (cells := (hV (x70 :: (x73 :: (x77 :: (x81 :: (List.replicate 0 0)))))).cells) rfl rfl rfl rfl rfl rfl rfl rfl rfl rfl (T_allocKH C65 (.by 156 4) (fun _ h => h) rfl rfl rfl rfl rfl rfl rfl rfl (Kok.list _ _ (List.replicate 4 0) List.length_replicate) fun b83 w88 B85 hl86 hb84 C87 => ?_)
  have hb84' : ByB B85 b83 4 := ⟨_, hb84⟩
  refine T_storeAKH (l := (x70 :: (x73 :: (x77 :: (x81 :: (List.replicate 0 0)))))) C87 hb84' (fun _ h => h) rfl rfl rfl rfl rfl rfl rfl (show _ = 4 from (by first | (simp; done) | (simp; rfl))) (by rw [show (x70 :: (x73 :: (x77 :: (x81 :: (List.replicate 0 0))))).length = 4 from (by first | (simp; done) | (simp; rfl))]; omega) fun w89 C90 => ?_
  refine T_nil ?_
  obtain ⟨B91, hl92, hl93, C94⟩ := hth64 _ _ C90
  have hb95 := (hb84').mono hl93
  refine Wr (Pv ?_)
  refine Cw g_aumbry_aumbryref01_twice ((rtwice_w C94 x47).mono ?_)
  rintro e w99 ⟨B96, hl97, C98, rfl⟩
  refine ⟨_, rfl, ?_⟩
  refine Pv (Nr ?_)
  refine Pv (T_nil (W_block ?_))
  refine W_loop (fun M ρ w' => ∃ (i : Nat) (B100 : Bp), M = 16 - i ∧ i ≤ 16 ∧ ρ = [(0, .pointer (some ⟨sb, 0, none⟩)), (4, .pointer (some ⟨b27, 0, none⟩)), (5, .pointer (some ⟨b33, 0, none⟩)), (6, bV (tw x47)), (7, .int .i64 (r : Int)), (8, .pointer (some ⟨b53, 0, none⟩)), (9, .pointer (some ⟨b83, 0, none⟩)), (10, .int .i64 (i : Int))] ∧ B96.le B100 ∧ Wk W H B100 w')
   (16 - 0) [(0, .pointer (some ⟨sb, 0, none⟩)), (4, .pointer (some ⟨b27, 0, none⟩)), (5, .pointer (some ⟨b33, 0, none⟩)), (6, bV (tw x47)), (7, .int .i64 (r : Int)), (8, .pointer (some ⟨b53, 0, none⟩)), (9, .pointer (some ⟨b83, 0, none⟩)), (10, .int .i64 ((0 : Nat) : Int))] ⟨rfl, rfl, rfl, rfl, ciI, rfl, rfl, ciI, trivial⟩ ⟨0, B96, rfl, (by omega), rfl, Bp.le.refl _, C98⟩ ?_
  rintro M ρ w103 ⟨i, B100, rfl, hp104, rfl, hl101, C102⟩
  refine W_seq (Wr (P2 (T_nil ?_)))
  refine Ab (fun h105 => ?_) (fun h105 => ?_)
  ·refine W_skip (W_seq (W_block (W_seq (W_plan (planW Tryz.prog) rfl (by kernel_rfl) trivial ?_))))
   have C106 := C102.drew
   refine P3 ?_
   refine Ac ?_
   refine As C106 (hb54'.mono (hl92.trans (hl97.trans hl101))) fun x107 => ?_
   refine Pv ?_
   refine T_rem rfl rfl rfl rfl rfl rfl (by omega) ?_
   refine Ac ?_
   refine As C106 (hb95.mono (hl97.trans hl101)) fun x108 => ?_
   have hb_x107 := x107.toNat_lt
   have hb_x108 := x108.toNat_lt
   refine Pv ?_
   refine T_gen8 (wk_wrap _) fun x109 => (T_idxAm (0 + ((r : Int)).toNat * 16) rfl rfl rfl rfl rfl rfl rfl rfl (by omega) rfl ?_)
   refine Ac ?_
   refine Aq (u := x109) C106 (hb34'.mono (hl44.trans (hl56.trans (hl92.trans (hl97.trans hl101))))) fun w110 C111 => (T_nil (W_region ?_))
   refine Pv ?_
   refine T_rem rfl rfl rfl rfl rfl rfl (by omega) ?_
   refine P2 ?_
   refine T_idxAm (0 + ((r : Int)).toNat * 16) rfl rfl rfl rfl rfl rfl rfl rfl (by omega) rfl ?_
   refine Ac ?_
   refine As C111 (hb34'.mono (hl44.trans (hl56.trans (hl92.trans (hl97.trans hl101))))) fun x112 => ?_
   refine Ac ?_
   refine Aq (u := x112) C111 (hb95.mono (hl97.trans hl101)) fun w113 C114 => (T_nil (W_region ?_))
   refine Pv ?_
   refine Ar ?_
   refine Pv (T_nil ?_)
   exact ⟨16 - (i + 1), [(0, .pointer (some ⟨sb, 0, none⟩)), (4, .pointer (some ⟨b27, 0, none⟩)), (5, .pointer (some ⟨b33, 0, none⟩)), (6, bV (tw x47)), (7, .int .i64 (r : Int)), (8, .pointer (some ⟨b53, 0, none⟩)), (9, .pointer (some ⟨b83, 0, none⟩)), (10, .int .i64 ((i + 1 : Nat) : Int))], by omega, ⟨rfl, rfl, rfl, rfl, ciI, rfl, rfl, ciI, trivial⟩, i + 1, B100, rfl, (by omega), rfl, hl101, C114⟩
  refine W_exit (W_region (Pv ?_))
  refine Ar ?_
  refine Pv (T_nil ?_)
  exact ⟨11 - (r + 1), [(0, .pointer (some ⟨sb, 0, none⟩)), (4, .pointer (some ⟨b27, 0, none⟩)), (5, .pointer (some ⟨b33, 0, none⟩)), (6, bV (tw x47)), (7, .int .i64 ((r + 1 : Nat) : Int))], by omega, ⟨rfl, rfl, rfl, rfl, ciI, trivial⟩, r + 1, (tw x47), B100, rfl, (by omega), (by omega), rfl, (hl44.trans (hl56.trans (hl92.trans (hl97.trans hl101)))), C102⟩
 refine W_exit (Wr (T_loadAK C45 (hb34'.mono hl44) rfl rfl rfl rfl rfl rfl rfl rfl (by show _ + 176 ≤ _; omega) fun x115 hl116 => ?_))
 have hl116' : x115.length = 176 := hl116
 refine T_storeAK (l := x115) C45 (hb28'.mono (hl36.trans hl44)) (fun _ => trivial) rfl rfl rfl rfl rfl rfl rfl (show _ = 176 from hl116') (by rw [show x115.length = 176 from hl116']; omega) fun w117 C118 => (T_nil (W_ret ?_))
 obtain ⟨l119, hl120, hc121⟩ := C118.bytes (hb28'.mono (hl36.trans hl44)) (off := 0) (m := 176) (by omega)
 refine ⟨_, ⟨_, _, _, rfl, rfl, run_loadVarA rfl rfl (by first | (simp [hl120]; done) | (simp [hl120]; rfl)) hc121, rfl⟩, B43, (hl24.trans (hl30.trans (hl36.trans hl44))), C118, ?_⟩
 exact ⟨l119, hl120, rfl⟩


theorem ablock_w {W : World} {H : Hp} {B : Bp} {w : World} (C0 : Wk W H B w) {sb : Nat} (hsb : ByB B sb 256) {kb : Nat} (hkb : ByB B kb 176) {xi : List UInt8} (hxi : xi.length = 16) :
  Calls Tryz.prog 103 #[.pointer (some ⟨sb, 0, none⟩), .pointer (some ⟨kb, 0, none⟩), hV xi] w fun e w' => ∃ B', B.le B' ∧ Wk W H B' w' ∧ ∃ l : List UInt8, l.length = 16 ∧ e = .returned (hV l) := by
 refine enter3 _ Tryz.func103 rfl Tryz.ntmps103 Tryz.results103 rfl (Wr (T_boxK C0 (.by 22 16) (fun _ => trivial) rfl rfl rfl rfl rfl rfl rfl (Kok.list _ _ xi hxi) fun b21 w26 B23 hl24 hb22 C25 => ?_))
 have hb22' : ByB B23 b21 16 := ⟨_, hb22⟩
 refine T_allocK C25 (.by 22 16) (fun _ => trivial) rfl rfl rfl rfl rfl rfl rfl rfl (Kok.list _ _ (List.replicate 16 0) List.length_replicate) fun b27 w32 B29 hl30 hb28 C31 => ?_
 have hb28' : ByB B29 b27 16 := ⟨_, hb28⟩
 refine Nr (T_loadAK C31 (hb22'.mono hl30) rfl rfl rfl rfl rfl rfl rfl rfl (by show _ + 16 ≤ _; omega) fun x33 hl34 => ?_)
 have hl34' : x33.length = 16 := hl34
 refine T_allocK C31 (.by 22 16) (fun _ => trivial) rfl rfl rfl rfl rfl rfl rfl rfl (Kok.list _ _ (List.replicate 16 0) List.length_replicate) fun b35 w40 B37 hl38 hb36 C39 => ?_
 have hb36' : ByB B37 b35 16 := ⟨_, hb36⟩
 refine T_storeAK (l := x33) C39 hb36' (fun _ => trivial) rfl rfl rfl rfl rfl rfl rfl (show _ = 16 from hl34') (by rw [show x33.length = 16 from hl34']; omega) fun w41 C42 => (T_nil (W_seq (Wr ?_)))
 refine Pv (T_nil (W_block ?_))
 refine W_loop (fun M ρ w' => ∃ (i : Nat) (B43 : Bp), M = 16 - i ∧ i ≤ 16 ∧ ρ = [(0, .pointer (some ⟨sb, 0, none⟩)), (1, .pointer (some ⟨kb, 0, none⟩)), (6, .pointer (some ⟨b27, 0, none⟩)), (7, .pointer (some ⟨b35, 0, none⟩)), (18, .int .i64 (i : Int))] ∧ B37.le B43 ∧ Wk W H B43 w')
  (16 - 0) [(0, .pointer (some ⟨sb, 0, none⟩)), (1, .pointer (some ⟨kb, 0, none⟩)), (6, .pointer (some ⟨b27, 0, none⟩)), (7, .pointer (some ⟨b35, 0, none⟩)), (18, .int .i64 ((0 : Nat) : Int))] ⟨rfl, rfl, rfl, rfl, ciI, trivial⟩ ⟨0, B37, rfl, (by omega), rfl, Bp.le.refl _, C42⟩ ?_
 rintro M ρ w46 ⟨i, B43, rfl, hp47, rfl, hl44, C45⟩
 refine Wr (Pv (T_nil (W_seq ?_)))
 refine Ab (fun h48 => ?_) (fun h48 => ?_)
 ·refine W_skip (W_seq (W_block (Wr (P2 (T_nil ?_)))))
  refine W_plan (planW Tryz.prog) rfl (by kernel_rfl) trivial ?_
  have C49 := C45.drew
  refine Pv ?_
  refine Ac ?_
  refine As C49 (hb36'.mono hl44) fun x50 => ?_
  refine P3 ?_
  refine T_idxAm (0 + ((0 : Int)).toNat * 16) rfl rfl rfl rfl rfl rfl rfl rfl (by omega) rfl ?_
  refine Ac ?_
  refine As C49 (hkb.mono (hl24.trans (hl30.trans (hl38.trans hl44)))) fun x51 => ?_
  have hb_x50 := x50.toNat_lt
  have hb_x51 := x51.toNat_lt
  refine Pv ?_
  refine T_gen8 (wk_wrap _) fun x52 => (Ac ?_)
  refine Aq (u := x52) C49 (hb36'.mono hl44) fun w53 C54 => (T_nil (W_region ?_))
  refine Ar ?_
  refine Pv (T_nil ?_)
  exact ⟨16 - (i + 1), [(0, .pointer (some ⟨sb, 0, none⟩)), (1, .pointer (some ⟨kb, 0, none⟩)), (6, .pointer (some ⟨b27, 0, none⟩)), (7, .pointer (some ⟨b35, 0, none⟩)), (18, .int .i64 ((i + 1 : Nat) : Int))], by omega, ⟨rfl, rfl, rfl, rfl, ciI, trivial⟩, i + 1, B43, rfl, (by omega), rfl, hl44, C54⟩
 refine W_exit (W_seq (Wr (Pv (T_nil (W_block ?_)))))
 refine W_loop (fun M ρ w' => ∃ (r : Nat) (B55 : Bp), M = 11 - r ∧ r ≤ 11 ∧ 1 ≤ r ∧ ρ = [(0, .pointer (some ⟨sb, 0, none⟩)), (1, .pointer (some ⟨kb, 0, none⟩)), (6, .pointer (some ⟨b27, 0, none⟩)), (7, .pointer (some ⟨b35, 0, none⟩)), (9, .int .i64 (r : Int))] ∧ B43.le B55 ∧ Wk W H B55 w')
  (11 - 1) [(0, .pointer (some ⟨sb, 0, none⟩)), (1, .pointer (some ⟨kb, 0, none⟩)), (6, .pointer (some ⟨b27, 0, none⟩)), (7, .pointer (some ⟨b35, 0, none⟩)), (9, .int .i64 ((1 : Nat) : Int))] ⟨rfl, rfl, rfl, rfl, ciI, trivial⟩ ⟨1, B43, rfl, (by omega), (by omega), rfl, Bp.le.refl _, C45⟩ ?_
 rintro M ρ w58 ⟨r, B55, rfl, hp59, hp60, rfl, hl56, C57⟩
 refine W_seq (Wr (P2 (T_nil ?_)))
 refine Ab (fun h61 => ?_) (fun h61 => ?_)
 ·refine W_skip (W_seq (W_block (Wr (T_allocK C57 (.by 22 16) (fun _ => trivial) rfl rfl rfl rfl rfl rfl rfl rfl (Kok.list _ _ (List.replicate 16 0) List.length_replicate) fun b62 w67 B64 hl65 hb63 C66 => ?_))))
  have hb63' : ByB B64 b62 16 := ⟨_, hb63⟩
  refine T_nil (W_seq (Wr (Pv (T_nil (W_block ?_)))))
  refine W_loop (fun M ρ w' => ∃ (c : Nat) (B68 : Bp), M = 4 - c ∧ c ≤ 4 ∧ ρ = [(0, .pointer (some ⟨sb, 0, none⟩)), (1, .pointer (some ⟨kb, 0, none⟩)), (6, .pointer (some ⟨b27, 0, none⟩)), (7, .pointer (some ⟨b35, 0, none⟩)), (9, .int .i64 (r : Int)), (10, .pointer (some ⟨b62, 0, none⟩)), (11, .int .i64 (c : Int))] ∧ B64.le B68 ∧ Wk W H B68 w')
   (4 - 0) [(0, .pointer (some ⟨sb, 0, none⟩)), (1, .pointer (some ⟨kb, 0, none⟩)), (6, .pointer (some ⟨b27, 0, none⟩)), (7, .pointer (some ⟨b35, 0, none⟩)), (9, .int .i64 (r : Int)), (10, .pointer (some ⟨b62, 0, none⟩)), (11, .int .i64 ((0 : Nat) : Int))] ⟨rfl, rfl, rfl, rfl, ciI, rfl, ciI, trivial⟩ ⟨0, B64, rfl, (by omega), rfl, Bp.le.refl _, C66⟩ ?_
  rintro M ρ w71 ⟨c, B68, rfl, hp72, rfl, hl69, C70⟩
  refine W_seq (Wr (P2 (T_nil ?_)))
  refine Ab (fun h73 => ?_) (fun h73 => ?_)
  ·refine W_skip (W_seq (W_block (Wr (Pv (T_nil (W_block ?_))))))
   refine W_loop (fun M ρ w' => ∃ (i : Nat) (B74 : Bp), M = 4 - i ∧ i ≤ 4 ∧ ρ = [(0, .pointer (some ⟨sb, 0, none⟩)), (1, .pointer (some ⟨kb, 0, none⟩)), (6, .pointer (some ⟨b27, 0, none⟩)), (7, .pointer (some ⟨b35, 0, none⟩)), (9, .int .i64 (r : Int)), (10, .pointer (some ⟨b62, 0, none⟩)), (11, .int .i64 (c : Int)), (12, .int .i64 (i : Int))] ∧ B68.le B74 ∧ Wk W H B74 w')
    (4 - 0) [(0, .pointer (some ⟨sb, 0, none⟩)), (1, .pointer (some ⟨kb, 0, none⟩)), (6, .pointer (some ⟨b27, 0, none⟩)), (7, .pointer (some ⟨b35, 0, none⟩)), (9, .int .i64 (r : Int)), (10, .pointer (some ⟨b62, 0, none⟩)), (11, .int .i64 (c : Int)), (12, .int .i64 ((0 : Nat) : Int))] ⟨rfl, rfl, rfl, rfl, ciI, rfl, ciI, ciI, trivial⟩ ⟨0, B68, rfl, (by omega), rfl, Bp.le.refl _, C70⟩ ?_
   rintro M ρ w77 ⟨i, B74, rfl, hp78, rfl, hl75, C76⟩
   refine W_seq (Wr (P2 (T_nil ?_)))
   refine Ab (fun h79 => ?_) (fun h79 => ?_)
   ·refine W_skip (W_seq (W_block (W_plan (planW Tryz.prog) rfl (by kernel_rfl) trivial ?_)))
    have C80 := C76.drew
    iterate 2 (refine Pv ?_; refine Ar ?_)
    refine P3 ?_
    iterate 2 refine Ar ?_
    refine Pv ?_
    refine Ar ?_
    refine T_rem rfl rfl rfl rfl rfl rfl (by omega) ?_
    refine Ac ?_
    refine As C80 (hb36'.mono (hl44.trans (hl56.trans (hl65.trans (hl69.trans hl75))))) fun x81 => ?_
    refine Pv ?_
    have hb_x81 := x81.toNat_lt
    refine Ac ?_
    refine As C80 (hsb.mono (hl24.trans (hl30.trans (hl38.trans (hl44.trans (hl56.trans (hl65.trans (hl69.trans hl75)))))))) fun x82 => ?_
    refine Ac ?_
    refine Aq (u := x82) C80 (hb63'.mono (hl69.trans hl75)) fun w83 C84 => (T_nil (W_region ?_))
    refine Pv ?_
    refine Ar ?_
    refine Pv (T_nil ?_)
    exact ⟨4 - (i + 1), [(0, .pointer (some ⟨sb, 0, none⟩)), (1, .pointer (some ⟨kb, 0, none⟩)), (6, .pointer (some ⟨b27, 0, none⟩)), (7, .pointer (some ⟨b35, 0, none⟩)), (9, .int .i64 (r : Int)), (10, .pointer (some ⟨b62, 0, none⟩)), (11, .int .i64 (c : Int)), (12, .int .i64 ((i + 1 : Nat) : Int))], by omega, ⟨rfl, rfl, rfl, rfl, ciI, rfl, ciI, ciI, trivial⟩, i + 1, B74, rfl, (by omega), rfl, hl75, C84⟩
   refine W_exit (W_region (Pv ?_))
   refine Ar ?_
   refine Pv (T_nil ?_)
   exact ⟨4 - (c + 1), [(0, .pointer (some ⟨sb, 0, none⟩)), (1, .pointer (some ⟨kb, 0, none⟩)), (6, .pointer (some ⟨b27, 0, none⟩)), (7, .pointer (some ⟨b35, 0, none⟩)), (9, .int .i64 (r : Int)), (10, .pointer (some ⟨b62, 0, none⟩)), (11, .int .i64 ((c + 1 : Nat) : Int))], by omega, ⟨rfl, rfl, rfl, rfl, ciI, rfl, ciI, trivial⟩, c + 1, B74, rfl, (by omega), rfl, (hl69.trans hl75), C76⟩
  refine W_exit (W_seq (Wr (P2 (T_nil ?_))))
  refine Ab (fun h85 => ?_) (fun h85 => ?_)
  ·refine Wr (Pv (T_nil (W_block ?_)))
   refine W_loop (fun M ρ w' => ∃ (c : Nat) (B86 : Bp), M = 4 - c ∧ c ≤ 4 ∧ ρ = [(0, .pointer (some ⟨sb, 0, none⟩)), (1, .pointer (some ⟨kb, 0, none⟩)), (6, .pointer (some ⟨b27, 0, none⟩)), (7, .pointer (some ⟨b35, 0, none⟩)), (9, .int .i64 (r : Int)), (10, .pointer (some ⟨b62, 0, none⟩)), (13, .int .i64 (c : Int))] ∧ B68.le B86 ∧ Wk W H B86 w')
    (4 - 0) [(0, .pointer (some ⟨sb, 0, none⟩)), (1, .pointer (some ⟨kb, 0, none⟩)), (6, .pointer (some ⟨b27, 0, none⟩)), (7, .pointer (some ⟨b35, 0, none⟩)), (9, .int .i64 (r : Int)), (10, .pointer (some ⟨b62, 0, none⟩)), (13, .int .i64 ((0 : Nat) : Int))] ⟨rfl, rfl, rfl, rfl, ciI, rfl, ciI, trivial⟩ ⟨0, B68, rfl, (by omega), rfl, Bp.le.refl _, C70⟩ ?_
   rintro M ρ w89 ⟨c, B86, rfl, hp90, rfl, hl87, C88⟩
   refine W_seq (Wr (P2 (T_nil ?_)))
   refine Ab (fun h91 => ?_) (fun h91 => ?_)
   ·refine W_skip (W_seq (W_block (W_seq ?_)))
    obtain ⟨H92, hh93, C94, hth95⟩ := C88.hold
    refine W_plan (planF Tryz.prog H92 [72, 77, 82, 87]) rfl (by kernel_rfl) C94.le ?_
    have C96 := C94.drew
    refine Pv ?_
    refine Ar ?_
    refine Ac ?_
    obtain ⟨x97, hx98⟩ := hh93 _ _ ((0 + ((4 : Int) * (c : Int)).toNat)) (hb63'.mono (hl69.trans hl87)) (by omega)
    refine Am hx98 ?_
    refine Pv ?_
    iterate 2 refine Ar ?_
    refine Ac ?_
    obtain ⟨x99, hx100⟩ := hh93 _ _ ((0 + (((4 : Int) * (c : Int)) + (1 : Int)).toNat)) (hb63'.mono (hl69.trans hl87)) (by omega)
    refine Am hx100 ?_
    refine Pv ?_
    iterate 2 refine Ar ?_
    refine Ac ?_
    obtain ⟨x101, hx102⟩ := hh93 _ _ ((0 + (((4 : Int) * (c : Int)) + (2 : Int)).toNat)) (hb63'.mono (hl69.trans hl87)) (by omega)
    refine Am hx102 ?_
    refine Pv ?_
    iterate 2 refine Ar ?_
    refine Ac ?_
    obtain ⟨x103, hx104⟩ := hh93 _ _ ((0 + (((4 : Int) * (c : Int)) + (3 : Int)).toNat)) (hb63'.mono (hl69.trans hl87)) (by omega)
    refine Am hx104 ?_
    refine T_buildA (cells := (hV (x97 :: (x99 :: (x101 :: (x103 :: (List.replicate 0 0)))))).cells) rfl rfl rfl rfl rfl rfl rfl rfl rfl rfl (T_allocKH C96 (.by 156 4) (fun _ h => h) rfl rfl rfl rfl rfl rfl rfl rfl (Kok.list _ _ (List.replicate 4 0) List.length_replicate) fun b105 w110 B107 hl108 hb106 C109 => ?_)
    have hb106' : ByB B107 b105 4 := ⟨_, hb106⟩
    refine T_storeAKH (l := (x97 :: (x99 :: (x101 :: (x103 :: (List.replicate 0 0)))))) C109 hb106' (fun _ h => h) rfl rfl rfl rfl rfl rfl rfl (show _ = 4 from (by first | (simp; done) | (simp; rfl))) (by rw [show (x97 :: (x99 :: (x101 :: (x103 :: (List.replicate 0 0))))).length = 4 from (by first | (simp; done) | (simp; rfl))]; omega) fun w111 C112 => ?_
    refine T_nil ?_
    obtain ⟨B113, hl114, hl115, C116⟩ := hth95 _ _ C112
    have hb117 := (hb106').mono hl115
    refine Wr (Pv (T_nil (W_block ?_)))
    refine W_loop (fun M ρ w' => ∃ (i : Nat) (B118 : Bp), M = 4 - i ∧ i ≤ 4 ∧ ρ = [(0, .pointer (some ⟨sb, 0, none⟩)), (1, .pointer (some ⟨kb, 0, none⟩)), (6, .pointer (some ⟨b27, 0, none⟩)), (7, .pointer (some ⟨b35, 0, none⟩)), (9, .int .i64 (r : Int)), (10, .pointer (some ⟨b62, 0, none⟩)), (13, .int .i64 (c : Int)), (14, .pointer (some ⟨b105, 0, none⟩)), (15, .int .i64 (i : Int))] ∧ B113.le B118 ∧ Wk W H B118 w')
     (4 - 0) [(0, .pointer (some ⟨sb, 0, none⟩)), (1, .pointer (some ⟨kb, 0, none⟩)), (6, .pointer (some ⟨b27, 0, none⟩)), (7, .pointer (some ⟨b35, 0, none⟩)), (9, .int .i64 (r : Int)), (10, .pointer (some ⟨b62, 0, none⟩)), (13, .int .i64 (c : Int)), (14, .pointer (some ⟨b105, 0, none⟩)), (15, .int .i64 ((0 : Nat) : Int))] ⟨rfl, rfl, rfl, rfl, ciI, rfl, ciI, rfl, ciI, trivial⟩ ⟨0, B113, rfl, (by omega), rfl, Bp.le.refl _, C116⟩ ?_
    rintro M ρ w121 ⟨i, B118, rfl, hp122, rfl, hl119, C120⟩
    refine W_seq (Wr (P2 (T_nil ?_)))
    refine Ab (fun h123 => ?_) (fun h123 => ?_)
    ·refine W_skip (W_seq (W_block (W_plan (planF Tryz.prog (fun _ => none) [100, 106]) rfl (by kernel_rfl) (fun _ _ h => by cases h) ?_)))
     have C124 := C120.drew
     iterate 2 (refine Pv ?_; refine Ar ?_)
     refine Pv ?_
     refine Ac ?_
     refine As C124 (hb117.mono hl119) fun x125 => ?_
     refine T_callQ rfl rfl g_aumbry_aumbryref01_twice (by kernel_rfl) rfl rfl rfl rfl (fun u => rtwice_ok (H := fun _ => none) (w := u) (fun _ _ h => by cases h) x125) ?_
     refine Pv ?_
     refine Ar ?_
     refine T_rem rfl rfl rfl rfl rfl rfl (by omega) ?_
     refine Ac ?_
     refine As C124 (hb117.mono hl119) fun x126 => ?_
     refine T_callQ rfl rfl g_aumbry_aumbryref01_twice (by kernel_rfl) rfl rfl rfl rfl (fun u => rtwice_ok (H := fun _ => none) (w := u) (fun _ _ h => by cases h) x126) ?_
     refine Pv ?_
     refine T_gen8 (wk_wrap _) fun x127 => (Pv ?_)
     refine Ar ?_
     refine T_rem rfl rfl rfl rfl rfl rfl (by omega) ?_
     refine Ac ?_
     refine As C124 (hb117.mono hl119) fun x128 => ?_
     have hb_x127 := x127.toNat_lt
     have hb_x128 := x128.toNat_lt
     refine Pv ?_
     refine T_gen8 (wk_wrap _) fun x129 => (Pv ?_)
     refine Ar ?_
     refine T_rem rfl rfl rfl rfl rfl rfl (by omega) ?_
     refine Ac ?_
     refine As C124 (hb117.mono hl119) fun x130 => ?_
     have hb_x129 := x129.toNat_lt
     have hb_x130 := x130.toNat_lt
     refine Pv ?_
     refine T_gen8 (wk_wrap _) fun x131 => (Pv ?_)
     refine Ar ?_
     refine T_rem rfl rfl rfl rfl rfl rfl (by omega) ?_
     refine Ac ?_
     refine As C124 (hb117.mono hl119) fun x132 => ?_
     have hb_x131 := x131.toNat_lt
     have hb_x132 := x132.toNat_lt
     refine Pv ?_
     refine T_gen8 (wk_wrap _) fun x133 => (Ac ?_)
     refine Aq (u := x133) (hC := fun _ _ _ h => by cases h) C124 (hb63'.mono (hl69.trans (hl87.trans (hl114.trans hl119)))) fun w134 C135 => (T_nil (W_region ?_))
     refine Pv ?_
     refine Ar ?_
     refine Pv (T_nil ?_)
     exact ⟨4 - (i + 1), [(0, .pointer (some ⟨sb, 0, none⟩)), (1, .pointer (some ⟨kb, 0, none⟩)), (6, .pointer (some ⟨b27, 0, none⟩)), (7, .pointer (some ⟨b35, 0, none⟩)), (9, .int .i64 (r : Int)), (10, .pointer (some ⟨b62, 0, none⟩)), (13, .int .i64 (c : Int)), (14, .pointer (some ⟨b105, 0, none⟩)), (15, .int .i64 ((i + 1 : Nat) : Int))], by omega, ⟨rfl, rfl, rfl, rfl, ciI, rfl, ciI, rfl, ciI, trivial⟩, i + 1, B118, rfl, (by omega), rfl, hl119, C135⟩
    refine W_exit (W_region (Pv ?_))
    refine Ar ?_
    refine Pv (T_nil ?_)
    exact ⟨4 - (c + 1), [(0, .pointer (some ⟨sb, 0, none⟩)), (1, .pointer (some ⟨kb, 0, none⟩)), (6, .pointer (some ⟨b27, 0, none⟩)), (7, .pointer (some ⟨b35, 0, none⟩)), (9, .int .i64 (r : Int)), (10, .pointer (some ⟨b62, 0, none⟩)), (13, .int .i64 ((c + 1 : Nat) : Int))], by omega, ⟨rfl, rfl, rfl, rfl, ciI, rfl, ciI, trivial⟩, c + 1, B118, rfl, (by omega), rfl, (hl87.trans (hl114.trans hl119)), C120⟩
   refine W_exit (Wr (Pv (T_nil (W_block ?_))))
   refine W_loop (fun M ρ w' => ∃ (i : Nat) (B136 : Bp), M = 16 - i ∧ i ≤ 16 ∧ ρ = [(0, .pointer (some ⟨sb, 0, none⟩)), (1, .pointer (some ⟨kb, 0, none⟩)), (6, .pointer (some ⟨b27, 0, none⟩)), (7, .pointer (some ⟨b35, 0, none⟩)), (9, .int .i64 (r : Int)), (10, .pointer (some ⟨b62, 0, none⟩)), (127, .int .i64 (i : Int))] ∧ B86.le B136 ∧ Wk W H B136 w')
    (16 - 0) [(0, .pointer (some ⟨sb, 0, none⟩)), (1, .pointer (some ⟨kb, 0, none⟩)), (6, .pointer (some ⟨b27, 0, none⟩)), (7, .pointer (some ⟨b35, 0, none⟩)), (9, .int .i64 (r : Int)), (10, .pointer (some ⟨b62, 0, none⟩)), (127, .int .i64 ((0 : Nat) : Int))] ⟨rfl, rfl, rfl, rfl, ciI, rfl, ciI, trivial⟩ ⟨0, B86, rfl, (by omega), rfl, Bp.le.refl _, C88⟩ ?_
   rintro M ρ w139 ⟨i, B136, rfl, hp140, rfl, hl137, C138⟩
   refine Wr (Pv (T_nil (W_seq ?_)))
   refine Ab (fun h141 => ?_) (fun h141 => ?_)
   ·refine W_skip (W_seq (W_block (Wr (P2 (T_nil ?_)))))
    refine W_plan (planW Tryz.prog) rfl (by kernel_rfl) trivial ?_
    have C142 := C138.drew
    refine P2 ?_
    refine Ac ?_
    refine As C142 (hb63'.mono (hl69.trans (hl87.trans hl137))) fun x143 => ?_
    iterate 4 refine Pv ?_
    refine T_idxAm (0 + ((r : Int)).toNat * 16) rfl rfl rfl rfl rfl rfl rfl rfl (by omega) rfl ?_
    refine Ac ?_
    refine As C142 (hkb.mono (hl24.trans (hl30.trans (hl38.trans (hl44.trans (hl56.trans (hl65.trans (hl69.trans (hl87.trans hl137))))))))) fun x144 => ?_
    have hb_x143 := x143.toNat_lt
    have hb_x144 := x144.toNat_lt
    refine Pv ?_
    refine T_gen8 (wk_wrap _) fun x145 => (Ac ?_)
    refine Aq (u := x145) C142 (hb36'.mono (hl44.trans (hl56.trans (hl65.trans (hl69.trans (hl87.trans hl137)))))) fun w146 C147 => (T_nil (W_region ?_))
    refine Ar ?_
    refine Pv (T_nil ?_)
    exact ⟨16 - (i + 1), [(0, .pointer (some ⟨sb, 0, none⟩)), (1, .pointer (some ⟨kb, 0, none⟩)), (6, .pointer (some ⟨b27, 0, none⟩)), (7, .pointer (some ⟨b35, 0, none⟩)), (9, .int .i64 (r : Int)), (10, .pointer (some ⟨b62, 0, none⟩)), (127, .int .i64 ((i + 1 : Nat) : Int))], by omega, ⟨rfl, rfl, rfl, rfl, ciI, rfl, ciI, trivial⟩, i + 1, B136, rfl, (by omega), rfl, hl137, C147⟩
   refine W_exit (W_region (Pv ?_))
   refine Ar ?_
   refine Pv (T_nil ?_)
   exact ⟨11 - (r + 1), [(0, .pointer (some ⟨sb, 0, none⟩)), (1, .pointer (some ⟨kb, 0, none⟩)), (6, .pointer (some ⟨b27, 0, none⟩)), (7, .pointer (some ⟨b35, 0, none⟩)), (9, .int .i64 ((r + 1 : Nat) : Int))], by omega, ⟨rfl, rfl, rfl, rfl, ciI, trivial⟩, r + 1, B136, rfl, (by omega), (by omega), rfl, (hl56.trans (hl65.trans (hl69.trans (hl87.trans hl137)))), C138⟩
  refine W_skip (Wr (Pv (T_nil (W_block ?_))))
  refine W_loop (fun M ρ w' => ∃ (i : Nat) (B148 : Bp), M = 16 - i ∧ i ≤ 16 ∧ ρ = [(0, .pointer (some ⟨sb, 0, none⟩)), (1, .pointer (some ⟨kb, 0, none⟩)), (6, .pointer (some ⟨b27, 0, none⟩)), (7, .pointer (some ⟨b35, 0, none⟩)), (9, .int .i64 (r : Int)), (10, .pointer (some ⟨b62, 0, none⟩)), (127, .int .i64 (i : Int))] ∧ B68.le B148 ∧ Wk W H B148 w')
   (16 - 0) [(0, .pointer (some ⟨sb, 0, none⟩)), (1, .pointer (some ⟨kb, 0, none⟩)), (6, .pointer (some ⟨b27, 0, none⟩)), (7, .pointer (some ⟨b35, 0, none⟩)), (9, .int .i64 (r : Int)), (10, .pointer (some ⟨b62, 0, none⟩)), (127, .int .i64 ((0 : Nat) : Int))] ⟨rfl, rfl, rfl, rfl, ciI, rfl, ciI, trivial⟩ ⟨0, B68, rfl, (by omega), rfl, Bp.le.refl _, C70⟩ ?_
  rintro M ρ w151 ⟨i, B148, rfl, hp152, rfl, hl149, C150⟩
  refine Wr (Pv (T_nil (W_seq ?_)))
  refine Ab (fun h153 => ?_) (fun h153 => ?_)
  ·refine W_skip (W_seq (W_block (Wr (P2 (T_nil ?_)))))
   refine W_plan (planW Tryz.prog) rfl (by kernel_rfl) trivial ?_
   have C154 := C150.drew
   refine P2 ?_
   refine Ac ?_
   refine As C154 (hb63'.mono (hl69.trans hl149)) fun x155 => ?_
   iterate 4 refine Pv ?_
   refine T_idxAm (0 + ((r : Int)).toNat * 16) rfl rfl rfl rfl rfl rfl rfl rfl (by omega) rfl ?_
   refine Ac ?_
   refine As C154 (hkb.mono (hl24.trans (hl30.trans (hl38.trans (hl44.trans (hl56.trans (hl65.trans (hl69.trans hl149)))))))) fun x156 => ?_
   have hb_x155 := x155.toNat_lt
   have hb_x156 := x156.toNat_lt
   refine Pv ?_
   refine T_gen8 (wk_wrap _) fun x157 => (Ac ?_)
   refine Aq (u := x157) C154 (hb36'.mono (hl44.trans (hl56.trans (hl65.trans (hl69.trans hl149))))) fun w158 C159 => (T_nil (W_region ?_))
   refine Ar ?_
   refine Pv (T_nil ?_)
   exact ⟨16 - (i + 1), [(0, .pointer (some ⟨sb, 0, none⟩)), (1, .pointer (some ⟨kb, 0, none⟩)), (6, .pointer (some ⟨b27, 0, none⟩)), (7, .pointer (some ⟨b35, 0, none⟩)), (9, .int .i64 (r : Int)), (10, .pointer (some ⟨b62, 0, none⟩)), (127, .int .i64 ((i + 1 : Nat) : Int))], by omega, ⟨rfl, rfl, rfl, rfl, ciI, rfl, ciI, trivial⟩, i + 1, B148, rfl, (by omega), rfl, hl149, C159⟩
  refine W_exit (W_region (Pv ?_))
  refine Ar ?_
  refine Pv (T_nil ?_)
  exact ⟨11 - (r + 1), [(0, .pointer (some ⟨sb, 0, none⟩)), (1, .pointer (some ⟨kb, 0, none⟩)), (6, .pointer (some ⟨b27, 0, none⟩)), (7, .pointer (some ⟨b35, 0, none⟩)), (9, .int .i64 ((r + 1 : Nat) : Int))], by omega, ⟨rfl, rfl, rfl, rfl, ciI, trivial⟩, r + 1, B148, rfl, (by omega), (by omega), rfl, (hl56.trans (hl65.trans (hl69.trans hl149))), C150⟩
 refine W_exit (Wr (T_loadAK C57 (hb36'.mono (hl44.trans hl56)) rfl rfl rfl rfl rfl rfl rfl rfl (by show _ + 16 ≤ _; omega) fun x160 hl161 => ?_))
 have hl161' : x160.length = 16 := hl161
 refine T_storeAK (l := x160) C57 (hb28'.mono (hl38.trans (hl44.trans hl56))) (fun _ => trivial) rfl rfl rfl rfl rfl rfl rfl (show _ = 16 from hl161') (by rw [show x160.length = 16 from hl161']; omega) fun w162 C163 => (T_nil (W_ret ?_))
 obtain ⟨l164, hl165, hc166⟩ := C163.bytes (hb28'.mono (hl38.trans (hl44.trans hl56))) (off := 0) (m := 16) (by omega)
 refine ⟨_, ⟨_, _, _, rfl, rfl, run_loadVarA rfl rfl (by first | (simp [hl165]; done) | (simp [hl165]; rfl)) hc166, rfl⟩, B55, (hl24.trans (hl30.trans (hl38.trans (hl44.trans hl56)))), C163, ?_⟩
 exact ⟨l164, hl165, rfl⟩


theorem aput_w {W : World} {H : Hp} {B : Bp} {w : World} (C0 : Wk W H B w) (z : Int) (hz : z ≤ 9223372036854775807) :
  Calls Tryz.prog 86 #[.int .i64 z, .int .i64 8] w fun e w' => ∃ B', B.le B' ∧ Wk W H B' w' ∧ ∃ a c, e = .returned (.slice a 8 c) ∧ ApB 5 B' (.slice a 8 c) 8 := by
 refine enter2 _ Tryz.func86 rfl Tryz.ntmps86 Tryz.results86 rfl (Wr (Pv (T_nil (W_seq (Wr ?_)))))
 refine P2 (T_nil ?_)
 refine Ab (fun h21 => ?_) (fun h21 => ?_)
 ·refine W_region (Pv (Nr ?_))
  refine P3 ?_
  refine T_re (v' := .int .i64 8) rfl (Pv (Nr ?_))
  refine Pv ?_
  refine T_makeK C0 8 (fun _ => trivial) rfl rfl rfl rfl rfl rfl rfl rfl rfl rfl rfl (by omega) (by omega) (by show 1 * _ ≤ _; omega) (by unfold maxLen; omega) fun b22 w27 B24 hl25 r23 C26 => ?_
  refine Pv (T_nil (W_seq (Wr ?_)))
  refine Pv ?_
  refine Ar ?_
  refine Pv (T_nil (W_block ?_))
  refine W_loop (fun M ρ w' => ∃ (k : Nat) (y : Int) (B28 : Bp), M = 8 - k ∧ k ≤ 8 ∧ 0 ≤ y ∧ y ≤ 9223372036854775807 ∧ ρ = [(0, .int .i64 y), (5, .slice (some ⟨b22, 0, none⟩) 8 8), (6, .int .i64 (7 - ((k : Nat) : Int)))] ∧ B24.le B28 ∧ Wk W H B28 w')
   (8 - 0) [(0, .int .i64 0), (5, .slice (some ⟨b22, 0, none⟩) 8 8), (6, .int .i64 (7 - ((0 : Nat) : Int)))] ⟨ciI, rfl, ciI, trivial⟩ ⟨0, (0 : Int), B24, rfl, (by omega), (by omega), (by omega), rfl, Bp.le.refl _, C26⟩ ?_
  rintro M ρ w31 ⟨k, y, B28, rfl, hp32, hp33, hp34, rfl, hl29, C30⟩
  refine W_seq (Wr (P2 (T_nil ?_)))
  refine Ab (fun h35 => ?_) (fun h35 => ?_)
  ·refine W_skip (W_seq (W_block (Wr (P3 ?_))))
   refine T_rem rfl rfl rfl rfl rfl rfl (by omega) ?_
   refine Pv ?_
   refine T_gen8 (wk_wrap _) fun x36 => (At ((r23.mono hl29)).sl fun b37 o38 q39 hb40 hq41 => ?_)
   refine Aq (u := x36) C30 hb40 fun w42 C43 => (T_nil (W_region ?_))
   refine Pv ?_
   refine T_quo rfl rfl rfl rfl rfl rfl (by omega) ?_
   refine Pv (T_nil (W_region ?_))
   refine Pv ?_
   refine Ar ?_
   refine Pv (T_nil ?_)
   exact ⟨8 - (k + 1), [(0, .int .i64 (y / (256 : Int))), (5, .slice (some ⟨b22, 0, none⟩) 8 8), (6, .int .i64 (7 - ((k + 1 : Nat) : Int)))], by omega, ⟨ciI, rfl, ciI, trivial⟩, k + 1, y / (256 : Int), B28, rfl, (by omega), (by omega), (by omega), rfl, hl29, C43⟩
  refine W_exit (Wr (P2 (T_nil (W_ret ?_))))
  refine ⟨_, ⟨_, _, rfl, rfl, rfl⟩, B28, (hl25.trans hl29), C30, ?_⟩
  exact ⟨_, _, rfl, (r23.mono hl29)⟩
 refine W_skip (Wr (P3 ?_))
 refine T_re (v' := .int .i64 8) rfl (Pv (Nr ?_))
 refine Pv ?_
 refine T_makeK C0 8 (fun _ => trivial) rfl rfl rfl rfl rfl rfl rfl rfl rfl rfl rfl (by omega) (by omega) (by show 1 * _ ≤ _; omega) (by unfold maxLen; omega) fun b44 w49 B46 hl47 r45 C48 => ?_
 refine Pv (T_nil (W_seq (Wr ?_)))
 refine Pv ?_
 refine Ar ?_
 refine Pv (T_nil (W_block ?_))
 refine W_loop (fun M ρ w' => ∃ (k : Nat) (y : Int) (B50 : Bp), M = 8 - k ∧ k ≤ 8 ∧ 0 ≤ y ∧ y ≤ 9223372036854775807 ∧ ρ = [(0, .int .i64 y), (5, .slice (some ⟨b44, 0, none⟩) 8 8), (6, .int .i64 (7 - ((k : Nat) : Int)))] ∧ B46.le B50 ∧ Wk W H B50 w')
  (8 - 0) [(0, .int .i64 z), (5, .slice (some ⟨b44, 0, none⟩) 8 8), (6, .int .i64 (7 - ((0 : Nat) : Int)))] ⟨ciI, rfl, ciI, trivial⟩ ⟨0, z, B46, rfl, (by omega), (by omega), (by omega), rfl, Bp.le.refl _, C48⟩ ?_
 rintro M ρ w53 ⟨k, y, B50, rfl, hp54, hp55, hp56, rfl, hl51, C52⟩
 refine W_seq (Wr (P2 (T_nil ?_)))
 refine Ab (fun h57 => ?_) (fun h57 => ?_)
 ·refine W_skip (W_seq (W_block (Wr (P3 ?_))))
  refine T_rem rfl rfl rfl rfl rfl rfl (by omega) ?_
  refine Pv ?_
  refine T_gen8 (wk_wrap _) fun x58 => (At ((r45.mono hl51)).sl fun b59 o60 q61 hb62 hq63 => ?_)
  refine Aq (u := x58) C52 hb62 fun w64 C65 => (T_nil (W_region ?_))
  refine Pv ?_
  refine T_quo rfl rfl rfl rfl rfl rfl (by omega) ?_
  refine Pv (T_nil (W_region ?_))
  refine Pv ?_
  refine Ar ?_
  refine Pv (T_nil ?_)
  exact ⟨8 - (k + 1), [(0, .int .i64 (y / (256 : Int))), (5, .slice (some ⟨b44, 0, none⟩) 8 8), (6, .int .i64 (7 - ((k + 1 : Nat) : Int)))], by omega, ⟨ciI, rfl, ciI, trivial⟩, k + 1, y / (256 : Int), B50, rfl, (by omega), (by omega), (by omega), rfl, hl51, C65⟩
 refine W_exit (Wr (P2 (T_nil (W_ret ?_))))
 refine ⟨_, ⟨_, _, rfl, rfl, rfl⟩, B50, (hl47.trans hl51), C52, ?_⟩
 exact ⟨_, _, rfl, (r45.mono hl51)⟩


theorem astream_w {W : World} {H : Hp} {B : Bp} {w : World} (C0 : Wk W H B w) {ky : List UInt8} (hky : ky.length = 16) (z : Int) {a2 : Option Addr} {c2 : Nat} {l : List UInt8} (hv : Rd H (.slice a2 l.length c2) l.length 1 (l.map bV)) (hl : l.length ≤ 100000) :
  Calls Tryz.prog 60 #[hV ky, .int .i64 z, .slice a2 l.length c2] w fun e w' => ∃ B', B.le B' ∧ Wk W H B' w' ∧ ∃ a c, e = .returned (.slice a l.length c) ∧ ApB 5 B' (.slice a l.length c) l.length := by
 refine enter3 _ Tryz.func60 rfl Tryz.ntmps60 Tryz.results60 rfl (Wr (T_boxK C0 (.by 23 16) (fun _ => trivial) rfl rfl rfl rfl rfl rfl rfl (Kok.list _ _ ky hky) fun b21 w26 B23 hl24 hb22 C25 => ?_))
 have hb22' : ByB B23 b21 16 := ⟨_, hb22⟩
 refine Pv (Nr ?_)
 iterate 4 refine Pv ?_
 refine Nr (Cw g_aumbry_aumbryref01_boxes ((aboxes_w C25 ).mono ?_))
 rintro e w30 ⟨B27, hl28, C29, x31, hl32, rfl⟩
 refine ⟨_, rfl, ?_⟩
 refine T_allocK C29 (.by 121 256) (fun _ => trivial) rfl rfl rfl rfl rfl rfl rfl rfl (Kok.list _ _ (List.replicate 256 0) List.length_replicate) fun b33 w38 B35 hl36 hb34 C37 => ?_
 have hb34' : ByB B35 b33 256 := ⟨_, hb34⟩
 refine T_storeAK (l := x31) C37 hb34' (fun _ => trivial) rfl rfl rfl rfl rfl rfl rfl (show _ = 256 from hl32) (by rw [show x31.length = 256 from hl32]; omega) fun w39 C40 => (Nr ?_)
 refine T_loadAK C40 (hb22'.mono (hl28.trans hl36)) rfl rfl rfl rfl rfl rfl rfl rfl (by show _ + 16 ≤ _; omega) fun x41 hl42 => ?_
 have hl42' : x41.length = 16 := hl42
 refine Cw g_aumbry_aumbryref01_expand ((aexpand_w C40 hb34' (hl42')).mono ?_)
 rintro e w46 ⟨B43, hl44, C45, x47, hl48, rfl⟩
 refine ⟨_, rfl, ?_⟩
 refine T_allocK C45 (.by 123 176) (fun _ => trivial) rfl rfl rfl rfl rfl rfl rfl rfl (Kok.list _ _ (List.replicate 176 0) List.length_replicate) fun b49 w54 B51 hl52 hb50 C53 => ?_
 have hb50' : ByB B51 b49 176 := ⟨_, hb50⟩
 refine T_storeAK (l := x47) C53 hb50' (fun _ => trivial) rfl rfl rfl rfl rfl rfl rfl (show _ = 176 from hl48) (by rw [show x47.length = 176 from hl48]; omega) fun w55 C56 => (Nr ?_)
 refine Pv ?_
 have src57 := C56.srcH hv
 refine T_appendK (n0 := 0) C56 (fun _ => trivial) rfl rfl rfl rfl rfl rfl rfl rfl rfl rfl rfl (ApB.nil _ _) src57 (by unfold maxLen; omega) (by show _ * 1 ≤ _; omega) fun a58 c59 w64 B61 hl62 r60 C63 => ?_
 have hn65 : (0 + l.length) = l.length := by omega
 rw [hn65] at r60 ⊢
 refine Pv (Nr ?_)
 refine Pv (Nr ?_)
 refine T_allocK C63 (.by 22 16) (fun _ => trivial) rfl rfl rfl rfl rfl rfl rfl rfl (Kok.list _ _ (List.replicate 16 0) List.length_replicate) fun b66 w71 B68 hl69 hb67 C70 => ?_
 have hb67' : ByB B68 b66 16 := ⟨_, hb67⟩
 refine T_nil (W_seq (Wr (P3 (T_nil (W_block ?_)))))
 refine W_loop (fun M ρ w' => ∃ (k : Nat) (y : Int) (B72 : Bp), M = l.length - k ∧ k ≤ l.length ∧ y ≤ 9223372036854775807 ∧ ρ = [(1, .int .i64 (min (max z (0 : Int)) (1073741824 : Int))), (7, .pointer (some ⟨b33, 0, none⟩)), (8, .pointer (some ⟨b49, 0, none⟩)), (9, .slice a58 l.length c59), (10, .int .i64 y), (11, .pointer (some ⟨b66, 0, none⟩)), (26, .int .i64 ((l.length : Nat) : Int)), (27, .int .i64 (k : Int))] ∧ B68.le B72 ∧ Wk W H B72 w')
  (l.length - 0) [(1, .int .i64 (min (max z (0 : Int)) (1073741824 : Int))), (7, .pointer (some ⟨b33, 0, none⟩)), (8, .pointer (some ⟨b49, 0, none⟩)), (9, .slice a58 l.length c59), (10, .int .i64 (-1)), (11, .pointer (some ⟨b66, 0, none⟩)), (26, .int .i64 ((l.length : Nat) : Int)), (27, .int .i64 ((0 : Nat) : Int))] ⟨ciI, rfl, rfl, rfl, ciI, rfl, ciI, ciI, trivial⟩ ⟨0, (-1), B68, rfl, (by exact Nat.zero_le _), (by omega), rfl, Bp.le.refl _, C70⟩ ?_
 rintro M ρ w75 ⟨k, y, B72, rfl, hp76, hp77, rfl, hl73, C74⟩
 refine Wr (Pv (T_nil (W_seq ?_)))
 refine Ab (fun h78 => ?_) (fun h78 => ?_)
 ·refine W_skip (W_seq (W_block (Wr (P2 (Nr ?_)))))
  refine P2 ?_
  refine Ar ?_
  refine Pv (T_nil (W_seq (Wr ?_)))
  refine Pv ?_
  refine T_quo rfl rfl rfl rfl rfl rfl (by omega) ?_
  refine P2 (T_nil ?_)
  refine W_cond_not rfl (fun h79 => ?_) (fun h79 => ?_)
  ·refine Wr (Pv ?_)
   refine T_quo rfl rfl rfl rfl rfl rfl (by omega) ?_
   refine Pv (Nr ?_)
   refine T_allocK C74 (.by 22 16) (fun _ => trivial) rfl rfl rfl rfl rfl rfl rfl rfl (Kok.list _ _ (List.replicate 16 0) List.length_replicate) fun b80 w85 B82 hl83 hb81 C84 => ?_
   have hb81' : ByB B82 b80 16 := ⟨_, hb81⟩
   refine Nr (Pv ?_)
   refine Cw g_aumbry_aumbryref01_Put ((aput_w C84 (((min (max z (0 : Int)) (1073741824 : Int)) + (k : Int)) / (16 : Int)) (by omega)).mono ?_)
   rintro e w89 ⟨B86, hl87, C88, a90, c91, rfl, r92⟩
   refine ⟨_, rfl, ?_⟩
   refine Pv (T_nil (W_seq (Wr ?_)))
   refine P3 (T_nil (W_block ?_))
   refine W_loop (fun M ρ w' => ∃ (j : Nat) (B93 : Bp), M = 8 - j ∧ j ≤ 8 ∧ ρ = [(1, .int .i64 (min (max z (0 : Int)) (1073741824 : Int))), (7, .pointer (some ⟨b33, 0, none⟩)), (8, .pointer (some ⟨b49, 0, none⟩)), (9, .slice a58 l.length c59), (10, .int .i64 (((min (max z (0 : Int)) (1073741824 : Int)) + (k : Int)) / (16 : Int))), (11, .pointer (some ⟨b66, 0, none⟩)), (12, .int .i64 (k : Int)), (13, .int .i64 ((min (max z (0 : Int)) (1073741824 : Int)) + (k : Int))), (14, .pointer (some ⟨b80, 0, none⟩)), (15, .slice a90 8 c91), (26, .int .i64 ((l.length : Nat) : Int)), (27, .int .i64 (k : Int)), (42, .int .i64 ((8 : Nat) : Int)), (43, .int .i64 (j : Int))] ∧ B86.le B93 ∧ Wk W H B93 w')
    (8 - 0) [(1, .int .i64 (min (max z (0 : Int)) (1073741824 : Int))), (7, .pointer (some ⟨b33, 0, none⟩)), (8, .pointer (some ⟨b49, 0, none⟩)), (9, .slice a58 l.length c59), (10, .int .i64 (((min (max z (0 : Int)) (1073741824 : Int)) + (k : Int)) / (16 : Int))), (11, .pointer (some ⟨b66, 0, none⟩)), (12, .int .i64 (k : Int)), (13, .int .i64 ((min (max z (0 : Int)) (1073741824 : Int)) + (k : Int))), (14, .pointer (some ⟨b80, 0, none⟩)), (15, .slice a90 8 c91), (26, .int .i64 ((l.length : Nat) : Int)), (27, .int .i64 (k : Int)), (42, .int .i64 ((8 : Nat) : Int)), (43, .int .i64 ((0 : Nat) : Int))] ⟨ciI, rfl, rfl, rfl, ciI, rfl, ciI, ciI, rfl, rfl, ciI, ciI, ciI, ciI, trivial⟩ ⟨0, B86, rfl, (by omega), rfl, Bp.le.refl _, C88⟩ ?_
   rintro M ρ w96 ⟨j, B93, rfl, hp97, rfl, hl94, C95⟩
   refine Wr (Pv (T_nil (W_seq ?_)))
   refine Ab (fun h98 => ?_) (fun h98 => ?_)
   ·refine W_skip (W_seq (W_block (Wr (P2 (T_nil (W_region ?_))))))
    refine Pv ?_
    refine Ar ?_
    refine P2 ?_
    refine At ((r92.mono hl94)).sl fun b99 o100 q101 hb102 hq103 => ?_
    refine As C95 hb102 fun x104 => ?_
    refine Ac ?_
    refine Aq (u := x104) C95 (hb81'.mono (hl87.trans hl94)) fun w105 C106 => (T_nil (W_region ?_))
    refine Ar ?_
    refine Pv (T_nil ?_)
    exact ⟨8 - (j + 1), [(1, .int .i64 (min (max z (0 : Int)) (1073741824 : Int))), (7, .pointer (some ⟨b33, 0, none⟩)), (8, .pointer (some ⟨b49, 0, none⟩)), (9, .slice a58 l.length c59), (10, .int .i64 (((min (max z (0 : Int)) (1073741824 : Int)) + (k : Int)) / (16 : Int))), (11, .pointer (some ⟨b66, 0, none⟩)), (12, .int .i64 (k : Int)), (13, .int .i64 ((min (max z (0 : Int)) (1073741824 : Int)) + (k : Int))), (14, .pointer (some ⟨b80, 0, none⟩)), (15, .slice a90 8 c91), (26, .int .i64 ((l.length : Nat) : Int)), (27, .int .i64 (k : Int)), (42, .int .i64 ((8 : Nat) : Int)), (43, .int .i64 ((j + 1 : Nat) : Int))], by omega, ⟨ciI, rfl, rfl, rfl, ciI, rfl, ciI, ciI, rfl, rfl, ciI, ciI, ciI, ciI, trivial⟩, j + 1, B93, rfl, (by omega), rfl, hl94, C106⟩
   refine W_exit (W_region (T_loadAK C95 (hb81'.mono (hl87.trans hl94)) rfl rfl rfl rfl rfl rfl rfl rfl (by show _ + 16 ≤ _; omega) fun x107 hl108 => ?_))
   have hl108' : x107.length = 16 := hl108
   refine Cw g_aumbry_aumbryref01_block ((ablock_w C95 (hb34'.mono (hl44.trans (hl52.trans (hl62.trans (hl69.trans (hl73.trans (hl83.trans (hl87.trans hl94)))))))) (hb50'.mono (hl62.trans (hl69.trans (hl73.trans (hl83.trans (hl87.trans hl94)))))) (hl108')).mono ?_)
   rintro e w112 ⟨B109, hl110, C111, x113, hl114, rfl⟩
   refine ⟨_, rfl, ?_⟩
   refine T_storeAK (l := x113) C111 (hb67'.mono (hl73.trans (hl83.trans (hl87.trans (hl94.trans hl110))))) (fun _ => trivial) rfl rfl rfl rfl rfl rfl rfl (show _ = 16 from hl114) (by rw [show x113.length = 16 from hl114]; omega) fun w115 C116 => (T_nil ?_)
   refine W_plan (planW Tryz.prog) rfl (by kernel_rfl) trivial ?_
   have C117 := C116.drew
   refine P2 ?_
   refine At ((r60.mono (hl69.trans (hl73.trans (hl83.trans (hl87.trans (hl94.trans hl110))))))).sl fun b118 o119 q120 hb121 hq122 => ?_
   refine As C117 hb121 fun x123 => ?_
   refine Pv ?_
   refine T_rem rfl rfl rfl rfl rfl rfl (by omega) ?_
   refine Ac ?_
   refine As C117 (hb67'.mono (hl73.trans (hl83.trans (hl87.trans (hl94.trans hl110))))) fun x124 => ?_
   have hb_x123 := x123.toNat_lt
   have hb_x124 := x124.toNat_lt
   refine Pv ?_
   refine T_gen8 (wk_wrap _) fun x125 => (At ((r60.mono (hl69.trans (hl73.trans (hl83.trans (hl87.trans (hl94.trans hl110))))))).sl fun b126 o127 q128 hb129 hq130 => ?_)
   refine Aq (u := x125) C117 hb129 fun w131 C132 => (T_nil (W_region ?_))
   refine Ar ?_
   refine Pv (T_nil ?_)
   exact ⟨l.length - (k + 1), [(1, .int .i64 (min (max z (0 : Int)) (1073741824 : Int))), (7, .pointer (some ⟨b33, 0, none⟩)), (8, .pointer (some ⟨b49, 0, none⟩)), (9, .slice a58 l.length c59), (10, .int .i64 (((min (max z (0 : Int)) (1073741824 : Int)) + (k : Int)) / (16 : Int))), (11, .pointer (some ⟨b66, 0, none⟩)), (26, .int .i64 ((l.length : Nat) : Int)), (27, .int .i64 ((k + 1 : Nat) : Int))], by omega, ⟨ciI, rfl, rfl, rfl, ciI, rfl, ciI, ciI, trivial⟩, k + 1, ((min (max z (0 : Int)) (1073741824 : Int)) + (k : Int)) / (16 : Int), B109, rfl, (by omega), (by omega), rfl, (hl73.trans (hl83.trans (hl87.trans (hl94.trans hl110)))), C132⟩
  refine W_skip (W_plan (planW Tryz.prog) rfl (by kernel_rfl) trivial ?_)
  have C133 := C74.drew
  refine P2 ?_
  refine At ((r60.mono (hl69.trans hl73))).sl fun b134 o135 q136 hb137 hq138 => ?_
  refine As C133 hb137 fun x139 => ?_
  refine Pv ?_
  refine T_rem rfl rfl rfl rfl rfl rfl (by omega) ?_
  refine Ac ?_
  refine As C133 (hb67'.mono hl73) fun x140 => ?_
  have hb_x139 := x139.toNat_lt
  have hb_x140 := x140.toNat_lt
  refine Pv ?_
  refine T_gen8 (wk_wrap _) fun x141 => (At ((r60.mono (hl69.trans hl73))).sl fun b142 o143 q144 hb145 hq146 => ?_)
  refine Aq (u := x141) C133 hb145 fun w147 C148 => (T_nil (W_region ?_))
  refine Ar ?_
  refine Pv (T_nil ?_)
  exact ⟨l.length - (k + 1), [(1, .int .i64 (min (max z (0 : Int)) (1073741824 : Int))), (7, .pointer (some ⟨b33, 0, none⟩)), (8, .pointer (some ⟨b49, 0, none⟩)), (9, .slice a58 l.length c59), (10, .int .i64 y), (11, .pointer (some ⟨b66, 0, none⟩)), (26, .int .i64 ((l.length : Nat) : Int)), (27, .int .i64 ((k + 1 : Nat) : Int))], by omega, ⟨ciI, rfl, rfl, rfl, ciI, rfl, ciI, ciI, trivial⟩, k + 1, y, B72, rfl, (by omega), (by omega), rfl, hl73, C148⟩
 refine W_exit (Wr (P2 (T_nil (W_ret ?_))))
 refine ⟨_, ⟨_, _, rfl, rfl, rfl⟩, B72, (hl24.trans (hl28.trans (hl36.trans (hl44.trans (hl52.trans (hl62.trans (hl69.trans hl73))))))), C74, ?_⟩
 exact ⟨_, _, rfl, (r60.mono (hl69.trans hl73))⟩


theorem stream_ok {H : Hp} {w : World} (hH : H.le (hw w)) {ky : List UInt8} (hky : ky.length = 16) (z : Int) {aa0 : Option Addr} {nn0 cc0 : Nat} {l : List UInt8} (hv : Rd H (.slice aa0 nn0 cc0) nn0 1 (l.map bV)) (hl : l.length ≤ 100000) :
  Calls Tryz.prog 60 #[hV ky, .int .i64 z, .slice aa0 nn0 cc0] w fun e w' => ∃ a c, ∃ m : List UInt8, m.length = l.length ∧ e = .returned (.slice a l.length c) ∧ Rd (F.ext H w.heap.size w') (.slice a l.length c) l.length 1 (m.map bV) ∧ Below w.heap.size w w' := by
 obtain rfl : nn0 = l.length := hv.lenB
 refine (astream_w (Wk.start hH) hky z hv hl).mono fun e w' ⟨B', _, C, a, c, he, hr⟩ => ?_
 obtain ⟨m, hm, r⟩ := C.rdS hr.sl
 exact ⟨a, c, m, hm, he, r, C.below⟩
end Go.Proofs.YtmjmjjkigblbgaaGreatDoor
namespace Go.Proofs.YtmjmjjkigblbgaaGreatDoor
open Go Go.F Go.RowKit
open Go.Au

theorem leaves_all {n : Nat} {E : List (List (List UInt8))} : ∀ x ∈ tab n fun p => Go.Au.root (leavesH (blk E p) (blk E p).length), x.length = 32 := fun x hx => by
 obtain ⟨p, _, rfl⟩ := tab_mem hx
 exact root_len (leavesH_all _ _)
theorem may18_ok {H : Hp} {w : World} (hH : H.le (hw w)) (z k n : Nat) (h : 1 ≤ z ∧ z ≤ 1024 ∧ 1 ≤ k ∧ k ≤ n ∧ n ≤ 16) :
  Calls Tryz.prog 58 #[.int .i64 ((z : Nat) : Int), .int .i64 ((k : Nat) : Int), .int .i64 ((n : Nat) : Int)] w fun e w' => e = .returned (.bool true) ∧ Below w.heap.size w w' := by
 refine enter3 _ Tryz.func58 rfl Tryz.ntmps58 Tryz.results58 rfl ?_
 have S0 := St.start w hH
 refine Wr (Pv (Nr ?_))
 refine P3 ?_
 refine T_bool 9 true rfl (decide_eq_true (by omega)) ?_
 iterate 2 (refine Ys ?_; refine Pv ?_)
 refine P2 ?_
 refine T_bool 13 true rfl (decide_eq_true (by omega)) ?_
 iterate 2 (refine Ys ?_; refine Pv ?_)
 refine P2 ?_
 refine T_bool 17 true rfl (decide_eq_true (by omega)) ?_
 iterate 3 (refine Ys ?_; refine Pv ?_)
 refine P2 ?_
 refine T_bool 22 true rfl (decide_eq_true (by omega)) ?_
 iterate 2 (refine Ys ?_; refine Pv ?_)
 refine P2 (T_nil (W_ret ?_))
 refine ⟨_, ⟨_, _, rfl, rfl, rfl⟩, ?_⟩
 exact ⟨congrArg (fun z => Ending.returned (Value.bool z)) (decide_eq_true (by omega)), S0.below⟩


theorem sharesL_ok {H : Hp} {w : World} (hH : H.le (hw w)) {l : List UInt8} {aa0 : Option Addr} {nn0 cc0 : Nat} (hv : Rd H (.slice aa0 nn0 cc0) nn0 1 (l.map bV)) (k n : Nat) {L : Nat} (hL : l.length = L) (hl : 1 ≤ L ∧ L ≤ 200) (hk : 1 ≤ k ∧ k ≤ 5) (hn : k ≤ n ∧ n ≤ 5) :
  Calls Tryz.prog 59 #[.slice aa0 nn0 cc0, .int .i64 ((k : Nat) : Int), .int .i64 ((n : Nat) : Int)] w fun e w' => ∃ a c E ch, e = .returned (.tuple #[.slice a n c, qV ((k : Nat) : Int) ((n : Nat) : Int) ((L : Nat) : Int) 64 ch (Go.Au.root (tab n fun p => Go.Au.root (leavesH (blk E p) (blk E p).length)))]) ∧ ch.length = 32 ∧ RdSh (F.ext H w.heap.size w') (.slice a n c) n (packU ((k : Nat) : Int) ((n : Nat) : Int) ((L : Nat) : Int) 64 ch (Go.Au.root (tab n fun p => Go.Au.root (leavesH (blk E p) (blk E p).length)))) (fun p => Go.Au.beside (rowP (tab n fun p => Go.Au.root (leavesH (blk E p) (blk E p).length))) p (lg (tab n fun p => Go.Au.root (leavesH (blk E p) (blk E p).length)).length)) (blk E) ∧ EOK k n L E ∧ Below w.heap.size w w' := by
 subst hL; exact shares_ok hH hv k n hl hk hn

theorem encode_ok {H : Hp} {w : World} (hH : H.le (hw w)) {key : List UInt8} (hky : key.length = 16) {l : List UInt8} {aa1 : Option Addr} {nn1 cc1 : Nat} (hv : Rd H (.slice aa1 nn1 cc1) nn1 1 (l.map bV)) (k n : Nat) (hl : 1 ≤ l.length ∧ l.length ≤ 200) (hk : 1 ≤ k ∧ k ≤ 5) (hn : k ≤ n ∧ n ≤ 5) :
  Calls Tryz.prog 23 #[hV key, .slice aa1 nn1 cc1, .int .i64 ((k : Nat) : Int), .int .i64 ((n : Nat) : Int)] w fun e w' => ∃ a c E ch, e = .returned (.tuple #[gV [[.int .i64 1], key.map bV, (tagged [117, 101, 98] [(lay k n l.length E ch)]).map bV, [.int .i64 ((k : Nat) : Int)], [.int .i64 ((n : Nat) : Int)], [.int .i64 ((l.length : Nat) : Int)], [.slice none 0 0]], .slice a n c, .int .i64 0]) ∧ ch.length = 32 ∧ RdSh (F.ext H w.heap.size w') (.slice a n c) n (lay k n l.length E ch) (fun z => Go.Au.beside (rowP (lvs n E)) z (lg (lvs n E).length)) (blk E) ∧ EOK k n l.length E ∧ Below w.heap.size w w' := by
 obtain rfl : nn1 = l.length := hv.lenB
 have hvcap : l.length ≤ cc1 := hv.capOf
 refine enter4 _ Tryz.func23 rfl Tryz.ntmps23 Tryz.results23 rfl ?_
 have S0 := St.start w hH
 refine Wr (Ao S0 fun b51 w52 S53 => ?_)
 refine Af S53 fun b54 w55 S56 => ?_
 refine P2 (T_nil (W_seq (Wr ?_)))
 iterate 4 refine Pv ?_
 refine Cs g_aumbry_aumbryref18_may ((may18_ok S56.le l.length k n (by omega)).mono ?_)
 rintro e w58 ⟨rfl, hB57⟩
 have S59 := S56.call hB57
 refine ⟨_, rfl, trivial, ?_⟩
 refine Pv (T_nil ?_)
 refine W_cond_false rfl (W_skip (Wr (An (hl := by exact hVs hky) 1 S59 ?_)))
 refine Pv ?_
 refine Cs g_aumbry_aumbryref01_Stream ((stream_ok S59.le hky (0 : Int) hv (by omega)).mono ?_)
 rintro e w64 ⟨a60, c61, m, hml, rfl, r62, hB63⟩
 obtain ⟨G66, eG68⟩ : ∃ G, G = F.ext H w58.heap.size w64 := ⟨_, rfl⟩
 obtain ⟨hl67, S65⟩ := S59.ext hB63
 rw [← eG68] at hl67 S65 r62
 refine ⟨_, rfl, trivial, ?_⟩
 refine P2 ?_
 refine Cs g_aumbry_aumbryref18_shares ((sharesL_ok (L := l.length) S65.le r62 k n hml (by omega) (by omega) (by omega)).mono ?_)
 rintro e w73 ⟨a69, c70, E, ch, rfl, hch, r71, hE, hB72⟩
 obtain ⟨G75, eG77⟩ : ∃ G, G = F.ext G66 w64.heap.size w73 := ⟨_, rfl⟩
 obtain ⟨hl76, S74⟩ := S65.ext hB72
 rw [← eG77] at hl76 S74 r71
 refine ⟨_, rfl, trivial, ?_⟩
 have hLV : (Go.Au.root (lvs n E)).length = 32 := root_len (leaves_all (n := n) (E := E))
 have hub : (lay k n l.length E ch).length ≤ 200 := lay_len hch
 refine P3 ?_
 refine Af S74 fun b78 w79 S80 => ?_
 refine Pv ?_
 refine Ak (hl := by exact qV_sz (q_len hch hLV rfl)) (hl2 := by exact qV_sz (q_len hch hLV rfl)) (h1 := by exact qV_one) 0 S80 fun w81 S82 => (T_nil (W_seq ?_))
 obtain ⟨G84, hl85, S83, r86⟩ := S82.stillBlk 2 rfl
 refine W_plan (planF Tryz.prog G84 [29]) rfl (by kernel_rfl) S83.le ?_
 have S87 := S83.drew
 refine T_loadGAP _ (fun _ h => h) (still_cells r86) rfl rfl rfl rfl rfl rfl rfl rfl (hVs hky) (Pv ?_)
 obtain ⟨f91, f92, f93, f94, r95, hs96⟩ := (r71.mono hl85)
 refine Aj 0 r95 fun b88 o89 hc90 => ?_
 obtain ⟨a97, c98, a99, c100, a101, c102, e103, e104, e105, e106, r107, r108, r109⟩ := hs96 0 (by omega)
 have hc110 : ∀ (j : Nat) (u : Value), (#[.int .i64 ((0 : Nat) : Int), .slice a97 (lay k n l.length E ch).length c98, .slice a99 (Go.Au.beside (rowP (lvs n E)) 0 (lg (lvs n E).length)).length c100, .slice a101 (blk E 0).length c102] : Array Value)[j]? = some u → hcell G84 b88 (o89 + j) = some u := fun j u hu => hc90 j u (shrC_agg (fa := f91) (fb := f92) (fc := f93) (fd := f94) (by omega) j u (by rw [e103, e104, e105, e106]; exact hu))
 have r111 : Rd G84 (.slice a97 (lay k n l.length E ch).length c98) (lay k n l.length E ch).length 1 ((lay k n l.length E ch).map bV) := r107
 have r112 : RdH G84 (.slice a99 (Go.Au.beside (rowP (lvs n E)) 0 (lg (lvs n E).length)).length c100) 32 (Go.Au.beside (rowP (lvs n E)) 0 (lg (lvs n E).length)) := r108
 have r113 : RdL G84 (.slice a101 (blk E 0).length c102) (blk E 0) := r109
 have hc114 := hc110 1 (.slice a97 (lay k n l.length E ch).length c98) rfl
 refine T_fldm (o89 + 1) rfl rfl rfl rfl rfl rfl (by decide) rfl rfl rfl ?_
 refine Ad S87 hc114 ?_
 refine T_callS rfl rfl g_aumbry_aumbryref13_PrintUeb rfl rfl rfl rfl ((printR_ok S87.le r111 (by first | omega | decide)).mono ?_)
 rintro e w116 ⟨rfl, hB115⟩
 have S117 := S87.call hB115
 refine ⟨_, rfl, (((Hp.le.refl _)).trans S117.le), ?_⟩
 iterate 4 refine Pv ?_
 refine T_buildS (cells := (gV [[.int .i64 1], key.map bV, (tagged [117, 101, 98] [(lay k n l.length E ch)]).map bV, [.int .i64 ((k : Nat) : Int)], [.int .i64 ((n : Nat) : Int)], [.int .i64 ((l.length : Nat) : Int)], [.slice none 0 0]] : Value).cells) rfl rfl rfl rfl rfl rfl (fill_g (L := [[.int .i64 0], (List.replicate 16 0).map bV, (List.replicate 32 0).map bV, [.int .i64 0], [.int .i64 0], [.int .i64 0], [.slice none 0 0]]) (ns := [1, 16, 32, 1, 1, 1, 1]) (v := .int .i64 1) (off := 0) (k := 1) rfl (Shp.cons rfl (Shp.cons (lenB List.length_replicate) (Shp.cons (lenB List.length_replicate) (Shp.cons rfl (Shp.cons rfl (Shp.cons rfl (Shp.cons rfl Shp.nil))))))) 0 1 [[.int .i64 1]] rfl (by first | rfl | simp [hVs, *]) rfl rfl (fill_g (L := [[.int .i64 1], (List.replicate 16 0).map bV, (List.replicate 32 0).map bV, [.int .i64 0], [.int .i64 0], [.int .i64 0], [.slice none 0 0]]) (ns := [1, 16, 32, 1, 1, 1, 1]) (v := hV key) (off := 1) (k := 16) rfl (Shp.cons rfl (Shp.cons (lenB List.length_replicate) (Shp.cons (lenB List.length_replicate) (Shp.cons rfl (Shp.cons rfl (Shp.cons rfl (Shp.cons rfl Shp.nil))))))) 1 1 [key.map bV] flat1 (hVs hky) rfl rfl (fill_g (L := [[.int .i64 1], key.map bV, (List.replicate 32 0).map bV, [.int .i64 0], [.int .i64 0], [.int .i64 0], [.slice none 0 0]]) (ns := [1, 16, 32, 1, 1, 1, 1]) (v := hV (tagged [117, 101, 98] [(lay k n l.length E ch)])) (off := 17) (k := 32) rfl (Shp.cons rfl (Shp.cons (lenB hky) (Shp.cons (lenB List.length_replicate) (Shp.cons rfl (Shp.cons rfl (Shp.cons rfl (Shp.cons rfl Shp.nil))))))) 2 1 [(tagged [117, 101, 98] [(lay k n l.length E ch)]).map bV] flat1 (hVs (tagged_len _ _)) rfl rfl (fill_g (L := [[.int .i64 1], key.map bV, (tagged [117, 101, 98] [(lay k n l.length E ch)]).map bV, [.int .i64 0], [.int .i64 0], [.int .i64 0], [.slice none 0 0]]) (ns := [1, 16, 32, 1, 1, 1, 1]) (v := .int .i64 ((k : Nat) : Int)) (off := 49) (k := 1) rfl (Shp.cons rfl (Shp.cons (lenB hky) (Shp.cons (lenB (tagged_len _ _)) (Shp.cons rfl (Shp.cons rfl (Shp.cons rfl (Shp.cons rfl Shp.nil))))))) 3 1 [[.int .i64 ((k : Nat) : Int)]] rfl (by first | rfl | simp [hVs, *]) rfl rfl (fill_g (L := [[.int .i64 1], key.map bV, (tagged [117, 101, 98] [(lay k n l.length E ch)]).map bV, [.int .i64 ((k : Nat) : Int)], [.int .i64 0], [.int .i64 0], [.slice none 0 0]]) (ns := [1, 16, 32, 1, 1, 1, 1]) (v := .int .i64 ((n : Nat) : Int)) (off := 50) (k := 1) rfl (Shp.cons rfl (Shp.cons (lenB hky) (Shp.cons (lenB (tagged_len _ _)) (Shp.cons rfl (Shp.cons rfl (Shp.cons rfl (Shp.cons rfl Shp.nil))))))) 4 1 [[.int .i64 ((n : Nat) : Int)]] rfl (by first | rfl | simp [hVs, *]) rfl rfl (fill_g (L := [[.int .i64 1], key.map bV, (tagged [117, 101, 98] [(lay k n l.length E ch)]).map bV, [.int .i64 ((k : Nat) : Int)], [.int .i64 ((n : Nat) : Int)], [.int .i64 0], [.slice none 0 0]]) (ns := [1, 16, 32, 1, 1, 1, 1]) (v := .int .i64 ((l.length : Nat) : Int)) (off := 51) (k := 1) rfl (Shp.cons rfl (Shp.cons (lenB hky) (Shp.cons (lenB (tagged_len _ _)) (Shp.cons rfl (Shp.cons rfl (Shp.cons rfl (Shp.cons rfl Shp.nil))))))) 5 1 [[.int .i64 ((l.length : Nat) : Int)]] rfl (by first | rfl | simp [hVs, *]) rfl rfl fill_gnil)))))) rfl rfl rfl ?_
 refine Pv ?_
 refine Ak (hC := fun _ h => ((Hp.le.refl _)).trans h) (hl := by exact gV_size (L := [[.int .i64 1], key.map bV, (tagged [117, 101, 98] [(lay k n l.length E ch)]).map bV, [.int .i64 ((k : Nat) : Int)], [.int .i64 ((n : Nat) : Int)], [.int .i64 ((l.length : Nat) : Int)], [.slice none 0 0]]) (shCp hky (tagged_len _ _)) rfl) (hl2 := by exact gV_size (L := [[.int .i64 1], key.map bV, (tagged [117, 101, 98] [(lay k n l.length E ch)]).map bV, [.int .i64 ((k : Nat) : Int)], [.int .i64 ((n : Nat) : Int)], [.int .i64 ((l.length : Nat) : Int)], [.slice none 0 0]]) (shCp hky (tagged_len _ _)) rfl) (h1 := by exact gV_one (OneL.one rfl (OneL.arr (OneL.arr (OneL.one rfl (OneL.one rfl (OneL.one rfl (OneL.one rfl OneL.nil)))))))) 1 S117 fun w118 S119 => ?_
 refine P2 (T_nil (W_ret ?_))
 refine ⟨_, ⟨_, _, _, rfl, rfl, run_loadVarA rfl rfl (gV_size (L := [[.int .i64 1], key.map bV, (tagged [117, 101, 98] [(lay k n l.length E ch)]).map bV, [.int .i64 ((k : Nat) : Int)], [.int .i64 ((n : Nat) : Int)], [.int .i64 ((l.length : Nat) : Int)], [.slice none 0 0]]) (shCp hky (tagged_len _ _)) rfl) (S119.cells 1 rfl), ⟨_, _, rfl, rfl, ⟨_, _, rfl, rfl, rfl⟩⟩⟩, ?_⟩
 exact ⟨_, _, E, ch, rfl, hch, ((r71.mono hl85)).mono S119.fin, hE, S119.below⟩


theorem encodeL_ok {H : Hp} {w : World} (hH : H.le (hw w)) {key : List UInt8} (hky : key.length = 16) {l : List UInt8} {aa1 : Option Addr} {nn1 cc1 : Nat} (hv : Rd H (.slice aa1 nn1 cc1) nn1 1 (l.map bV)) (k n : Nat) {L : Nat} (hL : l.length = L) (hl : 1 ≤ L ∧ L ≤ 200) (hk : 1 ≤ k ∧ k ≤ 5) (hn : k ≤ n ∧ n ≤ 5) :
  Calls Tryz.prog 23 #[hV key, .slice aa1 nn1 cc1, .int .i64 ((k : Nat) : Int), .int .i64 ((n : Nat) : Int)] w fun e w' => ∃ a c E ch, e = .returned (.tuple #[gV [[.int .i64 1], key.map bV, (tagged [117, 101, 98] [(lay k n L E ch)]).map bV, [.int .i64 ((k : Nat) : Int)], [.int .i64 ((n : Nat) : Int)], [.int .i64 ((L : Nat) : Int)], [.slice none 0 0]], .slice a n c, .int .i64 0]) ∧ ch.length = 32 ∧ RdSh (F.ext H w.heap.size w') (.slice a n c) n (lay k n L E ch) (fun z => Go.Au.beside (rowP (lvs n E)) z (lg (lvs n E).length)) (blk E) ∧ EOK k n L E ∧ Below w.heap.size w w' := by
 subst hL; exact encode_ok hH hky hv k n hl hk hn

theorem made_ok {H : Hp} {w : World} (hH : H.le (hw w)) {key : List UInt8} (hky : key.length = 16) {l : List UInt8} {aa1 : Option Addr} {nn1 cc1 : Nat} (hv : Rd H (.slice aa1 nn1 cc1) nn1 1 (l.map bV)) (k0 n0 : Int) (k n : Nat) (hn : 1 + n0 % 5 = (n : Int)) (hk : 1 + k0 % ((n : Nat) : Int) = (k : Int)) {L : Nat} (hL0 : (l.take 150).length + 1 = L) :
  Calls Tryz.prog 8 #[hV key, .slice aa1 nn1 cc1, .int .i64 k0, .int .i64 n0] w fun e w' => ∃ a c E ch, e = .returned (.tuple #[gV [[.int .i64 1], key.map bV, (tagged [117, 101, 98] [(lay k n L E ch)]).map bV, [.int .i64 ((k : Nat) : Int)], [.int .i64 ((n : Nat) : Int)], [.int .i64 ((L : Nat) : Int)], [.slice none 0 0]], .slice a n c, .int .i64 ((n : Nat) : Int)]) ∧ ch.length = 32 ∧ RdSh (F.ext H w.heap.size w') (.slice a n c) n (lay k n L E ch) (fun z => Go.Au.beside (rowP (lvs n E)) z (lg (lvs n E).length)) (blk E) ∧ EOK k n L E ∧ Below w.heap.size w w' := by
 obtain rfl : nn1 = l.length := hv.lenB
 have hvcap : l.length ≤ cc1 := hv.capOf
 have hn5 : 1 ≤ n ∧ n ≤ 5 := by omega
 have hk1 := Int.emod_nonneg k0 (show ((n : Nat) : Int) ≠ 0 by omega)
 have hk2 := Int.emod_lt_of_pos k0 (show 0 < ((n : Nat) : Int) by omega)
 have hkn : 1 ≤ k ∧ k ≤ n := by omega
 have hl150 : (l.take 150).length ≤ 150 := List.length_take_le _ _
 have hL : ([(7 : UInt8)] ++ l.take 150).length = L := by rw [← hL0, List.length_append]; exact Nat.add_comm _ _
 refine enter4 _ Tryz.func8 rfl Tryz.ntmps8 Tryz.results8 rfl ?_
 have S0 := St.start w hH
 refine Wr (Ao S0 fun b51 w52 S53 => ?_)
 refine Af S53 fun b54 w55 S56 => ?_
 refine P2 (Nr ?_)
 refine Pv ?_
 refine Cs g_aumbry_aumbrykeep_Within ((withinN_ok S56.le n0 (5 : Int) (by omega)).mono ?_)
 rintro e w58 ⟨rfl, hB57⟩
 have S59 := S56.call hB57
 refine ⟨_, rfl, trivial, ?_⟩
 refine Ar ?_
 refine T_re (v' := .int .i64 ((n : Nat) : Int)) (congrArg (Value.int .i64) hn) (Pv (Nr ?_))
 refine P2 ?_
 refine Cs g_aumbry_aumbrykeep_Within ((withinN_ok S59.le k0 ((n : Nat) : Int) (by omega)).mono ?_)
 rintro e w61 ⟨rfl, hB60⟩
 have S62 := S59.call hB60
 refine ⟨_, rfl, trivial, ?_⟩
 refine Ar ?_
 refine T_re (v' := .int .i64 ((k : Nat) : Int)) (congrArg (Value.int .i64) hk) (Pv (Nr ?_))
 refine Ah (hone := by simp [Value.cells]; rfl) ([(7 : UInt8)].map bV) fun a63 w64 hB65 ho66 => ?_
 have S67 := S62.own hB65 ho66
 refine ⟨trivial, ?_⟩
 refine Pv ?_
 refine Cs g_aumbry_aumbrykeep_Cut_byte ((cutB_ok S67.le hv 150).mono ?_)
 rintro e w73 ⟨a68, c69, hc70, rfl, hr71, hB72⟩
 have S74 := S67.call hB72
 refine ⟨_, rfl, trivial, ?_⟩
 refine Ai (h1 := by exact one_bV _) (hn' := by first | rfl | (simp; done) | (simp; omega) | omega) (hx' := by simp) (hbytes := by show _ * 1 ≤ _; omega) 0 (([(7 : UInt8)] ++ (l.take 150)).length) (([(7 : UInt8)] ++ (l.take 150)).map bV) S74 (hr71.mono S74.le) fun a75 c76 w77 hc78 S79 => ?_
 refine Pv (Nr ?_)
 refine An (hl := by exact hVs hky) 2 S79 ?_
 refine P3 ?_
 obtain ⟨G81, hl82, S80, r83⟩ := S79.stillRow 0 rfl
 refine Cs g_aumbry_aumbryref18_Encode ((encodeL_ok (L := L) S80.le hky r83 k n hL (by omega) (by omega) (by omega)).mono ?_)
 rintro e w88 ⟨a84, c85, E, ch, rfl, hch, r86, hE, hB87⟩
 obtain ⟨G90, eG92⟩ : ∃ G, G = F.ext G81 w77.heap.size w88 := ⟨_, rfl⟩
 obtain ⟨hl91, S89⟩ := S80.ext hB87
 rw [← eG92] at hl91 S89 r86
 refine ⟨_, rfl, trivial, ?_⟩
 iterate 4 refine Pv ?_
 refine Af S89 fun b93 w94 S95 => ?_
 refine Ak (hl := by exact gV_size (L := [[.int .i64 1], key.map bV, (tagged [117, 101, 98] [(lay k n L E ch)]).map bV, [.int .i64 ((k : Nat) : Int)], [.int .i64 ((n : Nat) : Int)], [.int .i64 ((L : Nat) : Int)], [.slice none 0 0]]) (shCp hky (tagged_len _ _)) rfl) (hl2 := by exact gV_size (L := [[.int .i64 1], key.map bV, (tagged [117, 101, 98] [(lay k n L E ch)]).map bV, [.int .i64 ((k : Nat) : Int)], [.int .i64 ((n : Nat) : Int)], [.int .i64 ((L : Nat) : Int)], [.slice none 0 0]]) (shCp hky (tagged_len _ _)) rfl) (h1 := by exact gV_one (OneL.one rfl (OneL.arr (OneL.arr (OneL.one rfl (OneL.one rfl (OneL.one rfl (OneL.one rfl OneL.nil)))))))) 0 S95 fun w96 S97 => ?_
 refine P2 (Nr ?_)
 refine An (hl := by exact gV_size (L := [[.int .i64 1], key.map bV, (tagged [117, 101, 98] [(lay k n L E ch)]).map bV, [.int .i64 ((k : Nat) : Int)], [.int .i64 ((n : Nat) : Int)], [.int .i64 ((L : Nat) : Int)], [.slice none 0 0]]) (shCp hky (tagged_len _ _)) rfl) 0 S97 ?_
 refine P2 ?_
 refine Ak (hl := by exact gV_size (L := [[.int .i64 1], key.map bV, (tagged [117, 101, 98] [(lay k n L E ch)]).map bV, [.int .i64 ((k : Nat) : Int)], [.int .i64 ((n : Nat) : Int)], [.int .i64 ((L : Nat) : Int)], [.slice none 0 0]]) (shCp hky (tagged_len _ _)) rfl) (hl2 := by exact gV_size (L := [[.int .i64 1], key.map bV, (tagged [117, 101, 98] [(lay k n L E ch)]).map bV, [.int .i64 ((k : Nat) : Int)], [.int .i64 ((n : Nat) : Int)], [.int .i64 ((L : Nat) : Int)], [.slice none 0 0]]) (shCp hky (tagged_len _ _)) rfl) (h1 := by exact gV_one (OneL.one rfl (OneL.arr (OneL.arr (OneL.one rfl (OneL.one rfl (OneL.one rfl (OneL.one rfl OneL.nil)))))))) 1 S97 fun w98 S99 => ?_
 refine P2 (T_nil (W_ret ?_))
 refine ⟨_, ⟨_, _, _, rfl, rfl, run_loadVarA rfl rfl (gV_size (L := [[.int .i64 1], key.map bV, (tagged [117, 101, 98] [(lay k n L E ch)]).map bV, [.int .i64 ((k : Nat) : Int)], [.int .i64 ((n : Nat) : Int)], [.int .i64 ((L : Nat) : Int)], [.slice none 0 0]]) (shCp hky (tagged_len _ _)) rfl) (S99.cells 1 rfl), ⟨_, _, rfl, rfl, ⟨_, _, rfl, rfl, rfl⟩⟩⟩, ?_⟩
 exact ⟨_, _, E, ch, rfl, hch, (r86).mono S99.fin, hE, S99.below⟩

end Go.Proofs.YtmjmjjkigblbgaaGreatDoor
