/- General lemmas for walking the code, or plain mathematics. -/
import Derived.Test.YtadiakpbodlecaaDoorFEnv
set_option linter.unusedVariables false
set_option linter.unusedSimpArgs false
set_option maxRecDepth 8192
namespace Go.F
open Go

section
variable {P : Program} {n : Nat}

def liftQ (n : Nat) (Q : Exit → Env → World → Prop) : Exit → Act → World → Prop := fun e a w => ∃ ρ, Agree n ρ a ∧ Q e ρ w

/-- The walk of a piece of code over what is known of the slots. -/
def W (P : Program) (n : Nat) (c : Code) (Q : Exit → Env → World → Prop) (ρ : Env) (w : World) : Prop := ∀ a, Agree n ρ a → c.wp P (liftQ n Q) a w

/-- What stands behind. -/
def Sq (P : Program) (n : Nat) (b : Code) (Q : Exit → Env → World → Prop) : Exit → Env → World → Prop
  | .normal, ρ, w => W P n b Q ρ w
  | e, ρ, w => Q e ρ w

def Bl (id : Nat) (Q : Exit → Env → World → Prop) : Exit → Env → World → Prop
  | .exit i, ρ, w => if Nat.beq i id = true then Q .normal ρ w else Q (.exit i) ρ w
  | e, ρ, w => Q e ρ w

def Lp (I : Nat → Env → World → Prop) (m : Nat) (Q : Exit → Env → World → Prop) : Exit → Env → World → Prop
  | .normal, ρ, w => ∃ m' ρ', m' < m ∧ Sub ρ' ρ ∧ I m' ρ' w
  | e, ρ, w => Q e ρ w

variable {Q : Exit → Env → World → Prop} {ρ : Env} {w : World}

theorem W_mono {c : Code} {Q' : Exit → Env → World → Prop} (h : W P n c Q ρ w) (hq : ∀ e ρ w, Q e ρ w → Q' e ρ w) : W P n c Q' ρ w :=
  fun a ha => wp_mono (h a ha) fun e _ w' ⟨ρ', ha', hq'⟩ => ⟨ρ', ha', hq e ρ' w' hq'⟩

theorem W_sub {c : Code} (ρ0 : Env) (hs : Sub ρ0 ρ) (h : W P n c Q ρ0 w) : W P n c Q ρ w := fun a ha => h a (ha.sub hs)

theorem W_skip (h : Q .normal ρ w) : W P n .skip Q ρ w := fun _ ha => wp_skip ⟨ρ, ha, h⟩
theorem W_exit {id : Nat} (h : Q (.exit id) ρ w) : W P n (.exit id) Q ρ w := fun _ ha => wp_exit ⟨ρ, ha, h⟩
theorem W_ret (h : Q .ret ρ w) : W P n .ret Q ρ w := fun _ ha => wp_ret ⟨ρ, ha, h⟩
theorem W_seq {a b : Code} (h : W P n a (Sq P n b Q) ρ w) : W P n (.seq a b) Q ρ w := fun act ha =>
  wp_seq (wp_mono (h act ha) fun e a' w' ⟨ρ', ha', hq'⟩ => by
    cases e with
    | normal => exact hq' a' ha'
    | exit i => exact ⟨ρ', ha', hq'⟩
    | goto l => exact ⟨ρ', ha', hq'⟩
    | ret => exact ⟨ρ', ha', hq'⟩
    | panic c => exact ⟨ρ', ha', hq'⟩
    | outgrown => exact ⟨ρ', ha', hq'⟩)
theorem W_block {id : Nat} {c : Code} (h : W P n c (Bl id Q) ρ w) : W P n (.block id c) Q ρ w := fun act ha =>
  wp_block (wp_mono (h act ha) fun e a' w' ⟨ρ', ha', hq'⟩ => by
    cases e with
    | exit i =>
      simp only [Bl] at hq'
      simp only [Exit.inBlock]
      by_cases hi : i = id
      · subst hi; simp only [Nat.beq_refl, if_true] at hq'; rw [if_pos rfl]; exact ⟨ρ', ha', hq'⟩
      · rw [if_neg hi]; rw [if_neg (fun e => hi (Nat.eq_of_beq_eq_true e))] at hq'; exact ⟨ρ', ha', hq'⟩
    | normal => exact ⟨ρ', ha', hq'⟩
    | goto l => exact ⟨ρ', ha', hq'⟩
    | ret => exact ⟨ρ', ha', hq'⟩
    | panic c => exact ⟨ρ', ha', hq'⟩
    | outgrown => exact ⟨ρ', ha', hq'⟩)
theorem W_cond {c : Operand} {x y : Code} {b : Bool} (hc : ρ.ev c = some (.bool b)) (ht : b = true → W P n x Q ρ w) (hf : b = false → W P n y Q ρ w) : W P n (.cond c x y) Q ρ w := fun act ha => by
  cases b with
  | true => exact wp_cond_true (ha.ev hc) (ht rfl act ha)
  | false => exact wp_cond_false (ha.ev hc) (hf rfl act ha)
theorem W_cond_dec {c : Operand} {x y : Code} {p : Prop} [Decidable p] (hc : ρ.ev c = some (.bool (decide p))) (ht : p → W P n x Q ρ w) (hf : ¬ p → W P n y Q ρ w) : W P n (.cond c x y) Q ρ w :=
  W_cond hc (fun h => ht (of_decide_eq_true h)) (fun h => hf (of_decide_eq_false h))
theorem W_cond_not {c : Operand} {x y : Code} {p : Prop} [Decidable p] (hc : ρ.ev c = some (.bool (!decide p))) (ht : ¬ p → W P n x Q ρ w) (hf : p → W P n y Q ρ w) : W P n (.cond c x y) Q ρ w :=
  W_cond hc (fun h => ht (by simpa using h)) (fun h => hf (by simpa using h))
theorem W_cond_true {c : Operand} {x y : Code} (hc : ρ.ev c = some (.bool true)) (ht : W P n x Q ρ w) : W P n (.cond c x y) Q ρ w := W_cond hc (fun _ => ht) (fun h => by cases h)
theorem W_cond_false {c : Operand} {x y : Code} (hc : ρ.ev c = some (.bool false)) (hf : W P n y Q ρ w) : W P n (.cond c x y) Q ρ w := W_cond hc (fun h => by cases h) (fun _ => hf)

/-- A loop: an invariant with a number that goes down. -/
theorem W_loop {c : Code} (I : Nat → Env → World → Prop) (m : Nat) (ρ0 : Env) (hs : Sub ρ0 ρ) (h0 : I m ρ0 w) (round : ∀ m ρ w, I m ρ w → W P n c (Lp I m Q) ρ w) : W P n (.loop c) Q ρ w := by
  intro act ha b k cs
  have key : ∀ m ρ a w, Agree n ρ a → I m ρ w → ∃ e a' w', liftQ n Q e a' w' ∧ Arrives P (lone (b.at a (.code c :: .inLoop c :: k)) cs w) b k cs e a' w' := by
    intro m
    induction m using Nat.strongRecOn with
    | _ m ih =>
      intro ρ a w ha hI
      obtain ⟨e, a1, w1, ⟨ρ1, ha1, hq⟩, harr⟩ := round m ρ w hI a ha b (.inLoop c :: k) cs
      cases e with
      | normal =>
        obtain ⟨m', ρ', hlt, hs', hI'⟩ := hq
        obtain ⟨e2, a2, w2, hq2, harr2⟩ := ih m' hlt ρ' a1 w1 (ha1.sub hs') hI'
        exact ⟨e2, a2, w2, hq2, .of_steps (Steps.trans harr (.one step_inLoop)) harr2⟩
      | exit id => exact ⟨_, a1, w1, ⟨ρ1, ha1, hq⟩, .pass (x := .inLoop c) rfl (fun _ _ => .inl (by simp)) harr⟩
      | goto l => exact ⟨_, a1, w1, ⟨ρ1, ha1, hq⟩, .pass (x := .inLoop c) rfl (fun _ _ => .inl (by simp)) harr⟩
      | ret => exact ⟨_, a1, w1, ⟨ρ1, ha1, hq⟩, .pass (x := .inLoop c) rfl (fun _ _ => .inl (by simp)) harr⟩
      | panic ch => exact ⟨_, a1, w1, ⟨ρ1, ha1, hq⟩, .pass (x := .inLoop c) rfl (fun _ _ => .inl (by simp)) harr⟩
      | outgrown => exact ⟨_, a1, w1, ⟨ρ1, ha1, hq⟩, .pass (x := .inLoop c) rfl (fun _ _ => .inl (by simp)) harr⟩
  obtain ⟨e, a', w', hq, harr⟩ := key m ρ0 act w (ha.sub hs) h0
  exact ⟨e, a', w', hq, .of_steps (.one step_loop) harr⟩

/-- A region. -/
theorem W_region {id : Nat} {l : List Oper} (h : T P (plan P) n l.toArray (fun ρ w => Q .normal ρ w) l ρ w) : W P n (.region id l.toArray false) Q ρ w := fun a ha =>
  wp_region_plain (plan P) trivial (XL_of_T l ρ a w ha trivial h)
theorem W_draw {id : Nat} {l : List Oper} (hm : P.follows .mixedOrders = true) (hB : textB (plan P) l.toArray = true) (h : T P (plan P) n l.toArray (fun ρ w => Q .normal ρ w) l ρ w.drew) : W P n (.region id l.toArray true) Q ρ w := fun a ha =>
  wp_region_text (plan P) hm hB trivial (XL_of_T l ρ a w.drew ha trivial h)
/-- A region that draws, with a plan of one's own. -/
theorem W_plan {id : Nat} {l : List Oper} (N : Plan) (hm : P.follows .mixedOrders = true) (hB : textB N l.toArray = true) (hc : N.C w.drew) (h : T P N n l.toArray (fun ρ w => Q .normal ρ w) l ρ w.drew) : W P n (.region id l.toArray true) Q ρ w := fun a ha =>
  wp_region_text N hm hB hc (XL_of_T l ρ a w.drew ha hc h)

/-! ### A function -/

def ResAll (P : Program) (ρ : Env) (w : World) : List ResultVar → List Value → Prop
  | [], vs => vs = []
  | .tmp t :: rs, vs => ∃ v vs', vs = v :: vs' ∧ ρ.get? t = some v ∧ ResAll P ρ w rs vs'
  | .cell t ty :: rs, vs => ∃ v vs' ad, vs = v :: vs' ∧ ρ.get? t = some (.pointer (some ad)) ∧ (loadVar ty ad).run P w = .ok v w ∧ ResAll P ρ w rs vs'

def oneOf : List Value → Value
  | [v] => v
  | vs => .tuple vs.toArray

def Post (P : Program) (rs : List ResultVar) (R : Ending → World → Prop) : Exit → Env → World → Prop
  | .normal, ρ, w | .ret, ρ, w => ∃ vs, ResAll P ρ w rs vs ∧ R (.returned (oneOf vs)) w
  | _, _, _ => False

theorem resAll_run {a : Act} (ha : Agree n ρ a) (g : ResultVar → Sem Value) (g1 : ∀ t, g (.tmp t) = pure (a.tmps.getD t undef))
    (g2 : ∀ x t, g (.cell x t) = (asAddr (a.tmps.getD x undef) >>= fun ad => loadVar t ad)) : ∀ (rs : List ResultVar) (vs : List Value), ResAll P ρ w rs vs → (rs.mapM g).run P w = .ok vs w
  | [], vs, h => by cases h; rfl
  | .tmp t :: rs, vs, h => by
    obtain ⟨v, vs', rfl, hv, h⟩ := h
    have h1 := ha.2.2 t v hv
    have ih := resAll_run ha g g1 g2 rs vs' h
    rw [List.mapM_cons, g1]
    simp only [Sem.run_bind, Sem.run_pure, Result.andThen_ok]
    rw [ih]
    simp [h1]
  | .cell t ty :: rs, vs, h => by
    obtain ⟨v, vs', ad, rfl, hv, hl, h⟩ := h
    have h1 := ha.2.2 t _ hv
    have ih := resAll_run ha g g1 g2 rs vs' h
    rw [List.mapM_cons, g2]
    have h2 : (asAddr (a.tmps.getD t undef)).run P w = .ok ad w := by simp [h1, asAddr]
    simp only [Sem.run_bind, h2, Result.andThen_ok, hl, ih, Sem.run_pure]

theorem calls_of_W {f : FuncId} {fn : Func} {c : Code} {args : Array Value} {R : Ending → World → Prop} (rs : List ResultVar) (hf : P.funcs[f]? = some fn) (hb : fn.body = some c) (hn : fn.ntmps = n) (hr : fn.results = rs.toArray)
    (hsz : Nat.ble args.size n = true) (hρ : ∀ t v, ρ.get? t = some v → args[t]? = some v) (h : W P n c (Post P rs R) ρ w) : Calls P f args w R := by
  refine calls_of_wp hf hb ?_
  have ha : Agree n ρ { tmps := args ++ Array.replicate (fn.ntmps - args.size) undef, defers := [] } := by
    have := Nat.le_of_ble_eq_true hsz
    refine ⟨by simp; omega, rfl, fun t v hv => ?_⟩
    have h1 := hρ t v hv
    have hlt : t < args.size := (Array.getElem?_eq_some_iff.1 h1).1
    rw [Array.getElem?_append_left hlt]
    exact h1
  refine wp_mono (h _ ha) fun e a' w' ⟨ρ', ha', hq⟩ => ?_
  have fin : ∀ vs, ResAll P ρ' w' rs vs → (results fn a'.tmps).run P w' = .ok (oneOf vs) w' := by
    intro vs hv
    unfold results
    rw [hr]
    simp only [Sem.run_bind, List.mapM_toArray, Sem.run_map]
    rw [resAll_run ha' _ ?_ ?_ rs vs hv]
    rotate_left
    · intro t; rfl
    · intro x t; rfl
    simp only [Result.andThen_ok, Sem.run_pure]
    congr 1
    match vs with
    | [] => rfl
    | [v] => rfl
    | u :: v :: r => rw [dif_neg (by simp)]; rfl
  cases e with
  | normal => obtain ⟨vs, hv, hR⟩ := hq; exact ⟨ha'.2.1, _, fin vs hv, hR⟩
  | ret => obtain ⟨vs, hv, hR⟩ := hq; exact ⟨ha'.2.1, _, fin vs hv, hR⟩
  | exit i => exact hq.elim
  | goto l => exact hq.elim
  | panic c => exact hq.elim
  | outgrown => exact hq.elim

/-- The arguments as what is known of the first slots. -/
def argEnv : Nat → List Value → Env
  | _, [] => []
  | i, v :: r => (i, v) :: argEnv (i + 1) r

theorem argEnv_get : ∀ (l : List Value) (i t : Nat) (v : Value), (argEnv i l).get? t = some v → i ≤ t ∧ l[t - i]? = some v
  | [], _, _, _, h => by cases h
  | u :: r, i, t, v, h => by
    rw [argEnv, get?_cons] at h
    split at h
    · rename_i e; subst e; simp only [Option.some.injEq] at h; subst h; simp
    · rename_i e
      obtain ⟨h1, h2⟩ := argEnv_get r (i + 1) t v h
      refine ⟨by omega, ?_⟩
      have : t - i = (t - (i + 1)) + 1 := by omega
      rw [this]; simpa using h2

/-- ENTER A FUNCTION. -/
theorem enter {f : FuncId} {fn : Func} {c : Code} {args : List Value} {R : Ending → World → Prop} (rs : List ResultVar) (hf : P.funcs[f]? = some fn) (hb : fn.body = some c) (hn : fn.ntmps = n) (hr : fn.results = rs.toArray)
    (hsz : Nat.ble args.length n = true) (h : W P n c (Post P rs R) (argEnv 0 args) w) : Calls P f args.toArray w R :=
  calls_of_W rs hf hb hn hr (by simpa using hsz) (fun t v hv => by have := (argEnv_get args 0 t v hv).2; simpa using this) h
end
end Go.F
namespace Go.F
open Go
section
variable {P : Program} {n : Nat} {Q : Exit → Env → World → Prop} {ρ : Env} {w : World}
theorem enter0 {f : FuncId} {fn : Func} {c : Code} {R : Ending → World → Prop} (rs : List ResultVar) (hf : P.funcs[f]? = some fn) (hb : fn.body = some c) (hn : fn.ntmps = n) (hr : fn.results = rs.toArray)
    (h : W P n c (Post P rs R) [] w) : Calls P f #[] w R := enter (args := []) rs hf hb hn hr rfl h
theorem enter1 {f : FuncId} {fn : Func} {c : Code} {a : Value} {R : Ending → World → Prop} (rs : List ResultVar) (hf : P.funcs[f]? = some fn) (hb : fn.body = some c) (hn : fn.ntmps = n) (hr : fn.results = rs.toArray)
    (hsz : Nat.ble 1 n = true) (h : W P n c (Post P rs R) [(0, a)] w) : Calls P f #[a] w R := enter (args := [a]) rs hf hb hn hr hsz h
theorem enter2 {f : FuncId} {fn : Func} {c : Code} {a b : Value} {R : Ending → World → Prop} (rs : List ResultVar) (hf : P.funcs[f]? = some fn) (hb : fn.body = some c) (hn : fn.ntmps = n) (hr : fn.results = rs.toArray)
    (hsz : Nat.ble 2 n = true) (h : W P n c (Post P rs R) [(0, a), (1, b)] w) : Calls P f #[a, b] w R := enter (args := [a, b]) rs hf hb hn hr hsz h
theorem enter3 {f : FuncId} {fn : Func} {c : Code} {a b d : Value} {R : Ending → World → Prop} (rs : List ResultVar) (hf : P.funcs[f]? = some fn) (hb : fn.body = some c) (hn : fn.ntmps = n) (hr : fn.results = rs.toArray)
    (hsz : Nat.ble 3 n = true) (h : W P n c (Post P rs R) [(0, a), (1, b), (2, d)] w) : Calls P f #[a, b, d] w R := enter (args := [a, b, d]) rs hf hb hn hr hsz h
theorem enter4 {f : FuncId} {fn : Func} {c : Code} {a b d e : Value} {R : Ending → World → Prop} (rs : List ResultVar) (hf : P.funcs[f]? = some fn) (hb : fn.body = some c) (hn : fn.ntmps = n) (hr : fn.results = rs.toArray)
    (hsz : Nat.ble 4 n = true) (h : W P n c (Post P rs R) [(0, a), (1, b), (2, d), (3, e)] w) : Calls P f #[a, b, d, e] w R := enter (args := [a, b, d, e]) rs hf hb hn hr hsz h
theorem enter5 {f : FuncId} {fn : Func} {c : Code} {a b d e g : Value} {R : Ending → World → Prop} (rs : List ResultVar) (hf : P.funcs[f]? = some fn) (hb : fn.body = some c) (hn : fn.ntmps = n) (hr : fn.results = rs.toArray)
    (hsz : Nat.ble 5 n = true) (h : W P n c (Post P rs R) [(0, a), (1, b), (2, d), (3, e), (4, g)] w) : Calls P f #[a, b, d, e, g] w R := enter (args := [a, b, d, e, g]) rs hf hb hn hr hsz h
theorem enter6 {f : FuncId} {fn : Func} {c : Code} {a b d e g i : Value} {R : Ending → World → Prop} (rs : List ResultVar) (hf : P.funcs[f]? = some fn) (hb : fn.body = some c) (hn : fn.ntmps = n) (hr : fn.results = rs.toArray)
    (hsz : Nat.ble 6 n = true) (h : W P n c (Post P rs R) [(0, a), (1, b), (2, d), (3, e), (4, g), (5, i)] w) : Calls P f #[a, b, d, e, g, i] w R := enter (args := [a, b, d, e, g, i]) rs hf hb hn hr hsz h
end
end Go.F
