/- General lemmas for walking the code, or plain mathematics. -/
import Derived.Orders
import Derived.Tactics
import Derived.KernelRfl
set_option linter.unusedVariables false
set_option linter.unusedSimpArgs false
set_option maxRecDepth 8192
namespace Go.F
open Go

/-- How an operation stands to the world: it does not look at it, it only reads, or anything. -/
inductive Cls where
  | pure | read | loud
  deriving DecidableEq

def cls (P : Program) : Op → Cls
  | .move _ | .assign _ | .pick _ _ _ | .nilCheck _ | .binOp _ _ _ _ _ | .unOp _ _ _ | .fieldAddr _ _ _ | .field _ _ _ | .indexAddr _ _ _ | .index _ _ _
  | .slice _ _ _ _ _ | .extract _ _ | .build _ _ => .pure
  | .convert _ dst _ => match P.underlying dst with | some (.int _) => .pure | some .string => .read | _ => .loud
  | .load _ _ => .read
  | .call { callee := .builtin .len, .. } | .call { callee := .builtin .min, .. } | .call { callee := .builtin .max, .. } => .pure
  | .call { callee := .builtin .cap, .. } => .pure
  | _ => .loud

/-- Which class each operation is taken as; a fact on the world that holds all through. -/
structure Plan where
  cl : Oper → Cls
  C : World → Prop

/-- The plan of most regions: by the operation's own look; nothing is held. -/
def plan (P : Program) : Plan := ⟨fun o => cls P o.op, fun _ => True⟩

section
variable {P : Program} {N : Plan} {ops : Array Oper}

/-- It yields v, and leaves the world alone. -/
def Quiet (P : Program) (e : Sem Next) (u : World) (v : Value) : Prop :=
  e.run P u = .ok (.value v) u ∨ ∃ f args, P.inits.idxOf? f = none ∧ e.run P u = .ok (.enter f args) u ∧ Calls P f args u fun e w' => e = .returned v ∧ w' = u

/-- One operation, by its class; no exit but the normal one. -/
def xo (P : Program) (N : Plan) (ops : Array Oper) (o : Oper) (K : Act → World → Prop) (a : Act) (w : World) : Prop :=
  if Region.wanted o (yielded ops a.tmps) = true then
    match N.cl o with
    | .pure => ∃ v, (∀ u, N.C u → Quiet P (execOp a.eval o) u v) ∧ K (a.put o.dst v) w
    | .read => ∃ v, Quiet P (execOp a.eval o) w v ∧ K (a.put o.dst v) w
    | .loud => o.wp P a w (fun a' w' => N.C w' ∧ K a' w') (fun _ _ _ => False)
  else K (a.put o.dst undef) w

theorem runN_ended {P : Program} {m : Machine} {o : Outcome} {w : World} (h : step P m = .ended o w) : ∀ n, 0 < n → runN P n m = .ended o w
  | 0, hn => absurd hn (Nat.lt_irrefl 0)
  | _ + 1, _ => by simp [runN, h]

/-- What a call returns is one. -/
theorem calls_one {f : FuncId} {args : Array Value} {w : World} {v v' : Value} {R R' : World → Prop} (hi : P.inits.idxOf? f = none)
    (h : Calls P f args w fun e w' => e = .returned v ∧ R w') (h' : Calls P f args w fun e w' => e = .returned v' ∧ R' w') : v = v' := by
  obtain ⟨e1, w1, fr1, ⟨rfl, _⟩, hc1, hf1, hl1⟩ := h []
  obtain ⟨e2, w2, fr2, ⟨rfl, _⟩, hc2, hf2, hl2⟩ := h' []
  obtain ⟨n1, hn1⟩ := hc1
  obtain ⟨n2, hn2⟩ := hc2
  have s1 := step_leave_done hl1 (by rw [hf1]; exact hi)
  have s2 := step_leave_done hl2 (by rw [hf2]; exact hi)
  have key : ∀ a b (m1 m2 : Machine) (o : Outcome) (wx : World), runN P a (lone (Frame.enter P f args .normal) [] w) = .next m1 → step P m1 = .ended o wx →
      runN P b (lone (Frame.enter P f args .normal) [] w) = .next m2 → ¬ a < b := by
    intro a b m1 m2 o wx ha hs hb hlt
    have : b = a + (b - a) := by omega
    rw [this, runN_add, ha] at hb
    simp only at hb
    rw [runN_ended hs (b - a) (by omega)] at hb
    cases hb
  have e : n1 = n2 := by
    have := key n1 n2 _ _ _ _ hn1 s1 hn2
    have := key n2 n1 _ _ _ _ hn2 s2 hn1
    omega
  subst e
  rw [hn1] at hn2
  simp only [Stepped.next.injEq] at hn2
  have hs : Stepped.ended (Outcome.done v) w1 = Stepped.ended (Outcome.done v') w2 := by rw [← s1, ← s2, hn2]
  simp only [Stepped.ended.injEq, Outcome.done.injEq] at hs
  exact hs.1

theorem Quiet.one {e : Sem Next} {u : World} {v v' : Value} (h : Quiet P e u v) (h' : Quiet P e u v') : v = v' := by
  rcases h with h | ⟨f, args, hi, h, hc⟩ <;> rcases h' with h' | ⟨f', args', hi', h', hc'⟩
  · rw [h] at h'; simpa using h'
  · rw [h] at h'; simp at h'
  · rw [h] at h'; simp at h'
  · rw [h] at h'
    simp only [Result.ok.injEq, Next.enter.injEq, and_true] at h'
    obtain ⟨rfl, rfl⟩ := h'
    exact calls_one (R := fun w' => w' = u) (R' := fun w' => w' = u) hi hc hc'

theorem wp_of_quiet {o : Oper} {a : Act} {u : World} {v : Value} {K : Act → World → Prop} {Q : Exit → Act → World → Prop} (h : Quiet P (execOp a.eval o) u v) (hk : K (a.put o.dst v) u) : o.wp P a u K Q := by
  unfold Oper.wp
  rcases h with h | ⟨f, args, _, h, hc⟩
  · rw [h]; exact hk
  · rw [h]
    exact hc.mono (fun e w' ⟨he, hw⟩ => by subst he; subst hw; exact hk)

theorem wp_exits {o : Oper} {a : Act} {w : World} {K : Act → World → Prop} {Q : Exit → Act → World → Prop} (h : o.wp P a w K (fun _ _ _ => False)) : o.wp P a w K Q := by
  unfold Oper.wp at *
  generalize (execOp a.eval o).run P w = r at *
  cases r with
  | ok n w' =>
    cases n <;> simp only [Oper.upon] at h ⊢ <;>
      first
        | exact h
        | exact Calls.mono h (fun e w'' he => by
            cases e with
            | returned v => exact he
            | panicked c => exact he.elim
            | outgrown => obtain ⟨_, _, hf⟩ := he; exact hf.elim)
  | halt x w' => cases x <;> simp only [Oper.upon] at h ⊢

theorem xo_mono {o : Oper} {K K' : Act → World → Prop} {a : Act} {w : World} (hw0 : N.C w) (hk : ∀ a w, N.C w → K a w → K' a w) (h : xo P N ops o K a w) : xo P N ops o K' a w := by
  unfold xo at *
  split
  · rename_i hw
    rw [if_pos hw] at h
    split
    · rename_i hc; rw [hc] at h; obtain ⟨v, h1, h2⟩ := h; exact ⟨v, h1, hk _ _ hw0 h2⟩
    · rename_i hc; rw [hc] at h; obtain ⟨v, h1, h2⟩ := h; exact ⟨v, h1, hk _ _ hw0 h2⟩
    · rename_i hc; rw [hc] at h; exact Oper.wp_mono (fun a' w' h' => ⟨h'.1, hk _ _ h'.1 h'.2⟩) h
  · rename_i hw
    rw [if_neg hw] at h
    exact hk _ _ hw0 h

theorem xo_wpOp {i : Nat} {o : Oper} {K : Act → World → Prop} {Q : Exit → Act → World → Prop} {a : Act} {w : World} (hw0 : N.C w) (hi : ops[i]? = some o) (h : xo P N ops o K a w) : wpOp P ops Q i (fun a w => N.C w ∧ K a w) a w := by
  unfold wpOp
  simp only [hi]
  unfold xo at h
  split
  · rename_i hw
    rw [if_pos hw] at h
    refine .inl ?_
    cases hc : N.cl o <;> rw [hc] at h
    · obtain ⟨v, h1, h2⟩ := h
      exact wp_of_quiet (h1 w hw0) ⟨hw0, h2⟩
    · obtain ⟨v, h1, h2⟩ := h
      exact wp_of_quiet h1 ⟨hw0, h2⟩
    · exact wp_exits h
  · rename_i hw
    rw [if_neg hw] at h
    exact ⟨hw0, h⟩

/-- The frame behind an operation: one slot is set (and perhaps something deferred). -/
def Shape (o : Oper) (a a1 : Act) : Prop := ∃ u ds, a1 = ({ a with defers := ds } : Act).put o.dst u

theorem wp_shape {o : Oper} {K : Act → World → Prop} {a : Act} {w : World} (h : o.wp P a w K (fun _ _ _ => False)) :
    o.wp P a w (fun a1 w1 => K a1 w1 ∧ Shape o a a1) (fun _ _ _ => False) := by
  unfold Oper.wp at *
  generalize (execOp a.eval o).run P w = r at *
  cases r with
  | ok n w' =>
    cases n <;> simp only [Oper.upon] at h ⊢ <;>
      first
        | exact ⟨h, _, _, rfl⟩
        | exact h
        | exact Calls.mono h (fun e w'' he => by
            cases e with
            | returned v => exact ⟨he, _, a.defers, rfl⟩
            | panicked c => exact he.elim
            | outgrown => exact he)
        | exact Rows.mono h (fun v w'' he => ⟨he, _, a.defers, rfl⟩)
  | halt x w' => cases x <;> simp only [Oper.upon] at h ⊢

theorem wp_out {o : Oper} {K : Act → World → Prop} {a : Act} {w : World} (h : o.wp P a w K (fun _ _ _ => False)) : ∃ a1 w1, K a1 w1 := by
  unfold Oper.wp at h
  generalize (execOp a.eval o).run P w = r at *
  cases r with
  | ok n w' =>
    cases n <;> simp only [Oper.upon] at h <;>
      first
        | exact ⟨_, _, h⟩
        | exact h.elim
        | (obtain ⟨e, w'', fr, hr, _⟩ := h []
           cases e with
           | returned v => exact ⟨_, _, hr⟩
           | panicked c => exact hr.elim
           | outgrown => obtain ⟨_, _, hf⟩ := hr; exact hf.elim)
        | (obtain ⟨v, w'', hr, _⟩ := h default []; exact ⟨_, _, hr⟩)
  | halt x w' => cases x <;> simp only [Oper.upon] at h

theorem xo_shape {o : Oper} {K : Act → World → Prop} {a : Act} {w : World} (h : xo P N ops o K a w) : xo P N ops o (fun a1 w1 => K a1 w1 ∧ Shape o a a1) a w := by
  unfold xo at *
  split
  · rename_i hw
    rw [if_pos hw] at h
    split
    · rename_i hc; rw [hc] at h; obtain ⟨v, h1, h2⟩ := h; exact ⟨v, h1, h2, v, a.defers, rfl⟩
    · rename_i hc; rw [hc] at h; obtain ⟨v, h1, h2⟩ := h; exact ⟨v, h1, h2, v, a.defers, rfl⟩
    · rename_i hc; rw [hc] at h; exact Oper.wp_mono (fun a' w' h' => ⟨h'.1.1, h'.1.2, h'.2⟩) (wp_shape h)
  · rename_i hw
    rw [if_neg hw] at h
    exact ⟨h, undef, a.defers, rfl⟩

theorem xo_out {o : Oper} {K : Act → World → Prop} {a : Act} {w : World} (hw0 : N.C w) (h : xo P N ops o K a w) : ∃ a1 w1, N.C w1 ∧ K a1 w1 := by
  unfold xo at h
  split at h
  · split at h
    · obtain ⟨v, _, h2⟩ := h; exact ⟨_, _, hw0, h2⟩
    · obtain ⟨v, _, h2⟩ := h; exact ⟨_, _, hw0, h2⟩
    · exact wp_out h
  · exact ⟨_, _, hw0, h⟩

/-- What an operation yields does not hang on a slot that it does not look at. -/
theorem shape_same {o o' : Oper} {a a1 : Act} (hs : Shape o a a1) (hsel : ∀ cs b, o'.op ≠ .select cs b) (hl : ∀ d, o.dst = some d → d ∉ o'.looksAt ops) :
    execOp a1.eval o' = execOp a.eval o' ∧ Region.wanted o' (yielded ops a1.tmps) = Region.wanted o' (yielded ops a.tmps) := by
  obtain ⟨u, ds, rfl⟩ := hs
  exact ⟨(execOp_put o' hsel _ o.dst u hl).trans rfl, (wanted_put o' _ o.dst u hl).trans rfl⟩

theorem wp_put {oi oj : Oper} {v : Value} {K : Act → World → Prop} {a : Act} {w : World} (hsel : ∀ cs b, oi.op ≠ .select cs b)
    (h1 : ∀ d, oj.dst = some d → d ∉ oi.looksAt ops) (h2 : ∀ d, oj.dst = some d → oi.dst ≠ some d)
    (h : oi.wp P a w (fun a1 w1 => K (a1.put oj.dst v) w1) (fun _ _ _ => False)) : oi.wp P (a.put oj.dst v) w K (fun _ _ _ => False) := by
  unfold Oper.wp at *
  rw [execOp_put oi hsel a oj.dst v h1]
  generalize (execOp a.eval oi).run P w = r at *
  cases r with
  | ok n w' =>
    cases n <;> simp only [Oper.upon] at h ⊢ <;>
      first
        | exact h
        | (rw [Act.put_comm a v _ h2]; exact h)
        | (rw [Act.put_defers, Act.put_comm _ v _ h2]; exact h)
        | exact Calls.mono h (fun e w'' he => by
            cases e with
            | returned u => dsimp only at he ⊢; rw [Act.put_comm a v u h2]; exact he
            | panicked c => exact he
            | outgrown => exact he)
        | exact Rows.mono h (fun u w'' he => by rw [Act.put_comm a v u h2]; exact he)
  | halt x w' => cases x <;> simp only [Oper.upon] at h ⊢

theorem wp_unput {oi oj : Oper} {v : Value} {K : Act → World → Prop} {a : Act} {w : World} (hsel : ∀ cs b, oj.op ≠ .select cs b)
    (h1 : ∀ d, oi.dst = some d → d ∉ oj.looksAt ops) (h2 : ∀ d, oi.dst = some d → oj.dst ≠ some d)
    (h : oj.wp P (a.put oi.dst v) w K (fun _ _ _ => False)) : oj.wp P a w (fun a2 w2 => K (a2.put oi.dst v) w2) (fun _ _ _ => False) := by
  unfold Oper.wp at *
  rw [execOp_put oj hsel a oi.dst v h1] at h
  generalize (execOp a.eval oj).run P w = r at *
  cases r with
  | ok n w' =>
    cases n <;> simp only [Oper.upon] at h ⊢ <;>
      first
        | exact h
        | (rw [← Act.put_comm a v _ h2]; exact h)
        | (rw [← Act.put_comm _ v _ h2, ← Act.put_defers]; exact h)
        | exact Calls.mono h (fun e w'' he => by
            cases e with
            | returned u => dsimp only at he ⊢; rw [← Act.put_comm a v u h2]; exact he
            | panicked c => exact he
            | outgrown => exact he)
        | exact Rows.mono h (fun u w'' he => by rw [← Act.put_comm a v u h2]; exact he)
  | halt x w' => cases x <;> simp only [Oper.upon] at h ⊢

/-- A slot set ahead, or behind. -/
theorem xo_put {oi oj : Oper} {v : Value} {K : Act → World → Prop} {a : Act} {w : World} (hsel : ∀ cs b, oi.op ≠ .select cs b)
    (h1 : ∀ d, oj.dst = some d → d ∉ oi.looksAt ops) (h2 : ∀ d, oj.dst = some d → oi.dst ≠ some d)
    (h : xo P N ops oi (fun a1 w1 => K (a1.put oj.dst v) w1) a w) : xo P N ops oi K (a.put oj.dst v) w := by
  unfold xo at *
  rw [wanted_put oi a oj.dst v h1]
  split
  · rename_i hw
    rw [if_pos hw] at h
    split
    · rename_i hc; rw [hc] at h; obtain ⟨u, q1, q2⟩ := h; rw [execOp_put oi hsel a oj.dst v h1]; exact ⟨u, q1, by rw [Act.put_comm a v u h2]; exact q2⟩
    · rename_i hc; rw [hc] at h; obtain ⟨u, q1, q2⟩ := h; rw [execOp_put oi hsel a oj.dst v h1]; exact ⟨u, q1, by rw [Act.put_comm a v u h2]; exact q2⟩
    · rename_i hc; rw [hc] at h; exact wp_put hsel h1 h2 h
  · rename_i hw
    rw [if_neg hw] at h
    rw [Act.put_comm a v undef h2]
    exact h

theorem xo_unput {oi oj : Oper} {v : Value} {K : Act → World → Prop} {a : Act} {w : World} (hsel : ∀ cs b, oj.op ≠ .select cs b)
    (h1 : ∀ d, oi.dst = some d → d ∉ oj.looksAt ops) (h2 : ∀ d, oi.dst = some d → oj.dst ≠ some d)
    (h : xo P N ops oj K (a.put oi.dst v) w) : xo P N ops oj (fun a2 w2 => K (a2.put oi.dst v) w2) a w := by
  unfold xo at *
  rw [wanted_put oj a oi.dst v h1] at h
  split
  · rename_i hw
    rw [if_pos hw] at h
    split
    · rename_i hc; rw [hc] at h; dsimp only at h; rw [execOp_put oj hsel a oi.dst v h1] at h; obtain ⟨u, q1, q2⟩ := h; exact ⟨u, q1, by dsimp only; rw [← Act.put_comm a v u h2]; exact q2⟩
    · rename_i hc; rw [hc] at h; dsimp only at h; rw [execOp_put oj hsel a oi.dst v h1] at h; obtain ⟨u, q1, q2⟩ := h; exact ⟨u, q1, by dsimp only; rw [← Act.put_comm a v u h2]; exact q2⟩
    · rename_i hc; rw [hc] at h; exact wp_unput hsel h1 h2 h
  · rename_i hw
    rw [if_neg hw] at h
    rw [← Act.put_comm a v undef h2]
    exact h

def compat (N : Plan) (x y : Oper) : Bool :=
  match N.cl x, N.cl y with
  | .pure, _ => true
  | _, .pure => true
  | .read, .read => true
  | _, _ => false

theorem compat_spec {x y : Oper} (h : compat N x y = true) : N.cl x = .pure ∨ N.cl y = .pure ∨ (N.cl x = .read ∧ N.cl y = .read) := by
  unfold compat at h
  split at h <;> simp_all

theorem comm {oi oj : Oper} {K : Act → World → Prop} {a : Act} {w : World} (hw0 : N.C w) (hap : oi.apart ops oj = true) (hsi : ∀ cs b, oi.op ≠ .select cs b) (hsj : ∀ cs b, oj.op ≠ .select cs b)
    (hc : compat N oi oj = true) (h : xo P N ops oi (fun a1 w1 => xo P N ops oj K a1 w1) a w) : xo P N ops oj (fun a2 w2 => xo P N ops oi K a2 w2) a w := by
  obtain ⟨l1, l2, l3⟩ := Oper.apart_spec hap
  have l2' : ∀ d, oj.dst = some d → oi.dst ≠ some d := fun d hd e => l2 d e hd
  rcases compat_spec hc with hci | hcj | ⟨hci, hcj⟩
  · -- oi looks at no world
    unfold xo at h
    by_cases hwi : Region.wanted oi (yielded ops a.tmps) = true
    · rw [if_pos hwi, hci] at h
      obtain ⟨v, hv, hj⟩ := h
      have hj' := xo_unput (a := a) (oi := oi) hsj l1 l2 hj
      refine xo_mono hw0 (fun a2 w2 _ ⟨hk, hs⟩ => ?_) (xo_shape hj')
      obtain ⟨he, hw2⟩ := shape_same (ops := ops) hs hsi l3
      unfold xo
      rw [if_pos (by rw [hw2]; exact hwi), hci, he]
      exact ⟨v, hv, hk⟩
    · rw [if_neg hwi] at h
      have hj' := xo_unput (a := a) (oi := oi) hsj l1 l2 h
      refine xo_mono hw0 (fun a2 w2 _ ⟨hk, hs⟩ => ?_) (xo_shape hj')
      obtain ⟨he, hw2⟩ := shape_same (ops := ops) hs hsi l3
      unfold xo
      rw [if_neg (by rw [hw2]; exact hwi)]
      exact hk
  · -- oj looks at no world
    have hsh := xo_shape h
    obtain ⟨a1, w1, hw1', h1, hs1⟩ := xo_out hw0 hsh
    obtain ⟨he1, hw1⟩ := shape_same (ops := ops) hs1 hsj l1
    unfold xo at h1
    by_cases hwj : Region.wanted oj (yielded ops a.tmps) = true
    · rw [if_pos (by rw [hw1]; exact hwj), hcj, he1] at h1
      obtain ⟨v, hv, _⟩ := h1
      have key : xo P N ops oi (fun a1 w1 => K (a1.put oj.dst v) w1) a w := by
        refine xo_mono hw0 (fun a2 w2 _ ⟨hk, hs⟩ => ?_) hsh
        obtain ⟨he2, hw2⟩ := shape_same (ops := ops) hs hsj l1
        unfold xo at hk
        rw [if_pos (by rw [hw2]; exact hwj), hcj, he2] at hk
        obtain ⟨v', hv', hk⟩ := hk
        have e : v' = v := (hv' w hw0).one (hv w hw0)
        rw [← e]; exact hk
      unfold xo
      rw [if_pos hwj, hcj]
      exact ⟨v, hv, xo_put hsi l3 l2' key⟩
    · have key : xo P N ops oi (fun a1 w1 => K (a1.put oj.dst undef) w1) a w := by
        refine xo_mono hw0 (fun a2 w2 _ ⟨hk, hs⟩ => ?_) hsh
        obtain ⟨he2, hw2⟩ := shape_same (ops := ops) hs hsj l1
        unfold xo at hk
        rw [if_neg (by rw [hw2]; exact hwj)] at hk
        exact hk
      unfold xo
      rw [if_neg hwj]
      exact xo_put hsi l3 l2' key
  · -- both only read
    unfold xo at h
    by_cases hwi : Region.wanted oi (yielded ops a.tmps) = true
    · rw [if_pos hwi, hci] at h
      obtain ⟨v, hv, hj⟩ := h
      have hj' := xo_shape (xo_unput (a := a) (oi := oi) hsj l1 l2 hj)
      unfold xo at hj' ⊢
      by_cases hwj : Region.wanted oj (yielded ops a.tmps) = true
      · rw [if_pos hwj, hcj] at hj' ⊢
        obtain ⟨u, hu, hk, hs⟩ := hj'
        obtain ⟨he, hw2⟩ := shape_same (ops := ops) hs hsi l3
        refine ⟨u, hu, ?_⟩
        dsimp only
        rw [if_pos (by rw [hw2]; exact hwi), hci, he]
        exact ⟨v, hv, hk⟩
      · rw [if_neg hwj] at hj' ⊢
        obtain ⟨hk, hs⟩ := hj'
        obtain ⟨he, hw2⟩ := shape_same (ops := ops) hs hsi l3
        rw [if_pos (by rw [hw2]; exact hwi), hci, he]
        exact ⟨v, hv, hk⟩
    · rw [if_neg hwi] at h
      have hj' := xo_unput (a := a) (oi := oi) hsj l1 l2 h
      refine xo_mono hw0 (fun a2 w2 _ ⟨hk, hs⟩ => ?_) (xo_shape hj')
      obtain ⟨he, hw2⟩ := shape_same (ops := ops) hs hsi l3
      unfold xo
      rw [if_neg (by rw [hw2]; exact hwi)]
      exact hk

/-! ### the orders -/

/-- Any order of what may come up. -/
def XA (P : Program) (N : Plan) (ops : Array Oper) (K : Act → World → Prop) : Nat → Array Bool → Act → World → Prop
  | 0, listed, a, w => Region.ready .any ops listed = [] ∧ K a w
  | f + 1, listed, a, w => (Region.ready .any ops listed = [] → K a w) ∧ ∀ i ∈ Region.ready .any ops listed, ∃ o, ops[i]? = some o ∧ xo P N ops o (XA P N ops K f (listed.setIfInBounds i true)) a w

theorem wpAny_of_XA {K : Act → World → Prop} {Q : Exit → Act → World → Prop} (hK : ∀ a w, N.C w → K a w → Q .normal a w) : ∀ (f : Nat) (listed : Array Bool) (a : Act) (w : World), N.C w → XA P N ops K f listed a w → wpAny P .any ops Q f listed a w
  | 0, _, _, _, hc, h => ⟨h.1, hK _ _ hc h.2⟩
  | f + 1, listed, a, w, hc, h => ⟨fun h0 => hK _ _ hc (h.1 h0), fun i hi => by
      obtain ⟨o, ho, hx⟩ := h.2 i hi
      exact wpOp_mono (fun a' w' h' => wpAny_of_XA hK f _ a' w' h'.1 h'.2) (xo_wpOp hc ho hx)⟩

/-- 'b' is a table of what stands ahead: bit i of b[j] is set only where an edge leads from j to i, or to some k with bit i set. -/
def ancB (ops : Array Oper) (b : Array Nat) : Bool :=
  (List.range ops.size).all fun j => match ops[j]? with
    | none => true
    | some o => (o.after.all fun e => !Region.binds .any e || decide (e.on < j)) &&
      (List.range ops.size).all fun i => !(b.getD j 0).testBit i || o.after.any fun e => Region.binds .any e && (e.on == i || (b.getD e.on 0).testBit i)

def Closed (ops : Array Oper) (listed : Array Bool) : Prop :=
  listed.size = ops.size ∧ ∀ j oj, ops[j]? = some oj → listed.getD j false = true → ∀ e ∈ oj.after, Region.binds .any e = true → listed.getD e.on false = true

theorem unl {listed : Array Bool} {i : Nat} (h : listed.getD i true = false) : listed.getD i false = false := by
  rcases Nat.lt_or_ge i listed.size with h' | h'
  · simp [h'] at h ⊢; exact h
  · simp [Array.getElem?_eq_none h'] at h

theorem listed_lt {listed : Array Bool} {i : Nat} (h : listed.getD i false = true) : i < listed.size := by
  rcases Nat.lt_or_ge i listed.size with h' | h'
  · exact h'
  · simp [Array.getElem?_eq_none h'] at h

theorem ancB_on {b : Array Nat} (hb : ancB ops b = true) {j : Nat} {oj : Oper} (hoj : ops[j]? = some oj) : ∀ e ∈ oj.after, Region.binds .any e = true → e.on < j := by
  intro e he hbind
  have h1 := List.all_eq_true.1 hb j (List.mem_range.2 (Array.getElem?_eq_some_iff.1 hoj).1)
  simp only [hoj, Bool.and_eq_true] at h1
  have h5 := Array.all_eq_true_iff_forall_mem.1 h1.1 e he
  simpa [hbind] using h5

theorem anc_listed {b : Array Nat} (hb : ancB ops b = true) {listed : Array Bool} (hc : Closed ops listed) {i : Nat} (hi : i < ops.size) :
    ∀ (j : Nat), (b.getD j 0).testBit i = true → ∀ oj, ops[j]? = some oj → (∀ e ∈ oj.after, Region.binds .any e = true → listed.getD e.on false = true) → listed.getD i false = true := by
  intro j
  induction j using Nat.strongRecOn with
  | _ j ih =>
    intro hbit oj hoj hall
    have h1 := List.all_eq_true.1 hb j (List.mem_range.2 (Array.getElem?_eq_some_iff.1 hoj).1)
    simp only [hoj, Bool.and_eq_true] at h1
    have h3 := List.all_eq_true.1 h1.2 i (List.mem_range.2 hi)
    simp only [hbit, Bool.not_true, Bool.false_or] at h3
    obtain ⟨e, he, h4⟩ := Array.any_eq_true'.1 h3
    simp only [Bool.and_eq_true, Bool.or_eq_true, beq_iff_eq] at h4
    obtain ⟨hbind, h4⟩ := h4
    have hl := hall e he hbind
    rcases h4 with rfl | h4
    · exact hl
    · have hon := listed_lt hl
      rw [hc.1] at hon
      have hoe : ops[e.on]? = some ops[e.on] := by simp [hon]
      exact ih e.on (ancB_on hb hoj e he hbind) h4 _ hoe (hc.2 e.on _ hoe hl)

theorem Closed.set {listed : Array Bool} {i : Nat} (hc : Closed ops listed) (hi : i ∈ Region.ready .any ops listed) : Closed ops (listed.setIfInBounds i true) := by
  obtain ⟨_, oi, hoi, hall⟩ := mem_ready.1 hi
  refine ⟨by simp [hc.1], fun j oj hj hl e he hb => ?_⟩
  by_cases hij : i = j
  · subst hij
    have : oj = oi := Option.some.inj (hj.symm.trans hoi)
    subst this
    exact getD_set_true (hall e he hb)
  · rw [getD_set_ne false hij] at hl
    exact getD_set_true (hc.2 j oj hj hl e he hb)

theorem XA_first {K : Act → World → Prop} {b : Array Nat} (hb : ancB ops b = true) (hsel : ∀ (j : Nat) (o : Oper) cs b, ops[j]? = some o → o.op ≠ .select cs b) {i : Nat} {oi : Oper} (hi : ops[i]? = some oi) :
    ∀ (f : Nat) (listed : Array Bool) (a : Act) (w : World), N.C w → Closed ops listed → i ∈ Region.ready .any ops listed →
      (∀ j oj, ops[j]? = some oj → j ≠ i → listed.getD j true = false → (b.getD j 0).testBit i = true ∨ (oi.apart ops oj = true ∧ compat N oi oj = true)) →
      xo P N ops oi (XA P N ops K f (listed.setIfInBounds i true)) a w → XA P N ops K (f + 1) listed a w := by
  have hil : i < ops.size := (Array.getElem?_eq_some_iff.1 hi).1
  intro f
  induction f with
  | zero =>
    intro listed a w hw0 hc hr hfree H
    refine ⟨fun h => (by rw [h] at hr; cases hr), fun j hj => ?_⟩
    by_cases hji : j = i
    · subst hji; exact ⟨oi, hi, H⟩
    · obtain ⟨a1, w1, _, h0, _⟩ := xo_out hw0 H
      have := ready_mono hj hji
      rw [h0] at this
      cases this
  | succ f ih =>
    intro listed a w hw0 hc hr hfree H
    refine ⟨fun h => (by rw [h] at hr; cases hr), fun j hj => ?_⟩
    by_cases hji : j = i
    · subst hji; exact ⟨oi, hi, H⟩
    · obtain ⟨hjun, oj, hoj, hall⟩ := mem_ready.1 hj
      refine ⟨oj, hoj, ?_⟩
      rcases hfree j oj hoj hji hjun with hbit | ⟨hap, hcp⟩
      · have h1 := anc_listed hb hc hil j hbit oj hoj hall
        rw [unl (mem_ready.1 hr).1] at h1
        cases h1
      · have h1 : xo P N ops oi (fun a1 w1 => xo P N ops oj (XA P N ops K f ((listed.setIfInBounds i true).setIfInBounds j true)) a1 w1) a w :=
          xo_mono hw0 (fun a1 w1 _ h => by
            obtain ⟨o, ho, hx⟩ := h.2 j (ready_mono hj hji)
            have : o = oj := Option.some.inj (ho.symm.trans hoj)
            subst this
            exact hx) H
        refine xo_mono hw0 (fun a2 w2 hw2 h => ih (listed.setIfInBounds j true) a2 w2 hw2 (hc.set hj) (ready_mono hr (Ne.symm hji)) (fun k ok hk hki hun => ?_) ?_)
          (comm hw0 hap (fun cs b => hsel i oi cs b hi) (fun cs b => hsel j oj cs b hoj) hcp h1)
        · refine hfree k ok hk hki ?_
          by_cases hjk : j = k
          · subst hjk; exact hjun
          · rw [getD_set_ne true hjk] at hun; exact hun
        · rw [Array.setIfInBounds_comm _ _ hji]
          exact h

/-- One behind the other, in the order of the text. -/
def XL (P : Program) (N : Plan) (ops : Array Oper) (K : Act → World → Prop) : List Oper → Act → World → Prop
  | [], a, w => K a w
  | o :: rest, a, w => xo P N ops o (XL P N ops K rest) a w

/-- THE CHECK: of every two operations that no edge orders one looks at no world, or both only read; and neither touches the other's slots. -/
def textB (N : Plan) (ops : Array Oper) : Bool :=
  let b := Region.before ops
  Region.noSelect ops && ancB ops b && (List.range ops.size).all fun j => match ops[j]? with
    | none => true
    | some oj => (List.range j).all fun i => (b.getD j 0).testBit i || match ops[i]? with
      | none => true
      | some oi => oi.apart ops oj && compat N oi oj

theorem XA_text {K : Act → World → Prop} (hB : textB N ops = true) : ∀ (l : List Oper) (k : Nat) (listed : Array Bool) (a : Act) (w : World), (∀ j, l[j]? = ops[k + j]?) → N.C w →
    Closed ops listed → (∀ j, j < ops.size → (listed.getD j false = true ↔ j < k)) → XL P N ops K l a w → XA P N ops K l.length listed a w := by
  unfold textB at hB
  simp only [Bool.and_eq_true] at hB
  obtain ⟨⟨hs, hb⟩, hp⟩ := hB
  intro l
  induction l with
  | nil =>
    intro k listed a w hl hw0 hc hlist h
    refine ⟨?_, h⟩
    rw [List.eq_nil_iff_forall_not_mem]
    intro j hj
    obtain ⟨hun, oj, hoj, _⟩ := mem_ready.1 hj
    have hjl : j < ops.size := (Array.getElem?_eq_some_iff.1 hoj).1
    have hk : ops.size ≤ k := by
      have := hl 0
      simp only [List.getElem?_nil, Nat.add_zero] at this
      exact Array.getElem?_eq_none_iff.1 this.symm
    have := (hlist j hjl).2 (by omega)
    rw [unl hun] at this
    cases this
  | cons o l ih =>
    intro k listed a w hl hw0 hc hlist h
    have h0 : ops[k]? = some o := by simpa using (hl 0).symm
    have hkl : k < ops.size := (Array.getElem?_eq_some_iff.1 h0).1
    have hready : k ∈ Region.ready .any ops listed := by
      refine mem_ready.2 ⟨?_, o, h0, fun e he hbind => ?_⟩
      · cases hx : listed.getD k true with
        | false => rfl
        | true =>
          have hk' : k < listed.size := by rw [hc.1]; exact hkl
          have : listed.getD k false = true := by simpa [hk'] using hx
          have := (hlist k hkl).1 this
          omega
      · have := ancB_on hb h0 e he hbind
        exact (hlist e.on (by omega)).2 this
    refine XA_first hb (Region.noSelect_spec hs) h0 l.length listed a w hw0 hc hready (fun j oj hoj hjk hun => ?_) ?_
    · have hjl : j < ops.size := (Array.getElem?_eq_some_iff.1 hoj).1
      have hkj : k < j := by
        rcases Nat.lt_or_ge j k with hlt | hge
        · have := (hlist j hjl).2 hlt
          rw [unl hun] at this; cases this
        · omega
      have h1 := List.all_eq_true.1 hp j (List.mem_range.2 hjl)
      simp only [hoj] at h1
      have h2 := List.all_eq_true.1 h1 k (List.mem_range.2 hkj)
      simp only [h0, Bool.or_eq_true, Bool.and_eq_true] at h2
      exact h2
    · refine xo_mono hw0 (fun a' w' hw' h' => ih (k + 1) _ a' w' (fun j => by have := hl (j + 1); simpa [Nat.add_assoc, Nat.add_comm 1 j] using this) hw' (hc.set hready) (fun j hj => ?_) h') h
      by_cases hjk : k = j
      · subst hjk
        have hk' : k < listed.size := by rw [hc.1]; exact hkl
        simp [hk']
      · rw [getD_set_ne false hjk, hlist j hj]
        omega

theorem closed_start : Closed ops (Array.replicate ops.size false) :=
  ⟨by simp, fun j oj _ hl => by
    rcases Nat.lt_or_ge j ops.size with h | h
    · simp [h] at hl
    · simp [h] at hl⟩

/-- A REGION THAT DRAWS ITS ORDER, IN THE ORDER OF ITS TEXT. -/
theorem wp_region_text {id : Nat} {l : List Oper} {Q : Exit → Act → World → Prop} {a : Act} {w : World} (N : Plan) (hm : P.follows .mixedOrders = true) (hB : textB N l.toArray = true)
    (hw0 : N.C w.drew) (h : XL P N l.toArray (fun a w => Q .normal a w) l a w.drew) : (Code.region id l.toArray true).wp P Q a w := by
  refine wp_region_any hm ?_
  refine wpAny_of_XA (N := N) (K := fun a w => Q .normal a w) (fun _ _ _ h => h) _ _ _ _ hw0 ?_
  have := XA_text (K := fun a w => Q .normal a w) hB l 0 (Array.replicate l.toArray.size false) a w.drew (fun j => by simp) hw0 closed_start (fun j hj => by simp at hj; simp [hj]) h
  simpa using this

theorem wpList_of_XL {Q : Exit → Act → World → Prop} : ∀ (l : List Oper) (a : Act) (w : World), N.C w → XL P N ops (fun a w => Q .normal a w) l a w → wpList P ops Q l a w
  | [], _, _, _, h => h
  | o :: l, a, w, hw0, h => by
    unfold wpList
    have h' : xo P N ops o (wpList P ops Q l) a w := xo_mono hw0 (fun a' w' hw' h' => wpList_of_XL l a' w' hw' h') h
    unfold xo at h'
    split
    · rename_i hw
      rw [if_pos hw] at h'
      refine .inl ?_
      cases hc : N.cl o <;> rw [hc] at h'
      · obtain ⟨v, h1, h2⟩ := h'
        exact wp_of_quiet (h1 w hw0) h2
      · obtain ⟨v, h1, h2⟩ := h'
        exact wp_of_quiet h1 h2
      · exact wp_exits (Oper.wp_mono (fun _ _ h => h.2) h')
    · rename_i hw
      rw [if_neg hw] at h'
      exact h'

theorem wp_region_plain {id : Nat} {l : List Oper} {Q : Exit → Act → World → Prop} {a : Act} {w : World} (N : Plan) (hw0 : N.C w)
    (h : XL P N l.toArray (fun a w => Q .normal a w) l a w) : (Code.region id l.toArray false).wp P Q a w := wp_region_lit (wpList_of_XL l a w hw0 h)

end
end Go.F
