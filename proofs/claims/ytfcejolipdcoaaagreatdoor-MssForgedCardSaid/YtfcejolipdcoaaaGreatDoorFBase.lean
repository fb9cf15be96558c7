/- General lemmas for walking the code, or plain mathematics. -/
import Derived.Orders
import Derived.Tactics
import Derived.KernelRfl
import Derived.WalkKit
import Derived.ChangeKeysEq
import Derived.Laws.StructEq
set_option linter.unusedVariables false
set_option linter.unusedSimpArgs false
set_option maxRecDepth 8192
namespace Go.F
open Go

inductive Cls where
  | pure | read | loud
  deriving DecidableEq

def cls (P : Program) : Op → Cls
  | .move _ | .assign _ | .pick _ _ _ | .nilCheck _ | .binOp _ _ _ _ _ | .unOp _ _ _ | .fieldAddr _ _ _ | .field _ _ _ | .indexAddr _ _ _ | .index _ _ _
  | .slice _ _ _ _ _ | .extract _ _ | .build _ _ => .pure
  | .convert _ dst _ => match P.underlying dst with | some (.int _) => .pure | some .string => .read | _ => .loud
  | .load _ _ => .read
  | .call { callee := .builtin .len, .. } | .call { callee := .builtin .min, .. } | .call { callee := .builtin .max, .. } => .pure
  | .call { callee := .builtin .cap, .. } => .pure
  | _ => .loud

structure Plan where
  cl : Oper → Cls
  C : World → Prop

def plan (P : Program) : Plan := ⟨fun o => cls P o.op, fun _ => True⟩

section
variable {P : Program} {N : Plan} {ops : Array Oper}

def Quiet (P : Program) (e : Sem Next) (u : World) (v : Value) : Prop :=
  e.run P u = .ok (.value v) u ∨ ∃ f args, P.inits.idxOf? f = none ∧ e.run P u = .ok (.enter f args) u ∧ Calls P f args u fun e w' => e = .returned v ∧ w' = u

def xo (P : Program) (N : Plan) (ops : Array Oper) (o : Oper) (K : Act → World → Prop) (a : Act) (w : World) : Prop :=
  if Region.wanted o (yielded ops a.tmps) = true then
    match N.cl o with
    | .pure => ∃ v, (∀ u, N.C u → Quiet P (execOp a.eval o) u v) ∧ K (a.put o.dst v) w
    | .read => ∃ v, Quiet P (execOp a.eval o) w v ∧ K (a.put o.dst v) w
    | .loud => o.wp P a w (fun a' w' => N.C w' ∧ K a' w') (fun _ _ _ => False)
  else K (a.put o.dst undef) w

theorem runN_ended {P : Program} {m : Machine} {o : Outcome} {w : World} (h : step P m = .ended o w) : ∀ n, 0 < n → runN P n m = .ended o w
  | 0, hn => absurd hn (Nat.lt_irrefl 0)
  | _ + 1, _ => by simp [runN, h]

theorem calls_one {f : FuncId} {args : Array Value} {w : World} {v v' : Value} {R R' : World → Prop} (hi : P.inits.idxOf? f = none)
    (h : Calls P f args w fun e w' => e = .returned v ∧ R w') (h' : Calls P f args w fun e w' => e = .returned v' ∧ R' w') : v = v' := by
  obtain ⟨e1, w1, fr1, ⟨rfl, _⟩, hc1, hf1, hl1⟩ := h []
  obtain ⟨e2, w2, fr2, ⟨rfl, _⟩, hc2, hf2, hl2⟩ := h' []
  obtain ⟨n1, hn1⟩ := hc1
  obtain ⟨n2, hn2⟩ := hc2
  have s1 := step_leave_done hl1 (by rw [hf1]; exact hi)
  have s2 := step_leave_done hl2 (by rw [hf2]; exact hi)
  have key : ∀ a b (m1 m2 : Machine) (o : Outcome) (wx : World), runN P a (lone (Frame.enter P f args .normal) [] w) = .next m1 → step P m1 = .ended o wx →
      runN P b (lone (Frame.enter P f args .normal) [] w) = .next m2 → ¬ a < b := by
    intro a b m1 m2 o wx ha hs hb hlt
    have : b = a + (b - a) := by omega
    rw [this, runN_add, ha] at hb
    simp only at hb
    rw [runN_ended hs (b - a) (by omega)] at hb
    cases hb
  have e : n1 = n2 := by
    have := key n1 n2 _ _ _ _ hn1 s1 hn2
    have := key n2 n1 _ _ _ _ hn2 s2 hn1
    omega
  subst e
  rw [hn1] at hn2
  simp only [Stepped.next.injEq] at hn2
  have hs : Stepped.ended (Outcome.done v) w1 = Stepped.ended (Outcome.done v') w2 := by rw [← s1, ← s2, hn2]
  simp only [Stepped.ended.injEq, Outcome.done.injEq] at hs
  exact hs.1

theorem Quiet.one {e : Sem Next} {u : World} {v v' : Value} (h : Quiet P e u v) (h' : Quiet P e u v') : v = v' := by
  rcases h with h | ⟨f, args, hi, h, hc⟩ <;> rcases h' with h' | ⟨f', args', hi', h', hc'⟩
  · rw [h] at h'; simpa using h'
  · rw [h] at h'; simp at h'
  · rw [h] at h'; simp at h'
  · rw [h] at h'
    simp only [Result.ok.injEq, Next.enter.injEq, and_true] at h'
    obtain ⟨rfl, rfl⟩ := h'
    exact calls_one (R := fun w' => w' = u) (R' := fun w' => w' = u) hi hc hc'

theorem wp_of_quiet {o : Oper} {a : Act} {u : World} {v : Value} {K : Act → World → Prop} {Q : Exit → Act → World → Prop} (h : Quiet P (execOp a.eval o) u v) (hk : K (a.put o.dst v) u) : o.wp P a u K Q := by
  unfold Oper.wp
  rcases h with h | ⟨f, args, _, h, hc⟩
  · rw [h]; exact hk
  · rw [h]
    exact hc.mono (fun e w' ⟨he, hw⟩ => by subst he; subst hw; exact hk)

theorem wp_exits {o : Oper} {a : Act} {w : World} {K : Act → World → Prop} {Q : Exit → Act → World → Prop} (h : o.wp P a w K (fun _ _ _ => False)) : o.wp P a w K Q := by
  unfold Oper.wp at *
  generalize (execOp a.eval o).run P w = r at *
  cases r with
  | ok n w' =>
    cases n <;> simp only [Oper.upon] at h ⊢ <;>
      first
        | exact h
        | exact Calls.mono h (fun e w'' he => by
            cases e with
            | returned v => exact he
            | panicked c => exact he.elim
            | outgrown => obtain ⟨_, _, hf⟩ := he; exact hf.elim)
  | halt x w' => cases x <;> simp only [Oper.upon] at h ⊢

theorem xo_mono {o : Oper} {K K' : Act → World → Prop} {a : Act} {w : World} (hw0 : N.C w) (hk : ∀ a w, N.C w → K a w → K' a w) (h : xo P N ops o K a w) : xo P N ops o K' a w := by
  unfold xo at *
  split
  · rename_i hw
    rw [if_pos hw] at h
    split
    · rename_i hc; rw [hc] at h; obtain ⟨v, h1, h2⟩ := h; exact ⟨v, h1, hk _ _ hw0 h2⟩
    · rename_i hc; rw [hc] at h; obtain ⟨v, h1, h2⟩ := h; exact ⟨v, h1, hk _ _ hw0 h2⟩
    · rename_i hc; rw [hc] at h; exact Oper.wp_mono (fun a' w' h' => ⟨h'.1, hk _ _ h'.1 h'.2⟩) h
  · rename_i hw
    rw [if_neg hw] at h
    exact hk _ _ hw0 h

theorem xo_wpOp {i : Nat} {o : Oper} {K : Act → World → Prop} {Q : Exit → Act → World → Prop} {a : Act} {w : World} (hw0 : N.C w) (hi : ops[i]? = some o) (h : xo P N ops o K a w) : wpOp P ops Q i (fun a w => N.C w ∧ K a w) a w := by
  unfold wpOp
  simp only [hi]
  unfold xo at h
  split
  · rename_i hw
    rw [if_pos hw] at h
    refine .inl ?_
    cases hc : N.cl o <;> rw [hc] at h
    · obtain ⟨v, h1, h2⟩ := h
      exact wp_of_quiet (h1 w hw0) ⟨hw0, h2⟩
    · obtain ⟨v, h1, h2⟩ := h
      exact wp_of_quiet h1 ⟨hw0, h2⟩
    · exact wp_exits h
  · rename_i hw
    rw [if_neg hw] at h
    exact ⟨hw0, h⟩

def Shape (o : Oper) (a a1 : Act) : Prop := ∃ u ds, a1 = ({ a with defers := ds } : Act).put o.dst u

theorem wp_shape {o : Oper} {K : Act → World → Prop} {a : Act} {w : World} (h : o.wp P a w K (fun _ _ _ => False)) :
    o.wp P a w (fun a1 w1 => K a1 w1 ∧ Shape o a a1) (fun _ _ _ => False) := by
  unfold Oper.wp at *
  generalize (execOp a.eval o).run P w = r at *
  cases r with
  | ok n w' =>
    cases n <;> simp only [Oper.upon] at h ⊢ <;>
      first
        | exact ⟨h, _, _, rfl⟩
        | exact h
        | exact Calls.mono h (fun e w'' he => by
            cases e with
            | returned v => exact ⟨he, _, a.defers, rfl⟩
            | panicked c => exact he.elim
            | outgrown => exact he)
        | exact Rows.mono h (fun v w'' he => ⟨he, _, a.defers, rfl⟩)
  | halt x w' => cases x <;> simp only [Oper.upon] at h ⊢

theorem wp_out {o : Oper} {K : Act → World → Prop} {a : Act} {w : World} (h : o.wp P a w K (fun _ _ _ => False)) : ∃ a1 w1, K a1 w1 := by
  unfold Oper.wp at h
  generalize (execOp a.eval o).run P w = r at *
  cases r with
  | ok n w' =>
    cases n <;> simp only [Oper.upon] at h <;>
      first
        | exact ⟨_, _, h⟩
        | exact h.elim
        | (obtain ⟨e, w'', fr, hr, _⟩ := h []
           cases e with
           | returned v => exact ⟨_, _, hr⟩
           | panicked c => exact hr.elim
           | outgrown => obtain ⟨_, _, hf⟩ := hr; exact hf.elim)
        | (obtain ⟨v, w'', hr, _⟩ := h default []; exact ⟨_, _, hr⟩)
  | halt x w' => cases x <;> simp only [Oper.upon] at h

theorem xo_shape {o : Oper} {K : Act → World → Prop} {a : Act} {w : World} (h : xo P N ops o K a w) : xo P N ops o (fun a1 w1 => K a1 w1 ∧ Shape o a a1) a w := by
  unfold xo at *
  split
  · rename_i hw
    rw [if_pos hw] at h
    split
    · rename_i hc; rw [hc] at h; obtain ⟨v, h1, h2⟩ := h; exact ⟨v, h1, h2, v, a.defers, rfl⟩
    · rename_i hc; rw [hc] at h; obtain ⟨v, h1, h2⟩ := h; exact ⟨v, h1, h2, v, a.defers, rfl⟩
    · rename_i hc; rw [hc] at h; exact Oper.wp_mono (fun a' w' h' => ⟨h'.1.1, h'.1.2, h'.2⟩) (wp_shape h)
  · rename_i hw
    rw [if_neg hw] at h
    exact ⟨h, undef, a.defers, rfl⟩

theorem xo_out {o : Oper} {K : Act → World → Prop} {a : Act} {w : World} (hw0 : N.C w) (h : xo P N ops o K a w) : ∃ a1 w1, N.C w1 ∧ K a1 w1 := by
  unfold xo at h
  split at h
  · split at h
    · obtain ⟨v, _, h2⟩ := h; exact ⟨_, _, hw0, h2⟩
    · obtain ⟨v, _, h2⟩ := h; exact ⟨_, _, hw0, h2⟩
    · exact wp_out h
  · exact ⟨_, _, hw0, h⟩

theorem shape_same {o o' : Oper} {a a1 : Act} (hs : Shape o a a1) (hsel : ∀ cs b, o'.op ≠ .select cs b) (hl : ∀ d, o.dst = some d → d ∉ o'.looksAt ops) :
    execOp a1.eval o' = execOp a.eval o' ∧ Region.wanted o' (yielded ops a1.tmps) = Region.wanted o' (yielded ops a.tmps) := by
  obtain ⟨u, ds, rfl⟩ := hs
  exact ⟨(execOp_put o' hsel _ o.dst u hl).trans rfl, (wanted_put o' _ o.dst u hl).trans rfl⟩

theorem wp_put {oi oj : Oper} {v : Value} {K : Act → World → Prop} {a : Act} {w : World} (hsel : ∀ cs b, oi.op ≠ .select cs b)
    (h1 : ∀ d, oj.dst = some d → d ∉ oi.looksAt ops) (h2 : ∀ d, oj.dst = some d → oi.dst ≠ some d)
    (h : oi.wp P a w (fun a1 w1 => K (a1.put oj.dst v) w1) (fun _ _ _ => False)) : oi.wp P (a.put oj.dst v) w K (fun _ _ _ => False) := by
  unfold Oper.wp at *
  rw [execOp_put oi hsel a oj.dst v h1]
  generalize (execOp a.eval oi).run P w = r at *
  cases r with
  | ok n w' =>
    cases n <;> simp only [Oper.upon] at h ⊢ <;>
      first
        | exact h
        | (rw [Act.put_comm a v _ h2]; exact h)
        | (rw [Act.put_defers, Act.put_comm _ v _ h2]; exact h)
        | exact Calls.mono h (fun e w'' he => by
            cases e with
            | returned u => dsimp only at he ⊢; rw [Act.put_comm a v u h2]; exact he
            | panicked c => exact he
            | outgrown => exact he)
        | exact Rows.mono h (fun u w'' he => by rw [Act.put_comm a v u h2]; exact he)
  | halt x w' => cases x <;> simp only [Oper.upon] at h ⊢

theorem wp_unput {oi oj : Oper} {v : Value} {K : Act → World → Prop} {a : Act} {w : World} (hsel : ∀ cs b, oj.op ≠ .select cs b)
    (h1 : ∀ d, oi.dst = some d → d ∉ oj.looksAt ops) (h2 : ∀ d, oi.dst = some d → oj.dst ≠ some d)
    (h : oj.wp P (a.put oi.dst v) w K (fun _ _ _ => False)) : oj.wp P a w (fun a2 w2 => K (a2.put oi.dst v) w2) (fun _ _ _ => False) := by
  unfold Oper.wp at *
  rw [execOp_put oj hsel a oi.dst v h1] at h
  generalize (execOp a.eval oj).run P w = r at *
  cases r with
  | ok n w' =>
    cases n <;> simp only [Oper.upon] at h ⊢ <;>
      first
        | exact h
        | (rw [← Act.put_comm a v _ h2]; exact h)
        | (rw [← Act.put_comm _ v _ h2, ← Act.put_defers]; exact h)
        | exact Calls.mono h (fun e w'' he => by
            cases e with
            | returned u => dsimp only at he ⊢; rw [← Act.put_comm a v u h2]; exact he
            | panicked c => exact he
            | outgrown => exact he)
        | exact Rows.mono h (fun u w'' he => by rw [← Act.put_comm a v u h2]; exact he)
  | halt x w' => cases x <;> simp only [Oper.upon] at h ⊢

theorem xo_put {oi oj : Oper} {v : Value} {K : Act → World → Prop} {a : Act} {w : World} (hsel : ∀ cs b, oi.op ≠ .select cs b)
    (h1 : ∀ d, oj.dst = some d → d ∉ oi.looksAt ops) (h2 : ∀ d, oj.dst = some d → oi.dst ≠ some d)
    (h : xo P N ops oi (fun a1 w1 => K (a1.put oj.dst v) w1) a w) : xo P N ops oi K (a.put oj.dst v) w := by
  unfold xo at *
  rw [wanted_put oi a oj.dst v h1]
  split
  · rename_i hw
    rw [if_pos hw] at h
    split
    · rename_i hc; rw [hc] at h; obtain ⟨u, q1, q2⟩ := h; rw [execOp_put oi hsel a oj.dst v h1]; exact ⟨u, q1, by rw [Act.put_comm a v u h2]; exact q2⟩
    · rename_i hc; rw [hc] at h; obtain ⟨u, q1, q2⟩ := h; rw [execOp_put oi hsel a oj.dst v h1]; exact ⟨u, q1, by rw [Act.put_comm a v u h2]; exact q2⟩
    · rename_i hc; rw [hc] at h; exact wp_put hsel h1 h2 h
  · rename_i hw
    rw [if_neg hw] at h
    rw [Act.put_comm a v undef h2]
    exact h

theorem xo_unput {oi oj : Oper} {v : Value} {K : Act → World → Prop} {a : Act} {w : World} (hsel : ∀ cs b, oj.op ≠ .select cs b)
    (h1 : ∀ d, oi.dst = some d → d ∉ oj.looksAt ops) (h2 : ∀ d, oi.dst = some d → oj.dst ≠ some d)
    (h : xo P N ops oj K (a.put oi.dst v) w) : xo P N ops oj (fun a2 w2 => K (a2.put oi.dst v) w2) a w := by
  unfold xo at *
  rw [wanted_put oj a oi.dst v h1] at h
  split
  · rename_i hw
    rw [if_pos hw] at h
    split
    · rename_i hc; rw [hc] at h; dsimp only at h; rw [execOp_put oj hsel a oi.dst v h1] at h; obtain ⟨u, q1, q2⟩ := h; exact ⟨u, q1, by dsimp only; rw [← Act.put_comm a v u h2]; exact q2⟩
    · rename_i hc; rw [hc] at h; dsimp only at h; rw [execOp_put oj hsel a oi.dst v h1] at h; obtain ⟨u, q1, q2⟩ := h; exact ⟨u, q1, by dsimp only; rw [← Act.put_comm a v u h2]; exact q2⟩
    · rename_i hc; rw [hc] at h; exact wp_unput hsel h1 h2 h
  · rename_i hw
    rw [if_neg hw] at h
    rw [← Act.put_comm a v undef h2]
    exact h

def compat (N : Plan) (x y : Oper) : Bool :=
  match N.cl x, N.cl y with
  | .pure, _ => true
  | _, .pure => true
  | .read, .read => true
  | _, _ => false

theorem compat_spec {x y : Oper} (h : compat N x y = true) : N.cl x = .pure ∨ N.cl y = .pure ∨ (N.cl x = .read ∧ N.cl y = .read) := by
  unfold compat at h
  split at h <;> simp_all

theorem comm {oi oj : Oper} {K : Act → World → Prop} {a : Act} {w : World} (hw0 : N.C w) (hap : oi.apart ops oj = true) (hsi : ∀ cs b, oi.op ≠ .select cs b) (hsj : ∀ cs b, oj.op ≠ .select cs b)
    (hc : compat N oi oj = true) (h : xo P N ops oi (fun a1 w1 => xo P N ops oj K a1 w1) a w) : xo P N ops oj (fun a2 w2 => xo P N ops oi K a2 w2) a w := by
  obtain ⟨l1, l2, l3⟩ := Oper.apart_spec hap
  have l2' : ∀ d, oj.dst = some d → oi.dst ≠ some d := fun d hd e => l2 d e hd
  rcases compat_spec hc with hci | hcj | ⟨hci, hcj⟩
  · -- oi looks at no world
    unfold xo at h
    by_cases hwi : Region.wanted oi (yielded ops a.tmps) = true
    · rw [if_pos hwi, hci] at h
      obtain ⟨v, hv, hj⟩ := h
      have hj' := xo_unput (a := a) (oi := oi) hsj l1 l2 hj
      refine xo_mono hw0 (fun a2 w2 _ ⟨hk, hs⟩ => ?_) (xo_shape hj')
      obtain ⟨he, hw2⟩ := shape_same (ops := ops) hs hsi l3
      unfold xo
      rw [if_pos (by rw [hw2]; exact hwi), hci, he]
      exact ⟨v, hv, hk⟩
    · rw [if_neg hwi] at h
      have hj' := xo_unput (a := a) (oi := oi) hsj l1 l2 h
      refine xo_mono hw0 (fun a2 w2 _ ⟨hk, hs⟩ => ?_) (xo_shape hj')
      obtain ⟨he, hw2⟩ := shape_same (ops := ops) hs hsi l3
      unfold xo
      rw [if_neg (by rw [hw2]; exact hwi)]
      exact hk
  · -- oj looks at no world
    have hsh := xo_shape h
    obtain ⟨a1, w1, hw1', h1, hs1⟩ := xo_out hw0 hsh
    obtain ⟨he1, hw1⟩ := shape_same (ops := ops) hs1 hsj l1
    unfold xo at h1
    by_cases hwj : Region.wanted oj (yielded ops a.tmps) = true
    · rw [if_pos (by rw [hw1]; exact hwj), hcj, he1] at h1
      obtain ⟨v, hv, _⟩ := h1
      have key : xo P N ops oi (fun a1 w1 => K (a1.put oj.dst v) w1) a w := by
        refine xo_mono hw0 (fun a2 w2 _ ⟨hk, hs⟩ => ?_) hsh
        obtain ⟨he2, hw2⟩ := shape_same (ops := ops) hs hsj l1
        unfold xo at hk
        rw [if_pos (by rw [hw2]; exact hwj), hcj, he2] at hk
        obtain ⟨v', hv', hk⟩ := hk
        have e : v' = v := (hv' w hw0).one (hv w hw0)
        rw [← e]; exact hk
      unfold xo
      rw [if_pos hwj, hcj]
      exact ⟨v, hv, xo_put hsi l3 l2' key⟩
    · have key : xo P N ops oi (fun a1 w1 => K (a1.put oj.dst undef) w1) a w := by
        refine xo_mono hw0 (fun a2 w2 _ ⟨hk, hs⟩ => ?_) hsh
        obtain ⟨he2, hw2⟩ := shape_same (ops := ops) hs hsj l1
        unfold xo at hk
        rw [if_neg (by rw [hw2]; exact hwj)] at hk
        exact hk
      unfold xo
      rw [if_neg hwj]
      exact xo_put hsi l3 l2' key
  · -- both only read
    unfold xo at h
    by_cases hwi : Region.wanted oi (yielded ops a.tmps) = true
    · rw [if_pos hwi, hci] at h
      obtain ⟨v, hv, hj⟩ := h
      have hj' := xo_shape (xo_unput (a := a) (oi := oi) hsj l1 l2 hj)
      unfold xo at hj' ⊢
      by_cases hwj : Region.wanted oj (yielded ops a.tmps) = true
      · rw [if_pos hwj, hcj] at hj' ⊢
        obtain ⟨u, hu, hk, hs⟩ := hj'
        obtain ⟨he, hw2⟩ := shape_same (ops := ops) hs hsi l3
        refine ⟨u, hu, ?_⟩
        dsimp only
        rw [if_pos (by rw [hw2]; exact hwi), hci, he]
        exact ⟨v, hv, hk⟩
      · rw [if_neg hwj] at hj' ⊢
        obtain ⟨hk, hs⟩ := hj'
        obtain ⟨he, hw2⟩ := shape_same (ops := ops) hs hsi l3
        rw [if_pos (by rw [hw2]; exact hwi), hci, he]
        exact ⟨v, hv, hk⟩
    · rw [if_neg hwi] at h
      have hj' := xo_unput (a := a) (oi := oi) hsj l1 l2 h
      refine xo_mono hw0 (fun a2 w2 _ ⟨hk, hs⟩ => ?_) (xo_shape hj')
      obtain ⟨he, hw2⟩ := shape_same (ops := ops) hs hsi l3
      unfold xo
      rw [if_neg (by rw [hw2]; exact hwi)]
      exact hk


def XA (P : Program) (N : Plan) (ops : Array Oper) (K : Act → World → Prop) : Nat → Array Bool → Act → World → Prop
  | 0, listed, a, w => Region.ready .any ops listed = [] ∧ K a w
  | f + 1, listed, a, w => (Region.ready .any ops listed = [] → K a w) ∧ ∀ i ∈ Region.ready .any ops listed, ∃ o, ops[i]? = some o ∧ xo P N ops o (XA P N ops K f (listed.setIfInBounds i true)) a w

theorem wpAny_of_XA {K : Act → World → Prop} {Q : Exit → Act → World → Prop} (hK : ∀ a w, N.C w → K a w → Q .normal a w) : ∀ (f : Nat) (listed : Array Bool) (a : Act) (w : World), N.C w → XA P N ops K f listed a w → wpAny P .any ops Q f listed a w
  | 0, _, _, _, hc, h => ⟨h.1, hK _ _ hc h.2⟩
  | f + 1, listed, a, w, hc, h => ⟨fun h0 => hK _ _ hc (h.1 h0), fun i hi => by
      obtain ⟨o, ho, hx⟩ := h.2 i hi
      exact wpOp_mono (fun a' w' h' => wpAny_of_XA hK f _ a' w' h'.1 h'.2) (xo_wpOp hc ho hx)⟩

def ancB (ops : Array Oper) (b : Array Nat) : Bool :=
  (List.range ops.size).all fun j => match ops[j]? with
    | none => true
    | some o => (o.after.all fun e => !Region.binds .any e || decide (e.on < j)) &&
      (List.range ops.size).all fun i => !(b.getD j 0).testBit i || o.after.any fun e => Region.binds .any e && (e.on == i || (b.getD e.on 0).testBit i)

def Closed (ops : Array Oper) (listed : Array Bool) : Prop :=
  listed.size = ops.size ∧ ∀ j oj, ops[j]? = some oj → listed.getD j false = true → ∀ e ∈ oj.after, Region.binds .any e = true → listed.getD e.on false = true

theorem unl {listed : Array Bool} {i : Nat} (h : listed.getD i true = false) : listed.getD i false = false := by
  rcases Nat.lt_or_ge i listed.size with h' | h'
  · simp [h'] at h ⊢; exact h
  · simp [Array.getElem?_eq_none h'] at h

theorem listed_lt {listed : Array Bool} {i : Nat} (h : listed.getD i false = true) : i < listed.size := by
  rcases Nat.lt_or_ge i listed.size with h' | h'
  · exact h'
  · simp [Array.getElem?_eq_none h'] at h

theorem ancB_on {b : Array Nat} (hb : ancB ops b = true) {j : Nat} {oj : Oper} (hoj : ops[j]? = some oj) : ∀ e ∈ oj.after, Region.binds .any e = true → e.on < j := by
  intro e he hbind
  have h1 := List.all_eq_true.1 hb j (List.mem_range.2 (Array.getElem?_eq_some_iff.1 hoj).1)
  simp only [hoj, Bool.and_eq_true] at h1
  have h5 := Array.all_eq_true_iff_forall_mem.1 h1.1 e he
  simpa [hbind] using h5

theorem anc_listed {b : Array Nat} (hb : ancB ops b = true) {listed : Array Bool} (hc : Closed ops listed) {i : Nat} (hi : i < ops.size) :
    ∀ (j : Nat), (b.getD j 0).testBit i = true → ∀ oj, ops[j]? = some oj → (∀ e ∈ oj.after, Region.binds .any e = true → listed.getD e.on false = true) → listed.getD i false = true := by
  intro j
  induction j using Nat.strongRecOn with
  | _ j ih =>
    intro hbit oj hoj hall
    have h1 := List.all_eq_true.1 hb j (List.mem_range.2 (Array.getElem?_eq_some_iff.1 hoj).1)
    simp only [hoj, Bool.and_eq_true] at h1
    have h3 := List.all_eq_true.1 h1.2 i (List.mem_range.2 hi)
    simp only [hbit, Bool.not_true, Bool.false_or] at h3
    obtain ⟨e, he, h4⟩ := Array.any_eq_true'.1 h3
    simp only [Bool.and_eq_true, Bool.or_eq_true, beq_iff_eq] at h4
    obtain ⟨hbind, h4⟩ := h4
    have hl := hall e he hbind
    rcases h4 with rfl | h4
    · exact hl
    · have hon := listed_lt hl
      rw [hc.1] at hon
      have hoe : ops[e.on]? = some ops[e.on] := by simp [hon]
      exact ih e.on (ancB_on hb hoj e he hbind) h4 _ hoe (hc.2 e.on _ hoe hl)

theorem Closed.set {listed : Array Bool} {i : Nat} (hc : Closed ops listed) (hi : i ∈ Region.ready .any ops listed) : Closed ops (listed.setIfInBounds i true) := by
  obtain ⟨_, oi, hoi, hall⟩ := mem_ready.1 hi
  refine ⟨by simp [hc.1], fun j oj hj hl e he hb => ?_⟩
  by_cases hij : i = j
  · subst hij
    have : oj = oi := Option.some.inj (hj.symm.trans hoi)
    subst this
    exact getD_set_true (hall e he hb)
  · rw [getD_set_ne false hij] at hl
    exact getD_set_true (hc.2 j oj hj hl e he hb)

theorem XA_first {K : Act → World → Prop} {b : Array Nat} (hb : ancB ops b = true) (hsel : ∀ (j : Nat) (o : Oper) cs b, ops[j]? = some o → o.op ≠ .select cs b) {i : Nat} {oi : Oper} (hi : ops[i]? = some oi) :
    ∀ (f : Nat) (listed : Array Bool) (a : Act) (w : World), N.C w → Closed ops listed → i ∈ Region.ready .any ops listed →
      (∀ j oj, ops[j]? = some oj → j ≠ i → listed.getD j true = false → (b.getD j 0).testBit i = true ∨ (oi.apart ops oj = true ∧ compat N oi oj = true)) →
      xo P N ops oi (XA P N ops K f (listed.setIfInBounds i true)) a w → XA P N ops K (f + 1) listed a w := by
  have hil : i < ops.size := (Array.getElem?_eq_some_iff.1 hi).1
  intro f
  induction f with
  | zero =>
    intro listed a w hw0 hc hr hfree H
    refine ⟨fun h => (by rw [h] at hr; cases hr), fun j hj => ?_⟩
    by_cases hji : j = i
    · subst hji; exact ⟨oi, hi, H⟩
    · obtain ⟨a1, w1, _, h0, _⟩ := xo_out hw0 H
      have := ready_mono hj hji
      rw [h0] at this
      cases this
  | succ f ih =>
    intro listed a w hw0 hc hr hfree H
    refine ⟨fun h => (by rw [h] at hr; cases hr), fun j hj => ?_⟩
    by_cases hji : j = i
    · subst hji; exact ⟨oi, hi, H⟩
    · obtain ⟨hjun, oj, hoj, hall⟩ := mem_ready.1 hj
      refine ⟨oj, hoj, ?_⟩
      rcases hfree j oj hoj hji hjun with hbit | ⟨hap, hcp⟩
      · have h1 := anc_listed hb hc hil j hbit oj hoj hall
        rw [unl (mem_ready.1 hr).1] at h1
        cases h1
      · have h1 : xo P N ops oi (fun a1 w1 => xo P N ops oj (XA P N ops K f ((listed.setIfInBounds i true).setIfInBounds j true)) a1 w1) a w :=
          xo_mono hw0 (fun a1 w1 _ h => by
            obtain ⟨o, ho, hx⟩ := h.2 j (ready_mono hj hji)
            have : o = oj := Option.some.inj (ho.symm.trans hoj)
            subst this
            exact hx) H
        refine xo_mono hw0 (fun a2 w2 hw2 h => ih (listed.setIfInBounds j true) a2 w2 hw2 (hc.set hj) (ready_mono hr (Ne.symm hji)) (fun k ok hk hki hun => ?_) ?_)
          (comm hw0 hap (fun cs b => hsel i oi cs b hi) (fun cs b => hsel j oj cs b hoj) hcp h1)
        · refine hfree k ok hk hki ?_
          by_cases hjk : j = k
          · subst hjk; exact hjun
          · rw [getD_set_ne true hjk] at hun; exact hun
        · rw [Array.setIfInBounds_comm _ _ hji]
          exact h

def XL (P : Program) (N : Plan) (ops : Array Oper) (K : Act → World → Prop) : List Oper → Act → World → Prop
  | [], a, w => K a w
  | o :: rest, a, w => xo P N ops o (XL P N ops K rest) a w

def textB (N : Plan) (ops : Array Oper) : Bool :=
  let b := Region.before ops
  Region.noSelect ops && ancB ops b && (List.range ops.size).all fun j => match ops[j]? with
    | none => true
    | some oj => (List.range j).all fun i => (b.getD j 0).testBit i || match ops[i]? with
      | none => true
      | some oi => oi.apart ops oj && compat N oi oj

theorem XA_text {K : Act → World → Prop} (hB : textB N ops = true) : ∀ (l : List Oper) (k : Nat) (listed : Array Bool) (a : Act) (w : World), (∀ j, l[j]? = ops[k + j]?) → N.C w →
    Closed ops listed → (∀ j, j < ops.size → (listed.getD j false = true ↔ j < k)) → XL P N ops K l a w → XA P N ops K l.length listed a w := by
  unfold textB at hB
  simp only [Bool.and_eq_true] at hB
  obtain ⟨⟨hs, hb⟩, hp⟩ := hB
  intro l
  induction l with
  | nil =>
    intro k listed a w hl hw0 hc hlist h
    refine ⟨?_, h⟩
    rw [List.eq_nil_iff_forall_not_mem]
    intro j hj
    obtain ⟨hun, oj, hoj, _⟩ := mem_ready.1 hj
    have hjl : j < ops.size := (Array.getElem?_eq_some_iff.1 hoj).1
    have hk : ops.size ≤ k := by
      have := hl 0
      simp only [List.getElem?_nil, Nat.add_zero] at this
      exact Array.getElem?_eq_none_iff.1 this.symm
    have := (hlist j hjl).2 (by omega)
    rw [unl hun] at this
    cases this
  | cons o l ih =>
    intro k listed a w hl hw0 hc hlist h
    have h0 : ops[k]? = some o := by simpa using (hl 0).symm
    have hkl : k < ops.size := (Array.getElem?_eq_some_iff.1 h0).1
    have hready : k ∈ Region.ready .any ops listed := by
      refine mem_ready.2 ⟨?_, o, h0, fun e he hbind => ?_⟩
      · cases hx : listed.getD k true with
        | false => rfl
        | true =>
          have hk' : k < listed.size := by rw [hc.1]; exact hkl
          have : listed.getD k false = true := by simpa [hk'] using hx
          have := (hlist k hkl).1 this
          omega
      · have := ancB_on hb h0 e he hbind
        exact (hlist e.on (by omega)).2 this
    refine XA_first hb (Region.noSelect_spec hs) h0 l.length listed a w hw0 hc hready (fun j oj hoj hjk hun => ?_) ?_
    · have hjl : j < ops.size := (Array.getElem?_eq_some_iff.1 hoj).1
      have hkj : k < j := by
        rcases Nat.lt_or_ge j k with hlt | hge
        · have := (hlist j hjl).2 hlt
          rw [unl hun] at this; cases this
        · omega
      have h1 := List.all_eq_true.1 hp j (List.mem_range.2 hjl)
      simp only [hoj] at h1
      have h2 := List.all_eq_true.1 h1 k (List.mem_range.2 hkj)
      simp only [h0, Bool.or_eq_true, Bool.and_eq_true] at h2
      exact h2
    · refine xo_mono hw0 (fun a' w' hw' h' => ih (k + 1) _ a' w' (fun j => by have := hl (j + 1); simpa [Nat.add_assoc, Nat.add_comm 1 j] using this) hw' (hc.set hready) (fun j hj => ?_) h') h
      by_cases hjk : k = j
      · subst hjk
        have hk' : k < listed.size := by rw [hc.1]; exact hkl
        simp [hk']
      · rw [getD_set_ne false hjk, hlist j hj]
        omega

theorem closed_start : Closed ops (Array.replicate ops.size false) :=
  ⟨by simp, fun j oj _ hl => by
    rcases Nat.lt_or_ge j ops.size with h | h
    · simp [h] at hl
    · simp [h] at hl⟩

theorem wp_region_text {id : Nat} {l : List Oper} {Q : Exit → Act → World → Prop} {a : Act} {w : World} (N : Plan) (hm : P.follows .mixedOrders = true) (hB : textB N l.toArray = true)
    (hw0 : N.C w.drew) (h : XL P N l.toArray (fun a w => Q .normal a w) l a w.drew) : (Code.region id l.toArray true).wp P Q a w := by
  refine wp_region_any hm ?_
  refine wpAny_of_XA (N := N) (K := fun a w => Q .normal a w) (fun _ _ _ h => h) _ _ _ _ hw0 ?_
  have := XA_text (K := fun a w => Q .normal a w) hB l 0 (Array.replicate l.toArray.size false) a w.drew (fun j => by simp) hw0 closed_start (fun j hj => by simp at hj; simp [hj]) h
  simpa using this

theorem wpList_of_XL {Q : Exit → Act → World → Prop} : ∀ (l : List Oper) (a : Act) (w : World), N.C w → XL P N ops (fun a w => Q .normal a w) l a w → wpList P ops Q l a w
  | [], _, _, _, h => h
  | o :: l, a, w, hw0, h => by
    unfold wpList
    have h' : xo P N ops o (wpList P ops Q l) a w := xo_mono hw0 (fun a' w' hw' h' => wpList_of_XL l a' w' hw' h') h
    unfold xo at h'
    split
    · rename_i hw
      rw [if_pos hw] at h'
      refine .inl ?_
      cases hc : N.cl o <;> rw [hc] at h'
      · obtain ⟨v, h1, h2⟩ := h'
        exact wp_of_quiet (h1 w hw0) h2
      · obtain ⟨v, h1, h2⟩ := h'
        exact wp_of_quiet h1 h2
      · exact wp_exits (Oper.wp_mono (fun _ _ h => h.2) h')
    · rename_i hw
      rw [if_neg hw] at h'
      exact h'

theorem wp_region_plain {id : Nat} {l : List Oper} {Q : Exit → Act → World → Prop} {a : Act} {w : World} (N : Plan) (hw0 : N.C w)
    (h : XL P N l.toArray (fun a w => Q .normal a w) l a w) : (Code.region id l.toArray false).wp P Q a w := wp_region_lit (wpList_of_XL l a w hw0 h)

end
end Go.F

namespace Go.F
open Go

abbrev Env := List (Nat × Value)

def Env.get? : Env → Nat → Option Value
  | [], _ => none
  | (m, v) :: r, n => match Nat.beq m n with
    | true => some v
    | false => Env.get? r n

def Env.ev (ρ : Env) : Operand → Option Value
  | .tmp t => ρ.get? t
  | .const v => some v
  | .global g => some (.pointer (some ⟨g, 0, none⟩))
  | .func f => some (.func (.func f) #[] #[])

def Agree (n : Nat) (ρ : Env) (a : Act) : Prop := a.tmps.size = n ∧ a.defers = [] ∧ ∀ t v, ρ.get? t = some v → a.tmps[t]? = some v

theorem Agree.ev {n : Nat} {ρ : Env} {a : Act} (h : Agree n ρ a) {x : Operand} {v : Value} (hx : ρ.ev x = some v) : a.eval x = v := by
  cases x with
  | tmp t => have := h.2.2 t v hx; simp [Act.eval, Array.getD_eq_getD_getElem?, this]
  | const u => exact Option.some.inj hx
  | global g => exact Option.some.inj hx
  | func f => exact Option.some.inj hx

theorem get?_cons (m : Nat) (v : Value) (ρ : Env) (t : Nat) : Env.get? ((m, v) :: ρ) t = if m = t then some v else ρ.get? t := by
  cases h : Nat.beq m t with
  | true => rw [if_pos (Nat.eq_of_beq_eq_true h)]; simp only [Env.get?, h]
  | false => rw [if_neg (fun e => by subst e; simp at h)]; simp only [Env.get?, h]

theorem Agree.put {n : Nat} {ρ : Env} {a : Act} (h : Agree n ρ a) {d : Nat} (hd : Nat.ble (d + 1) n = true) (v : Value) : Agree n ((d, v) :: ρ) (a.put (some d) v) := by
  have hd' : d < n := Nat.le_of_ble_eq_true hd
  refine ⟨by simp [Act.put, h.1], h.2.1, fun t u hu => ?_⟩
  rw [get?_cons] at hu
  simp only [Act.put]
  by_cases e : d = t
  · subst e
    rw [if_pos rfl] at hu
    simp only [Option.some.injEq] at hu
    subst hu
    simp [h.1, hd']
  · rw [if_neg e] at hu
    rw [Array.getElem?_setIfInBounds_ne e]
    exact h.2.2 t u hu

def Sub : Env → Env → Prop
  | [], _ => True
  | (t, v) :: r, ρ => ρ.get? t = some v ∧ Sub r ρ

theorem Sub.get : ∀ {ρ0 ρ : Env}, Sub ρ0 ρ → ∀ t v, ρ0.get? t = some v → ρ.get? t = some v
  | [], _, _, _, _, h => by cases h
  | (m, u) :: r, ρ, hs, t, v, h => by
    rw [get?_cons] at h
    split at h
    · rename_i e; subst e; simp only [Option.some.injEq] at h; subst h; exact hs.1
    · exact Sub.get hs.2 t v h

theorem Agree.sub {n : Nat} {ρ0 ρ : Env} {a : Act} (h : Agree n ρ a) (hs : Sub ρ0 ρ) : Agree n ρ0 a := ⟨h.1, h.2.1, fun t v ht => h.2.2 t v (hs.get t v ht)⟩

section
variable {P : Program} {N : Plan} {n : Nat} {ops : Array Oper} {K : Env → World → Prop} {rest : List Oper} {ρ : Env} {w : World}

def lift (n : Nat) (K : Env → World → Prop) : Act → World → Prop := fun a w => ∃ ρ, Agree n ρ a ∧ K ρ w

def T (P : Program) (N : Plan) (n : Nat) (ops : Array Oper) (K : Env → World → Prop) : List Oper → Env → World → Prop
  | [], ρ, w => K ρ w
  | o :: rest, ρ, w => ∀ a, Agree n ρ a → N.C w → xo P N ops o (lift n (T P N n ops K rest)) a w

theorem XL_of_T : ∀ (l : List Oper) (ρ : Env) (a : Act) (w : World), Agree n ρ a → N.C w → T P N n ops K l ρ w → XL P N ops (lift n K) l a w
  | [], ρ, _, _, ha, _, h => ⟨ρ, ha, h⟩
  | _ :: l, _, a, w, ha, hc, h => xo_mono hc (fun a' w' hc' ⟨ρ', ha', h'⟩ => XL_of_T l ρ' a' w' ha' hc' h') (h a ha hc)

theorem T_nil (h : K ρ w) : T P N n ops K [] ρ w := h


theorem wanted_none {o : Oper} (hg : o.guard = none) (y : Nat → Option Bool) : Region.wanted o y = true := by simp [Region.wanted, hg]

theorem xo_quiet {o : Oper} {a : Act} {v : Value} {L : Act → World → Prop} (hg : Region.wanted o (yielded ops a.tmps) = true) (hc : N.C w)
    (h : ∀ u, Quiet P (execOp a.eval o) u v) (k : L (a.put o.dst v) w) : xo P N ops o L a w := by
  unfold xo
  rw [if_pos hg]
  cases N.cl o with
  | pure => exact ⟨v, fun u _ => h u, k⟩
  | read => exact ⟨v, h w, k⟩
  | loud => exact wp_of_quiet (h w) ⟨hc, k⟩

theorem T_val {o : Oper} {d : Nat} {v : Value} (hg : o.guard = none) (hd : o.dst = some d) (hn : Nat.ble (d + 1) n = true)
    (h : ∀ a, Agree n ρ a → ∀ u, (execOp a.eval o).run P u = .ok (.value v) u) (k : T P N n ops K rest ((d, v) :: ρ) w) : T P N n ops K (o :: rest) ρ w :=
  fun a ha hc => xo_quiet (wanted_none hg _) hc (fun u => .inl (h a ha u)) ⟨(d, v) :: ρ, by rw [hd]; exact ha.put hn v, k⟩

theorem T_yes {o : Oper} {g t : Nat} {b : Bool} (hg : o.guard = some (g, b)) (ht : (ops[g]?).bind (·.dst) = some t) (hb : ρ.get? t = some (.bool b))
    (k : T P N n ops K ({ o with guard := none } :: rest) ρ w) (hcl : N.cl { o with guard := none } = N.cl o) : T P N n ops K (o :: rest) ρ w := by
  intro a ha hc
  have h1 := k a ha hc
  unfold xo at h1 ⊢
  rw [if_pos (wanted_none rfl _)] at h1
  have hy : yielded ops a.tmps g = some b := by
    have := ha.2.2 t _ hb
    simp [yielded, ht, this]
  rw [if_pos (by simp [Region.wanted, hg, hy])]
  rw [hcl] at h1
  exact h1

theorem T_no {o : Oper} {g t : Nat} {b c : Bool} {d : Nat} (hg : o.guard = some (g, b)) (ht : (ops[g]?).bind (·.dst) = some t) (hb : ρ.get? t = some (.bool c)) (hbc : c = !b)
    (hd : o.dst = some d) (hn : Nat.ble (d + 1) n = true) (k : T P N n ops K rest ((d, undef) :: ρ) w) : T P N n ops K (o :: rest) ρ w := by
  intro a ha hc
  unfold xo
  have hy : yielded ops a.tmps g = some c := by
    have := ha.2.2 t _ hb
    simp [yielded, ht, this]
  rw [if_neg (by simp [Region.wanted, hg, hy]; subst hbc; cases b <;> simp)]
  refine ⟨(d, undef) :: ρ, ?_, k⟩
  rw [hd]
  exact ha.put hn undef

theorem T_part {l : List Oper} {t : Nat} {b : Bool} (hb : ρ.get? t = some (.bool b)) (hl : l ≠ []) (h1 : b = true → T P N n ops K l ((t, .bool true) :: ρ) w) (h0 : b = false → T P N n ops K l ((t, .bool false) :: ρ) w) :
    T P N n ops K l ρ w := by
  cases l with
  | nil => exact absurd rfl hl
  | cons o l =>
    intro a ha hc
    have key : ∀ c, b = c → Agree n ((t, .bool c) :: ρ) a := fun c e => ⟨ha.1, ha.2.1, fun t' v hv => by
      rw [get?_cons] at hv
      split at hv
      · rename_i e'; subst e'; simp only [Option.some.injEq] at hv; subst hv; subst e; exact ha.2.2 t _ hb
      · exact ha.2.2 t' v hv⟩
    cases b with
    | true => exact h1 rfl a (key true rfl) hc
    | false => exact h0 rfl a (key false rfl) hc


def binInt (op : BinOp) (k : IntKind) (x y : Int) : Option Value :=
  match op with
  | .add => some (.int k (k.wrap (x + y)))
  | .sub => some (.int k (k.wrap (x - y)))
  | .mul => some (.int k (k.wrap (x * y)))
  | .and => some (.int k (bits .and k x y))
  | .or => some (.int k (bits .or k x y))
  | .xor => some (.int k (bits .xor k x y))
  | .eql => some (.bool (decide (x = y)))
  | .neq => some (.bool (!decide (x = y)))
  | .lss => some (.bool (decide (x < y)))
  | .leq => some (.bool (decide (x ≤ y)))
  | .gtr => some (.bool (decide (y < x)))
  | .geq => some (.bool (decide (y ≤ x)))
  | _ => none

def isShift : BinOp → Bool | .shl | .shr => true | _ => false

theorem binInt_run {op : BinOp} {k : IntKind} {x y : Int} {v : Value} (h : binInt op k x y = some v) (t : TypeId) (a b : Operand) (u : World) :
    (do eqGuard op t a b (.int k x) (.int k y); binOp op t (.int k x) (.int k y) : Sem Value).run P u = .ok v u := by
  cases op <;> simp only [binInt, Option.some.injEq, reduceCtorEq] at h <;> subst h <;> simp [go_sem, BEq.beq, bne]

def pev (P : Program) (ρ : Env) : Op → Option Value
  | .move x | .assign x => match ρ.ev x with
    | some (.int k z) => some (.int k z)
    | some (.bool b) => some (.bool b)
    | some (.slice a l c) => some (.slice a l c)
    | some (.pointer a) => some (.pointer a)
    | some (.string s) => some (.string s)
    | some (.agg cs) => some (.agg cs)
    | some (.tuple vs) => some (.tuple vs)
    | r => r
  | .nilCheck x => match ρ.ev x with
    | some (.pointer (some a)) => some (.pointer (some a))
    | _ => none
  | .pick c x y => match ρ.ev c with
    | some (.bool true) => ρ.ev x
    | some (.bool false) => ρ.ev y
    | _ => none
  | .binOp op _ x y _ => match isShift op with
    | true => none
    | false => match ρ.ev x, ρ.ev y with
      | some (.int .i64 p), some (.int .i64 q) => binInt op .i64 p q
      | some (.int .u8 p), some (.int .u8 q) => binInt op .u8 p q
      | some (.int .u32 p), some (.int .u32 q) => binInt op .u32 p q
      | some (.int .u64 p), some (.int .u64 q) => binInt op .u64 p q
      | _, _ => none
  | .unOp .not _ x => match ρ.ev x with
    | some (.bool b) => some (.bool (!b))
    | _ => none
  | .unOp .xor _ x => match ρ.ev x with
    | some (.int .u32 p) => some (.int .u32 (bits .xor .u32 IntKind.u32.max p))
    | some (.int .u8 p) => some (.int .u8 (bits .xor .u8 IntKind.u8.max p))
    | _ => none
  | .convert src dst x => match P.underlying src, P.underlying dst, ρ.ev x with
    | some (.int _), some (.int k), some (.int _ p) => some (.int k (k.wrap p))
    | _, _, _ => none
  | .extract x i => match ρ.ev x with
    | some (.tuple vs) => vs[i]?
    | _ => none
  | .call ⟨.builtin .len, xs, ts⟩ => match (ts[0]?).bind P.underlying, (xs[0]?).bind ρ.ev with
    | some (.slice _), some (.slice _ l _) => some (.int .i64 l)
    | some .string, some (.string s) => some (.int .i64 s.size)
    | some (.array l _), some _ => some (.int .i64 l)
    | _, _ => none
  | .call ⟨.builtin .cap, xs, ts⟩ => match (ts[0]?).bind P.underlying, (xs[0]?).bind ρ.ev with
    | some (.slice _), some (.slice _ _ c) => some (.int .i64 c)
    | _, _ => none
  | .call ⟨.builtin .min, xs, _⟩ => match xs.toList with
    | [x, y] => match ρ.ev x, ρ.ev y with
      | some (.int .i64 p), some (.int .i64 q) => some (.int .i64 (min p q))
      | _, _ => none
    | _ => none
  | .call ⟨.builtin .max, xs, _⟩ => match xs.toList with
    | [x, y] => match ρ.ev x, ρ.ev y with
      | some (.int .i64 p), some (.int .i64 q) => some (.int .i64 (max p q))
      | _, _ => none
    | _ => none
  | _ => none

theorem pev_run {op : Op} {v : Value} (h : pev P ρ op = some v) {a : Act} (ha : Agree n ρ a) {o : Oper} (ho : o.op = op) (u : World) : (execOp a.eval o).run P u = .ok (.value v) u := by
  unfold pev at h
  split at h
  · rename_i x
    have : a.eval x = v := ha.ev (by split at h <;> simp_all)
    unfold execOp; rw [ho]; simp [this]
  · rename_i x
    have : a.eval x = v := ha.ev (by split at h <;> simp_all)
    unfold execOp; rw [ho]; simp [this]
  · rename_i x
    split at h
    · rename_i q hx; cases h; have := ha.ev hx; unfold execOp; rw [ho]; simp [this]
    · cases h
  · rename_i c x y
    split at h
    · rename_i hc; have h1 := ha.ev hc; have h2 := ha.ev h; unfold execOp; rw [ho]; simp [h1, h2, asBool]
    · rename_i hc; have h1 := ha.ev hc; have h2 := ha.ev h; unfold execOp; rw [ho]; simp [h1, h2, asBool]
    · cases h
  · rename_i op t x y t'
    split at h
    · cases h
    · split at h
      case h_5 => cases h
      all_goals
        rename_i p q hx hy
        have h1 := ha.ev hx
        have h2 := ha.ev hy
        have h3 := binInt_run (P := P) h t x y u
        unfold execOp; rw [ho]; simp only [h1, h2, Sem.run_bind, Sem.run_pure] at h3 ⊢
        rw [h3]; rfl
  · rename_i t x
    split at h
    · rename_i b hx; cases h; have h1 := ha.ev hx; unfold execOp; rw [ho]; simp [h1, Op.unary]
    · cases h
  · rename_i t x
    split at h
    · rename_i p hx; cases h; have h1 := ha.ev hx; unfold execOp; rw [ho]; simp only [h1]; rfl
    · rename_i p hx; cases h; have h1 := ha.ev hx; unfold execOp; rw [ho]; simp only [h1]; rfl
    · cases h
  · rename_i src dst x
    split at h
    · rename_i k0 k k' p hs hd hx; cases h; have h1 := ha.ev hx; unfold execOp; rw [ho]; simp [h1, convert, run_underlying hs, run_underlying hd, Conv.intToInt]
    · cases h
  · rename_i x i
    split at h
    · rename_i vs hx; have h1 := ha.ev hx; unfold execOp; rw [ho]; simp [h1, Instr.extract, h]
    · cases h
  · rename_i xs ts
    have key : ∀ (t0 : TypeId) (x0 : Operand) (v0 : Value), ts[0]? = some t0 → xs[0]? = some x0 → ρ.ev x0 = some v0 → (Builtin.len_ ts o.type (xs.map a.eval)).run P u = .ok v u → (execOp a.eval o).run P u = .ok (.value v) u := by
      intro t0 x0 v0 _ _ _ hr
      unfold execOp; rw [ho]; simp [resolve, invoke, builtin, hr]
    split at h
    · rename_i e b l c hs hx
      cases h
      obtain ⟨t0, ht0, hs⟩ := Option.bind_eq_some_iff.1 hs
      obtain ⟨x0, hx0, hx⟩ := Option.bind_eq_some_iff.1 hx
      exact key _ _ _ ht0 hx0 hx (by simp [Builtin.len_, ht0, hx0, ha.ev hx, run_underlying hs, goInt])
    · rename_i s hs hx
      cases h
      obtain ⟨t0, ht0, hs⟩ := Option.bind_eq_some_iff.1 hs
      obtain ⟨x0, hx0, hx⟩ := Option.bind_eq_some_iff.1 hx
      exact key _ _ _ ht0 hx0 hx (by simp [Builtin.len_, ht0, hx0, ha.ev hx, run_underlying hs, goInt])
    · rename_i l e v0 hs hx
      cases h
      obtain ⟨t0, ht0, hs⟩ := Option.bind_eq_some_iff.1 hs
      obtain ⟨x0, hx0, hx⟩ := Option.bind_eq_some_iff.1 hx
      exact key _ _ _ ht0 hx0 hx (by simp [Builtin.len_, ht0, hx0, run_underlying hs, goInt])
    · cases h
  · rename_i xs ts
    split at h
    · rename_i e b l c hs hx
      cases h
      obtain ⟨t0, ht0, hs⟩ := Option.bind_eq_some_iff.1 hs
      obtain ⟨x0, hx0, hx⟩ := Option.bind_eq_some_iff.1 hx
      have hr : (Builtin.cap_ ts o.type (xs.map a.eval)).run P u = .ok (.int .i64 c) u := by simp [Builtin.cap_, ht0, hx0, ha.ev hx, run_underlying hs, goInt]
      unfold execOp; rw [ho]; simp [resolve, invoke, builtin, hr]
    · cases h
  · rename_i xs ts
    split at h
    · rename_i x y hl
      split at h
      · rename_i p q hx hy
        cases h
        have hxs : xs = #[x, y] := by cases xs; simp_all
        subst hxs
        unfold execOp; rw [ho]; simp [resolve, invoke, builtin, ha.ev hx, ha.ev hy, Builtin.min_, Builtin.min2]
        omega
      · cases h
    · cases h
  · rename_i xs ts
    split at h
    · rename_i x y hl
      split at h
      · rename_i p q hx hy
        cases h
        have hxs : xs = #[x, y] := by cases xs; simp_all
        subst hxs
        unfold execOp; rw [ho]; simp [resolve, invoke, builtin, ha.ev hx, ha.ev hy, Builtin.max_, Builtin.max2]
        omega
      · cases h
    · cases h
  · cases h

theorem T_pev {o : Oper} {d : Nat} {v : Value} (hv : pev P ρ o.op = some v) (hg : o.guard = none) (hd : o.dst = some d) (hn : Nat.ble (d + 1) n = true) (k : T P N n ops K rest ((d, v) :: ρ) w) : T P N n ops K (o :: rest) ρ w :=
  T_val hg hd hn (fun _ ha u => pev_run hv ha rfl u) k
end
end Go.F

namespace Go.F
open Go

section
variable {P : Program} {n : Nat}

def liftQ (n : Nat) (Q : Exit → Env → World → Prop) : Exit → Act → World → Prop := fun e a w => ∃ ρ, Agree n ρ a ∧ Q e ρ w

def W (P : Program) (n : Nat) (c : Code) (Q : Exit → Env → World → Prop) (ρ : Env) (w : World) : Prop := ∀ a, Agree n ρ a → c.wp P (liftQ n Q) a w

def Sq (P : Program) (n : Nat) (b : Code) (Q : Exit → Env → World → Prop) : Exit → Env → World → Prop
  | .normal, ρ, w => W P n b Q ρ w
  | e, ρ, w => Q e ρ w

def Bl (id : Nat) (Q : Exit → Env → World → Prop) : Exit → Env → World → Prop
  | .exit i, ρ, w => if Nat.beq i id = true then Q .normal ρ w else Q (.exit i) ρ w
  | e, ρ, w => Q e ρ w

def Lp (I : Nat → Env → World → Prop) (m : Nat) (Q : Exit → Env → World → Prop) : Exit → Env → World → Prop
  | .normal, ρ, w => ∃ m' ρ', m' < m ∧ Sub ρ' ρ ∧ I m' ρ' w
  | e, ρ, w => Q e ρ w

variable {Q : Exit → Env → World → Prop} {ρ : Env} {w : World}

theorem W_sub {c : Code} (ρ0 : Env) (hs : Sub ρ0 ρ) (h : W P n c Q ρ0 w) : W P n c Q ρ w := fun a ha => h a (ha.sub hs)

theorem W_skip (h : Q .normal ρ w) : W P n .skip Q ρ w := fun _ ha => wp_skip ⟨ρ, ha, h⟩
theorem W_exit {id : Nat} (h : Q (.exit id) ρ w) : W P n (.exit id) Q ρ w := fun _ ha => wp_exit ⟨ρ, ha, h⟩
theorem W_ret (h : Q .ret ρ w) : W P n .ret Q ρ w := fun _ ha => wp_ret ⟨ρ, ha, h⟩
theorem W_seq {a b : Code} (h : W P n a (Sq P n b Q) ρ w) : W P n (.seq a b) Q ρ w := fun act ha =>
  wp_seq (wp_mono (h act ha) fun e a' w' ⟨ρ', ha', hq'⟩ => by
    cases e with
    | normal => exact hq' a' ha'
    | exit i => exact ⟨ρ', ha', hq'⟩
    | goto l => exact ⟨ρ', ha', hq'⟩
    | ret => exact ⟨ρ', ha', hq'⟩
    | panic c => exact ⟨ρ', ha', hq'⟩
    | outgrown => exact ⟨ρ', ha', hq'⟩)
theorem W_block {id : Nat} {c : Code} (h : W P n c (Bl id Q) ρ w) : W P n (.block id c) Q ρ w := fun act ha =>
  wp_block (wp_mono (h act ha) fun e a' w' ⟨ρ', ha', hq'⟩ => by
    cases e with
    | exit i =>
      simp only [Bl] at hq'
      simp only [Exit.inBlock]
      by_cases hi : i = id
      · subst hi; simp only [Nat.beq_refl, if_true] at hq'; rw [if_pos rfl]; exact ⟨ρ', ha', hq'⟩
      · rw [if_neg hi]; rw [if_neg (fun e => hi (Nat.eq_of_beq_eq_true e))] at hq'; exact ⟨ρ', ha', hq'⟩
    | normal => exact ⟨ρ', ha', hq'⟩
    | goto l => exact ⟨ρ', ha', hq'⟩
    | ret => exact ⟨ρ', ha', hq'⟩
    | panic c => exact ⟨ρ', ha', hq'⟩
    | outgrown => exact ⟨ρ', ha', hq'⟩)
theorem W_cond {c : Operand} {x y : Code} {b : Bool} (hc : ρ.ev c = some (.bool b)) (ht : b = true → W P n x Q ρ w) (hf : b = false → W P n y Q ρ w) : W P n (.cond c x y) Q ρ w := fun act ha => by
  cases b with
  | true => exact wp_cond_true (ha.ev hc) (ht rfl act ha)
  | false => exact wp_cond_false (ha.ev hc) (hf rfl act ha)
theorem W_cond_dec {c : Operand} {x y : Code} {p : Prop} [Decidable p] (hc : ρ.ev c = some (.bool (decide p))) (ht : p → W P n x Q ρ w) (hf : ¬ p → W P n y Q ρ w) : W P n (.cond c x y) Q ρ w :=
  W_cond hc (fun h => ht (of_decide_eq_true h)) (fun h => hf (of_decide_eq_false h))
theorem Aa {c : Operand} {x y : Code} {p : Prop} [Decidable p] (ht : p → W P n x Q ρ w) (hf : ¬ p → W P n y Q ρ w) (hc : ρ.ev c = some (.bool (decide p)) := by exact rfl) : W P n (.cond c x y) Q ρ w := W_cond_dec hc ht hf
theorem W_cond_not {c : Operand} {x y : Code} {p : Prop} [Decidable p] (hc : ρ.ev c = some (.bool (!decide p))) (ht : ¬ p → W P n x Q ρ w) (hf : p → W P n y Q ρ w) : W P n (.cond c x y) Q ρ w :=
  W_cond hc (fun h => ht (by simpa using h)) (fun h => hf (by simpa using h))
theorem W_cond_true {c : Operand} {x y : Code} (hc : ρ.ev c = some (.bool true)) (ht : W P n x Q ρ w) : W P n (.cond c x y) Q ρ w := W_cond hc (fun _ => ht) (fun h => by cases h)
theorem W_cond_false {c : Operand} {x y : Code} (hc : ρ.ev c = some (.bool false)) (hf : W P n y Q ρ w) : W P n (.cond c x y) Q ρ w := W_cond hc (fun h => by cases h) (fun _ => hf)

theorem W_loop {c : Code} (I : Nat → Env → World → Prop) (m : Nat) (ρ0 : Env) (hs : Sub ρ0 ρ) (h0 : I m ρ0 w) (round : ∀ m ρ w, I m ρ w → W P n c (Lp I m Q) ρ w) : W P n (.loop c) Q ρ w := by
  intro act ha b k cs
  have key : ∀ m ρ a w, Agree n ρ a → I m ρ w → ∃ e a' w', liftQ n Q e a' w' ∧ Arrives P (lone (b.at a (.code c :: .inLoop c :: k)) cs w) b k cs e a' w' := by
    intro m
    induction m using Nat.strongRecOn with
    | _ m ih =>
      intro ρ a w ha hI
      obtain ⟨e, a1, w1, ⟨ρ1, ha1, hq⟩, harr⟩ := round m ρ w hI a ha b (.inLoop c :: k) cs
      cases e with
      | normal =>
        obtain ⟨m', ρ', hlt, hs', hI'⟩ := hq
        obtain ⟨e2, a2, w2, hq2, harr2⟩ := ih m' hlt ρ' a1 w1 (ha1.sub hs') hI'
        exact ⟨e2, a2, w2, hq2, .of_steps (Steps.trans harr (.one step_inLoop)) harr2⟩
      | exit id => exact ⟨_, a1, w1, ⟨ρ1, ha1, hq⟩, .pass (x := .inLoop c) rfl (fun _ _ => .inl (by simp)) harr⟩
      | goto l => exact ⟨_, a1, w1, ⟨ρ1, ha1, hq⟩, .pass (x := .inLoop c) rfl (fun _ _ => .inl (by simp)) harr⟩
      | ret => exact ⟨_, a1, w1, ⟨ρ1, ha1, hq⟩, .pass (x := .inLoop c) rfl (fun _ _ => .inl (by simp)) harr⟩
      | panic ch => exact ⟨_, a1, w1, ⟨ρ1, ha1, hq⟩, .pass (x := .inLoop c) rfl (fun _ _ => .inl (by simp)) harr⟩
      | outgrown => exact ⟨_, a1, w1, ⟨ρ1, ha1, hq⟩, .pass (x := .inLoop c) rfl (fun _ _ => .inl (by simp)) harr⟩
  obtain ⟨e, a', w', hq, harr⟩ := key m ρ0 act w (ha.sub hs) h0
  exact ⟨e, a', w', hq, .of_steps (.one step_loop) harr⟩

theorem W_region {id : Nat} {l : List Oper} (h : T P (plan P) n l.toArray (fun ρ w => Q .normal ρ w) l ρ w) : W P n (.region id l.toArray false) Q ρ w := fun a ha =>
  wp_region_plain (plan P) trivial (XL_of_T l ρ a w ha trivial h)
theorem W_draw {id : Nat} {l : List Oper} (hm : P.follows .mixedOrders = true) (hB : textB (plan P) l.toArray = true) (h : T P (plan P) n l.toArray (fun ρ w => Q .normal ρ w) l ρ w.drew) : W P n (.region id l.toArray true) Q ρ w := fun a ha =>
  wp_region_text (plan P) hm hB trivial (XL_of_T l ρ a w.drew ha trivial h)
theorem W_plan {id : Nat} {l : List Oper} (N : Plan) (hm : P.follows .mixedOrders = true) (hB : textB N l.toArray = true) (hc : N.C w.drew) (h : T P N n l.toArray (fun ρ w => Q .normal ρ w) l ρ w.drew) : W P n (.region id l.toArray true) Q ρ w := fun a ha =>
  wp_region_text N hm hB hc (XL_of_T l ρ a w.drew ha hc h)


def ResAll (P : Program) (ρ : Env) (w : World) : List ResultVar → List Value → Prop
  | [], vs => vs = []
  | .tmp t :: rs, vs => ∃ v vs', vs = v :: vs' ∧ ρ.get? t = some v ∧ ResAll P ρ w rs vs'
  | .cell t ty :: rs, vs => ∃ v vs' ad, vs = v :: vs' ∧ ρ.get? t = some (.pointer (some ad)) ∧ (loadVar ty ad).run P w = .ok v w ∧ ResAll P ρ w rs vs'

def oneOf : List Value → Value
  | [v] => v
  | vs => .tuple vs.toArray

def Post (P : Program) (rs : List ResultVar) (R : Ending → World → Prop) : Exit → Env → World → Prop
  | .normal, ρ, w | .ret, ρ, w => ∃ vs, ResAll P ρ w rs vs ∧ R (.returned (oneOf vs)) w
  | _, _, _ => False

theorem resAll_run {a : Act} (ha : Agree n ρ a) (g : ResultVar → Sem Value) (g1 : ∀ t, g (.tmp t) = pure (a.tmps.getD t undef))
    (g2 : ∀ x t, g (.cell x t) = (asAddr (a.tmps.getD x undef) >>= fun ad => loadVar t ad)) : ∀ (rs : List ResultVar) (vs : List Value), ResAll P ρ w rs vs → (rs.mapM g).run P w = .ok vs w
  | [], vs, h => by cases h; rfl
  | .tmp t :: rs, vs, h => by
    obtain ⟨v, vs', rfl, hv, h⟩ := h
    have h1 := ha.2.2 t v hv
    have ih := resAll_run ha g g1 g2 rs vs' h
    rw [List.mapM_cons, g1]
    simp only [Sem.run_bind, Sem.run_pure, Result.andThen_ok]
    rw [ih]
    simp [h1]
  | .cell t ty :: rs, vs, h => by
    obtain ⟨v, vs', ad, rfl, hv, hl, h⟩ := h
    have h1 := ha.2.2 t _ hv
    have ih := resAll_run ha g g1 g2 rs vs' h
    rw [List.mapM_cons, g2]
    have h2 : (asAddr (a.tmps.getD t undef)).run P w = .ok ad w := by simp [h1, asAddr]
    simp only [Sem.run_bind, h2, Result.andThen_ok, hl, ih, Sem.run_pure]

theorem calls_of_W {f : FuncId} {fn : Func} {c : Code} {args : Array Value} {R : Ending → World → Prop} (rs : List ResultVar) (hf : P.funcs[f]? = some fn) (hb : fn.body = some c) (hn : fn.ntmps = n) (hr : fn.results = rs.toArray)
    (hsz : Nat.ble args.size n = true) (hρ : ∀ t v, ρ.get? t = some v → args[t]? = some v) (h : W P n c (Post P rs R) ρ w) : Calls P f args w R := by
  refine calls_of_wp hf hb ?_
  have ha : Agree n ρ { tmps := args ++ Array.replicate (fn.ntmps - args.size) undef, defers := [] } := by
    have := Nat.le_of_ble_eq_true hsz
    refine ⟨by simp; omega, rfl, fun t v hv => ?_⟩
    have h1 := hρ t v hv
    have hlt : t < args.size := (Array.getElem?_eq_some_iff.1 h1).1
    rw [Array.getElem?_append_left hlt]
    exact h1
  refine wp_mono (h _ ha) fun e a' w' ⟨ρ', ha', hq⟩ => ?_
  have fin : ∀ vs, ResAll P ρ' w' rs vs → (results fn a'.tmps).run P w' = .ok (oneOf vs) w' := by
    intro vs hv
    unfold results
    rw [hr]
    simp only [Sem.run_bind, List.mapM_toArray, Sem.run_map]
    rw [resAll_run ha' _ ?_ ?_ rs vs hv]
    rotate_left
    · intro t; rfl
    · intro x t; rfl
    simp only [Result.andThen_ok, Sem.run_pure]
    congr 1
    match vs with
    | [] => rfl
    | [v] => rfl
    | u :: v :: r => rw [dif_neg (by simp)]; rfl
  cases e with
  | normal => obtain ⟨vs, hv, hR⟩ := hq; exact ⟨ha'.2.1, _, fin vs hv, hR⟩
  | ret => obtain ⟨vs, hv, hR⟩ := hq; exact ⟨ha'.2.1, _, fin vs hv, hR⟩
  | exit i => exact hq.elim
  | goto l => exact hq.elim
  | panic c => exact hq.elim
  | outgrown => exact hq.elim

def argEnv : Nat → List Value → Env
  | _, [] => []
  | i, v :: r => (i, v) :: argEnv (i + 1) r

theorem argEnv_get : ∀ (l : List Value) (i t : Nat) (v : Value), (argEnv i l).get? t = some v → i ≤ t ∧ l[t - i]? = some v
  | [], _, _, _, h => by cases h
  | u :: r, i, t, v, h => by
    rw [argEnv, get?_cons] at h
    split at h
    · rename_i e; subst e; simp only [Option.some.injEq] at h; subst h; simp
    · rename_i e
      obtain ⟨h1, h2⟩ := argEnv_get r (i + 1) t v h
      refine ⟨by omega, ?_⟩
      have : t - i = (t - (i + 1)) + 1 := by omega
      rw [this]; simpa using h2

theorem enter {f : FuncId} {fn : Func} {c : Code} {args : List Value} {R : Ending → World → Prop} (rs : List ResultVar) (hf : P.funcs[f]? = some fn) (hb : fn.body = some c) (hn : fn.ntmps = n) (hr : fn.results = rs.toArray)
    (hsz : Nat.ble args.length n = true) (h : W P n c (Post P rs R) (argEnv 0 args) w) : Calls P f args.toArray w R :=
  calls_of_W rs hf hb hn hr (by simpa using hsz) (fun t v hv => by have := (argEnv_get args 0 t v hv).2; simpa using this) h
end
end Go.F
namespace Go.F
open Go
section
variable {P : Program} {n : Nat} {Q : Exit → Env → World → Prop} {ρ : Env} {w : World}
theorem enter0 {f : FuncId} {fn : Func} {c : Code} {R : Ending → World → Prop} (rs : List ResultVar) (hf : P.funcs[f]? = some fn) (hb : fn.body = some c) (hn : fn.ntmps = n) (hr : fn.results = rs.toArray)
    (h : W P n c (Post P rs R) [] w) : Calls P f #[] w R := enter (args := []) rs hf hb hn hr rfl h
theorem enter1 {f : FuncId} {fn : Func} {c : Code} {a : Value} {R : Ending → World → Prop} (rs : List ResultVar) (hf : P.funcs[f]? = some fn) (hb : fn.body = some c) (hn : fn.ntmps = n) (hr : fn.results = rs.toArray)
    (hsz : Nat.ble 1 n = true) (h : W P n c (Post P rs R) [(0, a)] w) : Calls P f #[a] w R := enter (args := [a]) rs hf hb hn hr hsz h
theorem enter2 {f : FuncId} {fn : Func} {c : Code} {a b : Value} {R : Ending → World → Prop} (rs : List ResultVar) (hf : P.funcs[f]? = some fn) (hb : fn.body = some c) (hn : fn.ntmps = n) (hr : fn.results = rs.toArray)
    (hsz : Nat.ble 2 n = true) (h : W P n c (Post P rs R) [(0, a), (1, b)] w) : Calls P f #[a, b] w R := enter (args := [a, b]) rs hf hb hn hr hsz h
theorem enter3 {f : FuncId} {fn : Func} {c : Code} {a b d : Value} {R : Ending → World → Prop} (rs : List ResultVar) (hf : P.funcs[f]? = some fn) (hb : fn.body = some c) (hn : fn.ntmps = n) (hr : fn.results = rs.toArray)
    (hsz : Nat.ble 3 n = true) (h : W P n c (Post P rs R) [(0, a), (1, b), (2, d)] w) : Calls P f #[a, b, d] w R := enter (args := [a, b, d]) rs hf hb hn hr hsz h
theorem enter4 {f : FuncId} {fn : Func} {c : Code} {a b d e : Value} {R : Ending → World → Prop} (rs : List ResultVar) (hf : P.funcs[f]? = some fn) (hb : fn.body = some c) (hn : fn.ntmps = n) (hr : fn.results = rs.toArray)
    (hsz : Nat.ble 4 n = true) (h : W P n c (Post P rs R) [(0, a), (1, b), (2, d), (3, e)] w) : Calls P f #[a, b, d, e] w R := enter (args := [a, b, d, e]) rs hf hb hn hr hsz h
theorem enter5 {f : FuncId} {fn : Func} {c : Code} {a b d e g : Value} {R : Ending → World → Prop} (rs : List ResultVar) (hf : P.funcs[f]? = some fn) (hb : fn.body = some c) (hn : fn.ntmps = n) (hr : fn.results = rs.toArray)
    (hsz : Nat.ble 5 n = true) (h : W P n c (Post P rs R) [(0, a), (1, b), (2, d), (3, e), (4, g)] w) : Calls P f #[a, b, d, e, g] w R := enter (args := [a, b, d, e, g]) rs hf hb hn hr hsz h
theorem enter6 {f : FuncId} {fn : Func} {c : Code} {a b d e g i : Value} {R : Ending → World → Prop} (rs : List ResultVar) (hf : P.funcs[f]? = some fn) (hb : fn.body = some c) (hn : fn.ntmps = n) (hr : fn.results = rs.toArray)
    (hsz : Nat.ble 6 n = true) (h : W P n c (Post P rs R) [(0, a), (1, b), (2, d), (3, e), (4, g), (5, i)] w) : Calls P f #[a, b, d, e, g, i] w R := enter (args := [a, b, d, e, g, i]) rs hf hb hn hr hsz h
end
end Go.F

namespace Go.F
open Go Go.RowKit


abbrev Hp := Nat → Option Obj
def hw (w : World) : Hp := fun k => w.heap[k]?
def Hp.le (h h' : Hp) : Prop := ∀ k o, h k = some o → h' k = some o
theorem Hp.le.refl (h : Hp) : h.le h := fun _ _ e => e
theorem Hp.le.trans {a b c : Hp} (h : a.le b) (k : b.le c) : a.le c := fun i o e => k i o (h i o e)

theorem le_below {W w : World} (h : Below W.heap.size W w) : (hw W).le (hw w) := fun k o e => by
  have hk : k < W.heap.size := (Array.getElem?_eq_some_iff.1 e).1
  exact (h.block k hk).trans e

theorem below_of_grown {w w' : World} (h : w.grownBy w' none) : Below w.heap.size w w' := ⟨h.os, h.tape, h.output, h.size, fun k hk => h.block k hk (by simp)⟩
theorem grown_of_below {w w' : World} (h : Below w.heap.size w w') (row : Option Nat) : w.grownBy w' row := ⟨h.os, h.tape, h.output, h.size, fun k hk _ => h.block k hk⟩
theorem _root_.Go.RowKit.Below.step {W w w' : World} {row : Option Nat} (h : Below W.heap.size W w) (hg : w.grownBy w' row) (hr : ∀ g, row = some g → W.heap.size ≤ g) : Below W.heap.size W w' := h.grown hg h.size hr
theorem _root_.Go.RowKit.Below.step0 {W w w' : World} (h : Below W.heap.size W w) (hg : w.grownBy w' none) : Below W.heap.size W w' := h.grown hg h.size (by simp)
theorem _root_.Go.RowKit.Below.stepg {W w w' : World} {g : Nat} (h : Below W.heap.size W w) (hg : w.grownBy w' (some g)) (hr : W.heap.size ≤ g) : Below W.heap.size W w' := h.grown hg h.size (fun k e => by cases e; exact hr)
theorem _root_.Go.RowKit.Below.call {W w w' : World} (h : Below W.heap.size W w) (hb : Below w.heap.size w w') : Below W.heap.size W w' := h.trans (hb.mono h.size)

theorem blk_step {w w' : World} {row : Option Nat} {b : Nat} {o : Obj} (h : w.heap[b]? = some o) (hg : w.grownBy w' row) (hr : row ≠ some b) : w'.heap[b]? = some o :=
  (hg.block b (Array.getElem?_eq_some_iff.1 h).1 (fun e => hr e.symm)).trans h
theorem gblk {w w' : World} {row : Option Nat} (hg : w.grownBy w' row) {b : Nat} {o : Obj} (h : w.heap[b]? = some o) (hr : row ≠ some b) : w'.heap[b]? = some o := blk_step h hg hr
theorem undrew {w w' : World} {row : Option Nat} (h : w.drew.grownBy w' row) : w.grownBy w' row := ⟨h.os, h.tape, h.output, h.size, h.block⟩
theorem unbelow {w w' : World} (h : Below w.drew.heap.size w.drew w') : Below w.heap.size w w' := ⟨h.os, h.tape, h.output, h.size, h.block⟩
theorem blk_call {w w' : World} {b : Nat} {o : Obj} (h : w.heap[b]? = some o) (hb : Below w.heap.size w w') : w'.heap[b]? = some o :=
  (hb.block b (Array.getElem?_eq_some_iff.1 h).1).trans h
theorem below_refl (w : World) : Below w.heap.size w w := ⟨rfl, rfl, rfl, Nat.le_refl _, fun _ _ => rfl⟩
theorem blk_lt {w : World} {b : Nat} {o : Obj} (h : w.heap[b]? = some o) : b < w.heap.size := (Array.getElem?_eq_some_iff.1 h).1

def hcell (h : Hp) (b o : Nat) : Option Value := match h b with | some (.cells c _ _) => c[o]? | _ => none
theorem hcell_mono {h h' : Hp} (hl : h.le h') {b o : Nat} {v : Value} (e : hcell h b o = some v) : hcell h' b o = some v := by
  unfold hcell at *
  cases hb : h b with
  | none => simp [hb] at e
  | some x => rw [hl b x hb]; rw [hb] at e; exact e
theorem cell_of_hcell {w : World} {b o : Nat} {v : Value} (e : hcell (hw w) b o = some v) : w.cell? ⟨b, o, none⟩ = some v := by
  unfold hcell hw at e
  unfold World.cell?
  cases hb : w.heap[b]? with
  | none => simp [hb] at e
  | some x => rw [hb] at e; cases x <;> simp_all
theorem hcell_blk {w : World} {b : Nat} {c : Array Value} {t : TypeId} {f : Nat × Nat} (h : w.heap[b]? = some (.cells c t f)) (o : Nat) : hcell (hw w) b o = c[o]? := by simp [hcell, hw, h]

def Rd (h : Hp) (v : Value) (n size : Nat) (xs : List Value) : Prop :=
  xs.length = n * size ∧ ∃ a c, v = .slice a n c ∧ n ≤ c ∧ (a = none → n = 0 ∧ c = 0) ∧ ∀ ad, a = some ad → 0 < n → ad.spot = none ∧ ∀ (i : Nat) u, xs[i]? = some u → hcell h ad.block (ad.off + i) = some u

theorem Rd.mono {h h' : Hp} {v : Value} {n size : Nat} {xs : List Value} (r : Rd h v n size xs) (hl : h.le h') : Rd h' v n size xs := by
  obtain ⟨h1, a, c, hv, hc, h2, h3⟩ := r
  exact ⟨h1, a, c, hv, hc, h2, fun ad e hp => ⟨(h3 ad e hp).1, fun i u hi => hcell_mono hl ((h3 ad e hp).2 i u hi)⟩⟩
theorem Rd.below {W w : World} {v : Value} {n size : Nat} {xs : List Value} (r : Rd (hw W) v n size xs) (hb : Below W.heap.size W w) : Rd (hw w) v n size xs := r.mono (le_below hb)
theorem Rd.nil (h : Hp) (size : Nat) : Rd h (.slice none 0 0) 0 size [] := ⟨by simp, none, 0, rfl, Nat.le_refl _, fun _ => ⟨rfl, rfl⟩, fun _ e => by cases e⟩

theorem Rd.of_owns {w : World} {base : Nat} {e : TypeId} {size : Nat} {v : Value} {n : Nat} {xs : List Value} (h : w.ownsRow base e size v n xs) : Rd (hw w) v n size xs := by
  refine ⟨h.1, ?_⟩
  rcases h.2 with ⟨rfl, rfl⟩ | ⟨g, cap, cur, rfl, _, hg, hc, _, _, htake⟩
  · exact ⟨none, 0, rfl, Nat.le_refl _, fun _ => ⟨rfl, rfl⟩, fun _ e => by cases e⟩
  · refine ⟨_, cap, rfl, hc, (fun e => by cases e), fun ad e _ => ?_⟩
    cases e
    refine ⟨rfl, fun i u hi => ?_⟩
    rw [hcell_blk hg]
    rw [← htake, List.getElem?_take] at hi
    split at hi
    · simpa using hi
    · cases hi

theorem Rd.shape {h : Hp} {v : Value} {n size : Nat} {xs : List Value} (r : Rd h v n size xs) : ∃ a c, v = .slice a n c ∧ n ≤ c := by
  obtain ⟨_, a, c, hv, hc, _⟩ := r; exact ⟨a, c, hv, hc⟩
theorem Rd.get {h : Hp} {v : Value} {n size : Nat} {xs : List Value} (r : Rd h v n size xs) (hn : 0 < n) : ∃ b o c, v = .slice (some ⟨b, o, none⟩) n c ∧ n ≤ c ∧ ∀ (i : Nat) u, xs[i]? = some u → hcell h b (o + i) = some u := by
  obtain ⟨_, a, c, hv, hc, h2, h3⟩ := r
  cases a with
  | none => have := (h2 rfl).1; omega
  | some ad =>
    obtain ⟨hs, h4⟩ := h3 ad rfl hn
    obtain ⟨b, o, s⟩ := ad
    simp only at hs; subst hs
    exact ⟨b, o, c, hv, hc, h4⟩

section
variable {P : Program} {N : Plan} {n : Nat} {ops : Array Oper} {K : Env → World → Prop} {rest : List Oper} {ρ : Env} {w : World}


theorem wrap64_id {z : Int} (h1 : -9223372036854775808 ≤ z) (h2 : z ≤ 9223372036854775807) : IntKind.i64.wrap z = z := by
  simp [IntKind.wrap, IntKind.bits, IntKind.signed]; omega

def ari (ρ : Env) : Op → Option Int
  | .binOp .add _ x y _ => match ρ.ev x, ρ.ev y with | some (.int .i64 p), some (.int .i64 q) => some (p + q) | _, _ => none
  | .binOp .sub _ x y _ => match ρ.ev x, ρ.ev y with | some (.int .i64 p), some (.int .i64 q) => some (p - q) | _, _ => none
  | .binOp .mul _ x y _ => match ρ.ev x, ρ.ev y with | some (.int .i64 p), some (.int .i64 q) => some (p * q) | _, _ => none
  | _ => none

theorem T_ari {o : Oper} {d : Nat} {z : Int} (hv : ari ρ o.op = some z) (hg : o.guard = none) (hd : o.dst = some d) (hn : Nat.ble (d + 1) n = true)
    (h1 : -9223372036854775808 ≤ z ∧ z ≤ 9223372036854775807) (k : T P N n ops K rest ((d, .int .i64 z) :: ρ) w) : T P N n ops K (o :: rest) ρ w := by
  have hwr := wrap64_id h1.1 h1.2
  refine T_pev (v := .int .i64 z) ?_ hg hd hn k
  unfold ari at hv
  split at hv
  case h_4 => cases hv
  all_goals
    rename_i t x y t' ho
    split at hv
    · rename_i p q hx hy
      cases hv
      rw [ho]; simp [pev, isShift, hx, hy, binInt, hwr]
    · cases hv

theorem T_rem {o : Oper} {d : Nat} {t t' : TypeId} {x y : Operand} {p q : Int} (ho : o.op = .binOp .rem t x y t') (hx : ρ.ev x = some (.int .i64 p)) (hy : ρ.ev y = some (.int .i64 q)) (hg : o.guard = none) (hd : o.dst = some d) (hn : Nat.ble (d + 1) n = true)
    (hp : 0 ≤ p ∧ 0 < q) (k : T P N n ops K rest ((d, .int .i64 (p % q)) :: ρ) w) : T P N n ops K (o :: rest) ρ w :=
  T_val hg hd hn (fun a ha u => by
    have h1 := ha.ev hx
    have h2 := ha.ev hy
    unfold execOp; rw [ho]; simp only [h1, h2]
    have e : p.tmod q = p % q := Int.tmod_eq_emod_of_nonneg hp.1
    have hq : q ≠ 0 := by omega
    simp [go_sem, Op.intDiv, hq, e]) k
theorem T_quo {o : Oper} {d : Nat} {t t' : TypeId} {x y : Operand} {p q : Int} (ho : o.op = .binOp .quo t x y t') (hx : ρ.ev x = some (.int .i64 p)) (hy : ρ.ev y = some (.int .i64 q)) (hg : o.guard = none) (hd : o.dst = some d) (hn : Nat.ble (d + 1) n = true)
    (hp : 0 ≤ p ∧ 0 < q ∧ p ≤ 9223372036854775807) (k : T P N n ops K rest ((d, .int .i64 (p / q)) :: ρ) w) : T P N n ops K (o :: rest) ρ w :=
  T_val hg hd hn (fun a ha u => by
    have h1 := ha.ev hx
    have h2 := ha.ev hy
    unfold execOp; rw [ho]; simp only [h1, h2]
    have e : p.tdiv q = p / q := Int.tdiv_eq_ediv_of_nonneg hp.1
    have hq : q ≠ 0 := by omega
    have e2 : IntKind.i64.wrap (p / q) = p / q := wrap64_id (by have := Int.ediv_nonneg hp.1 (by omega : 0 ≤ q); omega) (by have := Int.ediv_le_self q hp.1; omega)
    simp [go_sem, Op.intDiv, hq, e, e2]) k

theorem T_shr {o : Oper} {d : Nat} {t t' : TypeId} {x y : Operand} {kx ky : IntKind} {p q : Int} (ho : o.op = .binOp .shr t x y t') (hx : ρ.ev x = some (.int kx p)) (hy : ρ.ev y = some (.int ky q)) (hg : o.guard = none) (hd : o.dst = some d) (hn : Nat.ble (d + 1) n = true)
    (hq : 0 ≤ q) (k : T P N n ops K rest ((d, .int kx (p.fdiv (2 ^ (min q.toNat kx.bits)))) :: ρ) w) : T P N n ops K (o :: rest) ρ w :=
  T_val hg hd hn (fun a ha u => by
    have h1 := ha.ev hx
    have h2 := ha.ev hy
    unfold execOp; rw [ho]; simp only [h1, h2]
    have : ¬ q < 0 := by omega
    simp [go_sem, Op.shift, this]) k
theorem T_shl {o : Oper} {d : Nat} {t t' : TypeId} {x y : Operand} {kx ky : IntKind} {p q : Int} (ho : o.op = .binOp .shl t x y t') (hx : ρ.ev x = some (.int kx p)) (hy : ρ.ev y = some (.int ky q)) (hg : o.guard = none) (hd : o.dst = some d) (hn : Nat.ble (d + 1) n = true)
    (hq : 0 ≤ q) (k : T P N n ops K rest ((d, .int kx (kx.wrap (p * 2 ^ (min q.toNat kx.bits)))) :: ρ) w) : T P N n ops K (o :: rest) ρ w :=
  T_val hg hd hn (fun a ha u => by
    have h1 := ha.ev hx
    have h2 := ha.ev hy
    unfold execOp; rw [ho]; simp only [h1, h2]
    have : ¬ q < 0 := by omega
    simp [go_sem, Op.shift, this]) k


theorem T_idx {o : Oper} {d : Nat} {t e : TypeId} {i : TypeInfo} {x y : Operand} {b off len cap : Nat} {k0 : IntKind} {z : Int} (ho : o.op = .indexAddr t x y) (hx : ρ.ev x = some (.slice (some ⟨b, off, none⟩) len cap)) (hy : ρ.ev y = some (.int k0 z))
    (ht : P.underlying t = some (.slice e)) (hi : P.info? e = some i) (hg : o.guard = none) (hd : o.dst = some d) (hn : Nat.ble (d + 1) n = true)
    (hz : 0 ≤ z ∧ z < len) (k : T P N n ops K rest ((d, .pointer (some ⟨b, off + z.toNat * i.size, none⟩)) :: ρ) w) : T P N n ops K (o :: rest) ρ w :=
  T_val hg hd hn (fun a ha u => by
    have h1 := ha.ev hx
    have h2 := ha.ev hy
    unfold execOp; rw [ho]; simp only [h1, h2]
    simp [Instr.indexAt, asIntOf, run_underlying ht, hz, sizeOf, typeInfo, hi, Addr.add_lit]) k
theorem T_idxA {o : Oper} {d : Nat} {t e : TypeId} {i : TypeInfo} {x y : Operand} {b off len : Nat} {k0 : IntKind} {z : Int} (ho : o.op = .indexAddr t x y) (hx : ρ.ev x = some (.pointer (some ⟨b, off, none⟩))) (hy : ρ.ev y = some (.int k0 z))
    (ht : P.underlying t = some (.array len e)) (hi : P.info? e = some i) (hg : o.guard = none) (hd : o.dst = some d) (hn : Nat.ble (d + 1) n = true)
    (hz : 0 ≤ z ∧ z < len) (k : T P N n ops K rest ((d, .pointer (some ⟨b, off + z.toNat * i.size, none⟩)) :: ρ) w) : T P N n ops K (o :: rest) ρ w :=
  T_val hg hd hn (fun a ha u => by
    have h1 := ha.ev hx
    have h2 := ha.ev hy
    unfold execOp; rw [ho]; simp only [h1, h2]
    simp [Instr.indexAt, asIntOf, run_underlying ht, hz, sizeOf, typeInfo, hi, Addr.add_lit, Instr.sureAddr]) k
theorem T_fld {o : Oper} {d : Nat} {s : TypeId} {f : Nat} {fs : Array Field} {fd : Field} {i : TypeInfo} {x : Operand} {b off : Nat} (ho : o.op = .fieldAddr s x f) (hx : ρ.ev x = some (.pointer (some ⟨b, off, none⟩)))
    (ht : P.underlying s = some (.struct fs)) (hf : fs[f]? = some fd) (hi : P.info? fd.type = some i) (hz : i.size ≠ 0) (hg : o.guard = none) (hd : o.dst = some d) (hn : Nat.ble (d + 1) n = true)
    (k : T P N n ops K rest ((d, .pointer (some ⟨b, off + fd.offset, none⟩)) :: ρ) w) : T P N n ops K (o :: rest) ρ w :=
  T_val hg hd hn (fun a ha u => by
    have h1 := ha.ev hx
    unfold execOp; rw [ho]; simp only [h1]
    simp [Instr.fieldAt, run_underlying ht, hf, Instr.sureAddr, fieldPlace, sizeOf, typeInfo, hi, hz, Addr.add_lit]) k

end
end Go.F

namespace Go.F
open Go Go.RowKit

section
variable {P : Program} {N : Plan} {n : Nat} {ops : Array Oper} {K : Env → World → Prop} {rest : List Oper} {ρ : Env} {w : World}

def scalar (P : Program) (t : TypeId) : Bool := match P.underlying t with | some (.struct _) | some (.array _ _) => false | some _ => true | none => false
def isAggB (P : Program) (t : TypeId) : Bool := match P.underlying t with | some (.struct _) | some (.array _ _) => true | _ => false

theorem run_isAgg_no {t : TypeId} (h : scalar P t = true) (u : World) : (isAgg t).run P u = .ok false u := by
  unfold scalar at h
  unfold isAgg
  cases hu : P.underlying t with
  | none => simp [hu] at h
  | some d => simp only [Sem.run_bind, run_underlying hu, Result.andThen_ok]; cases d <;> simp_all
theorem run_isAgg_yes {t : TypeId} (h : isAggB P t = true) (u : World) : (isAgg t).run P u = .ok true u := by
  unfold isAggB at h
  unfold isAgg
  cases hu : P.underlying t with
  | none => simp [hu] at h
  | some d => simp only [Sem.run_bind, run_underlying hu, Result.andThen_ok]; cases d <;> simp_all

theorem run_loadVar1 {t : TypeId} (h : scalar P t = true) {u : World} {a : Addr} {v : Value} (hc : u.cell? a = some v) : (loadVar t a).run P u = .ok v u := by
  unfold loadVar
  simp [run_isAgg_no h, hc]
theorem run_loadVarA {t : TypeId} (h : isAggB P t = true) {i : TypeInfo} (hi : P.info? t = some i) {u : World} {b off : Nat} {cs : Array Value} (hl : cs.size = i.size) (hc : ∀ j v, cs[j]? = some v → u.cell? ⟨b, off + j, none⟩ = some v) :
    (loadVar t ⟨b, off, none⟩).run P u = .ok (.agg cs) u := by
  unfold loadVar
  have h1 := run_loadCells_list (P := P) u ⟨b, off, none⟩ cs.toList (fun j v hj => by rw [Addr.add_lit]; exact hc j v (by simpa using hj))
  have hl' : cs.toList.length = i.size := by simpa using hl
  rw [hl'] at h1
  simp [run_isAgg_yes h, sizeOf, typeInfo, hi, h1]

theorem xo_read {o : Oper} {a : Act} {v : Value} {L : Act → World → Prop} (hg : Region.wanted o (yielded ops a.tmps) = true) (hc : N.C w) (hcl : N.cl o ≠ .pure)
    (h : (execOp a.eval o).run P w = .ok (.value v) w) (k : L (a.put o.dst v) w) : xo P N ops o L a w := by
  unfold xo
  rw [if_pos hg]
  cases hcc : N.cl o with
  | pure => exact absurd hcc hcl
  | read => exact ⟨v, .inl h, k⟩
  | loud => exact wp_of_quiet (.inl h) ⟨hc, k⟩

theorem T_load {o : Oper} {d : Nat} {t : TypeId} {x : Operand} {ad : Addr} {v : Value} (ho : o.op = .load t x) (hx : ρ.ev x = some (.pointer (some ad))) (hs : scalar P t = true) (hcl : N.cl o = .read) (hg : o.guard = none) (hd : o.dst = some d) (hn : Nat.ble (d + 1) n = true)
    (hv : w.cell? ad = some v) (k : T P N n ops K rest ((d, v) :: ρ) w) : T P N n ops K (o :: rest) ρ w :=
  fun a ha hc => xo_read (v := v) (wanted_none hg _) hc (by rw [hcl]; simp) (by
    have h1 := ha.ev hx
    unfold execOp; rw [ho]; simp only [h1]
    simp [Instr.loadAt, Instr.sureAddr, run_loadVar1 hs hv]) ⟨(d, v) :: ρ, by rw [hd]; exact ha.put hn v, k⟩
theorem T_loadA {o : Oper} {d : Nat} {t : TypeId} {i : TypeInfo} {x : Operand} {b off : Nat} (cs : Array Value) (ho : o.op = .load t x) (hx : ρ.ev x = some (.pointer (some ⟨b, off, none⟩))) (hs : isAggB P t = true) (hi : P.info? t = some i) (hcl : N.cl o = .read) (hg : o.guard = none) (hd : o.dst = some d) (hn : Nat.ble (d + 1) n = true)
    (hl : cs.size = i.size) (hv : ∀ j v, cs[j]? = some v → w.cell? ⟨b, off + j, none⟩ = some v) (k : T P N n ops K rest ((d, .agg cs) :: ρ) w) : T P N n ops K (o :: rest) ρ w :=
  fun a ha hc => xo_read (v := .agg cs) (wanted_none hg _) hc (by rw [hcl]; simp) (by
    have h1 := ha.ev hx
    unfold execOp; rw [ho]; simp only [h1]
    simp [Instr.loadAt, Instr.sureAddr, run_loadVarA hs hi hl hv]) ⟨(d, .agg cs) :: ρ, by rw [hd]; exact ha.put hn _, k⟩

theorem T_loud {o : Oper} (hg : o.guard = none) (hcl : N.cl o = .loud) (h : ∀ a, Agree n ρ a → N.C w → o.wp P a w (fun a' w' => N.C w' ∧ lift n (T P N n ops K rest) a' w') (fun _ _ _ => False)) : T P N n ops K (o :: rest) ρ w := by
  intro a ha hc
  unfold xo
  rw [if_pos (wanted_none hg _), hcl]
  exact h a ha hc

theorem T_store {o : Oper} {t t0 : TypeId} {i : TypeInfo} {x y : Operand} {b off : Nat} {c : Array Value} {v : Value} (hC : ∀ w, N.C w) (ho : o.op = .store t x y) (hx : ρ.ev x = some (.pointer (some ⟨b, off, none⟩))) (hy : ρ.ev y = some v)
    (hi : P.info? t = some i) (hcl : N.cl o = .loud) (hg : o.guard = none) (hd : o.dst = none)
    (hb : w.heap[b]? = some (.cells c t0 (0, 0))) (hl : v.cells.size = i.size) (hfit : off + v.cells.size ≤ c.size) (h1 : ∀ u ∈ v.cells.toList, u.oneCell' = true)
    (k : ∀ w', w'.heap[b]? = some (.cells (c.toList.take off ++ v.cells.toList ++ c.toList.drop (off + v.cells.size)).toArray t0 (0, 0)) → w.grownBy w' (some b) → w'.heap.size = w.heap.size → T P N n ops K rest ρ w') : T P N n ops K (o :: rest) ρ w := by
  refine T_loud hg hcl fun a ha hc => ?_
  have e1 := ha.ev hx
  have e2 := ha.ev hy
  have hst := run_storeCells_at P b off t0 v.cells.toList 0 c w hb (by simpa using hfit) h1
  have hrun : (execOp a.eval o).run P w = .ok .skip (w.setRow b (c.toList.take off ++ v.cells.toList ++ c.toList.drop (off + v.cells.size)).toArray) := by
    unfold execOp; rw [ho]; simp only [e1, e2]
    simp only [Nat.add_zero, Array.length_toList] at hst
    have hst' : (storeCells ⟨b, off, none⟩ v.cells.toList).run P w = _ := hst
    simp [Instr.storeAt, Instr.sureAddr, storeVar, sizeOf, typeInfo, hi, hl, hst']
  unfold Oper.wp
  rw [hrun]
  refine ⟨hC _, ρ, by rw [hd]; exact ha, k _ (setRow_heap w b c _ t0 _ hb) ⟨rfl, rfl, rfl, by simp, fun g _ hk => setRow_other w b g _ (fun e => hk (by simp [e]))⟩ (by simp)⟩

theorem T_alloc {o : Oper} {d : Nat} {t : TypeId} {i : TypeInfo} {z : Value} (hC : ∀ w, N.C w) (ho : o.op = .alloc t) (hi : P.info? t = some i) (hz : i.zero = some z) (hcl : N.cl o = .loud) (hg : o.guard = none) (hd : o.dst = some d) (hn : Nat.ble (d + 1) n = true)
    (k : ∀ b w', b = w.heap.size → w'.heap[b]? = some (.cells z.cells t (0, 0)) → w.grownBy w' none → T P N n ops K rest ((d, .pointer (some ⟨b, 0, none⟩)) :: ρ) w') : T P N n ops K (o :: rest) ρ w := by
  refine T_loud hg hcl fun a ha hc => ?_
  have hrun : (execOp a.eval o).run P w = .ok (.value (.pointer (some ⟨w.heap.size, 0, none⟩))) (w.alloc (.cells z.cells t (0, 0))) := by
    unfold execOp; rw [ho]; simp [Instr.alloc, zeroValue, typeInfo, hi, hz, newVar, newRow]
  unfold Oper.wp
  rw [hrun]
  exact ⟨hC _, _, by rw [hd]; exact ha.put hn _, k w.heap.size _ rfl (heap_alloc_new w _) (World.grownBy_alloc w _ none)⟩
theorem T_box {o : Oper} {d : Nat} {t : TypeId} {x : Operand} {v : Value} (hC : ∀ w, N.C w) (ho : o.op = .box t x) (hx : ρ.ev x = some v) (hcl : N.cl o = .loud) (hg : o.guard = none) (hd : o.dst = some d) (hn : Nat.ble (d + 1) n = true)
    (k : ∀ b w', b = w.heap.size → w'.heap[b]? = some (.cells v.cells t (0, 0)) → w.grownBy w' none → T P N n ops K rest ((d, .pointer (some ⟨b, 0, none⟩)) :: ρ) w') : T P N n ops K (o :: rest) ρ w := by
  refine T_loud hg hcl fun a ha hc => ?_
  have e1 := ha.ev hx
  have hrun : (execOp a.eval o).run P w = .ok (.value (.pointer (some ⟨w.heap.size, 0, none⟩))) (w.alloc (.cells v.cells t (0, 0))) := by
    unfold execOp; rw [ho]; simp [Instr.box, e1, newVar, newRow]
  unfold Oper.wp
  rw [hrun]
  exact ⟨hC _, _, by rw [hd]; exact ha.put hn _, k w.heap.size _ rfl (heap_alloc_new w _) (World.grownBy_alloc w _ none)⟩


def goFn (P : Program) (f : FuncId) : Bool := match P.funcs[f]? with | some fn => fn.body.isSome && !(fn.name == "runtime.NumGoroutine") | none => false

theorem run_goFn {f : FuncId} (h : goFn P f = true) (args : Array Value) (u : World) : (callFunc f args).run P u = .ok (.enter f args) u := by
  unfold goFn at h
  cases hf : P.funcs[f]? with
  | none => simp [hf] at h
  | some fn =>
    simp only [hf, Bool.and_eq_true, Bool.not_eq_true'] at h
    have hb : fn.body.isNone = false := by cases hb : fn.body <;> simp_all
    have hp : (program).run P u = .ok P u := rfl
    unfold callFunc
    simp only [Sem.run_bind, hp, Result.andThen_ok, hf, h.2, hb]
    rfl

def evs (ρ : Env) : List Operand → Option (List Value)
  | [] => some []
  | x :: xs => match ρ.ev x, evs ρ xs with
    | some v, some vs => some (v :: vs)
    | _, _ => none

theorem Agree.evs {a : Act} (ha : Agree n ρ a) : ∀ (xs : List Operand) (vs : List Value), evs ρ xs = some vs → xs.map a.eval = vs
  | [], vs, h => by cases h; rfl
  | x :: xs, vs, h => by
    unfold F.evs at h
    split at h
    · rename_i v vs' h1 h2
      cases h
      rw [List.map_cons, ha.ev h1, Agree.evs ha xs vs' h2]
    · cases h

theorem run_call {o : Oper} {a : Act} {f : FuncId} {xs : List Operand} {ts : Array TypeId} {args : List Value} (ho : o.op = .call ⟨.value (.func f), xs.toArray, ts⟩) (ha : Agree n ρ a) (hxs : evs ρ xs = some args) (hf : goFn P f = true) (u : World) :
    (execOp a.eval o).run P u = .ok (.enter f args.toArray) u := by
  have h1 := ha.evs xs args hxs
  unfold execOp; rw [ho]
  have h2 : (xs.toArray.map a.eval) = args.toArray := by rw [← h1]; simp
  simp only [resolve, h2, Sem.run_bind]
  have h3 : (Deferred.ofValue (a.eval (.func f)) args.toArray).run P u = .ok { target := .fn (.func f) #[], args := args.toArray } u := by simp [Act.eval, Deferred.ofValue]
  rw [h3]
  simp only [Result.andThen_ok, invoke, Array.append_empty]
  exact run_goFn hf _ u

theorem T_call {o : Oper} {d : Nat} {f : FuncId} {xs : List Operand} {ts : Array TypeId} {args : List Value} (hC : ∀ w, N.C w) (ho : o.op = .call ⟨.value (.func f), xs.toArray, ts⟩) (hxs : evs ρ xs = some args) (hf : goFn P f = true) (hcl : N.cl o = .loud) (hg : o.guard = none) (hd : o.dst = some d) (hn : Nat.ble (d + 1) n = true)
    (c : Calls P f args.toArray w (fun e w' => ∃ v, e = .returned v ∧ T P N n ops K rest ((d, v) :: ρ) w')) : T P N n ops K (o :: rest) ρ w := by
  refine T_loud hg hcl fun a ha hc => ?_
  unfold Oper.wp
  rw [run_call ho ha hxs hf w]
  refine c.mono fun e w' ⟨v, he, h⟩ => ?_
  subst he
  exact ⟨hC _, _, by rw [hd]; exact ha.put hn v, h⟩

theorem T_append {o : Oper} {d : Nat} {t e : TypeId} {i : TypeInfo} {z : Value} {x y : Operand} {v vs : Value} {base size n0 m : Nat} {xs news : List Value} (hC : ∀ w, N.C w)
    (ho : o.op = .call ⟨.builtin .append, #[x, y], #[t, t]⟩) (hx : ρ.ev x = some v) (hy : ρ.ev y = some vs) (ht : P.underlying t = some (.slice e)) (hi : P.info? e = some i) (hz : i.zero = some z) (hcl : N.cl o = .loud) (hg : o.guard = none) (hd : o.dst = some d) (hn : Nat.ble (d + 1) n = true)
    (hsize : i.size = size) (hzs : z.cells.size = size) (hsz : 0 < size) (hown : w.ownsRow base e size v n0 xs) (hsrc : Rd (hw w) vs m size news) (h1 : ∀ u ∈ news, u.oneCell' = true)
    (h63 : n0 + m ≤ maxLen) (hbytes : (n0 + m) * i.bytes ≤ 140737488355328) (hbase : base ≤ w.heap.size)
    (k : ∀ v' w', w'.ownsRow base e size v' (n0 + m) (xs ++ news) → w.grownBy w' v.ownBlock → T P N n ops K rest ((d, v') :: ρ) w') : T P N n ops K (o :: rest) ρ w := by
  refine T_loud hg hcl fun a ha hc => ?_
  have e1 := ha.ev hx
  have e2 := ha.ev hy
  obtain ⟨hlen, aa, c, hvs, hcc, hnone, hsome⟩ := hsrc
  have key : ∃ v' w', (Builtin.append_ #[t, t] o.type #[v, vs]).run P w = .ok v' w' ∧ w'.ownsRow base e size v' (n0 + m) (xs ++ news) ∧ w.grownBy w' v.ownBlock := by
    cases aa with
    | none =>
      obtain ⟨rfl, rfl⟩ := hnone rfl
      have : news = [] := List.eq_nil_of_length_eq_zero (by simpa using hlen)
      subst this
      rw [hvs]
      refine ⟨v, w, run_append_owned_none (P := P) w base t o.type e i size ht hi _ n0 xs hown, by simpa using hown, ?_⟩
      exact ⟨rfl, rfl, rfl, Nat.le_refl _, fun _ _ _ => rfl⟩
    | some ad =>
      rw [hvs]
      obtain ⟨v', w', hr, h2, h3, _⟩ := run_append_own (P := P) w base t o.type e i z size i.bytes ht hi hz hsize rfl hzs hsz v n0 xs hown ad m c news hlen
        (fun j u hj => by
          have hm : 0 < m := by
            have := (List.getElem?_eq_some_iff.1 hj).1
            rcases Nat.eq_zero_or_pos m with e | e
            · rw [e] at hlen; omega
            · exact e
          obtain ⟨hspot, hcell⟩ := hsome ad rfl hm
          obtain ⟨b, off, s⟩ := ad
          simp only at hspot; subst hspot
          rw [Addr.add_lit]; exact cell_of_hcell (hcell j u hj)) h1 h63 hbytes hbase
      exact ⟨v', w', hr, h2, h3⟩
  obtain ⟨v', w', hr, h2, h3⟩ := key
  have hrun : (execOp a.eval o).run P w = .ok (.value v') w' := by
    unfold execOp; rw [ho]
    simp only [resolve, Sem.run_bind, Sem.run_pure, Result.andThen_ok, invoke, builtin]
    simp [e1, e2, hr]
  unfold Oper.wp
  rw [hrun]
  exact ⟨hC _, _, by rw [hd]; exact ha.put hn v', k v' w' h2 h3⟩

end
end Go.F

namespace Go.F
open Go Go.RowKit


abbrev wV (a : BitVec 32) : Value := .int .u32 (a.toNat : Int)
abbrev bV (b : UInt8) : Value := .int .u8 (b.toNat : Int)

theorem wadd (a b : BitVec 32) : IntKind.u32.wrap ((a.toNat : Int) + b.toNat) = ((a + b).toNat : Int) := by
  rw [IntKind.wrap_u32, BitVec.toNat_add]; simp
theorem bv_of (a : BitVec 32) : BitVec.ofInt IntKind.u32.bits (a.toNat : Int) = a := by
  simp only [IntKind.bits]
  apply BitVec.eq_of_toNat_eq
  simp
theorem wrap_self (a : BitVec 32) : IntKind.u32.wrap (a.toNat : Int) = (a.toNat : Int) := by
  rw [IntKind.wrap_u32]; have := a.isLt; omega
theorem wand (a b : BitVec 32) : bits .and .u32 (a.toNat : Int) b.toNat = ((a &&& b).toNat : Int) := by
  simp only [bits, bv_of]; exact wrap_self _
theorem wor (a b : BitVec 32) : bits .or .u32 (a.toNat : Int) b.toNat = ((a ||| b).toNat : Int) := by
  simp only [bits, bv_of]; exact wrap_self _
theorem wxor (a b : BitVec 32) : bits .xor .u32 (a.toNat : Int) b.toNat = ((a ^^^ b).toNat : Int) := by
  simp only [bits, bv_of]; exact wrap_self _
theorem wnot (a : BitVec 32) : bits .xor .u32 IntKind.u32.max (a.toNat : Int) = ((~~~a).toNat : Int) := by
  have e : (IntKind.u32.max : Int) = ((BitVec.allOnes 32).toNat : Int) := by decide
  rw [e, wxor, BitVec.allOnes_xor]
theorem wshl (a : BitVec 32) (q : Nat) (hq : q ≤ 32) : IntKind.u32.wrap ((a.toNat : Int) * 2 ^ (min q IntKind.u32.bits)) = ((a <<< q).toNat : Int) := by
  have e : min q IntKind.u32.bits = q := by simp only [IntKind.bits]; omega
  rw [e, IntKind.wrap_u32, BitVec.toNat_shiftLeft, Nat.shiftLeft_eq]
  simp
theorem wshr (a : BitVec 32) (q : Nat) (hq : q ≤ 32) : (a.toNat : Int).fdiv (2 ^ (min q IntKind.u32.bits)) = ((a >>> q).toNat : Int) := by
  have e : min q IntKind.u32.bits = q := by simp only [IntKind.bits]; omega
  rw [e, BitVec.toNat_ushiftRight, Nat.shiftRight_eq_div_pow, Int.fdiv_eq_ediv_of_nonneg _ (by exact Int.pow_nonneg (by omega))]
  simp
theorem w_of_b (b : UInt8) : IntKind.u32.wrap (b.toNat : Int) = ((b.toBitVec.setWidth 32).toNat : Int) := by
  rw [IntKind.wrap_u32]
  have h := b.toBitVec.isLt
  have e : b.toNat = b.toBitVec.toNat := rfl
  rw [e, BitVec.toNat_setWidth]
  omega
theorem b_wrap (m : Nat) : IntKind.u8.wrap (m : Int) = ((UInt8.ofNat m).toNat : Int) := by
  rw [IntKind.wrap_u8]; simp

section
variable {P : Program} {N : Plan} {n : Nat} {ops : Array Oper} {K : Env → World → Prop} {rest : List Oper} {ρ : Env} {w : World}

def wop : BinOp → BitVec 32 → BitVec 32 → Option (BitVec 32)
  | .add, a, b => some (a + b)
  | .and, a, b => some (a &&& b)
  | .or, a, b => some (a ||| b)
  | .xor, a, b => some (a ^^^ b)
  | _, _, _ => none

theorem T_w {o : Oper} {d : Nat} {op : BinOp} {t t' : TypeId} {x y : Operand} {a b c : BitVec 32} (ho : o.op = .binOp op t x y t') (hx : ρ.ev x = some (wV a)) (hy : ρ.ev y = some (wV b)) (hc : wop op a b = some c) (hg : o.guard = none) (hd : o.dst = some d) (hn : Nat.ble (d + 1) n = true)
    (k : T P N n ops K rest ((d, wV c) :: ρ) w) : T P N n ops K (o :: rest) ρ w := by
  refine T_pev (v := wV c) ?_ hg hd hn k
  rw [ho]
  cases op <;> simp only [wop, Option.some.injEq, reduceCtorEq] at hc <;> subst hc <;> simp [pev, isShift, hx, hy, binInt, wadd, wand, wor, wxor]
theorem T_wnot {o : Oper} {d : Nat} {t : TypeId} {x : Operand} {a : BitVec 32} (ho : o.op = .unOp .xor t x) (hx : ρ.ev x = some (wV a)) (hg : o.guard = none) (hd : o.dst = some d) (hn : Nat.ble (d + 1) n = true)
    (k : T P N n ops K rest ((d, wV (~~~a)) :: ρ) w) : T P N n ops K (o :: rest) ρ w := by
  refine T_pev (v := wV (~~~a)) ?_ hg hd hn k
  rw [ho]; simp [pev, hx, wnot]
theorem T_wshl {o : Oper} {d : Nat} {t t' : TypeId} {x : Operand} {ky : IntKind} {a : BitVec 32} {q : Nat} {z : Int} (ho : o.op = .binOp .shl t x (.const (.int ky z)) t') (hx : ρ.ev x = some (wV a)) (hz : z = (q : Int)) (hq : Nat.ble q 32 = true) (hg : o.guard = none) (hd : o.dst = some d) (hn : Nat.ble (d + 1) n = true)
    (k : T P N n ops K rest ((d, wV (a <<< q)) :: ρ) w) : T P N n ops K (o :: rest) ρ w := by
  refine T_shl ho hx rfl hg hd hn (by omega) ?_
  rw [hz, Int.toNat_natCast, wshl a q (Nat.le_of_ble_eq_true hq)]
  exact k
theorem T_wshr {o : Oper} {d : Nat} {t t' : TypeId} {x : Operand} {ky : IntKind} {a : BitVec 32} {q : Nat} {z : Int} (ho : o.op = .binOp .shr t x (.const (.int ky z)) t') (hx : ρ.ev x = some (wV a)) (hz : z = (q : Int)) (hq : Nat.ble q 32 = true) (hg : o.guard = none) (hd : o.dst = some d) (hn : Nat.ble (d + 1) n = true)
    (k : T P N n ops K rest ((d, wV (a >>> q)) :: ρ) w) : T P N n ops K (o :: rest) ρ w := by
  refine T_shr ho hx rfl hg hd hn (by omega) ?_
  rw [hz, Int.toNat_natCast, wshr a q (Nat.le_of_ble_eq_true hq)]
  exact k
theorem T_wshlv {o : Oper} {d : Nat} {t t' : TypeId} {x y : Operand} {ky : IntKind} {a : BitVec 32} {q : Nat} {z : Int} (ho : o.op = .binOp .shl t x y t') (hx : ρ.ev x = some (wV a)) (hy : ρ.ev y = some (.int ky z)) (hz : z = (q : Int)) (hq : q ≤ 32) (hg : o.guard = none) (hd : o.dst = some d) (hn : Nat.ble (d + 1) n = true)
    (k : T P N n ops K rest ((d, wV (a <<< q)) :: ρ) w) : T P N n ops K (o :: rest) ρ w := by
  refine T_shl ho hx hy hg hd hn (by omega) ?_
  rw [hz, Int.toNat_natCast, wshl a q hq]
  exact k
theorem T_wshrv {o : Oper} {d : Nat} {t t' : TypeId} {x y : Operand} {ky : IntKind} {a : BitVec 32} {q : Nat} {z : Int} (ho : o.op = .binOp .shr t x y t') (hx : ρ.ev x = some (wV a)) (hy : ρ.ev y = some (.int ky z)) (hz : z = (q : Int)) (hq : q ≤ 32) (hg : o.guard = none) (hd : o.dst = some d) (hn : Nat.ble (d + 1) n = true)
    (k : T P N n ops K rest ((d, wV (a >>> q)) :: ρ) w) : T P N n ops K (o :: rest) ρ w := by
  refine T_shr ho hx hy hg hd hn (by omega) ?_
  rw [hz, Int.toNat_natCast, wshr a q hq]
  exact k
theorem T_wb {o : Oper} {d : Nat} {s t : TypeId} {x : Operand} {k0 : IntKind} {b : UInt8} (ho : o.op = .convert s t x) (hs : P.underlying s = some (.int k0)) (ht : P.underlying t = some (.int .u32)) (hx : ρ.ev x = some (bV b)) (hg : o.guard = none) (hd : o.dst = some d) (hn : Nat.ble (d + 1) n = true)
    (k : T P N n ops K rest ((d, wV (b.toBitVec.setWidth 32)) :: ρ) w) : T P N n ops K (o :: rest) ρ w := by
  refine T_pev (v := wV (b.toBitVec.setWidth 32)) ?_ hg hd hn k
  rw [ho]; simp [pev, hx, hs, ht, w_of_b]


theorem T_idx1 {o : Oper} {d : Nat} {t e : TypeId} {i : TypeInfo} {x y : Operand} {b off len cap : Nat} {k0 : IntKind} {z : Int} (ho : o.op = .indexAddr t x y) (hx : ρ.ev x = some (.slice (some ⟨b, off, none⟩) len cap)) (hy : ρ.ev y = some (.int k0 z))
    (ht : P.underlying t = some (.slice e)) (hi : P.info? e = some i) (h1 : i.size = 1) (hg : o.guard = none) (hd : o.dst = some d) (hn : Nat.ble (d + 1) n = true)
    (hz : 0 ≤ z ∧ z < len) (k : T P N n ops K rest ((d, .pointer (some ⟨b, off + z.toNat, none⟩)) :: ρ) w) : T P N n ops K (o :: rest) ρ w :=
  T_idx ho hx hy ht hi hg hd hn hz (by rw [h1, Nat.mul_one]; exact k)
theorem T_idxA1 {o : Oper} {d : Nat} {t e : TypeId} {i : TypeInfo} {x y : Operand} {b off len : Nat} {k0 : IntKind} {z : Int} (ho : o.op = .indexAddr t x y) (hx : ρ.ev x = some (.pointer (some ⟨b, off, none⟩))) (hy : ρ.ev y = some (.int k0 z))
    (ht : P.underlying t = some (.array len e)) (hi : P.info? e = some i) (h1 : i.size = 1) (hg : o.guard = none) (hd : o.dst = some d) (hn : Nat.ble (d + 1) n = true)
    (hz : 0 ≤ z ∧ z < len) (k : T P N n ops K rest ((d, .pointer (some ⟨b, off + z.toNat, none⟩)) :: ρ) w) : T P N n ops K (o :: rest) ρ w :=
  T_idxA ho hx hy ht hi hg hd hn hz (by rw [h1, Nat.mul_one]; exact k)
theorem T_store1 {o : Oper} {t t0 : TypeId} {i : TypeInfo} {x y : Operand} {b off : Nat} {c : Array Value} {v : Value} (j : Nat) (hC : ∀ w, N.C w) (ho : o.op = .store t x y) (hx : ρ.ev x = some (.pointer (some ⟨b, off, none⟩))) (hy : ρ.ev y = some v)
    (hi : P.info? t = some i) (hi1 : i.size = 1) (hv1 : v.cells = #[v]) (ho1 : v.oneCell' = true) (hcl : N.cl o = .loud) (hg : o.guard = none) (hd : o.dst = none)
    (hb : w.heap[b]? = some (.cells c t0 (0, 0))) (hj : off = j) (hfit : j < c.size)
    (k : ∀ w', w'.heap[b]? = some (.cells (c.setIfInBounds j v) t0 (0, 0)) → w.grownBy w' (some b) → w'.heap.size = w.heap.size → T P N n ops K rest ρ w') : T P N n ops K (o :: rest) ρ w := by
  subst hj
  refine T_store hC ho hx hy hi hcl hg hd hb (by rw [hv1, hi1]; rfl) (by rw [hv1]; simp; omega) (by rw [hv1]; simpa using ho1) fun w' h1 h2 h3 => k w' ?_ h2 h3
  rw [h1, hv1]
  congr 2
  apply Array.ext_getElem?
  intro m
  simp only [List.getElem?_toArray, Array.getElem?_setIfInBounds]
  rcases Nat.lt_trichotomy m off with h | h | h
  · rw [List.getElem?_append_left (by simp; omega), List.getElem?_append_left (by simp; omega), List.getElem?_take, if_pos h, if_neg (by omega)]; simp
  · subst h
    rw [List.getElem?_append_left (by simp; omega), List.getElem?_append_right (by simp; omega)]
    have : min m c.size = m := by omega
    simp [hfit, this]
  · rw [List.getElem?_append_right (by simp; omega), if_neg (by omega)]
    have e : min off c.size = off := by omega
    simp only [List.length_append, List.length_take, Array.length_toList, List.length_cons, List.length_nil, List.size_toArray, List.getElem?_drop, e, Array.getElem?_toList]
    congr 1
    omega

theorem T_storeF {o : Oper} {t t0 : TypeId} {i : TypeInfo} {x y : Operand} {b off : Nat} {c : Array Value} {v : Value} (hC : ∀ w, N.C w) (ho : o.op = .store t x y) (hx : ρ.ev x = some (.pointer (some ⟨b, off, none⟩))) (hy : ρ.ev y = some v)
    (hi : P.info? t = some i) (hcl : N.cl o = .loud) (hg : o.guard = none) (hd : o.dst = none)
    (hb : w.heap[b]? = some (.cells c t0 (0, 0))) (ho0 : off = 0) (hl : v.cells.size = i.size) (hl2 : v.cells.size = c.size) (h1 : ∀ u ∈ v.cells.toList, u.oneCell' = true)
    (k : ∀ w', w'.heap[b]? = some (.cells v.cells t0 (0, 0)) → w.grownBy w' (some b) → w'.heap.size = w.heap.size → T P N n ops K rest ρ w') : T P N n ops K (o :: rest) ρ w := by
  subst ho0
  refine T_store hC ho hx hy hi hcl hg hd hb hl (by omega) h1 fun w' h1 h2 h3 => k w' ?_ h2 h3
  rw [h1]
  congr 2
  have e : c.toList.drop (0 + v.cells.size) = [] := by rw [hl2]; simp
  rw [e]; simp

theorem blk_cells {w : World} {b : Nat} {c : Array Value} {t : TypeId} {f : Nat × Nat} (h : w.heap[b]? = some (.cells c t f)) : ∀ (j : Nat) (v : Value), c[j]? = some v → w.cell? ⟨b, 0 + j, none⟩ = some v := fun j v hj => by
  rw [Nat.zero_add]; exact cell_of_hcell (by rw [hcell_blk h]; exact hj)

theorem one_wV (l : List (BitVec 32)) : ∀ u ∈ (l.map wV).toArray.toList, u.oneCell' = true := by
  intro u hu; simp at hu; obtain ⟨a, _, rfl⟩ := hu; rfl
theorem one_bV (l : List UInt8) : ∀ u ∈ l.map bV, u.oneCell' = true := by
  intro u hu; obtain ⟨a, _, rfl⟩ := List.mem_map.1 hu; rfl


def optEv (ρ : Env) : Option Operand → Option (Option Value)
  | none => some none
  | some x => match ρ.ev x with | some v => some (some v) | none => none

theorem optEv_map {a : Act} (ha : Agree n ρ a) {x : Option Operand} {v : Option Value} (h : optEv ρ x = some v) : x.map a.eval = v := by
  cases x with
  | none => simp only [optEv, Option.some.injEq] at h; exact h
  | some y =>
    simp only [optEv] at h
    cases hy : ρ.ev y with
    | none => simp [hy] at h
    | some u => rw [hy] at h; simp only [Option.some.injEq] at h; rw [← h, Option.map_some, ha.ev hy]

def bound (dflt : Nat) : Option Value → Option Nat
  | none => some dflt
  | some (.int _ z) => if 0 ≤ z then some z.toNat else none
  | some _ => none

theorem run_sliceBounds {len cap : Nat} {lo hi : Option Value} {l h : Nat} (s : Bool) (hh : bound len hi = some h) (hl : bound 0 lo = some l) (h1 : l ≤ h) (h2 : h ≤ cap) (u : World) :
    (Instr.sliceBounds s len cap lo hi none).run P u = .ok (l, h, cap) u := by
  have eh : ∀ c, (match hi with | some v => Instr.sliceBound v cap c | none => (pure len : Sem Nat)).run P u = .ok h u := by
    intro c
    cases hi with
    | none => simp only [bound, Option.some.injEq] at hh; subst hh; rfl
    | some v =>
      cases v <;> simp only [bound, reduceCtorEq] at hh
      split at hh
      · rename_i k z hz
        cases hh
        have : z ≤ (cap : Int) := by omega
        simp [Instr.sliceBound, asIntOf, hz, this]
      · cases hh
  have el : ∀ c, (match lo with | some v => Instr.sliceBound v h c | none => (pure 0 : Sem Nat)).run P u = .ok l u := by
    intro c
    cases lo with
    | none => simp only [bound, Option.some.injEq] at hl; subst hl; rfl
    | some v =>
      cases v <;> simp only [bound, reduceCtorEq] at hl
      split at hl
      · rename_i k z hz
        cases hl
        have : z ≤ (h : Int) := by omega
        simp [Instr.sliceBound, asIntOf, hz, this]
      · cases hl
  unfold Instr.sliceBounds
  cases hi <;> cases lo <;> simp_all

theorem add_none (b off m : Nat) : (⟨b, off, none⟩ : Addr).add m = ⟨b, off + m, none⟩ := Addr.add_lit b off m

theorem T_slice {o : Oper} {d : Nat} {t e : TypeId} {i : TypeInfo} {x : Operand} {lo hi : Option Operand} {vlo vhi : Option Value} {v : Value} {H : Hp} {n0 size l h : Nat} {xs : List Value}
    (ho : o.op = .slice t x lo hi none) (hx : ρ.ev x = some v) (hlo : optEv ρ lo = some vlo) (hhi : optEv ρ hi = some vhi) (ht : P.underlying t = some (.slice e)) (hi' : P.info? e = some i) (hsize : i.size = size) (hg : o.guard = none) (hd : o.dst = some d) (hn : Nat.ble (d + 1) n = true)
    (r : Rd H v n0 size xs) (hh : bound n0 vhi = some h) (hl : bound 0 vlo = some l) (h1 : l ≤ h) (h2 : h ≤ n0)
    (k : ∀ a' c', Rd H (.slice a' (h - l) c') (h - l) size ((xs.drop (l * size)).take ((h - l) * size)) → T P N n ops K rest ((d, .slice a' (h - l) c') :: ρ) w) : T P N n ops K (o :: rest) ρ w := by
  obtain ⟨hlen, a, c, hv, hc, hnone, hsome⟩ := r
  refine T_val (v := .slice (if c = l then a else a.map (·.add (l * size))) (h - l) (c - l)) hg hd hn (fun ac ha u => ?_) (k _ _ ?_)
  · have e1 := ha.ev hx
    have e2 := optEv_map ha hlo
    have e3 := optEv_map ha hhi
    unfold execOp; rw [ho]; simp only [e1, e2, e3, Option.map_none]
    have hb := run_sliceBounds (P := P) (len := n0) (cap := c) (lo := vlo) (hi := vhi) true hh hl h1 (by omega) u
    simp [Instr.sliceAt, Instr.slice, run_underlying ht, hv, hb, sizeOf, typeInfo, hi', hsize]
  · refine ⟨?_, _, _, rfl, by omega, ?_, ?_⟩
    · rw [List.length_take, List.length_drop, hlen]
      have : h * size ≤ n0 * size := Nat.mul_le_mul_right _ h2
      have e : h * size = l * size + (h - l) * size := by rw [← Nat.add_mul]; congr 1; omega
      omega
    · intro he
      cases a with
      | none => obtain ⟨rfl, rfl⟩ := hnone rfl; omega
      | some ad => split at he <;> simp at he
    · intro ad had hpos
      cases a with
      | none => split at had <;> simp at had
      | some ad0 =>
        obtain ⟨hs, hcell⟩ := hsome ad0 rfl (by omega)
        obtain ⟨b, off, s⟩ := ad0
        simp only at hs; subst hs
        split at had
        · cases had
          have : h - l = 0 := by omega
          refine ⟨rfl, fun j u hj => ?_⟩
          rw [this] at hj
          simp at hj
        · simp only [Option.map_some, add_none, Option.some.injEq] at had
          subst had
          refine ⟨rfl, fun j u hj => ?_⟩
          rw [List.getElem?_take] at hj
          split at hj
          · rw [List.getElem?_drop] at hj
            have := hcell (l * size + j) u hj
            simpa [Nat.add_assoc] using this
          · cases hj


theorem T_lit1 {o : Oper} {d : Nat} {t e : TypeId} {i : TypeInfo} {z v : Value} {x : Operand} (hC : ∀ w, N.C w) (ho : o.op = .buildSlice t 1 #[(0, x)]) (hx : ρ.ev x = some v)
    (ht : P.underlying t = some (.slice e)) (hi : P.info? e = some i) (hz : i.zero = some z) (hi1 : i.size = 1) (hz1 : z.cells.size = 1) (hv1 : v.cells = #[v]) (hcl : N.cl o = .loud) (hg : o.guard = none) (hd : o.dst = some d) (hn : Nat.ble (d + 1) n = true)
    (k : ∀ v' w', w'.ownsRow w.heap.size e 1 v' 1 [v] → w.grownBy w' none → T P N n ops K rest ((d, v') :: ρ) w') : T P N n ops K (o :: rest) ρ w := by
  refine T_loud hg hcl fun a ha hc => ?_
  have e1 := ha.ev hx
  have hrun : (execOp a.eval o).run P w = .ok (.value (.slice (some ⟨w.heap.size, 0, none⟩) 1 1)) (w.alloc (.cells #[v] e (0, 0))) := by
    unfold execOp; rw [ho]
    have hf : ∀ c, Instr.fill (fun i => some (i, 1)) #[c] [(0, v)] = some #[v] := fun c => by simp [Instr.fill, hv1]
    have hr1 : (Array.range 1).map (fun x => z.cells[x % 1]!) = #[z.cells[0]!] := by apply Array.ext'; simp [List.range_succ]
    simp [Instr.buildSlice, e1, run_underlying ht, sizeOf, typeInfo, hi, hi1, zeroValue, hz, hz1, newRow, hr1, hf]
  unfold Oper.wp
  rw [hrun]
  refine ⟨hC _, _, by rw [hd]; exact ha.put hn _, k _ _ ⟨by simp, .inr ⟨w.heap.size, 1, #[v], rfl, Nat.le_refl _, heap_alloc_new w _, Nat.le_refl _, by simp [maxLen], by simp, by simp⟩⟩ (World.grownBy_alloc w _ none)⟩

end
end Go.F
namespace Go.F
open Go Go.RowKit
section
variable {P : Program} {N : Plan} {n : Nat} {ops : Array Oper} {K : Env → World → Prop} {rest : List Oper} {ρ : Env} {w : World}

theorem gb_trans {a b c : World} {s : Nat} {row : Option Nat} (h : a.grownBy b (some s)) (k : b.grownBy c row) (hr : ∀ g, row = some g → g = s ∨ a.heap.size ≤ g) : a.grownBy c (some s) :=
  ⟨k.os.trans h.os, k.tape.trans h.tape, k.output.trans h.output, Nat.le_trans h.size k.size, fun i hi hne =>
    (k.block i (Nat.lt_of_lt_of_le hi h.size) (fun e => by
      rcases hr i e.symm with rfl | h2
      · exact hne rfl
      · omega)).trans (h.block i hi hne)⟩
theorem gb_call {a b c : World} {s : Nat} (h : a.grownBy b (some s)) (k : Below b.heap.size b c) : a.grownBy c (some s) := gb_trans h (grown_of_below k none) (by simp)
theorem gb_refl (w : World) (row : Option Nat) : w.grownBy w row := ⟨rfl, rfl, rfl, Nat.le_refl _, fun _ _ _ => rfl⟩
def hx (w : World) (s : Nat) : Hp := fun k => if k = s then none else w.heap[k]?
theorem hx_le (w : World) (s : Nat) : (hx w s).le (hw w) := fun k o e => by
  simp only [hx] at e
  split at e
  · cases e
  · exact e
theorem hx_step {w w' : World} {s : Nat} {row : Option Nat} (h : w.grownBy w' row) (hr : ∀ g, row = some g → g = s) : (hx w s).le (hx w' s) := fun k o e => by
  simp only [hx] at e ⊢
  split at e
  · cases e
  · rename_i hk
    rw [if_neg hk]
    have hlt : k < w.heap.size := (Array.getElem?_eq_some_iff.1 e).1
    rw [h.block k hlt (fun e' => hk (hr k e'.symm))]
    exact e
theorem T_makeB {o : Oper} {d : Nat} {t e : TypeId} {i : TypeInfo} {z : Value} {x y : Operand} {kx ky : IntKind} {p q : Int} (m : Nat) (hC : ∀ w, N.C w) (ho : o.op = .makeSlice t x y) (hx : ρ.ev x = some (.int kx p)) (hy : ρ.ev y = some (.int ky q))
    (ht : P.underlying t = some (.slice e)) (hi : P.info? e = some i) (hz : i.zero = some z) (hcl : N.cl o = .loud) (hg : o.guard = none) (hd : o.dst = some d) (hn : Nat.ble (d + 1) n = true)
    (hp : p = (m : Int)) (hq : q = (m : Int)) (hbytes : i.bytes * m ≤ 281474976710656) (h63 : m ≤ maxLen)
    (k : ∀ b w', b = w.heap.size → w'.heap[b]? = some (.cells (madeCells z.cells (m * i.size)) e (0, 0)) → w.grownBy w' none → T P N n ops K rest ((d, .slice (some ⟨b, 0, none⟩) m m) :: ρ) w') : T P N n ops K (o :: rest) ρ w := by
  refine T_loud hg hcl fun a ha hc => ?_
  have e1 := ha.ev hx
  have e2 := ha.ev hy
  have h63' : (m : Int) ≤ 9223372036854775807 := by simp only [maxLen] at h63; omega
  have hb' : (i.bytes : Int) * (m : Int) ≤ 281474976710656 := by
    have h : ((i.bytes * m : Nat) : Int) ≤ 281474976710656 := by omega
    rwa [Int.natCast_mul] at h
  have hr := run_make (P := P) w t e i z ht hi hz kx ky m m (by omega) (Int.le_refl _) hb' h63'
  simp only [Int.toNat_natCast] at hr
  unfold Oper.wp
  have hrun : (execOp a.eval o).run P w = .ok (.value (.slice (some ⟨w.heap.size, 0, none⟩) m m)) (w.alloc (.cells (madeCells z.cells (m * i.size)) e (0, 0))) := by
    unfold execOp; rw [ho]; simp only [e1, e2, hp, hq, Sem.run_bind, hr, Result.andThen_ok]; rfl
  rw [hrun]
  exact ⟨hC _, _, by rw [hd]; exact ha.put hn _, k _ _ rfl (heap_alloc_new w _) (World.grownBy_alloc w _ none)⟩

theorem owns_of_block {w : World} {base b m size : Nat} {e : TypeId} {cur : Array Value} {xs : List Value} (hb : w.heap[b]? = some (.cells cur e (0, 0))) (hbase : base ≤ b) (hm : m ≤ maxLen) (hc : cur.toList = xs) (hl : xs.length = m * size) : w.ownsRow base e size (.slice (some ⟨b, 0, none⟩) m m) m xs :=
  ⟨hl, .inr ⟨b, m, cur, rfl, hbase, hb, Nat.le_refl _, hm, by rw [← hl, ← hc]; simp, by rw [hc, ← hl]; exact List.take_length⟩⟩

end
end Go.F
namespace Go.F
open Go Go.RowKit
section
variable {P : Program} {N : Plan} {n : Nat} {ops : Array Oper} {K : Env → World → Prop} {rest : List Oper} {ρ : Env} {w : World}

def evp (ρ : Env) : List (Nat × Operand) → Option (List (Nat × Value))
  | [] => some []
  | (i, x) :: xs => match ρ.ev x, evp ρ xs with
    | some v, some vs => some ((i, v) :: vs)
    | _, _ => none

theorem Agree.evp {a : Act} (ha : Agree n ρ a) : ∀ (xs : List (Nat × Operand)) (vs : List (Nat × Value)), evp ρ xs = some vs → xs.map (fun p => (p.1, a.eval p.2)) = vs
  | [], vs, h => by cases h; rfl
  | (i, x) :: xs, vs, h => by
    unfold F.evp at h
    split at h
    · rename_i v vs' h1 h2
      cases h
      rw [List.map_cons, Agree.evp ha xs vs' h2]
      simp [ha.ev h1]
    · cases h

theorem run_size {t : TypeId} {i : TypeInfo} (h : P.info? t = some i) (u : World) : (sizeOf t).run P u = .ok i.size u := by simp [sizeOf, typeInfo, h]
theorem run_zero {t : TypeId} {i : TypeInfo} {z : Value} (h : P.info? t = some i) (hz : i.zero = some z) (u : World) : (zeroValue t).run P u = .ok z u := by simp [zeroValue, typeInfo, h, hz]

theorem T_buildA {o : Oper} {d : Nat} {t e : TypeId} {len : Nat} {i i0 : TypeInfo} {z : Value} {xs : List (Nat × Operand)} {vs : List (Nat × Value)} {cells : Array Value} (ho : o.op = .build t xs.toArray) (hxs : evp ρ xs = some vs)
    (ht : P.underlying t = some (.array len e)) (hi : P.info? e = some i) (hi0 : P.info? t = some i0) (hz : i0.zero = some z) (hf : Instr.fill (fun j => some (j * i.size, i.size)) z.cells vs = some cells) (hg : o.guard = none) (hd : o.dst = some d) (hn : Nat.ble (d + 1) n = true)
    (k : T P N n ops K rest ((d, .agg cells) :: ρ) w) : T P N n ops K (o :: rest) ρ w :=
  T_val hg hd hn (fun a ha u => by
    have h1 := ha.evp xs vs hxs
    have h2 : (xs.toArray.map fun (p : Nat × Operand) => (p.1, a.eval p.2)) = vs.toArray := by rw [← h1]; simp
    have h3 : (xs.toArray.map fun (x : Nat × Operand) => match x with | (i, x) => (i, a.eval x)) = vs.toArray := h2
    unfold execOp; rw [ho]
    simp [Instr.build, h3, run_zero hi0 hz, run_underlying ht, run_size hi, hf]) k

def isOne : Value → Bool
  | .agg _ => false
  | .tuple _ => false
  | _ => true
theorem isOne_cells {v : Value} (h : isOne v = true) : v.cells = #[v] := by cases v <;> first | rfl | cases h

theorem fill_range : ∀ (vs : List Value) (pre : List Value) (post : List Value), (∀ v ∈ vs, v.cells = #[v]) → post.length = vs.length →
    Instr.fill (fun j => some (j * 1, 1)) (pre ++ post).toArray ((List.range' pre.length vs.length).zip vs) = some (pre ++ vs).toArray
  | [], pre, post, _, hl => by
    have : post = [] := List.eq_nil_of_length_eq_zero hl
    subst this
    simp [Instr.fill]
  | v :: vs, pre, post, h1, hl => by
    cases post with
    | nil => simp at hl
    | cons p post =>
      have hv := h1 v (by simp)
      have ih := fill_range vs (pre ++ [v]) post (fun u hu => h1 u (by simp [hu])) (by simpa using hl)
      simp only [List.length_append, List.length_cons, List.length_nil, List.append_assoc, List.cons_append, List.nil_append] at ih
      rw [List.length_cons, List.range'_succ, List.zip_cons_cons, Instr.fill]
      simp only [hv, Nat.mul_one]
      have e : (#[v].zipIdx.foldl (fun cs (x : Value × Nat) => match x with | (c, j) => cs.setIfInBounds (pre.length + j) c) (pre ++ p :: post).toArray) = (pre ++ v :: post).toArray := by
        simp
      rw [if_neg (by simp), e]
      simpa using ih

theorem T_buildA1 {o : Oper} {d : Nat} {t e : TypeId} {len : Nat} {i i0 : TypeInfo} {z : Value} {xs : List (Nat × Operand)} {vs : List (Nat × Value)} (ho : o.op = .build t xs.toArray) (hxs : evp ρ xs = some vs)
    (ht : P.underlying t = some (.array len e)) (hi : P.info? e = some i) (h1 : i.size = 1) (hi0 : P.info? t = some i0) (hz : i0.zero = some z) (hzl : Nat.beq z.cells.size vs.length = true) (hr : (vs.map (·.1)) = List.range' 0 vs.length) (hone : vs.all (fun p => isOne p.2) = true) (hg : o.guard = none) (hd : o.dst = some d) (hn : Nat.ble (d + 1) n = true)
    (k : T P N n ops K rest ((d, .agg (vs.map (·.2)).toArray) :: ρ) w) : T P N n ops K (o :: rest) ρ w := by
  refine T_buildA ho hxs ht hi hi0 hz ?_ hg hd hn k
  have h := fill_range (vs.map (·.2)) [] z.cells.toList (by
    intro v hv
    obtain ⟨p, hp, rfl⟩ := List.mem_map.1 hv
    exact isOne_cells (List.all_eq_true.1 hone p hp)) (by simpa using Nat.eq_of_beq_eq_true hzl)
  have ez : (vs.map (·.1)).zip (vs.map (·.2)) = vs := by simp [List.zip_map', List.map_id']
  simp only [List.nil_append, List.length_nil, List.length_map, ← hr, ez, Array.toArray_toList] at h
  rw [h1]
  exact h

theorem run_places {u : World} : ∀ (l : List Field) (pl : List (Nat × Nat)), l.mapM (fun f => (P.info? f.type).map fun i => (f.offset, i.size)) = some pl → (l.mapM (fun f => do pure (f.offset, ← sizeOf f.type) : Field → Sem (Nat × Nat))).run P u = .ok pl u
  | [], pl, h => by simp at h; subst h; rfl
  | f :: l, pl, h => by
    simp only [List.mapM_cons] at h
    cases hfi : P.info? f.type with
    | none => simp [hfi] at h
    | some fi =>
      simp only [hfi, Option.map_some] at h
      cases hl : l.mapM (fun f => (P.info? f.type).map fun i => (f.offset, i.size)) with
      | none => rw [hl] at h; simp at h
      | some pl' =>
        rw [hl] at h
        simp at h
        subst h
        rw [List.mapM_cons]
        have := run_places (u := u) l pl' hl
        simp only [Sem.run_bind, run_size hfi, Result.andThen_ok, Sem.run_pure, this]

theorem T_buildS {o : Oper} {d : Nat} {t : TypeId} {fs : Array Field} {i0 : TypeInfo} {z : Value} {xs : List (Nat × Operand)} {vs : List (Nat × Value)} {places : List (Nat × Nat)} {cells : Array Value} (ho : o.op = .build t xs.toArray) (hxs : evp ρ xs = some vs)
    (ht : P.underlying t = some (.struct fs)) (hp : fs.toList.mapM (fun f => (P.info? f.type).map fun i => (f.offset, i.size)) = some places) (hi0 : P.info? t = some i0) (hz : i0.zero = some z) (hf : Instr.fill (places.toArray[·]?) z.cells vs = some cells) (hg : o.guard = none) (hd : o.dst = some d) (hn : Nat.ble (d + 1) n = true)
    (k : T P N n ops K rest ((d, .agg cells) :: ρ) w) : T P N n ops K (o :: rest) ρ w :=
  T_val hg hd hn (fun a ha u => by
    have h1 := ha.evp xs vs hxs
    have h2 : (xs.toArray.map fun (p : Nat × Operand) => (p.1, a.eval p.2)) = vs.toArray := by rw [← h1]; simp
    have h3 : (xs.toArray.map fun (x : Nat × Operand) => match x with | (i, x) => (i, a.eval x)) = vs.toArray := h2
    have h4 := run_places (u := u) fs.toList places hp
    have h5 : (fs.mapM (fun f => do pure (f.offset, ← sizeOf f.type) : Field → Sem (Nat × Nat))).run P u = .ok places.toArray u := by
      have e : fs = fs.toList.toArray := by simp
      rw [e, List.mapM_toArray, Sem.run_map, h4]; rfl
    unfold execOp; rw [ho]
    simp only [Instr.build, h3, Sem.run_bind, run_zero hi0 hz, run_underlying ht, Result.andThen_ok, h5, List.toList_toArray, hf]
    rfl) k
end
end Go.F

namespace Go.F
open Go Go.RowKit
section
variable {P : Program} {N : Plan} {n : Nat} {ops : Array Oper} {K : Env → World → Prop} {rest : List Oper} {ρ : Env} {w : World}

theorem T_fldm {o : Oper} {d : Nat} {s : TypeId} {f : Nat} {fs : Array Field} {fd : Field} {i : TypeInfo} {x : Operand} {b off : Nat} (m : Nat) (ho : o.op = .fieldAddr s x f) (hx : ρ.ev x = some (.pointer (some ⟨b, off, none⟩)))
    (ht : P.underlying s = some (.struct fs)) (hf : fs[f]? = some fd) (hm : off + fd.offset = m) (hi : P.info? fd.type = some i) (hz : i.size ≠ 0) (hg : o.guard = none) (hd : o.dst = some d) (hn : Nat.ble (d + 1) n = true)
    (k : T P N n ops K rest ((d, .pointer (some ⟨b, m, none⟩)) :: ρ) w) : T P N n ops K (o :: rest) ρ w :=
  T_fld ho hx ht hf hi hz hg hd hn (by rw [hm]; exact k)

def hn (w : World) (B : Nat) : Hp := fun k => if B ≤ k then w.heap[k]? else none
theorem hn_le (w : World) (B : Nat) : (hn w B).le (hw w) := fun k o e => by
  simp only [hn] at e
  split at e
  · exact e
  · cases e
theorem hn_step {w w' : World} {B : Nat} {row : Option Nat} (h : w.grownBy w' row) (hr : ∀ g, row = some g → g < B) : (hn w B).le (hn w' B) := fun k o e => by
  simp only [hn] at e ⊢
  split at e
  · rename_i hk
    rw [if_pos hk]
    rw [h.block k (Array.getElem?_eq_some_iff.1 e).1 (fun e' => by have := hr k e'.symm; omega)]
    exact e
  · cases e
theorem hn_call {w w' : World} {B : Nat} (h : Below w.heap.size w w') : (hn w B).le (hn w' B) := hn_step (grown_of_below h none) (by simp)
theorem hx_call {w w' : World} {s : Nat} (h : Below w.heap.size w w') : (hx w s).le (hx w' s) := hx_step (grown_of_below h none) (by simp)
theorem hw_le_hx_new {w w' : World} {b : Nat} (h : w.grownBy w' none) (hb : b = w.heap.size) : (hw w).le (hx w' b) := fun k o e => by
  have hk : k < w.heap.size := (Array.getElem?_eq_some_iff.1 e).1
  simp only [hx]
  rw [if_neg (by omega), h.block k hk (by simp)]
  exact e
theorem hw_le_none {w w' : World} (h : w.grownBy w' none) : (hw w).le (hw w') := le_below (below_of_grown h)

theorem hw_hx_below {w w' : World} {b : Nat} (h : Below w.heap.size w w') (hb : w.heap.size ≤ b) : (hw w).le (hx w' b) := fun k o e => by
  have hk : k < w.heap.size := (Array.getElem?_eq_some_iff.1 e).1
  simp only [hx]
  rw [if_neg (by omega)]
  exact le_below h k o e

theorem Rd.of_owns_hn {w : World} {base : Nat} {e : TypeId} {size : Nat} {v : Value} {m : Nat} {xs : List Value} (h : w.ownsRow base e size v m xs) : Rd (hn w base) v m size xs := by
  obtain ⟨h1, a, c, hv, hc, h2, h3⟩ := Rd.of_owns h
  refine ⟨h1, a, c, hv, hc, h2, fun ad had hp => ⟨(h3 ad had hp).1, fun i u hi => ?_⟩⟩
  have h4 := (h3 ad had hp).2 i u hi
  have hb : base ≤ ad.block := (h.lt ad.block (by rw [hv, had]; rfl)).1
  unfold hcell at h4 ⊢
  simp only [hn, if_pos hb]
  exact h4

theorem T_index1 {o : Oper} {d : Nat} {t e : TypeId} {len : Nat} {i : TypeInfo} {x y : Operand} {cs : Array Value} {k0 : IntKind} {z : Int} {v : Value} (ho : o.op = .index t x y) (hx : ρ.ev x = some (.agg cs)) (hy : ρ.ev y = some (.int k0 z))
    (ht : P.underlying t = some (.array len e)) (hi : P.info? e = some i) (h1 : i.size = 1) (hs : scalar P e = true) (hg : o.guard = none) (hd : o.dst = some d) (hn : Nat.ble (d + 1) n = true)
    (hz : 0 ≤ z ∧ z < len) (hv : cs[z.toNat]? = some v) (k : T P N n ops K rest ((d, v) :: ρ) w) : T P N n ops K (o :: rest) ρ w :=
  T_val hg hd hn (fun a ha u => by
    have e1 := ha.ev hx
    have e2 := ha.ev hy
    unfold execOp; rw [ho]; simp only [e1, e2]
    simp [Instr.index, asIntOf, run_underlying ht, hz, run_size hi, h1, part, run_isAgg_no hs, hv]) k

theorem T_sliceAlo {o : Oper} {d : Nat} {t e : TypeId} {i : TypeInfo} {x y : Operand} {b off : Nat} {k0 : IntKind} {z : Int} {n0 : Nat}
    (ho : o.op = .slice t x (some y) none none) (hx : ρ.ev x = some (.pointer (some ⟨b, off, none⟩))) (hy : ρ.ev y = some (.int k0 z)) (ht : P.underlying t = some (.array n0 e)) (hi' : P.info? e = some i) (hsize : i.size = 1) (hg : o.guard = none) (hd : o.dst = some d) (hn : Nat.ble (d + 1) n = true)
    (hz : 0 ≤ z ∧ z < n0) (k : T P N n ops K rest ((d, .slice (some ⟨b, off + z.toNat, none⟩) (n0 - z.toNat) (n0 - z.toNat)) :: ρ) w) : T P N n ops K (o :: rest) ρ w :=
  T_val hg hd hn (fun ac ha u => by
    have e1 := ha.ev hx
    have e2 := ha.ev hy
    unfold execOp; rw [ho]; simp only [e1, e2, Option.map_none, Option.map_some]
    have hb := run_sliceBounds (P := P) (len := n0) (cap := n0) (lo := some (.int k0 z)) (hi := none) (l := z.toNat) (h := n0) false rfl (by simp [bound, hz.1]) (by omega) (Nat.le_refl _) u
    have hne : ¬ n0 = z.toNat := by omega
    simp [Instr.sliceAt, Instr.sureAddr, run_underlying ht, hb, run_size hi', hsize, hne, add_none]) k

theorem T_tmod {o : Oper} {d : Nat} {t t' : TypeId} {x y : Operand} {p q : Int} (ho : o.op = .binOp .rem t x y t') (hx : ρ.ev x = some (.int .i64 p)) (hy : ρ.ev y = some (.int .i64 q)) (hg : o.guard = none) (hd : o.dst = some d) (hn : Nat.ble (d + 1) n = true)
    (hq : 0 < q) (k : T P N n ops K rest ((d, .int .i64 (p.tmod q)) :: ρ) w) : T P N n ops K (o :: rest) ρ w :=
  T_val hg hd hn (fun a ha u => by
    have h1 := ha.ev hx
    have h2 := ha.ev hy
    unfold execOp; rw [ho]; simp only [h1, h2]
    have hq : q ≠ 0 := by omega
    simp [go_sem, Op.intDiv, hq]) k
theorem tmod_mod (v n : Int) : v % n = (v.tmod n) % n := by
  have h := Int.mul_tdiv_add_tmod v n
  conv => lhs; rw [← h, Int.mul_add_emod_self_left]

theorem T_copy {o : Oper} {d : Nat} {dT sT e : TypeId} {i : TypeInfo} {x y : Operand} {g off dLen dCap m : Nat} {cur : Array Value} {t0 : TypeId} {vs : Value} {cs : List Value} (hC : ∀ w, N.C w)
    (ho : o.op = .call ⟨.builtin .copy, #[x, y], #[dT, sT]⟩) (hx : ρ.ev x = some (.slice (some ⟨g, off, none⟩) dLen dCap)) (hy : ρ.ev y = some vs) (ht : P.underlying dT = some (.slice e)) (hi : P.info? e = some i) (h1 : i.size = 1) (hcl : N.cl o = .loud) (hg : o.guard = none) (hd : o.dst = some d) (hn : Nat.ble (d + 1) n = true)
    (hb : w.heap[g]? = some (.cells cur t0 (0, 0))) (hsrc : Rd (hw w) vs m 1 cs) (hm : m ≤ dLen) (hm0 : 0 < m) (hfit : off + m ≤ cur.size) (hone : ∀ v ∈ cs, v.oneCell' = true)
    (k : ∀ w', w'.heap[g]? = some (.cells (cur.toList.take off ++ cs ++ cur.toList.drop (off + cs.length)).toArray t0 (0, 0)) → w.grownBy w' (some g) → w'.heap.size = w.heap.size → T P N n ops K rest ((d, .int .i64 (cs.length : Int)) :: ρ) w') : T P N n ops K (o :: rest) ρ w := by
  refine T_loud hg hcl fun a ha hc => ?_
  have e1 := ha.ev hx
  have e2 := ha.ev hy
  have hlen : cs.length = m := by have := hsrc.1; omega
  obtain ⟨b, so, c, hvs, _, hcell⟩ := hsrc.get hm0
  have hr := run_copy_row (P := P) w dT sT o.type e g off dLen dCap ⟨b, so, none⟩ m c cur t0 cs ht (by rw [hi]; simp [h1]) hb (by rw [hlen]; exact (Nat.min_eq_left hm).symm) (fun j v hj => by rw [Addr.add_lit]; exact cell_of_hcell (hcell j v hj)) (by omega) hone
  have hrun : (execOp a.eval o).run P w = .ok (.value (goInt cs.length)) (w.setRow g (cur.toList.take off ++ cs ++ cur.toList.drop (off + cs.length)).toArray) := by
    unfold execOp; rw [ho]
    simp only [resolve, Sem.run_bind, Sem.run_pure, Result.andThen_ok, invoke, builtin]
    simp [e1, e2, hvs, hr]
  unfold Oper.wp
  rw [hrun]
  exact ⟨hC _, _, by rw [hd]; exact ha.put hn _, k _ (setRow_heap w g cur _ t0 _ hb) ⟨rfl, rfl, rfl, by simp, fun q _ hk => setRow_other w g q _ (fun e => hk (by simp [e]))⟩ (by simp)⟩

end
end Go.F

namespace Go.F
open Go Go.RowKit
section
variable {P : Program} {N : Plan} {n : Nat} {ops : Array Oper} {K : Env → World → Prop} {rest : List Oper} {ρ : Env} {w : World}

theorem bV_inj {a b : UInt8} : (a.toNat : Int) = b.toNat ↔ a = b := by
  constructor
  · intro h; exact UInt8.toNat_inj.1 (by omega)
  · intro h; rw [h]

theorem run_part1 {e : TypeId} (hs : scalar P e = true) {cs : Array Value} {j : Nat} {v : Value} (h : cs[j]? = some v) (u : World) : (part e cs j).run P u = .ok v u := by
  simp [part, run_isAgg_no hs, h]

theorem bV_at (xs : List UInt8) (i : Nat) (h : i < xs.length) : (xs.map bV).toArray[i * 1]? = some (bV xs[i]) := by
  simp only [Nat.mul_one, List.getElem?_toArray, List.getElem?_map]
  rw [List.getElem?_eq_getElem h]; rfl

theorem run_eqItems_b {e : TypeId} {k : IntKind} (he : P.underlying e = some (.int k)) (d : Nat) (xs ys : List UInt8) (u : World) (hl : xs.length = ys.length) : ∀ m i, i + m = xs.length →
    (Op.eqItems (d + 1) e 1 (xs.map bV).toArray (ys.map bV).toArray (List.range' i m)).run P u = .ok (decide (xs.drop i = ys.drop i)) u
  | 0, i, hi => by
    rw [List.drop_of_length_le (by omega), List.drop_of_length_le (by omega)]
    simp [Op.eqItems.eq_def]
  | m + 1, i, hi => by
    have hs : scalar P e = true := by simp [scalar, he]
    have hx : i < xs.length := by omega
    have hy : i < ys.length := by omega
    have eq : ∀ w, (Op.equalIn (d + 1) e (bV xs[i]) (bV ys[i])).run P w = .ok (decide (xs[i] = ys[i])) w := fun w => by
      unfold bV
      rw [run_equalIn_int w d e _ _ _ _ he]
      congr 1
      have := bV_inj (a := xs[i]) (b := ys[i])
      by_cases h : xs[i] = ys[i]
      · simp [h]
      · simp [h, this]
    have ih := run_eqItems_b he d xs ys u hl m (i + 1) (by omega)
    have key : (xs.drop i = ys.drop i) ↔ (xs[i] = ys[i] ∧ xs.drop (i + 1) = ys.drop (i + 1)) := by
      rw [List.drop_eq_getElem_cons hx, List.drop_eq_getElem_cons hy, List.cons.injEq]
    rw [List.range'_succ, Op.eqItems.eq_def]
    simp only [Sem.run_bind, run_part1 hs (bV_at xs i hx), run_part1 hs (bV_at ys i hy), eq, Result.andThen_ok]
    by_cases h : xs[i] = ys[i]
    · simp only [h, decide_true, Bool.not_true, Bool.false_eq_true, if_false, ih, key, true_and]
    · simp only [h, decide_false, Bool.not_false, if_true, key, false_and, Sem.run_pure]

theorem T_eqB {o : Oper} {d : Nat} {t t' e : TypeId} {len : Nat} {k0 : IntKind} {i : TypeInfo} {x y : Operand} {xs ys : List UInt8} (ho : o.op = .binOp .eql t x y t') (hx : ρ.ev x = some (.agg (xs.map bV).toArray)) (hy : ρ.ev y = some (.agg (ys.map bV).toArray))
    (ht : P.underlying t = some (.array len e)) (he : P.underlying e = some (.int k0)) (hi : P.info? e = some i) (h1 : P.cellsOf e = 1) (hgd : P.eqGuardType P.depth t = false) (hg : o.guard = none) (hd : o.dst = some d) (hn : Nat.ble (d + 1) n = true)
    (hlx : xs.length = len) (hly : ys.length = len) (k : T P N n ops K rest ((d, .bool (decide (xs = ys))) :: ρ) w) : T P N n ops K (o :: rest) ρ w :=
  T_val hg hd hn (fun a ha u => by
    have e1 := ha.ev hx
    have e2 := ha.ev hy
    have hr := run_eqItems_b (P := P) he 9998 xs ys u (by omega) xs.length 0 (by omega)
    have hq : (Op.equal t (.agg (xs.map bV).toArray) (.agg (ys.map bV).toArray)).run P u = .ok (decide (xs = ys)) u := by
      show (Op.equalIn (9999 + 1) t _ _).run P u = _
      rw [run_equalIn_array u 9999 _ _ ht hi, h1, ← hlx, List.range_eq_range']
      simpa using hr
    have hp : (program).run P u = .ok P u := rfl
    unfold execOp; rw [ho]; simp only [e1, e2]
    simp [eqGuard, hp, hgd, binOp, hq]) k
theorem T_neB {o : Oper} {d : Nat} {t t' e : TypeId} {len : Nat} {k0 : IntKind} {i : TypeInfo} {x y : Operand} {xs ys : List UInt8} (ho : o.op = .binOp .neq t x y t') (hx : ρ.ev x = some (.agg (xs.map bV).toArray)) (hy : ρ.ev y = some (.agg (ys.map bV).toArray))
    (ht : P.underlying t = some (.array len e)) (he : P.underlying e = some (.int k0)) (hi : P.info? e = some i) (h1 : P.cellsOf e = 1) (hgd : P.eqGuardType P.depth t = false) (hg : o.guard = none) (hd : o.dst = some d) (hn : Nat.ble (d + 1) n = true)
    (hlx : xs.length = len) (hly : ys.length = len) (k : T P N n ops K rest ((d, .bool (!decide (xs = ys))) :: ρ) w) : T P N n ops K (o :: rest) ρ w :=
  T_val hg hd hn (fun a ha u => by
    have e1 := ha.ev hx
    have e2 := ha.ev hy
    have hr := run_eqItems_b (P := P) he 9998 xs ys u (by omega) xs.length 0 (by omega)
    have hq : (Op.equal t (.agg (xs.map bV).toArray) (.agg (ys.map bV).toArray)).run P u = .ok (decide (xs = ys)) u := by
      show (Op.equalIn (9999 + 1) t _ _).run P u = _
      rw [run_equalIn_array u 9999 _ _ ht hi, h1, ← hlx, List.range_eq_range']
      simpa using hr
    have hp : (program).run P u = .ok P u := rfl
    unfold execOp; rw [ho]; simp only [e1, e2]
    simp [eqGuard, hp, hgd, binOp, hq]) k

theorem bound_of {q : Nat} {k : IntKind} {z : Int} {m : Nat} (h : z = (m : Int)) : bound q (some (.int k z)) = some m := by
  subst h; simp [bound]
end
end Go.F

namespace Go.F
open Go Go.RowKit
section
variable {P : Program} {N : Plan} {n : Nat} {ops : Array Oper} {K : Env → World → Prop} {rest : List Oper} {ρ : Env} {w : World}

theorem T_callP {o : Oper} {d : Nat} {f : FuncId} {xs : List Operand} {ts : Array TypeId} {args : List Value} {v : Value} (ho : o.op = .call ⟨.value (.func f), xs.toArray, ts⟩) (hxs : evs ρ xs = some args) (hf : goFn P f = true) (hi : P.inits.idxOf? f = none) (hcl : N.cl o = .pure) (hg : o.guard = none) (hd : o.dst = some d) (hn : Nat.ble (d + 1) n = true)
    (c : ∀ u, Calls P f args.toArray u (fun e w' => e = .returned v ∧ w' = u)) (k : T P N n ops K rest ((d, v) :: ρ) w) : T P N n ops K (o :: rest) ρ w := fun a ha _ => by
  unfold xo
  rw [if_pos (wanted_none hg _), hcl]
  exact ⟨v, fun u _ => .inr ⟨f, args.toArray, hi, run_call ho ha hxs hf u, c u⟩, (d, v) :: ρ, by rw [hd]; exact ha.put hn v, k⟩

theorem T_loadP {o : Oper} {d : Nat} {t : TypeId} {x : Operand} {ad : Addr} {v : Value} (ho : o.op = .load t x) (hx : ρ.ev x = some (.pointer (some ad))) (hs : scalar P t = true) (hcl : N.cl o = .pure) (hg : o.guard = none) (hd : o.dst = some d) (hn : Nat.ble (d + 1) n = true)
    (hv : ∀ u, N.C u → u.cell? ad = some v) (k : T P N n ops K rest ((d, v) :: ρ) w) : T P N n ops K (o :: rest) ρ w := fun a ha _ => by
  unfold xo
  rw [if_pos (wanted_none hg _), hcl]
  refine ⟨v, fun u hu => .inl ?_, (d, v) :: ρ, by rw [hd]; exact ha.put hn v, k⟩
  have h1 := ha.ev hx
  unfold execOp; rw [ho]; simp only [h1]
  simp [Instr.loadAt, Instr.sureAddr, run_loadVar1 hs (hv u hu)]

theorem T_storeP {o : Oper} {t t0 : TypeId} {i : TypeInfo} {x y : Operand} {b off : Nat} {c : Array Value} {v : Value} (hC : ∀ w', w.grownBy w' (some b) → N.C w → N.C w') (ho : o.op = .store t x y) (hx : ρ.ev x = some (.pointer (some ⟨b, off, none⟩))) (hy : ρ.ev y = some v)
    (hi : P.info? t = some i) (hcl : N.cl o = .loud) (hg : o.guard = none) (hd : o.dst = none)
    (hb : w.heap[b]? = some (.cells c t0 (0, 0))) (hl : v.cells.size = i.size) (hfit : off + v.cells.size ≤ c.size) (h1 : ∀ u ∈ v.cells.toList, u.oneCell' = true)
    (k : ∀ w', w'.heap[b]? = some (.cells (c.toList.take off ++ v.cells.toList ++ c.toList.drop (off + v.cells.size)).toArray t0 (0, 0)) → w.grownBy w' (some b) → w'.heap.size = w.heap.size → T P N n ops K rest ρ w') : T P N n ops K (o :: rest) ρ w := by
  refine T_loud hg hcl fun a ha hc => ?_
  have e1 := ha.ev hx
  have e2 := ha.ev hy
  have hst := run_storeCells_at P b off t0 v.cells.toList 0 c w hb (by simpa using hfit) h1
  have hrun : (execOp a.eval o).run P w = .ok .skip (w.setRow b (c.toList.take off ++ v.cells.toList ++ c.toList.drop (off + v.cells.size)).toArray) := by
    unfold execOp; rw [ho]; simp only [e1, e2]
    simp only [Nat.add_zero, Array.length_toList] at hst
    have hst' : (storeCells ⟨b, off, none⟩ v.cells.toList).run P w = _ := hst
    simp [Instr.storeAt, Instr.sureAddr, storeVar, sizeOf, typeInfo, hi, hl, hst']
  have hg : w.grownBy (w.setRow b (c.toList.take off ++ v.cells.toList ++ c.toList.drop (off + v.cells.size)).toArray) (some b) := ⟨rfl, rfl, rfl, by simp, fun g _ hk => setRow_other w b g _ (fun e => hk (by simp [e]))⟩
  unfold Oper.wp
  rw [hrun]
  exact ⟨hC _ hg hc, ρ, by rw [hd]; exact ha, k _ (setRow_heap w b c _ t0 _ hb) hg (by simp)⟩

theorem T_store1P {o : Oper} {t t0 : TypeId} {i : TypeInfo} {x y : Operand} {b off : Nat} {c : Array Value} {v : Value} (j : Nat) (hC : ∀ w', w.grownBy w' (some b) → N.C w → N.C w') (ho : o.op = .store t x y) (hx : ρ.ev x = some (.pointer (some ⟨b, off, none⟩))) (hy : ρ.ev y = some v)
    (hi : P.info? t = some i) (hi1 : i.size = 1) (hv1 : v.cells = #[v]) (ho1 : v.oneCell' = true) (hcl : N.cl o = .loud) (hg : o.guard = none) (hd : o.dst = none)
    (hb : w.heap[b]? = some (.cells c t0 (0, 0))) (hj : off = j) (hfit : j < c.size)
    (k : ∀ w', w'.heap[b]? = some (.cells (c.setIfInBounds j v) t0 (0, 0)) → w.grownBy w' (some b) → w'.heap.size = w.heap.size → T P N n ops K rest ρ w') : T P N n ops K (o :: rest) ρ w := by
  subst hj
  refine T_storeP hC ho hx hy hi hcl hg hd hb (by rw [hv1, hi1]; rfl) (by rw [hv1]; simp; omega) (by rw [hv1]; simpa using ho1) fun w' h1 h2 h3 => k w' ?_ h2 h3
  rw [h1, hv1]
  congr 2
  apply Array.ext_getElem?
  intro m
  simp only [List.getElem?_toArray, Array.getElem?_setIfInBounds]
  rcases Nat.lt_trichotomy m off with h | h | h
  · rw [List.getElem?_append_left (by simp; omega), List.getElem?_append_left (by simp; omega), List.getElem?_take, if_pos h, if_neg (by omega)]; simp
  · subst h
    rw [List.getElem?_append_left (by simp; omega), List.getElem?_append_right (by simp; omega)]
    have : min m c.size = m := by omega
    simp [hfit, this]
  · rw [List.getElem?_append_right (by simp; omega), if_neg (by omega)]
    have e : min off c.size = off := by omega
    simp only [List.length_append, List.length_take, Array.length_toList, List.length_cons, List.length_nil, List.size_toArray, List.getElem?_drop, e, Array.getElem?_toList]
    congr 1
    omega

theorem owns_block {w : World} {base : Nat} {e : TypeId} {size : Nat} {v : Value} {m : Nat} {xs : List Value} (h : w.ownsRow base e size v m xs) (hm : 0 < m) (_ : 0 < size) :
    ∃ g cap cur, v = .slice (some ⟨g, 0, none⟩) m cap ∧ base ≤ g ∧ w.heap[g]? = some (.cells cur e (0, 0)) ∧ m ≤ cap ∧ cur.toList.take (m * size) = xs := by
  have h0 := h.1
  rcases h.2 with ⟨rfl, hx⟩ | ⟨g, cap, cur, rfl, hb, hg, hc, _, _, htake⟩
  · subst hx; simp at h0; rcases h0 with h0 | h0 <;> omega
  · exact ⟨g, cap, cur, rfl, hb, hg, hc, htake⟩
theorem rd_block {w : World} {g cap m size : Nat} {cur : Array Value} {e : TypeId} {xs : List Value} (hg : w.heap[g]? = some (.cells cur e (0, 0))) (hl : xs.length = m * size) (hc : m ≤ cap) (htake : cur.toList.take (m * size) = xs) : Rd (hw w) (.slice (some ⟨g, 0, none⟩) m cap) m size xs := by
  refine ⟨hl, _, cap, rfl, hc, (fun e => by cases e), fun ad e _ => ?_⟩
  cases e
  refine ⟨rfl, fun i u hi => ?_⟩
  rw [hcell_blk hg]
  rw [← htake, List.getElem?_take] at hi
  split at hi
  · simpa using hi
  · cases hi

end
/-! Shorter names of the most common steps. -/
section
variable {P : Program} {N : Plan} {n : Nat} {ops : Array Oper} {K : Env → World → Prop} {rest : List Oper} {ρ : Env} {w : World}
theorem Pv {o : Oper} {d : Nat} {v : Value} (k : T P N n ops K rest ((d, v) :: ρ) w) (hv : pev P ρ o.op = some v := by exact rfl) (hg : o.guard = none := by exact rfl) (hd : o.dst = some d := by exact rfl) (hn : Nat.ble (d + 1) n = true := by exact rfl) : T P N n ops K (o :: rest) ρ w := T_pev hv hg hd hn k
theorem No {o : Oper} {g t : Nat} {b c : Bool} {d : Nat} (k : T P N n ops K rest ((d, undef) :: ρ) w) (hg : o.guard = some (g, b) := by exact rfl) (ht : (ops[g]?).bind (·.dst) = some t := by exact rfl) (hb : ρ.get? t = some (.bool c) := by exact rfl) (hbc : c = !b := by exact rfl)
    (hd : o.dst = some d := by exact rfl) (hn : Nat.ble (d + 1) n = true := by exact rfl) : T P N n ops K (o :: rest) ρ w := T_no hg ht hb hbc hd hn k
theorem Ys {o : Oper} {g t : Nat} {b : Bool} (k : T P N n ops K ({ o with guard := none } :: rest) ρ w) (hg : o.guard = some (g, b) := by exact rfl) (ht : (ops[g]?).bind (·.dst) = some t := by exact rfl) (hb : ρ.get? t = some (.bool b) := by exact rfl) (hcl : N.cl { o with guard := none } = N.cl o := by exact rfl) : T P N n ops K (o :: rest) ρ w := T_yes hg ht hb k hcl
theorem Fl {o : Oper} {d : Nat} {s : TypeId} {f : Nat} {fs : Array Field} {fd : Field} {i : TypeInfo} {x : Operand} {b off : Nat} (m : Nat) (k : T P N n ops K rest ((d, .pointer (some ⟨b, m, none⟩)) :: ρ) w) (ho : o.op = .fieldAddr s x f := by exact rfl) (hx : ρ.ev x = some (.pointer (some ⟨b, off, none⟩)) := by exact rfl)
    (ht : P.underlying s = some (.struct fs) := by exact rfl) (hf : fs[f]? = some fd := by exact rfl) (hm : off + fd.offset = m := by exact rfl) (hi : P.info? fd.type = some i := by exact rfl) (hz : i.size ≠ 0 := by decide) (hg : o.guard = none := by exact rfl) (hd : o.dst = some d := by exact rfl) (hn : Nat.ble (d + 1) n = true := by exact rfl) : T P N n ops K (o :: rest) ρ w :=
  T_fldm m ho hx ht hf hm hi hz hg hd hn k
theorem Ws {c : Code} {Q : Exit → Env → World → Prop} {ρ0 : Env} (h : F.W P n c Q ρ0 w) (hs : Sub ρ0 ρ := by (repeat refine And.intro rfl ?_); exact trivial) : F.W P n c Q ρ w := W_sub ρ0 hs h
theorem Wr {id : Nat} {l : List Oper} {b : Code} {Q : Exit → Env → World → Prop} (h : T P (plan P) n l.toArray (fun ρ w => Sq P n b Q .normal ρ w) l ρ w) : W P n (.seq (.region id l.toArray false) b) Q ρ w := W_seq (W_region h)
theorem Ar {o : Oper} {d : Nat} {z : Int} (k : T P N n ops K rest ((d, .int .i64 z) :: ρ) w) (hv : ari ρ o.op = some z := by exact rfl) (hg : o.guard = none := by exact rfl) (hd : o.dst = some d := by exact rfl) (hn : Nat.ble (d + 1) n = true := by exact rfl) (h1 : -9223372036854775808 ≤ z ∧ z ≤ 9223372036854775807 := by omega) : T P N n ops K (o :: rest) ρ w := T_ari hv hg hd hn h1 k
end
theorem ciI {a b : Int} (h : a = b := by omega) : some (Value.int .i64 a) = some (Value.int .i64 b) := congrArg (fun z => some (Value.int .i64 z)) h
theorem Nr {P : Program} {N : Plan} {n m : Nat} {ops : Array Oper} {id : Nat} {l : List Oper} {b : Code} {Q : Exit → Env → World → Prop} {ρ : Env} {w : World} (h : T P (plan P) m l.toArray (fun ρ w => Sq P m b Q .normal ρ w) l ρ w) : T P N n ops (fun ρ w => Sq P m (.seq (.region id l.toArray false) b) Q .normal ρ w) [] ρ w := T_nil (W_seq (W_region h))
def stC (P : Program) (n : Nat) (Q : Exit → Env → World → Prop) (ρ : Env) (w : World) : Code → Prop
  | .skip => Q .normal ρ w
  | .exit i => Q (.exit i) ρ w
  | .ret => Q .ret ρ w
  | .seq a b => F.W P n a (Sq P n b Q) ρ w
  | .block i c => F.W P n c (Bl i Q) ρ w
  | .region _ ops false => T P (plan P) n ops (fun ρ w => Q .normal ρ w) ops.toList ρ w
  | _ => False
def isS : Code → Bool
  | .skip => true
  | .exit _ => true
  | .ret => true
  | .seq _ _ => true
  | .block _ _ => true
  | .region _ _ d => !d
  | _ => false
theorem Wx {P : Program} {n : Nat} {Q : Exit → Env → World → Prop} {ρ : Env} {w : World} : ∀ {c : Code}, stC P n Q ρ w c → (hs : isS c = true := by exact rfl) → F.W P n c Q ρ w
  | .skip, h, _ => W_skip h
  | .exit _, h, _ => W_exit h
  | .ret, h, _ => W_ret h
  | .seq _ _, h, _ => W_seq h
  | .block _ _, h, _ => W_block h
  | .region i ops false, h, _ => by
    have e := W_region (id := i) (l := ops.toList) (P := P) (n := n) (Q := Q) (ρ := ρ) (w := w)
    rw [Array.toArray_toList] at e
    exact e h
section
variable {P : Program} {N : Plan} {n : Nat} {ops : Array Oper} {K : Env → World → Prop} {rest : List Oper} {ρ : Env} {w : World}
theorem Td {l : List Oper} {p : Prop} [Decidable p] (t : Nat) (h1 : p → T P N n ops K l ((t, .bool true) :: ρ) w) (h0 : ¬ p → T P N n ops K l ((t, .bool false) :: ρ) w) (hb : ρ.get? t = some (.bool (decide p)) := by exact rfl) (hl : l ≠ [] := by exact List.cons_ne_nil _ _) : T P N n ops K l ρ w := T_part hb hl (fun h => h1 (of_decide_eq_true h)) (fun h => h0 (of_decide_eq_false h))
theorem Tn {l : List Oper} {p : Prop} [Decidable p] (t : Nat) (h1 : ¬ p → T P N n ops K l ((t, .bool true) :: ρ) w) (h0 : p → T P N n ops K l ((t, .bool false) :: ρ) w) (hb : ρ.get? t = some (.bool (!decide p)) := by exact rfl) (hl : l ≠ [] := by exact List.cons_ne_nil _ _) : T P N n ops K l ρ w := T_part hb hl (fun h => h1 (by simpa using h)) (fun h => h0 (by simpa using h))
theorem P2 {o1 o2 : Oper} {d1 d2 : Nat} {v1 v2 : Value} (k : T P N n ops K rest ((d2, v2) :: (d1, v1) :: ρ) w) (a1 : pev P ρ o1.op = some v1 := by exact rfl) (a2 : o1.guard = none := by exact rfl) (a3 : o1.dst = some d1 := by exact rfl) (a4 : Nat.ble (d1 + 1) n = true := by exact rfl)
    (b1 : pev P ((d1, v1) :: ρ) o2.op = some v2 := by exact rfl) (b2 : o2.guard = none := by exact rfl) (b3 : o2.dst = some d2 := by exact rfl) (b4 : Nat.ble (d2 + 1) n = true := by exact rfl) : T P N n ops K (o1 :: o2 :: rest) ρ w := T_pev a1 a2 a3 a4 (T_pev b1 b2 b3 b4 k)
theorem P3 {o1 o2 o3 : Oper} {d1 d2 d3 : Nat} {v1 v2 v3 : Value} (k : T P N n ops K rest ((d3, v3) :: (d2, v2) :: (d1, v1) :: ρ) w) (a1 : pev P ρ o1.op = some v1 := by exact rfl) (a2 : o1.guard = none := by exact rfl) (a3 : o1.dst = some d1 := by exact rfl) (a4 : Nat.ble (d1 + 1) n = true := by exact rfl)
    (b1 : pev P ((d1, v1) :: ρ) o2.op = some v2 := by exact rfl) (b2 : o2.guard = none := by exact rfl) (b3 : o2.dst = some d2 := by exact rfl) (b4 : Nat.ble (d2 + 1) n = true := by exact rfl)
    (c1 : pev P ((d2, v2) :: (d1, v1) :: ρ) o3.op = some v3 := by exact rfl) (c2 : o3.guard = none := by exact rfl) (c3 : o3.dst = some d3 := by exact rfl) (c4 : Nat.ble (d3 + 1) n = true := by exact rfl) : T P N n ops K (o1 :: o2 :: o3 :: rest) ρ w := T_pev a1 a2 a3 a4 (T_pev b1 b2 b3 b4 (T_pev c1 c2 c3 c4 k))
end
theorem Wd {P : Program} {n : Nat} {Q : Exit → Env → World → Prop} {ρ : Env} {w : World} {id : Nat} {l : List Oper} (h : T P (plan P) n l.toArray (fun ρ w => Q .normal ρ w) l ρ w.drew) (hm : P.follows .mixedOrders = true := by exact rfl) (hB : textB (plan P) l.toArray = true := by kernel_rfl) : W P n (.region id l.toArray true) Q ρ w := W_draw hm hB h
theorem Tp {P : Program} {N : Plan} {n : Nat} {ops : Array Oper} {K : Env → World → Prop} {ρ : Env} {w : World} {l : List Oper} {b : Bool} (t : Nat) (h1 : b = true → T P N n ops K l ((t, .bool true) :: ρ) w) (h0 : b = false → T P N n ops K l ((t, .bool false) :: ρ) w) (hb : ρ.get? t = some (.bool b) := by exact rfl) (hl : l ≠ [] := by exact List.cons_ne_nil _ _) : T P N n ops K l ρ w := T_part hb hl h1 h0
end Go.F
