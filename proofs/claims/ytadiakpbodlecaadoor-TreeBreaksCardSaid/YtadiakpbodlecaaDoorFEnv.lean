/- General lemmas for walking the code, or plain mathematics. -/
import Derived.Test.YtadiakpbodlecaaDoorFOrd
import Derived.WalkKit
set_option linter.unusedVariables false
set_option linter.unusedSimpArgs false
set_option maxRecDepth 8192
namespace Go.F
open Go

/-- What is known of the slots. -/
abbrev Env := List (Nat × Value)

def Env.get? : Env → Nat → Option Value
  | [], _ => none
  | (m, v) :: r, n => match Nat.beq m n with
    | true => some v
    | false => Env.get? r n

def Env.ev (ρ : Env) : Operand → Option Value
  | .tmp t => ρ.get? t
  | .const v => some v
  | .global g => some (.pointer (some ⟨g, 0, none⟩))
  | .func f => some (.func (.func f) #[] #[])

def Agree (n : Nat) (ρ : Env) (a : Act) : Prop := a.tmps.size = n ∧ a.defers = [] ∧ ∀ t v, ρ.get? t = some v → a.tmps[t]? = some v

theorem Agree.ev {n : Nat} {ρ : Env} {a : Act} (h : Agree n ρ a) {x : Operand} {v : Value} (hx : ρ.ev x = some v) : a.eval x = v := by
  cases x with
  | tmp t => have := h.2.2 t v hx; simp [Act.eval, Array.getD_eq_getD_getElem?, this]
  | const u => exact Option.some.inj hx
  | global g => exact Option.some.inj hx
  | func f => exact Option.some.inj hx

theorem get?_cons (m : Nat) (v : Value) (ρ : Env) (t : Nat) : Env.get? ((m, v) :: ρ) t = if m = t then some v else ρ.get? t := by
  cases h : Nat.beq m t with
  | true => rw [if_pos (Nat.eq_of_beq_eq_true h)]; simp only [Env.get?, h]
  | false => rw [if_neg (fun e => by subst e; simp at h)]; simp only [Env.get?, h]

theorem Agree.put {n : Nat} {ρ : Env} {a : Act} (h : Agree n ρ a) {d : Nat} (hd : Nat.ble (d + 1) n = true) (v : Value) : Agree n ((d, v) :: ρ) (a.put (some d) v) := by
  have hd' : d < n := Nat.le_of_ble_eq_true hd
  refine ⟨by simp [Act.put, h.1], h.2.1, fun t u hu => ?_⟩
  rw [get?_cons] at hu
  simp only [Act.put]
  by_cases e : d = t
  · subst e
    rw [if_pos rfl] at hu
    simp only [Option.some.injEq] at hu
    subst hu
    simp [h.1, hd']
  · rw [if_neg e] at hu
    rw [Array.getElem?_setIfInBounds_ne e]
    exact h.2.2 t u hu

theorem Agree.put_none {n : Nat} {ρ : Env} {a : Act} (h : Agree n ρ a) (v : Value) : Agree n ρ (a.put none v) := h

/-- Less is known. -/
def Sub : Env → Env → Prop
  | [], _ => True
  | (t, v) :: r, ρ => ρ.get? t = some v ∧ Sub r ρ

theorem Sub.get : ∀ {ρ0 ρ : Env}, Sub ρ0 ρ → ∀ t v, ρ0.get? t = some v → ρ.get? t = some v
  | [], _, _, _, _, h => by cases h
  | (m, u) :: r, ρ, hs, t, v, h => by
    rw [get?_cons] at h
    split at h
    · rename_i e; subst e; simp only [Option.some.injEq] at h; subst h; exact hs.1
    · exact Sub.get hs.2 t v h

theorem Agree.sub {n : Nat} {ρ0 ρ : Env} {a : Act} (h : Agree n ρ a) (hs : Sub ρ0 ρ) : Agree n ρ0 a := ⟨h.1, h.2.1, fun t v ht => h.2.2 t v (hs.get t v ht)⟩

section
variable {P : Program} {N : Plan} {n : Nat} {ops : Array Oper} {K : Env → World → Prop} {rest : List Oper} {ρ : Env} {w : World}

def lift (n : Nat) (K : Env → World → Prop) : Act → World → Prop := fun a w => ∃ ρ, Agree n ρ a ∧ K ρ w

/-- The operations of a region, one behind the other, over what is known of the slots. -/
def T (P : Program) (N : Plan) (n : Nat) (ops : Array Oper) (K : Env → World → Prop) : List Oper → Env → World → Prop
  | [], ρ, w => K ρ w
  | o :: rest, ρ, w => ∀ a, Agree n ρ a → N.C w → xo P N ops o (lift n (T P N n ops K rest)) a w

theorem XL_of_T : ∀ (l : List Oper) (ρ : Env) (a : Act) (w : World), Agree n ρ a → N.C w → T P N n ops K l ρ w → XL P N ops (lift n K) l a w
  | [], ρ, _, _, ha, _, h => ⟨ρ, ha, h⟩
  | _ :: l, _, a, w, ha, hc, h => xo_mono hc (fun a' w' hc' ⟨ρ', ha', h'⟩ => XL_of_T l ρ' a' w' ha' hc' h') (h a ha hc)

theorem T_nil (h : K ρ w) : T P N n ops K [] ρ w := h

theorem T_sub {o : Oper} {l : List Oper} {ρ0 : Env} (hs : Sub ρ0 ρ) (h : T P N n ops K (o :: l) ρ0 w) : T P N n ops K (o :: l) ρ w :=
  fun a ha hc => h a (ha.sub hs) hc

/-! ### One operation -/

theorem wanted_none {o : Oper} (hg : o.guard = none) (y : Nat → Option Bool) : Region.wanted o y = true := by simp [Region.wanted, hg]

/-- It yields, whatever its class. -/
theorem xo_quiet {o : Oper} {a : Act} {v : Value} {L : Act → World → Prop} (hg : Region.wanted o (yielded ops a.tmps) = true) (hc : N.C w)
    (h : ∀ u, Quiet P (execOp a.eval o) u v) (k : L (a.put o.dst v) w) : xo P N ops o L a w := by
  unfold xo
  rw [if_pos hg]
  cases N.cl o with
  | pure => exact ⟨v, fun u _ => h u, k⟩
  | read => exact ⟨v, h w, k⟩
  | loud => exact wp_of_quiet (h w) ⟨hc, k⟩

theorem T_val {o : Oper} {d : Nat} {v : Value} (hg : o.guard = none) (hd : o.dst = some d) (hn : Nat.ble (d + 1) n = true)
    (h : ∀ a, Agree n ρ a → ∀ u, (execOp a.eval o).run P u = .ok (.value v) u) (k : T P N n ops K rest ((d, v) :: ρ) w) : T P N n ops K (o :: rest) ρ w :=
  fun a ha hc => xo_quiet (wanted_none hg _) hc (fun u => .inl (h a ha u)) ⟨(d, v) :: ρ, by rw [hd]; exact ha.put hn v, k⟩

/-- .. behind a guard that says yes. -/
theorem T_yes {o : Oper} {g t : Nat} {b : Bool} (hg : o.guard = some (g, b)) (ht : (ops[g]?).bind (·.dst) = some t) (hb : ρ.get? t = some (.bool b))
    (k : T P N n ops K ({ o with guard := none } :: rest) ρ w) (hcl : N.cl { o with guard := none } = N.cl o) : T P N n ops K (o :: rest) ρ w := by
  intro a ha hc
  have h1 := k a ha hc
  unfold xo at h1 ⊢
  rw [if_pos (wanted_none rfl _)] at h1
  have hy : yielded ops a.tmps g = some b := by
    have := ha.2.2 t _ hb
    simp [yielded, ht, this]
  rw [if_pos (by simp [Region.wanted, hg, hy])]
  rw [hcl] at h1
  exact h1

/-- .. that says no: passed over. -/
theorem T_no {o : Oper} {g t : Nat} {b c : Bool} {d : Nat} (hg : o.guard = some (g, b)) (ht : (ops[g]?).bind (·.dst) = some t) (hb : ρ.get? t = some (.bool c)) (hbc : c = !b)
    (hd : o.dst = some d) (hn : Nat.ble (d + 1) n = true) (k : T P N n ops K rest ((d, undef) :: ρ) w) : T P N n ops K (o :: rest) ρ w := by
  intro a ha hc
  unfold xo
  have hy : yielded ops a.tmps g = some c := by
    have := ha.2.2 t _ hb
    simp [yielded, ht, this]
  rw [if_neg (by simp [Region.wanted, hg, hy]; subst hbc; cases b <;> simp)]
  refine ⟨(d, undef) :: ρ, ?_, k⟩
  rw [hd]
  exact ha.put hn undef

/-- .. with no slot to write (a store behind a guard). -/
theorem T_no' {o : Oper} {g t : Nat} {b c : Bool} (hg : o.guard = some (g, b)) (ht : (ops[g]?).bind (·.dst) = some t) (hb : ρ.get? t = some (.bool c)) (hbc : c = !b)
    (hd : o.dst = none) (k : T P N n ops K rest ρ w) : T P N n ops K (o :: rest) ρ w := by
  intro a ha hc
  unfold xo
  have hy : yielded ops a.tmps g = some c := by
    have := ha.2.2 t _ hb
    simp [yielded, ht, this]
  rw [if_neg (by simp [Region.wanted, hg, hy]; subst hbc; cases b <;> simp)]
  refine ⟨ρ, ?_, k⟩
  rw [hd]
  exact ha

/-- A Bool that is not decided yet is parted on ahead of the guard. -/
theorem T_part {l : List Oper} {t : Nat} {b : Bool} (hb : ρ.get? t = some (.bool b)) (hl : l ≠ []) (h1 : b = true → T P N n ops K l ((t, .bool true) :: ρ) w) (h0 : b = false → T P N n ops K l ((t, .bool false) :: ρ) w) :
    T P N n ops K l ρ w := by
  cases l with
  | nil => exact absurd rfl hl
  | cons o l =>
    intro a ha hc
    have key : ∀ c, b = c → Agree n ((t, .bool c) :: ρ) a := fun c e => ⟨ha.1, ha.2.1, fun t' v hv => by
      rw [get?_cons] at hv
      split at hv
      · rename_i e'; subst e'; simp only [Option.some.injEq] at hv; subst hv; subst e; exact ha.2.2 t _ hb
      · exact ha.2.2 t' v hv⟩
    cases b with
    | true => exact h1 rfl a (key true rfl) hc
    | false => exact h0 rfl a (key false rfl) hc

/-! ### Integers -/

def binInt (op : BinOp) (k : IntKind) (x y : Int) : Option Value :=
  match op with
  | .add => some (.int k (k.wrap (x + y)))
  | .sub => some (.int k (k.wrap (x - y)))
  | .mul => some (.int k (k.wrap (x * y)))
  | .and => some (.int k (bits .and k x y))
  | .or => some (.int k (bits .or k x y))
  | .xor => some (.int k (bits .xor k x y))
  | .eql => some (.bool (decide (x = y)))
  | .neq => some (.bool (!decide (x = y)))
  | .lss => some (.bool (decide (x < y)))
  | .leq => some (.bool (decide (x ≤ y)))
  | .gtr => some (.bool (decide (y < x)))
  | .geq => some (.bool (decide (y ≤ x)))
  | _ => none

def isShift : BinOp → Bool | .shl | .shr => true | _ => false

theorem binInt_run {op : BinOp} {k : IntKind} {x y : Int} {v : Value} (h : binInt op k x y = some v) (t : TypeId) (a b : Operand) (u : World) :
    (do eqGuard op t a b (.int k x) (.int k y); binOp op t (.int k x) (.int k y) : Sem Value).run P u = .ok v u := by
  cases op <;> simp only [binInt, Option.some.injEq, reduceCtorEq] at h <;> subst h <;> simp [go_sem, BEq.beq, bne]

/-- What an operation that looks at no world yields. -/
def pev (P : Program) (ρ : Env) : Op → Option Value
  | .move x | .assign x => match ρ.ev x with
    | some (.int k z) => some (.int k z)
    | some (.bool b) => some (.bool b)
    | some (.slice a l c) => some (.slice a l c)
    | some (.pointer a) => some (.pointer a)
    | some (.string s) => some (.string s)
    | some (.agg cs) => some (.agg cs)
    | some (.tuple vs) => some (.tuple vs)
    | r => r
  | .nilCheck x => match ρ.ev x with
    | some (.pointer (some a)) => some (.pointer (some a))
    | _ => none
  | .pick c x y => match ρ.ev c with
    | some (.bool true) => ρ.ev x
    | some (.bool false) => ρ.ev y
    | _ => none
  | .binOp op _ x y _ => match isShift op with
    | true => none
    | false => match ρ.ev x, ρ.ev y with
      | some (.int .i64 p), some (.int .i64 q) => binInt op .i64 p q
      | some (.int .u8 p), some (.int .u8 q) => binInt op .u8 p q
      | some (.int .u32 p), some (.int .u32 q) => binInt op .u32 p q
      | some (.int .u64 p), some (.int .u64 q) => binInt op .u64 p q
      | _, _ => none
  | .unOp .not _ x => match ρ.ev x with
    | some (.bool b) => some (.bool (!b))
    | _ => none
  | .unOp .xor _ x => match ρ.ev x with
    | some (.int .u32 p) => some (.int .u32 (bits .xor .u32 IntKind.u32.max p))
    | some (.int .u8 p) => some (.int .u8 (bits .xor .u8 IntKind.u8.max p))
    | _ => none
  | .convert src dst x => match P.underlying src, P.underlying dst, ρ.ev x with
    | some (.int _), some (.int k), some (.int _ p) => some (.int k (k.wrap p))
    | _, _, _ => none
  | .extract x i => match ρ.ev x with
    | some (.tuple vs) => vs[i]?
    | _ => none
  | .call ⟨.builtin .len, xs, ts⟩ => match (ts[0]?).bind P.underlying, (xs[0]?).bind ρ.ev with
    | some (.slice _), some (.slice _ l _) => some (.int .i64 l)
    | some .string, some (.string s) => some (.int .i64 s.size)
    | some (.array l _), some _ => some (.int .i64 l)
    | _, _ => none
  | .call ⟨.builtin .cap, xs, ts⟩ => match (ts[0]?).bind P.underlying, (xs[0]?).bind ρ.ev with
    | some (.slice _), some (.slice _ _ c) => some (.int .i64 c)
    | _, _ => none
  | .call ⟨.builtin .min, xs, _⟩ => match xs.toList with
    | [x, y] => match ρ.ev x, ρ.ev y with
      | some (.int .i64 p), some (.int .i64 q) => some (.int .i64 (min p q))
      | _, _ => none
    | _ => none
  | .call ⟨.builtin .max, xs, _⟩ => match xs.toList with
    | [x, y] => match ρ.ev x, ρ.ev y with
      | some (.int .i64 p), some (.int .i64 q) => some (.int .i64 (max p q))
      | _, _ => none
    | _ => none
  | _ => none

theorem pev_run {op : Op} {v : Value} (h : pev P ρ op = some v) {a : Act} (ha : Agree n ρ a) {o : Oper} (ho : o.op = op) (u : World) : (execOp a.eval o).run P u = .ok (.value v) u := by
  unfold pev at h
  split at h
  · rename_i x
    have : a.eval x = v := ha.ev (by split at h <;> simp_all)
    unfold execOp; rw [ho]; simp [this]
  · rename_i x
    have : a.eval x = v := ha.ev (by split at h <;> simp_all)
    unfold execOp; rw [ho]; simp [this]
  · rename_i x
    split at h
    · rename_i q hx; cases h; have := ha.ev hx; unfold execOp; rw [ho]; simp [this]
    · cases h
  · rename_i c x y
    split at h
    · rename_i hc; have h1 := ha.ev hc; have h2 := ha.ev h; unfold execOp; rw [ho]; simp [h1, h2, asBool]
    · rename_i hc; have h1 := ha.ev hc; have h2 := ha.ev h; unfold execOp; rw [ho]; simp [h1, h2, asBool]
    · cases h
  · rename_i op t x y t'
    split at h
    · cases h
    · split at h
      case h_5 => cases h
      all_goals
        rename_i p q hx hy
        have h1 := ha.ev hx
        have h2 := ha.ev hy
        have h3 := binInt_run (P := P) h t x y u
        unfold execOp; rw [ho]; simp only [h1, h2, Sem.run_bind, Sem.run_pure] at h3 ⊢
        rw [h3]; rfl
  · rename_i t x
    split at h
    · rename_i b hx; cases h; have h1 := ha.ev hx; unfold execOp; rw [ho]; simp [h1, Op.unary]
    · cases h
  · rename_i t x
    split at h
    · rename_i p hx; cases h; have h1 := ha.ev hx; unfold execOp; rw [ho]; simp only [h1]; rfl
    · rename_i p hx; cases h; have h1 := ha.ev hx; unfold execOp; rw [ho]; simp only [h1]; rfl
    · cases h
  · rename_i src dst x
    split at h
    · rename_i k0 k k' p hs hd hx; cases h; have h1 := ha.ev hx; unfold execOp; rw [ho]; simp [h1, convert, run_underlying hs, run_underlying hd, Conv.intToInt]
    · cases h
  · rename_i x i
    split at h
    · rename_i vs hx; have h1 := ha.ev hx; unfold execOp; rw [ho]; simp [h1, Instr.extract, h]
    · cases h
  · rename_i xs ts
    have key : ∀ (t0 : TypeId) (x0 : Operand) (v0 : Value), ts[0]? = some t0 → xs[0]? = some x0 → ρ.ev x0 = some v0 → (Builtin.len_ ts o.type (xs.map a.eval)).run P u = .ok v u → (execOp a.eval o).run P u = .ok (.value v) u := by
      intro t0 x0 v0 _ _ _ hr
      unfold execOp; rw [ho]; simp [resolve, invoke, builtin, hr]
    split at h
    · rename_i e b l c hs hx
      cases h
      obtain ⟨t0, ht0, hs⟩ := Option.bind_eq_some_iff.1 hs
      obtain ⟨x0, hx0, hx⟩ := Option.bind_eq_some_iff.1 hx
      exact key _ _ _ ht0 hx0 hx (by simp [Builtin.len_, ht0, hx0, ha.ev hx, run_underlying hs, goInt])
    · rename_i s hs hx
      cases h
      obtain ⟨t0, ht0, hs⟩ := Option.bind_eq_some_iff.1 hs
      obtain ⟨x0, hx0, hx⟩ := Option.bind_eq_some_iff.1 hx
      exact key _ _ _ ht0 hx0 hx (by simp [Builtin.len_, ht0, hx0, ha.ev hx, run_underlying hs, goInt])
    · rename_i l e v0 hs hx
      cases h
      obtain ⟨t0, ht0, hs⟩ := Option.bind_eq_some_iff.1 hs
      obtain ⟨x0, hx0, hx⟩ := Option.bind_eq_some_iff.1 hx
      exact key _ _ _ ht0 hx0 hx (by simp [Builtin.len_, ht0, hx0, run_underlying hs, goInt])
    · cases h
  · rename_i xs ts
    split at h
    · rename_i e b l c hs hx
      cases h
      obtain ⟨t0, ht0, hs⟩ := Option.bind_eq_some_iff.1 hs
      obtain ⟨x0, hx0, hx⟩ := Option.bind_eq_some_iff.1 hx
      have hr : (Builtin.cap_ ts o.type (xs.map a.eval)).run P u = .ok (.int .i64 c) u := by simp [Builtin.cap_, ht0, hx0, ha.ev hx, run_underlying hs, goInt]
      unfold execOp; rw [ho]; simp [resolve, invoke, builtin, hr]
    · cases h
  · rename_i xs ts
    split at h
    · rename_i x y hl
      split at h
      · rename_i p q hx hy
        cases h
        have hxs : xs = #[x, y] := by cases xs; simp_all
        subst hxs
        unfold execOp; rw [ho]; simp [resolve, invoke, builtin, ha.ev hx, ha.ev hy, Builtin.min_, Builtin.min2]
        omega
      · cases h
    · cases h
  · rename_i xs ts
    split at h
    · rename_i x y hl
      split at h
      · rename_i p q hx hy
        cases h
        have hxs : xs = #[x, y] := by cases xs; simp_all
        subst hxs
        unfold execOp; rw [ho]; simp [resolve, invoke, builtin, ha.ev hx, ha.ev hy, Builtin.max_, Builtin.max2]
        omega
      · cases h
    · cases h
  · cases h

theorem T_pev {o : Oper} {d : Nat} {v : Value} (hv : pev P ρ o.op = some v) (hg : o.guard = none) (hd : o.dst = some d) (hn : Nat.ble (d + 1) n = true) (k : T P N n ops K rest ((d, v) :: ρ) w) : T P N n ops K (o :: rest) ρ w :=
  T_val hg hd hn (fun _ ha u => pev_run hv ha rfl u) k
end
end Go.F
