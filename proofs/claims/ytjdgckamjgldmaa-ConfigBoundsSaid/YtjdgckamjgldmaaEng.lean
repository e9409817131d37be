/-
  A small calculus for walks: the frame is held as a list of known slots ('Env'), the frame itself stays a variable. One lemma an operation. Over any program.
-/
import Derived.WalkKit
import Derived.OrdersHeld
import Derived.KernelRfl
import Derived.Deep.LoopGhost
import Derived.Deep.RegionHeld3
import Derived.Maps.AppendAt
import Derived.Lib.AppendStr
import Derived.Lib.Bytealg
import Derived.Laws.IdiomStrings
import Derived.Laws.BytesArg
namespace Go.Eng
open Go.RowKit

abbrev Env := List (Nat × Value)
def Env.get : Env → Nat → Option Value
  | [], _ => none
  | (s, v) :: r, t => match Nat.beq s t with
    | true => some v
    | false => Env.get r t

theorem beq_ne {s t : Nat} (h : ¬ s = t) : Nat.beq s t = false := by
  cases hb : Nat.beq s t with
  | false => rfl
  | true => exact absurd (Nat.eq_of_beq_eq_true hb) h

/-- The frame a has N slots, defers nothing, and holds what e says. -/
structure St (N : Nat) (ds : List Deferred) (e : Env) (a : Act) : Prop where
  defers : a.defers = ds
  size : a.tmps.size = N
  get : ∀ t v, e.get t = some v → a.tmps[t]? = some v

def Opd (e : Env) : Operand → Option Value
  | .tmp t => e.get t
  | .const v => some v
  | .global g => some (.pointer (some ⟨g, 0, none⟩))
  | .func f => some (.func (.func f) #[] #[])

theorem St.eval {N : Nat} {ds : List Deferred} {e : Env} {a : Act} (h : St N ds e a) : ∀ x v, Opd e x = some v → a.eval x = v := by
  intro x v hx
  cases x with
  | tmp t => simp [Act.eval, Array.getD_eq_getD_getElem?, h.get t v hx]
  | const u => simpa [Opd, Act.eval] using hx
  | global g => simpa [Opd, Act.eval] using hx
  | func f => simpa [Opd, Act.eval] using hx

theorem St.put {N : Nat} {ds : List Deferred} {e : Env} {a : Act} (h : St N ds e a) {d : Nat} (hd : d < N) (v : Value) : St N ds ((d, v) :: e) (a.put (some d) v) := by
  refine ⟨h.defers, by simp [Act.put, h.size], ?_⟩
  intro t u ht
  have hs : d < a.tmps.size := by rw [h.size]; exact hd
  unfold Env.get at ht
  by_cases hdt : d = t
  · subst hdt
    simp at ht
    subst ht
    simp [Act.put, hs]
  · have hb : Nat.beq d t = false := beq_ne hdt
    rw [hb] at ht
    simp only [] at ht
    simp only [Act.put]
    rw [Array.getElem?_setIfInBounds_ne hdt]
    exact h.get t u ht

theorem St.put_none {N : Nat} {ds : List Deferred} {e : Env} {a : Act} (h : St N ds e a) (v : Value) : St N ds e (a.put none v) := h

/-- e' says no more than e. -/
def Sub : Env → Env → Prop
  | [], _ => True
  | (t, v) :: r, e => e.get t = some v ∧ Sub r e
theorem Sub.get {e' e : Env} (h : Sub e' e) : ∀ t v, e'.get t = some v → e.get t = some v := by
  induction e' with
  | nil => intro t v hv; simp [Env.get] at hv
  | cons p r ih =>
    obtain ⟨s, u⟩ := p
    obtain ⟨h1, h2⟩ := h
    intro t v hv
    unfold Env.get at hv
    by_cases hst : s = t
    · subst hst
      simp at hv
      subst hv
      exact h1
    · have hb : Nat.beq s t = false := beq_ne hst
      rw [hb] at hv
      exact ih h2 t v hv
theorem St.sub {N : Nat} {ds : List Deferred} {e e' : Env} {a : Act} (h : St N ds e a) (hs : Sub e' e) : St N ds e' a := ⟨h.defers, h.size, fun t v hv => h.get t v (hs.get t v hv)⟩
/-- A slot's value by another name. -/
theorem St.know {N : Nat} {ds : List Deferred} {e : Env} {a : Act} (h : St N ds e a) {t : Nat} {v : Value} (v' : Value) (hv : e.get t = some v) (he : v = v') : St N ds ((t, v') :: e) a := by
  subst he
  refine ⟨h.defers, h.size, fun s u hu => ?_⟩
  unfold Env.get at hu
  by_cases hst : t = s
  · subst hst
    simp at hu
    subst hu
    exact h.get t v hv
  · have hb : Nat.beq t s = false := beq_ne hst
    rw [hb] at hu
    exact h.get s u hu

variable {P : Program} {N : Nat} {ds : List Deferred} {e : Env} {w w' : World} {Q : Exit → Act → World → Prop} {ops : Array Oper} {rest : List Oper} {o : Oper} {a : Act}

/-! ### The judgements -/
def CW (P : Program) (N : Nat) (ds : List Deferred) (c : Code) (Q : Exit → Act → World → Prop) (e : Env) (w : World) : Prop := ∀ a, St N ds e a → c.wp P Q a w
def WL (P : Program) (N : Nat) (ds : List Deferred) (ops : Array Oper) (Q : Exit → Act → World → Prop) (l : List Oper) (e : Env) (w : World) : Prop := ∀ a, St N ds e a → wpList P ops Q l a w
def Ends (N : Nat) (ds : List Deferred) (Q : Exit → Act → World → Prop) (ex : Exit) (e : Env) (w : World) : Prop := ∀ a, St N ds e a → Q ex a w

theorem CW.sub {c : Code} (e' : Env) (hs : Sub e' e) (h : CW P N ds c Q e' w) : CW P N ds c Q e w := fun a ha => h a (ha.sub hs)
theorem WL.sub {l : List Oper} (e' : Env) (hs : Sub e' e) (h : WL P N ds ops Q l e' w) : WL P N ds ops Q l e w := fun a ha => h a (ha.sub hs)
theorem Ends.sub {ex : Exit} (e' : Env) (hs : Sub e' e) (h : Ends N ds Q ex e' w) : Ends N ds Q ex e w := fun a ha => h a (ha.sub hs)
theorem CW.know {c : Code} (t : Nat) {v : Value} (v' : Value) (hv : e.get t = some v) (he : v = v') (h : CW P N ds c Q ((t, v') :: e) w) : CW P N ds c Q e w := fun a ha => h a (ha.know v' hv he)
theorem WL.know {l : List Oper} (t : Nat) {v : Value} (v' : Value) (hv : e.get t = some v) (he : v = v') (h : WL P N ds ops Q l ((t, v') :: e) w) : WL P N ds ops Q l e w := fun a ha => h a (ha.know v' hv he)

/-! ### Code -/
theorem CW.seq {x y : Code} (h : CW P N ds x (Exit.then (y.wp P Q) Q) e w) : CW P N ds (.seq x y) Q e w := fun a ha => wp_seq (h a ha)
theorem CW.block {id : Nat} {c : Code} (h : CW P N ds c (Exit.inBlock id Q) e w) : CW P N ds (.block id c) Q e w := fun a ha => wp_block (h a ha)
theorem CW.skip (h : Ends N ds Q .normal e w) : CW P N ds .skip Q e w := fun a ha => wp_skip (h a ha)
theorem CW.ret (h : Ends N ds Q .ret e w) : CW P N ds .ret Q e w := fun a ha => wp_ret (h a ha)
theorem CW.exit {id : Nat} (h : Ends N ds Q (.exit id) e w) : CW P N ds (.exit id) Q e w := fun a ha => wp_exit (h a ha)
theorem CW.cond {c : Operand} {x y : Code} {t : Bool} (hc : Opd e c = some (.bool t)) (ht : t = true → CW P N ds x Q e w) (hf : t = false → CW P N ds y Q e w) : CW P N ds (.cond c x y) Q e w :=
  fun a ha => wp_cond_split (ha.eval c _ hc) (fun h => ht h a ha) (fun h => hf h a ha)
theorem CW.condT {c : Operand} {x y : Code} {t : Bool} (hc : Opd e c = some (.bool t)) (h1 : t = true) (ht : CW P N ds x Q e w) : CW P N ds (.cond c x y) Q e w :=
  fun a ha => wp_cond_true ((ha.eval c _ hc).trans (by rw [h1])) (ht a ha)
theorem CW.condF {c : Operand} {x y : Code} {t : Bool} (hc : Opd e c = some (.bool t)) (h1 : t = false) (hf : CW P N ds y Q e w) : CW P N ds (.cond c x y) Q e w :=
  fun a ha => wp_cond_false ((ha.eval c _ hc).trans (by rw [h1])) (hf a ha)
theorem CW.condD {c : Operand} {x y : Code} {p : Prop} [Decidable p] (hc : Opd e c = some (.bool (decide p))) (ht : p → CW P N ds x Q e w) (hf : ¬ p → CW P N ds y Q e w) : CW P N ds (.cond c x y) Q e w :=
  CW.cond hc (fun h => ht (of_decide_eq_true h)) (fun h => hf (of_decide_eq_false h))
theorem CW.region {id : Nat} {l : List Oper} (h : WL P N ds l.toArray Q l e w) : CW P N ds (.region id l.toArray false) Q e w := fun a ha => wp_region_lit (h a ha)

/-- What a round owes. -/
def Round {α : Type} (N : Nat) (ds : List Deferred) (E : α → Env) (J : α → World → Prop) (m : α → Nat) (x : α) (Q : Exit → Act → World → Prop) : Exit → Act → World → Prop :=
  Exit.then (fun a' w' => ∃ x', m x' < m x ∧ St N ds (E x') a' ∧ J x' w') Q
/-- A loop: x: what the rounds hand on; E: the slots; J: the rest; m: a measure. -/
theorem CW.loop {α : Type} {c : Code} (E : α → Env) (J : α → World → Prop) (m : α → Nat) (x₀ : α) (hs : Sub (E x₀) e) (h₀ : J x₀ w)
    (round : ∀ x w, J x w → CW P N ds c (Round N ds E J m x Q) (E x) w) : CW P N ds (.loop c) Q e w := by
  intro a ha
  refine wp_loop_ghost (fun n a w => ∃ x, m x = n ∧ St N ds (E x) a ∧ J x w) (m x₀) ⟨x₀, rfl, ha.sub hs, h₀⟩ ?_
  rintro n a w ⟨x, rfl, hSt, hJ⟩
  refine wp_mono (round x w hJ a hSt) ?_
  intro ex a' w' hq
  cases ex with
  | normal =>
    obtain ⟨x', h1, h2, h3⟩ := hq
    exact ⟨m x', h1, x', rfl, h2, h3⟩
  | exit id => exact hq
  | goto l => exact hq
  | ret => exact hq
  | panic ch => exact hq
  | outgrown => exact hq

/-! ### Where a piece ends -/
theorem Ends.next {y : Code} {Q' : Exit → Act → World → Prop} (h : CW P N ds y Q e w) : Ends N ds (Exit.then (y.wp P Q) Q') .normal e w := h
theorem Ends.round {α : Type} {E : α → Env} {J : α → World → Prop} {m : α → Nat} {x : α} {Q' : Exit → Act → World → Prop} (x' : α) (hm : m x' < m x) (hs : Sub (E x') e) (hJ : J x' w) :
    Ends N ds (Round N ds E J m x Q') .normal e w := fun _ ha => ⟨x', hm, ha.sub hs, hJ⟩
theorem Ends.blkn {id : Nat} (h : Ends N ds Q .normal e w) : Ends N ds (Exit.inBlock id Q) .normal e w := h
theorem Ends.blke {id : Nat} (h : Ends N ds Q .normal e w) : Ends N ds (Exit.inBlock id Q) (.exit id) e w := fun a ha => by
  show (if id = id then Q .normal a w else Q (.exit id) a w)
  rw [if_pos rfl]
  exact h a ha
theorem Ends.blkx {id id' : Nat} (hne : id' ≠ id) (h : Ends N ds Q (.exit id') e w) : Ends N ds (Exit.inBlock id Q) (.exit id') e w := fun a ha => by
  show (if id' = id then Q .normal a w else Q (.exit id') a w)
  rw [if_neg hne]
  exact h a ha
theorem Ends.blkr {id : Nat} (h : Ends N ds Q .ret e w) : Ends N ds (Exit.inBlock id Q) .ret e w := h
theorem Ends.seqr {K : Act → World → Prop} (h : Ends N ds Q .ret e w) : Ends N ds (Exit.then K Q) .ret e w := h
theorem Ends.seqx {K : Act → World → Prop} {id : Nat} (h : Ends N ds Q (.exit id) e w) : Ends N ds (Exit.then K Q) (.exit id) e w := h

/-! ### Entering and leaving a function -/
def argEnv : Nat → List Value → Env
  | _, [] => []
  | i, v :: r => (i, v) :: argEnv (i + 1) r
theorem argEnv_get (l : List Value) : ∀ (i t : Nat) (v : Value), (argEnv i l).get t = some v → i ≤ t ∧ l[t - i]? = some v := by
  induction l with
  | nil => intro i t v h; simp [argEnv, Env.get] at h
  | cons u r ih =>
    intro i t v h
    unfold argEnv Env.get at h
    by_cases hit : i = t
    · subst hit
      simp at h
      simp [h]
    · have hb : Nat.beq i t = false := beq_ne hit
      rw [hb] at h
      obtain ⟨h1, h2⟩ := ih (i + 1) t v h
      refine ⟨by omega, ?_⟩
      have : t - i = (t - (i + 1)) + 1 := by omega
      rw [this]
      simpa using h2

theorem enter {f : FuncId} {fn : Func} {c : Code} {args : List Value} {R : Ending → World → Prop} (hf : P.funcs[f]? = some fn) (hb : fn.body = some c) (hN : fn.ntmps = N) (hle : args.length ≤ N)
    (h : CW P N [] c (bodyPost P fn R) (argEnv 0 args) w) : Calls P f args.toArray w R := by
  refine calls_of_wp hf hb (h _ ⟨rfl, by simp; omega, fun t v hv => ?_⟩)
  obtain ⟨_, h2⟩ := argEnv_get args 0 t v hv
  simp only [Nat.sub_zero] at h2
  rw [Array.getElem?_append_left (by simpa using (List.getElem?_eq_some_iff.1 h2).1)]
  simpa using h2

/-- The function f, called with args in w, returns a v of which Φ holds. -/
def Runs (P : Program) (f : FuncId) (args : Array Value) (w : World) (Φ : Value → World → Prop) : Prop := Calls P f args w fun ex w' => ∃ v, ex = .returned v ∧ Φ v w'
theorem Runs.mono {f : FuncId} {args : Array Value} {Φ Ψ : Value → World → Prop} (h : Runs P f args w Φ) (hi : ∀ v w', Φ v w' → Ψ v w') : Runs P f args w Ψ :=
  Calls.mono h fun _ _ ⟨v, he, hΦ⟩ => ⟨v, he, hi _ _ hΦ⟩

theorem Ends.ret1 {fn : Func} {t : Tmp} {Φ : Value → World → Prop} {v : Value} (hr : fn.results = #[.tmp t]) (hv : e.get t = some v) (h : Φ v w) :
    Ends N [] (bodyPost P fn fun ex w' => ∃ v, ex = .returned v ∧ Φ v w') .ret e w := fun a ha => by
  refine bodyPost_ret (results_tmp hr _ _ _) ha.defers ⟨_, rfl, ?_⟩
  have := ha.eval (.tmp t) v hv
  simp only [Act.eval] at this
  rw [this]
  exact h
theorem Ends.ret2 {fn : Func} {t u : Tmp} {Φ : Value → World → Prop} {v x : Value} (hr : fn.results = #[.tmp t, .tmp u]) (hv : e.get t = some v) (hx : e.get u = some x) (h : Φ (.tuple #[v, x]) w) :
    Ends N [] (bodyPost P fn fun ex w' => ∃ v, ex = .returned v ∧ Φ v w') .ret e w := fun a ha => by
  refine bodyPost_ret (results_tmp2 hr _ _ _) ha.defers ⟨_, rfl, ?_⟩
  have h1 := ha.eval (.tmp t) v hv
  have h2 := ha.eval (.tmp u) x hx
  simp only [Act.eval] at h1 h2
  rw [h1, h2]
  exact h
theorem Ends.ret3 {fn : Func} {t u s : Tmp} {Φ : Value → World → Prop} {v x y : Value} (hr : fn.results = #[.tmp t, .tmp u, .tmp s]) (hv : e.get t = some v) (hx : e.get u = some x) (hy : e.get s = some y)
    (h : Φ (.tuple #[v, x, y]) w) : Ends N [] (bodyPost P fn fun ex w' => ∃ v, ex = .returned v ∧ Φ v w') .ret e w := fun a ha => by
  have h1 := ha.eval (.tmp t) v hv
  have h2 := ha.eval (.tmp u) x hx
  have h3 := ha.eval (.tmp s) y hy
  simp only [Act.eval, Array.getD_eq_getD_getElem?] at h1 h2 h3
  refine bodyPost_ret (v := .tuple #[v, x, y]) ?_ ha.defers ⟨_, rfl, h⟩
  simp [results, hr, h1, h2, h3]
theorem Ends.ret0 {fn : Func} {Φ : Value → World → Prop} (hr : fn.results = #[]) (h : Φ (.tuple #[]) w) : Ends N [] (bodyPost P fn fun ex w' => ∃ v, ex = .returned v ∧ Φ v w') .ret e w :=
  fun _ ha => bodyPost_ret (results_none hr _ _ _) ha.defers ⟨_, rfl, h⟩
theorem Ends.end0 {fn : Func} {Φ : Value → World → Prop} (hr : fn.results = #[]) (h : Φ (.tuple #[]) w) : Ends N [] (bodyPost P fn fun ex w' => ∃ v, ex = .returned v ∧ Φ v w') .normal e w :=
  fun _ ha => bodyPost_end (results_none hr _ _ _) ha.defers ⟨_, rfl, h⟩

/-! ### Operations -/
theorem WL.nil (h : Ends N ds Q .normal e w) : WL P N ds ops Q [] e w := fun a ha => wpList_nil (h a ha)

/-- In every world of S the operation leaves v and nothing else. -/
def Val (P : Program) (e : Env) (o : Oper) (S : World → Prop) (v : Value) : Prop := ∀ ρ : Operand → Value, (∀ x u, Opd e x = some u → ρ x = u) → ∀ w, S w → (execOp ρ o).run P w = .ok (.value v) w

theorem WL.run (hg : o.guard = none) {n : Next} (hrun : ∀ ρ : Operand → Value, (∀ x u, Opd e x = some u → ρ x = u) → (execOp ρ o).run P w = .ok n w')
    (h : ∀ a, St N ds e a → ∀ K : Act → World → Prop, (∀ a w, wpList P ops Q rest a w → K a w) → o.upon P a K Q (.ok n w')) : WL P N ds ops Q (o :: rest) e w := fun a ha =>
  wpList_plain hg fun K hK => by
    unfold Oper.wp
    rw [hrun a.eval ha.eval]
    exact h a ha K hK

theorem WL.eff {d : Tmp} {v : Value} (hg : o.guard = none) (hd : o.dst = some d) (hdN : d < N) (hrun : ∀ ρ : Operand → Value, (∀ x u, Opd e x = some u → ρ x = u) → (execOp ρ o).run P w = .ok (.value v) w')
    (h : WL P N ds ops Q rest ((d, v) :: e) w') : WL P N ds ops Q (o :: rest) e w :=
  WL.run hg hrun fun a ha K hK => by
    rw [Oper.upon_value, hd]
    exact hK _ _ (h _ (ha.put hdN v))
theorem WL.val {d : Tmp} {v : Value} (hg : o.guard = none) (hd : o.dst = some d) (hdN : d < N) (hv : Val P e o (· = w) v) (h : WL P N ds ops Q rest ((d, v) :: e) w) : WL P N ds ops Q (o :: rest) e w :=
  WL.eff hg hd hdN (fun ρ hρ => hv ρ hρ w rfl) h
/-- The same, the plain side goals closed by themselves. -/
theorem WL.v {d : Tmp} {v : Value} (hv : Val P e o (· = w) v) (h : WL P N ds ops Q rest ((d, v) :: e) w) (hg : o.guard = none := by rfl) (hd : o.dst = some d := by rfl) (hdN : d < N := by decide) : WL P N ds ops Q (o :: rest) e w :=
  WL.val hg hd hdN hv h
/-- An operation without a slot of its own (a store). -/
theorem WL.eff0 (hg : o.guard = none) (hd : o.dst = none) (hrun : ∀ ρ : Operand → Value, (∀ x u, Opd e x = some u → ρ x = u) → (execOp ρ o).run P w = .ok .skip w')
    (h : WL P N ds ops Q rest e w') : WL P N ds ops Q (o :: rest) e w :=
  WL.run hg hrun fun a ha K hK => by
    rw [Oper.upon_skip, hd]
    exact hK _ _ (h _ ha)

/-- The guard says yes: as if there were none. -/
theorem WL.yes {j : Nat} {want : Bool} {t : Tmp} {b : Bool} (hg : o.guard = some (j, want)) (hj : (ops[j]?).bind (·.dst) = some t) (ht : e.get t = some (.bool b)) (hb : b = want)
    (h : WL P N ds ops Q ({ o with guard := none } :: rest) e w) : WL P N ds ops Q (o :: rest) e w := fun a ha => by
  have h1 := h a ha
  have hw : Region.wanted o (yielded ops a.tmps) = true := by
    simp only [Region.wanted, hg, yielded, hj, Option.bind_some, ha.get t _ ht, hb, beq_self_eq_true]
  unfold wpList at h1 ⊢
  rw [if_pos (by simp [Region.wanted])] at h1
  rw [if_pos hw]
  exact h1
/-- The guard says no: passed over. -/
theorem WL.no {j : Nat} {want : Bool} {t : Tmp} {d : Tmp} {v : Value} (hg : o.guard = some (j, want)) (hj : (ops[j]?).bind (·.dst) = some t) (ht : e.get t = some v) (hb : v ≠ .bool want) (hd : o.dst = some d) (hdN : d < N)
    (h : WL P N ds ops Q rest ((d, undef) :: e) w) : WL P N ds ops Q (o :: rest) e w := fun a ha => by
  have hw : Region.wanted o (yielded ops a.tmps) = false := by
    simp only [Region.wanted, hg, yielded, hj, Option.bind_some, ha.get t _ ht]
    cases v <;> simp_all
  unfold wpList
  rw [if_neg (by simp [hw]), hd]
  exact h _ (ha.put hdN undef)

/-- The guard says no, by its Bool. -/
theorem WL.noB {j : Nat} {want b : Bool} {t : Tmp} {d : Tmp} (hg : o.guard = some (j, want)) (hj : (ops[j]?).bind (·.dst) = some t) (ht : e.get t = some (.bool b)) (hb : b = !want)
    (h : WL P N ds ops Q rest ((d, undef) :: e) w) (hd : o.dst = some d := by rfl) (hdN : d < N := by decide) : WL P N ds ops Q (o :: rest) e w :=
  WL.no hg hj ht (by subst hb; cases want <;> simp) hd hdN h

/-! ### The operations that only reckon -/
section
variable {S : World → Prop}
theorem Val.move {x : Operand} {v : Value} (ho : o.op = .move x) (hx : Opd e x = some v) : Val P e o S v := fun ρ hρ w _ => by simp [execOp, ho, hρ x v hx]
theorem Val.assign {x : Operand} {v : Value} (ho : o.op = .assign x) (hx : Opd e x = some v) : Val P e o S v := fun ρ hρ w _ => by simp [execOp, ho, hρ x v hx]
theorem Val.pick {c x y : Operand} {b : Bool} {v : Value} (ho : o.op = .pick c x y) (hc : Opd e c = some (.bool b)) (hv : (if b then Opd e x else Opd e y) = some v) : Val P e o S v := fun ρ hρ w _ => by
  cases b
  · simp only [Bool.false_eq_true, if_false] at hv
    simp [execOp, ho, hρ c _ hc, asBool, hρ y v hv]
  · simp only [if_true] at hv
    simp [execOp, ho, hρ c _ hc, asBool, hρ x v hv]
theorem Val.extract {x : Operand} {i : Nat} {vs : Array Value} {v : Value} (ho : o.op = .extract x i) (hx : Opd e x = some (.tuple vs)) (hv : vs.toList[i]? = some v) : Val P e o S v := fun ρ hρ w _ => by
  have hv' : vs[i]? = some v := by rw [← hv, Array.getElem?_toList]
  simp [execOp, ho, hρ x _ hx, Instr.extract, hv']

theorem Val.bin {op : BinOp} {x y : Operand} {tx ty : TypeId} {u v r : Value} (ho : o.op = .binOp op tx x y ty) (hx : Opd e x = some u) (hy : Opd e y = some v)
    (hr : ∀ w, (do eqGuard op tx x y u v; binOp op tx u v : Sem Value).run P w = .ok r w) : Val P e o S r := fun ρ hρ w _ => by
  have := hr w
  simp only [execOp, ho, hρ x u hx, hρ y v hy]
  rw [Sem.run_bind, this]
  rfl
theorem Val.add {x y : Operand} {tx ty : TypeId} {k : IntKind} {a b : Int} (ho : o.op = .binOp .add tx x y ty) (hx : Opd e x = some (.int k a)) (hy : Opd e y = some (.int k b)) (c : Int) (hc : k.wrap (a + b) = c) :
    Val P e o S (.int k c) := Val.bin ho hx hy fun w => by subst hc; simp [go_sem, Op.intArith]
theorem Val.subt {x y : Operand} {tx ty : TypeId} {k : IntKind} {a b : Int} (ho : o.op = .binOp .sub tx x y ty) (hx : Opd e x = some (.int k a)) (hy : Opd e y = some (.int k b)) (c : Int) (hc : k.wrap (a - b) = c) :
    Val P e o S (.int k c) := Val.bin ho hx hy fun w => by subst hc; simp [go_sem, Op.intArith]
theorem Val.mul {x y : Operand} {tx ty : TypeId} {k : IntKind} {a b : Int} (ho : o.op = .binOp .mul tx x y ty) (hx : Opd e x = some (.int k a)) (hy : Opd e y = some (.int k b)) (c : Int) (hc : k.wrap (a * b) = c) :
    Val P e o S (.int k c) := Val.bin ho hx hy fun w => by subst hc; simp [go_sem, Op.intArith]
theorem Val.lss {x y : Operand} {tx ty : TypeId} {k : IntKind} {a b : Int} (ho : o.op = .binOp .lss tx x y ty) (hx : Opd e x = some (.int k a)) (hy : Opd e y = some (.int k b)) :
    Val P e o S (.bool (decide (a < b))) := Val.bin ho hx hy fun w => by simp [binOp, Op.intCmp, eqGuard]
theorem Val.leq {x y : Operand} {tx ty : TypeId} {k : IntKind} {a b : Int} (ho : o.op = .binOp .leq tx x y ty) (hx : Opd e x = some (.int k a)) (hy : Opd e y = some (.int k b)) :
    Val P e o S (.bool (decide (a ≤ b))) := Val.bin ho hx hy fun w => by simp [binOp, Op.intCmp, eqGuard]
theorem Val.gtr {x y : Operand} {tx ty : TypeId} {k : IntKind} {a b : Int} (ho : o.op = .binOp .gtr tx x y ty) (hx : Opd e x = some (.int k a)) (hy : Opd e y = some (.int k b)) :
    Val P e o S (.bool (decide (b < a))) := Val.bin ho hx hy fun w => by simp [binOp, Op.intCmp, eqGuard]
theorem Val.geq {x y : Operand} {tx ty : TypeId} {k : IntKind} {a b : Int} (ho : o.op = .binOp .geq tx x y ty) (hx : Opd e x = some (.int k a)) (hy : Opd e y = some (.int k b)) :
    Val P e o S (.bool (decide (b ≤ a))) := Val.bin ho hx hy fun w => by simp [binOp, Op.intCmp, eqGuard]
theorem Val.eqlI {x y : Operand} {tx ty : TypeId} {k : IntKind} {a b : Int} (ho : o.op = .binOp .eql tx x y ty) (hx : Opd e x = some (.int k a)) (hy : Opd e y = some (.int k b)) :
    Val P e o S (.bool (decide (a = b))) := Val.bin ho hx hy fun w => by simp [binOp, Op.intCmp, eqGuard]; rfl
theorem Val.neqI {x y : Operand} {tx ty : TypeId} {k : IntKind} {a b : Int} (ho : o.op = .binOp .neq tx x y ty) (hx : Opd e x = some (.int k a)) (hy : Opd e y = some (.int k b)) :
    Val P e o S (.bool (decide (a ≠ b))) := Val.bin ho hx hy fun w => by
  simp [binOp, Op.intCmp, eqGuard]
  by_cases h : a = b <;> simp [h]
end

/-! ### Types -/
/-- t is a slice type whose elements, of type el, are one cell each, zero z, of so many bytes. -/
structure ElemT (P : Program) (t el : TypeId) (bytes : Nat) (z : Value) : Prop where
  und : P.underlying t = some (.slice el)
  info : ∃ i, P.info? el = some i ∧ i.zero = some z ∧ i.size = 1 ∧ i.bytes = bytes
  one : z.cells.size = 1
  plain : ∀ w, (isAgg el).run P w = .ok false w
theorem ElemT.sizeOf {t el : TypeId} {bytes : Nat} {z : Value} (h : ElemT P t el bytes z) (w : World) : (sizeOf el).run P w = .ok 1 w := by
  obtain ⟨i, hi, _, h1, _⟩ := h.info
  simp [Go.sizeOf, typeInfo, hi, h1]

/-! ### Slices that are read -/
/-- v is a slice whose elements (one cell each) are xs. -/
def Sl (w : World) (v : Value) (xs : List Value) : Prop :=
  ∃ A c, v = .slice A xs.length c ∧ xs.length ≤ c ∧ (xs ≠ [] → ∃ ad : Addr, A = some ad ∧ ∀ j u, xs[j]? = some u → w.cell? (ad.add j) = some u)
theorem add_block (ad : Addr) (j : Nat) : (ad.add j).block = ad.block := by unfold Addr.add; split <;> rfl
theorem Sl.cell {v : Value} {xs : List Value} (h : Sl w v xs) (hk : ∀ p u, w.cell? p = some u → w'.cell? p = some u) : Sl w' v xs := by
  obtain ⟨A, c, hv, hl, h⟩ := h
  refine ⟨A, c, hv, hl, fun hx => ?_⟩
  obtain ⟨ad, hA, hc⟩ := h hx
  exact ⟨ad, hA, fun j u hu => hk _ _ (hc j u hu)⟩
theorem Sl.below {v : Value} {xs : List Value} (h : Sl w v xs) (hb : Below w.heap.size w w') : Sl w' v xs :=
  h.cell fun p _ hp => (hb.cell (World.block_lt_of_cell? w p hp)).trans hp
theorem Sl.grown {v : Value} {xs : List Value} (h : Sl w v xs) (hb : w.grownBy w' none) : Sl w' v xs :=
  h.cell fun p u hp => hb.cell hp (by simp)
theorem Sl.nil (w : World) (c : Nat) : Sl w (.slice none 0 c) [] := ⟨none, c, rfl, Nat.zero_le _, fun h => absurd rfl h⟩
theorem Sl.of_own {base : Nat} {el : TypeId} {v : Value} {n : Nat} {xs : List Value} (h : w.ownsRow base el 1 v n xs) : Sl w v xs := by
  have hl : xs.length = n := by simpa using h.1
  subst hl
  rcases h.2 with ⟨rfl, h0⟩ | ⟨g, cap, cur, rfl, hb, hg, hle, _⟩
  · exact ⟨none, 0, by simp [h0], by omega, fun hx => absurd (List.eq_nil_of_length_eq_zero h0) hx⟩
  · refine ⟨_, cap, rfl, hle, fun _ => ⟨_, rfl, ?_⟩⟩
    exact h.cells (g := g) rfl
theorem Sl.len {A : Option Addr} {n c : Nat} {xs : List Value} (h : Sl w (.slice A n c) xs) : n = xs.length := by
  obtain ⟨A', c', hv, _, _⟩ := h
  injection hv
theorem Sl.elem {A : Option Addr} {n c : Nat} {xs : List Value} (h : Sl w (.slice A n c) xs) {i : Nat} {u : Value} (hu : xs[i]? = some u) : ∃ ad, A = some ad ∧ w.cell? (ad.add i) = some u := by
  obtain ⟨A', c', hv, _, h⟩ := h
  injection hv with hA _ _
  subst hA
  obtain ⟨ad, hA, hc⟩ := h (by rintro rfl; simp at hu)
  exact ⟨ad, hA, hc i u hu⟩

theorem Sl.cap {A : Option Addr} {n c : Nat} {xs : List Value} (h : Sl w (.slice A n c) xs) : n ≤ c := by
  obtain ⟨A', c', hv, hl, _⟩ := h
  injection hv with _ h1 h2
  omega
theorem Sl.drop {A : Option Addr} {n c : Nat} {xs : List Value} (h : Sl w (.slice A n c) xs) {i : Nat} (hi : i ≤ n) : Sl w (.slice (if c = i then A else A.map (·.add i)) (n - i) (c - i)) (xs.drop i) := by
  have hcap := h.cap
  have hlen := h.len
  obtain ⟨A', c', hv, hl, h⟩ := h
  injection hv with hA h1 h2
  subst hA
  refine ⟨if c = i then A else A.map (·.add i), c - i, by rw [List.length_drop, hlen], by rw [List.length_drop]; omega, fun hx => ?_⟩
  have hlt : i < xs.length := by
    rcases Nat.lt_or_ge i xs.length with h0 | h0
    · exact h0
    · exact absurd (List.drop_eq_nil_of_le h0) hx
  obtain ⟨ad, rfl, hc⟩ := h (by rintro rfl; simp at hlt)
  rw [if_neg (by omega)]
  refine ⟨ad.add i, rfl, fun j u hu => ?_⟩
  have ha : (ad.add i).add j = ad.add (i + j) := by
    obtain ⟨b, o, sp⟩ := ad
    simp only [Addr.add]
    split <;> split <;> simp_all [Nat.add_assoc]
  rw [ha]
  exact hc (i + j) u (by rw [← hu, List.getElem?_drop])
theorem Val.sliceSl {S : World → Prop} {x y : Operand} {t el : TypeId} {bytes : Nat} {z : Value} {k : IntKind} {i : Int} {A : Option Addr} {n c : Nat} (ho : o.op = .slice t x (some y) none none) (hT : ElemT P t el bytes z)
    (hx : Opd e x = some (.slice A n c)) (hy : Opd e y = some (.int k i)) (h0 : 0 ≤ i) (h1 : i ≤ n) :
    Val P e o S (.slice (if c = i.toNat then A else A.map (·.add i.toNat)) (n - i.toNat) (c - i.toNat)) := fun ρ hρ w _ => by
  simp [execOp, ho, hρ x _ hx, hρ y _ hy, Instr.sliceAt, Instr.slice, Instr.sliceBounds, Instr.sliceBound, asIntOf, run_underlying hT.und, hT.sizeOf, h0, h1]

/-! ### More that only reckons -/
section
variable {S : World → Prop}
theorem Val.lenSl {x : Operand} {t el : TypeId} {A : Option Addr} {n c : Nat} (ho : o.op = .call { callee := .builtin .len, args := #[x], argTypes := #[t] }) (ht : P.underlying t = some (.slice el))
    (hx : Opd e x = some (.slice A n c)) : Val P e o S (.int .i64 n) := fun ρ hρ w _ => by
  simp [execOp, ho, hρ x _ hx, resolve, invoke, builtin, Builtin.len_, run_underlying ht, goInt]
theorem Val.lenStr {x : Operand} {t : TypeId} {s : ByteArray} (ho : o.op = .call { callee := .builtin .len, args := #[x], argTypes := #[t] }) (ht : P.underlying t = some .string)
    (hx : Opd e x = some (.string s)) : Val P e o S (.int .i64 s.size) := fun ρ hρ w _ => by
  simp [execOp, ho, hρ x _ hx, resolve, invoke, builtin, Builtin.len_, run_underlying ht, goInt]
theorem Val.min2 {x y : Operand} {ts : Array TypeId} {k : IntKind} {a b : Int} (ho : o.op = .call { callee := .builtin .min, args := #[x, y], argTypes := ts })
    (hx : Opd e x = some (.int k a)) (hy : Opd e y = some (.int k b)) : Val P e o S (.int k (if b < a then b else a)) := fun ρ hρ w _ => by
  simp [execOp, ho, hρ x _ hx, hρ y _ hy, resolve, invoke, builtin, Builtin.min_, Builtin.min2]
theorem Val.convI {x : Operand} {ts td : TypeId} {j k : IntKind} {a : Int} (ho : o.op = .convert ts td x) (h1 : P.underlying ts = some (.int j)) (h2 : P.underlying td = some (.int k))
    (hx : Opd e x = some (.int j a)) (c : Int) (hc : k.wrap a = c) : Val P e o S (.int k c) := fun ρ hρ w _ => by
  subst hc
  simp [execOp, ho, hρ x _ hx, convert, run_underlying h1, run_underlying h2, Conv.intToInt]
theorem Val.load {x : Operand} {t : TypeId} {ad : Addr} {v : Value} (ho : o.op = .load t x) (hp : ∀ w, (isAgg t).run P w = .ok false w) (hx : Opd e x = some (.pointer (some ad))) (hc : ∀ w, S w → w.cell? ad = some v) :
    Val P e o S v := fun ρ hρ w hw => by
  simp [execOp, ho, hρ x _ hx, Instr.loadAt, Instr.sureAddr, loadVar, hp w, hc w hw]
theorem Val.indexAddr {x y : Operand} {t el : TypeId} {bytes : Nat} {z : Value} {k : IntKind} {i : Int} {ad : Addr} {n c : Nat} (ho : o.op = .indexAddr t x y) (hT : ElemT P t el bytes z)
    (hx : Opd e x = some (.slice (some ad) n c)) (hy : Opd e y = some (.int k i)) (h0 : 0 ≤ i) (h1 : i < n) : Val P e o S (.pointer (some (ad.add i.toNat))) := fun ρ hρ w _ => by
  simp [execOp, ho, hρ x _ hx, hρ y _ hy, Instr.indexAt, asIntOf, run_underlying hT.und, hT.sizeOf, h0, h1]
theorem Val.idxStr {x y : Operand} {t : TypeId} {k : IntKind} {i : Int} {s : ByteArray} {b : UInt8} (ho : o.op = .index t x y) (ht : P.underlying t = some .string)
    (hx : Opd e x = some (.string s)) (hy : Opd e y = some (.int k i)) (h0 : 0 ≤ i) (hb : s.data.toList[i.toNat]? = some b) : Val P e o S (.int .u8 b.toNat) := fun ρ hρ w _ => by
  have hb' : s[i.toNat]? = some b := by
    have h := List.getElem?_eq_some_iff.1 hb
    obtain ⟨hlt, hv⟩ := h
    have hlt' : i.toNat < s.size := by simpa using hlt
    rw [getElem?_pos s i.toNat hlt']
    exact congrArg some hv
  simp [execOp, ho, hρ x _ hx, hρ y _ hy, Instr.index, asIntOf, run_underlying ht, h0, hb']
theorem Val.nilCheck {x : Operand} {ad : Addr} (ho : o.op = .nilCheck x) (hx : Opd e x = some (.pointer (some ad))) : Val P e o S (.pointer (some ad)) := fun ρ hρ w _ => by
  simp [execOp, ho, hρ x _ hx]
theorem Val.not {x : Operand} {t : TypeId} {b : Bool} (ho : o.op = .unOp .not t x) (hx : Opd e x = some (.bool b)) : Val P e o S (.bool (!b)) := fun ρ hρ w _ => by
  simp [execOp, ho, hρ x _ hx, Op.unary]
theorem Val.strOp {op : BinOp} {x y : Operand} {tx ty : TypeId} {a b : ByteArray} {r : Value} (ho : o.op = .binOp op tx x y ty) (hx : Opd e x = some (.string a)) (hy : Opd e y = some (.string b))
    (hr : ∀ w, (Op.stringOp op a b).run P w = .ok r w) (h1 : op ≠ .shl) (h2 : op ≠ .shr) : Val P e o S r := Val.bin ho hx hy fun w => by
  have h : eqGuard op tx x y (.string a) (.string b) = pure () := by cases op <;> rfl
  have h' : binOp op tx (.string a) (.string b) = Op.stringOp op a b := by cases op <;> simp_all [binOp]
  rw [h, h', Sem.run_bind]
  simp [hr]
theorem toList_eq (s : ByteArray) : s.toList = s.data.toList := ByteArray.toList_eq s
theorem Val.eqlS {x y : Operand} {tx ty : TypeId} {a b : ByteArray} (ho : o.op = .binOp .eql tx x y ty) (hx : Opd e x = some (.string a)) (hy : Opd e y = some (.string b)) :
    Val P e o S (.bool (decide (a = b))) := Val.strOp ho hx hy (fun w => by
      have : (a.toList == b.toList) = decide (a = b) := by
        rw [toList_eq, toList_eq, Bool.eq_iff_iff]
        simp
        constructor
        · intro h; cases a; cases b; simp_all
        · intro h; rw [h]
      simp [Op.stringOp, this]) (by simp) (by simp)
theorem Val.neqS {x y : Operand} {tx ty : TypeId} {a b : ByteArray} (ho : o.op = .binOp .neq tx x y ty) (hx : Opd e x = some (.string a)) (hy : Opd e y = some (.string b)) :
    Val P e o S (.bool (decide (a ≠ b))) := Val.strOp ho hx hy (fun w => by
      have : (a.toList == b.toList) = decide (a = b) := by
        rw [toList_eq, toList_eq, Bool.eq_iff_iff]
        simp
        constructor
        · intro h; cases a; cases b; simp_all
        · intro h; rw [h]
      simp [Op.stringOp, this]) (by simp) (by simp)
theorem Val.lssS {x y : Operand} {tx ty : TypeId} {a b : ByteArray} (ho : o.op = .binOp .lss tx x y ty) (hx : Opd e x = some (.string a)) (hy : Opd e y = some (.string b)) :
    Val P e o S (.bool (Op.bytesLess a.data.toList b.data.toList)) := Val.strOp ho hx hy (fun w => by simp [Op.stringOp, toList_eq]) (by simp) (by simp)
theorem Val.gtrS {x y : Operand} {tx ty : TypeId} {a b : ByteArray} (ho : o.op = .binOp .gtr tx x y ty) (hx : Opd e x = some (.string a)) (hy : Opd e y = some (.string b)) :
    Val P e o S (.bool !(Op.bytesLess a.data.toList b.data.toList || decide (a = b))) := Val.strOp ho hx hy (fun w => by
      have : (a.toList == b.toList) = decide (a = b) := by
        rw [toList_eq, toList_eq, Bool.eq_iff_iff]
        simp
        constructor
        · intro h; cases a; cases b; simp_all
        · intro h; rw [h]
      simp only [Op.stringOp, this]; simp [toList_eq]) (by simp) (by simp)
end

theorem CW.cut {α : Type} {x y : Code} (E : α → Env) (J : α → World → Prop) (hx : CW P N ds x (Exit.then (fun a w => ∃ z, St N ds (E z) a ∧ J z w) Q) e w) (hy : ∀ z w, J z w → CW P N ds y Q (E z) w) : CW P N ds (.seq x y) Q e w := fun a ha =>
  wp_seq (wp_mono (hx a ha) fun ex a' w' hq => by
    cases ex with
    | normal =>
      obtain ⟨z, h1, h2⟩ := hq
      exact hy z w' h2 a' h1
    | exit id => exact hq
    | goto l => exact hq
    | ret => exact hq
    | panic ch => exact hq
    | outgrown => exact hq)
theorem Ends.cut {α : Type} {E : α → Env} {J : α → World → Prop} {Q' : Exit → Act → World → Prop} (z : α) (hs : Sub (E z) e) (hJ : J z w) : Ends N ds (Exit.then (fun a w => ∃ z, St N ds (E z) a ∧ J z w) Q') .normal e w := fun _ ha => ⟨z, ha.sub hs, hJ⟩

/-! ### Calls -/
/-- f has a body of its own. -/
def Bodied (P : Program) (f : FuncId) : Prop := ∀ (args : Array Value) (w : World), (callFunc f args).run P w = .ok (.enter f args) w
theorem bodied {f : FuncId} {fn : Func} (hf : P.funcs[f]? = some fn) (hn : (fn.name == "runtime.NumGoroutine") = false) (hb : fn.body.isNone = false) : Bodied P f := fun args w => by
  simp only [callFunc, Sem.run_bind, run_program, Result.andThen_ok, hf, hn, hb, Bool.false_eq_true, if_false, Sem.run_pure]
def opds (e : Env) : List Operand → Option (List Value)
  | [] => some []
  | x :: r => match Opd e x, opds e r with
    | some v, some vs => some (v :: vs)
    | _, _ => none
theorem opds_map {l : List Operand} {vs : List Value} (h : opds e l = some vs) {ρ : Operand → Value} (hρ : ∀ x u, Opd e x = some u → ρ x = u) : l.map ρ = vs := by
  induction l generalizing vs with
  | nil => simp [opds] at h; simp [h]
  | cons x r ih =>
    unfold opds at h
    split at h
    · rename_i v vs' h1 h2
      simp at h
      subst h
      simp [hρ x v h1, ih h2]
    · cases h
theorem WL.call {f : FuncId} {l : List Operand} {ts : Array TypeId} {vs : List Value} {d : Tmp} {Φ : Value → World → Prop} (hB : Bodied P f) (ho : o.op = .call { callee := .value (.func f), args := l.toArray, argTypes := ts })
    (hvs : opds e l = some vs) (hc : Runs P f vs.toArray w Φ) (K : ∀ v w', Φ v w' → WL P N ds ops Q rest ((d, v) :: e) w')
    (hg : o.guard = none := by rfl) (hd : o.dst = some d := by rfl) (hdN : d < N := by decide) : WL P N ds ops Q (o :: rest) e w :=
  WL.run hg (n := .enter f vs.toArray) (w' := w) (fun ρ hρ => by
    have h := hB vs.toArray w
    have hm := opds_map hvs hρ
    have hf : ρ (.func f) = .func (.func f) #[] #[] := hρ _ _ rfl
    simp [execOp, ho, resolve, Deferred.ofValue, hf, invoke, hm, h])
    fun a ha K' hK' => by
      rw [Oper.upon_enter]
      refine Calls.mono hc ?_
      rintro _ w'' ⟨v, rfl, hΦ⟩
      rw [hd]
      exact hK' _ _ (K v w'' hΦ _ (ha.put hdN v))
/-- A call without a result's slot. -/
theorem WL.call0 {f : FuncId} {l : List Operand} {ts : Array TypeId} {vs : List Value} {Φ : Value → World → Prop} (hB : Bodied P f) (ho : o.op = .call { callee := .value (.func f), args := l.toArray, argTypes := ts })
    (hvs : opds e l = some vs) (hc : Runs P f vs.toArray w Φ) (K : ∀ v w', Φ v w' → WL P N ds ops Q rest e w')
    (hg : o.guard = none := by rfl) (hd : o.dst = none := by rfl) : WL P N ds ops Q (o :: rest) e w :=
  WL.run hg (n := .enter f vs.toArray) (w' := w) (fun ρ hρ => by
    have h := hB vs.toArray w
    have hm := opds_map hvs hρ
    have hf : ρ (.func f) = .func (.func f) #[] #[] := hρ _ _ rfl
    simp [execOp, ho, resolve, Deferred.ofValue, hf, invoke, hm, h])
    fun a ha K' hK' => by
      rw [Oper.upon_enter]
      refine Calls.mono hc ?_
      rintro _ w'' ⟨v, rfl, hΦ⟩
      rw [hd]
      exact hK' _ _ (K v w'' hΦ _ ha)

theorem at_ {p : World → Prop} (h : p w) : ∀ w', w' = w → p w' := fun _ e => e ▸ h

/-- x[i] of a slice: the place, then what lies there. -/
theorem WL.elem {o1 o2 : Oper} {x y : Operand} {t el : TypeId} {bytes : Nat} {z : Value} {p d : Tmp} {k : IntKind} {i : Int} {A : Option Addr} {n c : Nat} {xs : List Value} {v : Value}
    (hT : ElemT P t el bytes z) (hs : Sl w (.slice A n c) xs) (h1 : o1.op = .indexAddr t x y) (h2 : o2.op = .load el (.tmp p))
    (hx : Opd e x = some (.slice A n c)) (hy : Opd e y = some (.int k i)) (h0 : 0 ≤ i) (hv : xs[i.toNat]? = some v)
    (K : ∀ u, WL P N ds ops Q rest ((d, v) :: (p, u) :: e) w) (g1 : o1.guard = none := by rfl) (d1 : o1.dst = some p := by rfl) (g2 : o2.guard = none := by rfl) (d2 : o2.dst = some d := by rfl) (hp : p < N := by decide) (hd : d < N := by decide) : WL P N ds ops Q (o1 :: o2 :: rest) e w := by
  obtain ⟨ad, rfl, hc⟩ := hs.elem hv
  have hn := hs.len
  have hlt := (List.getElem?_eq_some_iff.1 hv).1
  refine WL.val g1 d1 hp (Val.indexAddr h1 hT hx hy h0 (by omega)) (WL.val g2 d2 hd (Val.load h2 hT.plain ?_ (at_ hc)) (K _))
  simp [Opd, Env.get]

/-! ### Operations that make memory -/
theorem cell_new (w : World) (v : Value) (t : TypeId) : (w.alloc (.cells #[v] t)).cell? ⟨w.heap.size, 0, none⟩ = some v := by
  rw [World.cell?_alloc_at _ _ _ _ rfl]; rfl
theorem below_alloc (w : World) (ob : Obj) : Below w.heap.size w (w.alloc ob) := (Below.refl _ _).alloc (Nat.le_refl _) ob

/-- A literal of one element. -/
theorem WL.build1 {x : Operand} {t el : TypeId} {bytes : Nat} {z : Value} {d : Tmp} {v : Value} (hT : ElemT P t el bytes z) (ho : o.op = .buildSlice t 1 #[(0, x)])
    (hx : Opd e x = some v) (hv : v.cells = #[v])
    (K : WL P N ds ops Q rest ((d, .slice (some ⟨w.heap.size, 0, none⟩) 1 1) :: e) (w.alloc (.cells #[v] el))) (hg : o.guard = none := by rfl) (hd : o.dst = some d := by rfl) (hdN : d < N := by decide) : WL P N ds ops Q (o :: rest) e w := by
  obtain ⟨i, hi, hz, h1, _⟩ := hT.info
  refine WL.eff hg hd hdN (fun ρ hρ => ?_) K
  have hz1 := hT.one
  simp only [execOp, ho, Instr.buildSlice, List.map_toArray, List.map_cons, List.map_nil, hρ x _ hx]
  simp [run_underlying hT.und, hT.sizeOf, zeroValue, typeInfo, hi, hz, Instr.fill, hv, newRow, hz1]
  rw [show Array.range 1 = #[0] from by decide]
  simp

/-- 'append(b, x)', x in the new block of one cell just made: onto nil or a row of the call's own. -/
theorem WL.app1 {s x : Operand} {t el : TypeId} {bytes : Nat} {z : Value} {d : Tmp} {base : Nat} {v u : Value} {n : Nat} {xs : List Value} (hT : ElemT P t el bytes z) (hown : w.ownsRow base el 1 v n xs)
    (ho : o.op = .call { callee := .builtin .append, args := #[s, x], argTypes := #[t, t] })
    (hs : Opd e s = some v) (hx : Opd e x = some (.slice (some ⟨w.heap.size, 0, none⟩) 1 1)) (hu : u.oneCell' = true) (hn : n + 1 ≤ maxLen) (hby : (n + 1) * bytes ≤ 140737488355328) (hb : base ≤ w.heap.size)
    (K : ∀ v' w', w'.ownsRow base el 1 v' (n + 1) (xs ++ [u]) → w.grownBy w' v.ownBlock → (v'.ownBlock = v.ownBlock ∨ ∃ g, v'.ownBlock = some g ∧ w.heap.size ≤ g) → WL P N ds ops Q rest ((d, v') :: e) w')
    (hg : o.guard = none := by rfl) (hd : o.dst = some d := by rfl) (hdN : d < N := by decide) : WL P N ds ops Q (o :: rest) e (w.alloc (.cells #[u] el)) := by
  obtain ⟨i, hi, hz, h1, h2⟩ := hT.info
  have hown' := hown.alloc (.cells #[u] el)
  obtain ⟨v', w', hrun, hown2, hgr, _, hat⟩ := run_append_own_at (P := P) (w.alloc (.cells #[u] el)) base t o.type el i z 1 bytes hT.und hi hz h1 h2 hT.one (by omega) v n xs hown' ⟨w.heap.size, 0, none⟩ 1 1 [u] rfl
    (by intro j u' hj; match j, hj with | 0, hj => simp at hj; subst hj; exact cell_new w u el) (by intro u' hu'; simp at hu'; subst hu'; exact hu) hn hby (by simp; omega)
  refine WL.eff hg hd hdN (fun ρ hρ => ?_) (K v' w' (by simpa using hown2) ?_ ?_)
  · simp [execOp, ho, hρ s _ hs, hρ x _ hx, resolve, invoke, builtin, hrun]
  · exact ⟨hgr.os, hgr.tape, hgr.output, by have := hgr.size; simp at this; omega, fun k hk hne => (hgr.block k (by simp; omega) hne).trans (Below.heap_alloc w _ k hk)⟩
  · rcases hat with h | h
    · exact .inl h
    · exact .inr ⟨_, h, by simp⟩

/-- 'append(b, s...)', s a string, b nil or a row of the call's own. -/
theorem WL.appS {sl x : Operand} {t el tu : TypeId} {d : Tmp} {base : Nat} {v : Value} {n : Nat} {xs : List Value} {s : ByteArray} (hT : ElemT P t el 1 (.int .u8 0)) (hu : P.underlying tu = some .string) (hown : w.ownsRow base el 1 v n xs)
    (ho : o.op = .call { callee := .builtin .append, args := #[sl, x], argTypes := #[t, tu] })
    (hs : Opd e sl = some v) (hx : Opd e x = some (.string s)) (hn : n + s.size ≤ 140737488355328) (hb : base ≤ w.heap.size)
    (K : ∀ v' w', w'.ownsRow base el 1 v' (n + s.size) (xs ++ Lib.strCells s) → w.grownBy w' v.ownBlock → WL P N ds ops Q rest ((d, v') :: e) w')
    (hg : o.guard = none := by rfl) (hd : o.dst = some d := by rfl) (hdN : d < N := by decide) : WL P N ds ops Q (o :: rest) e w := by
  obtain ⟨i, hi, hz, h1, h2⟩ := hT.info
  obtain ⟨v', w', hrun, hown2, hgr, _⟩ := Lib.run_append_own_string (P := P) w base t tu o.type el i hT.und hu hi hz h1 h2 v n xs hown s (by unfold maxLen; omega) hn hb
  refine WL.eff hg hd hdN (fun ρ hρ => ?_) (K v' w' hown2 hgr)
  simp [execOp, ho, hρ sl _ hs, hρ x _ hx, resolve, invoke, builtin, hrun]

/-! ### Slots that are forgotten; && and || -/
theorem WL.forget {l : List Oper} {p : Nat × Value} {k : Nat} {u : Value} {e2 : Env} (h : e2.get k = none) (H : WL P N ds ops Q l (p :: e2) w) : WL P N ds ops Q l (p :: (k, u) :: e2) w := fun a ha => by
  obtain ⟨s, v⟩ := p
  refine H a ⟨ha.defers, ha.size, fun t x hx => ha.get t x ?_⟩
  unfold Env.get at hx ⊢
  by_cases hst : s = t
  · subst hst
    simpa using hx
  · rw [beq_ne hst] at hx ⊢
    simp only [] at hx ⊢
    unfold Env.get
    by_cases hkt : k = t
    · subst hkt
      rw [h] at hx
      cases hx
    · rw [beq_ne hkt]
      exact hx

/-- Each operation of the piece is guarded by the same slot and writes a slot that is known of nothing. -/
def skips (N j : Nat) (want : Bool) (e : Env) (l : List Oper) : Bool :=
  l.all fun o => (o.guard == some (j, want)) && (match o.dst with | some d => Nat.blt d N && (e.get d).isNone | none => false)

theorem skip_all {j t : Nat} {want : Bool} {v : Value} (hj : (ops[j]?).bind (·.dst) = some t) (hne : v ≠ .bool want) : ∀ (seg : List Oper) (e0 : Env), e0.get t = some v → skips N j want e0 seg = true →
    (∀ a, St N ds e0 a → wpList P ops Q rest a w) → ∀ a, St N ds e0 a → wpList P ops Q (seg ++ rest) a w := by
  intro seg
  induction seg with
  | nil => intro e0 _ _ H a ha; exact H a ha
  | cons o seg ih =>
    intro e0 ht hs H a ha
    simp only [skips, List.all_cons, Bool.and_eq_true, beq_iff_eq] at hs
    obtain ⟨⟨hg, hd⟩, hs⟩ := hs
    cases hdst : o.dst with
    | none => simp [hdst] at hd
    | some d =>
      simp only [hdst, Bool.and_eq_true, Option.isNone_iff_eq_none] at hd
      obtain ⟨hdN, hnone⟩ := hd
      have hdN' : d < N := by simpa [Nat.blt_eq] using hdN
      refine WL.no (P := P) (N := N) (e := e0) (d := d) (j := j) (t := t) hg hj ht hne hdst hdN' ?_ a ha
      intro a2 ha2
      refine ih e0 ht hs H a2 ⟨ha2.defers, ha2.size, fun s x hx => ha2.get s x ?_⟩
      unfold Env.get
      by_cases hds : d = s
      · subst hds
        rw [hnone] at hx
        cases hx
      · rw [beq_ne hds]
        exact hx

/-- 'x && y': seg: what reckons y, passed over where x is false; pk: the pick. -/
theorem WL.and {seg : List Oper} {pk : Oper} {j t d : Nat} {x : Operand} {b r : Bool} (hj : (ops[j]?).bind (·.dst) = some t) (ht : e.get t = some (.bool b)) (hs : skips N j true e seg = true)
    (hpk : pk.op = .pick (.tmp t) x (.const (.bool false))) (hT : b = true → WL P N ds ops Q rest ((d, .bool r) :: e) w → WL P N ds ops Q (seg ++ pk :: rest) e w)
    (K : WL P N ds ops Q rest ((d, .bool (b && r)) :: e) w) (hg : pk.guard = none := by rfl) (hd : pk.dst = some d := by rfl) (hdN : d < N := by decide) : WL P N ds ops Q (seg ++ pk :: rest) e w := by
  cases b with
  | true => exact hT rfl K
  | false =>
    intro a ha
    refine skip_all (v := .bool false) hj (by simp) seg e ht hs ?_ a ha
    refine WL.val hg hd hdN (v := .bool false) ?_ K
    intro ρ hρ w' _
    have h1 := hρ (.tmp t) _ ht
    have h2 := hρ (.const (.bool false)) _ rfl
    simp [execOp, hpk, h1, h2, asBool]
/-- 'x || y'. -/
theorem WL.or {seg : List Oper} {pk : Oper} {j t d : Nat} {x : Operand} {b r : Bool} (hj : (ops[j]?).bind (·.dst) = some t) (ht : e.get t = some (.bool b)) (hs : skips N j false e seg = true)
    (hpk : pk.op = .pick (.tmp t) (.const (.bool true)) x) (hT : b = false → WL P N ds ops Q rest ((d, .bool r) :: e) w → WL P N ds ops Q (seg ++ pk :: rest) e w)
    (K : WL P N ds ops Q rest ((d, .bool (b || r)) :: e) w) (hg : pk.guard = none := by rfl) (hd : pk.dst = some d := by rfl) (hdN : d < N := by decide) : WL P N ds ops Q (seg ++ pk :: rest) e w := by
  cases b with
  | false => exact hT rfl K
  | true =>
    intro a ha
    refine skip_all (v := .bool true) hj (by simp) seg e ht hs ?_ a ha
    refine WL.val hg hd hdN (v := .bool true) ?_ K
    intro ρ hρ w' _
    have h1 := hρ (.tmp t) _ ht
    have h2 := hρ (.const (.bool true)) _ rfl
    simp [execOp, hpk, h1, h2, asBool]
/-- The pick where the first is true ('&&') or false ('||'): the second's value. -/
theorem Val.pickT {S : World → Prop} {c x y : Operand} {b : Bool} {v : Value} (ho : o.op = .pick c x y) (hc : Opd e c = some (.bool b)) (hb : b = true) (hv : Opd e x = some v) : Val P e o S v := by subst hb; exact Val.pick ho hc hv
theorem Val.pickF {S : World → Prop} {c x y : Operand} {b : Bool} {v : Value} (ho : o.op = .pick c x y) (hc : Opd e c = some (.bool b)) (hb : b = false) (hv : Opd e y = some v) : Val P e o S v := by subst hb; exact Val.pick ho hc hv

/-! ### Regions that draw their order -/
def WH (P : Program) (N : Nat) (ds : List Deferred) (ops : Array Oper) (Q : Exit → Act → World → Prop) (S : World → Prop) (fuel : Nat) (listed : Array Bool) (e : Env) (w : World) : Prop :=
  ∀ a, St N ds e a → S w → wpAnyH P .any ops (NoPanic Q) S fuel listed a w

theorem CW.draw {id : Nat} (S : World → Prop) (hS : S w.drew) (h : WH P N ds ops Q S ops.size (Array.replicate ops.size false) e w.drew) (hm : P.follows .mixedOrders = true := by kernel_rfl) : CW P N ds (.region id ops true) Q e w := fun a ha =>
  wp_region_noPanic (wp_region_held hm (h a ha hS))

section
variable {S : World → Prop} {fuel : Nat} {listed listed' : Array Bool}
theorem WH.take (i : Nat) {o : Oper} {d : Tmp} {v : Value} (hi : ops[i]? = some o) (hd : o.dst = some d) (hv : Val P e o S v) (h : WH P N ds ops Q S fuel (listed.setIfInBounds i true) ((d, v) :: e) w)
    (hg : o.guard = none := by rfl) (hn : Region.noSelect ops = true := by kernel_rfl) (hf : Region.free .any ops listed i = true := by kernel_rfl) (hr : (Region.ready .any ops listed).contains i = true := by kernel_rfl) (hdN : d < N := by decide) :
    WH P N ds ops Q S (fuel + 1) listed e w := fun a ha hS =>
  wpAnyH_take (v := v) hi hn hf hr (fun _ _ _ hq => hq) (.inl ⟨by simp [Region.wanted, hg], fun w' hw' => hv a.eval ha.eval w' hw'⟩) hS (by rw [hd]; exact h _ (ha.put hdN v) hS)
theorem WH.takeG (i : Nat) {o : Oper} {d j t : Nat} {v : Value} {want b : Bool} (hi : ops[i]? = some o) (hd : o.dst = some d) (hg : o.guard = some (j, want)) (hj : (ops[j]?).bind (·.dst) = some t) (ht : e.get t = some (.bool b)) (hb : b = want)
    (hv : Val P e o S v) (h : WH P N ds ops Q S fuel (listed.setIfInBounds i true) ((d, v) :: e) w)
    (hn : Region.noSelect ops = true := by kernel_rfl) (hf : Region.free .any ops listed i = true := by kernel_rfl) (hr : (Region.ready .any ops listed).contains i = true := by kernel_rfl) (hdN : d < N := by decide) :
    WH P N ds ops Q S (fuel + 1) listed e w := fun a ha hS =>
  wpAnyH_take (v := v) hi hn hf hr (fun _ _ _ hq => hq) (.inl ⟨by simp only [Region.wanted, hg, yielded, hj, Option.bind_some, ha.get t _ ht, hb, beq_self_eq_true], fun w' hw' => hv a.eval ha.eval w' hw'⟩) hS (by rw [hd]; exact h _ (ha.put hdN v) hS)
theorem WH.skip (i : Nat) {o : Oper} {d j t : Nat} {v : Value} {want : Bool} (hi : ops[i]? = some o) (hd : o.dst = some d) (hg : o.guard = some (j, want)) (hj : (ops[j]?).bind (·.dst) = some t) (ht : e.get t = some v) (hb : v ≠ .bool want)
    (h : WH P N ds ops Q S fuel (listed.setIfInBounds i true) ((d, undef) :: e) w)
    (hn : Region.noSelect ops = true := by kernel_rfl) (hf : Region.free .any ops listed i = true := by kernel_rfl) (hr : (Region.ready .any ops listed).contains i = true := by kernel_rfl) (hdN : d < N := by decide) :
    WH P N ds ops Q S (fuel + 1) listed e w := fun a ha hS =>
  wpAnyH_take (v := undef) hi hn hf hr (fun _ _ _ hq => hq) (.inr ⟨by simp only [Region.wanted, hg, yielded, hj, Option.bind_some, ha.get t _ ht]; cases v <;> simp_all, rfl⟩) hS (by rw [hd]; exact h _ (ha.put hdN undef) hS)
theorem WH.done (h : Ends N ds Q .normal e w) (hr : Region.ready .any ops listed = [] := by kernel_rfl) : WH P N ds ops Q S fuel listed e w := fun a ha _ => wpAnyH_done hr (show NoPanic Q .normal a w from h a ha) fuel

/-- The rest of a drawn region behind one operation that was carried out. -/
def Behind (P : Program) (ops : Array Oper) (Q : Exit → Act → World → Prop) (S : World → Prop) (fuel : Nat) (listed : Array Bool) : Exit → Act → World → Prop :=
  Exit.then (fun a' w' => S w' ∧ wpAnyH P .any ops (NoPanic Q) S fuel listed a' w') (NoPanic Q)

theorem wpOp_of_wpList {i : Nat} {K : Act → World → Prop} {Q' : Exit → Act → World → Prop} (hi : ops[i]? = some o) (h : wpList P ops (Exit.then K Q') [o] a w) : wpOp P ops Q' i K a w := by
  unfold wpOp
  rw [hi]
  simp only []
  unfold wpList at h
  split
  · rename_i hw
    rw [if_pos hw] at h
    rcases h with h | ⟨h1, h2⟩
    · refine .inl ?_
      have h' : o.wp P a w K (Exit.then K Q') := Oper.wp_mono (fun _ _ hh => hh) h
      unfold Oper.wp at h' ⊢
      generalize (execOp a.eval o).run P w = r at h' ⊢
      cases r with
      | ok n w' =>
        cases n <;> simp only [Oper.upon] at h' ⊢ <;> first
          | exact h'
          | exact Calls.mono h' (fun e w'' he => by cases e <;> exact he)
      | halt x w' => cases x <;> simp only [Oper.upon] at h' ⊢ <;> exact h'
    · exact .inr ⟨h1, h2⟩
  · rename_i hw
    rw [if_neg hw] at h
    exact h

theorem WH.step (i : Nat) {o : Oper} (hi : ops[i]? = some o) (h : WL P N ds ops (Behind P ops Q S fuel (listed.setIfInBounds i true)) [o] e w) (hr : Region.ready .any ops listed = [i] := by kernel_rfl) : WH P N ds ops Q S (fuel + 1) listed e w := fun a ha _ =>
  wpAnyH_all hr (by simp) (fun k hk => by
    simp only [List.mem_singleton] at hk
    subst hk
    exact wpOp_of_wpList hi (h a ha))
theorem WH.step2 (i j : Nat) {o o' : Oper} (hi : ops[i]? = some o) (hj : ops[j]? = some o') (hr : Region.ready .any ops listed = [i, j]) (h : WL P N ds ops (Behind P ops Q S fuel (listed.setIfInBounds i true)) [o] e w)
    (h' : WL P N ds ops (Behind P ops Q S fuel (listed.setIfInBounds j true)) [o'] e w) : WH P N ds ops Q S (fuel + 1) listed e w := fun a ha _ =>
  wpAnyH_all hr (by simp) (fun k hk => by
    simp only [List.mem_cons, List.not_mem_nil, or_false] at hk
    rcases hk with rfl | rfl
    · exact wpOp_of_wpList hi (h a ha)
    · exact wpOp_of_wpList hj (h' a ha))
theorem WH.back (hS : S w) (h : WH P N ds ops Q S fuel listed e w) : WL P N ds ops (Behind P ops Q S fuel listed) [] e w := WL.nil fun a ha => ⟨hS, h a ha hS⟩
end

/-! ### Strings and bytes -/
def byteV (b : UInt8) : Value := .int .u8 b.toNat
/-- v is a slice of a block of the call's own (which may be shared with a string behind its end). -/
def OwnF (w : World) (base : Nat) (el : TypeId) (v : Value) (xs : List Value) : Prop :=
  ∃ g cap cur fr, v = .slice (some ⟨g, 0, none⟩) xs.length cap ∧ base ≤ g ∧ xs.length ≤ cap ∧ w.heap[g]? = some (.cells cur el fr) ∧ (fr = (0, 0) ∨ xs.length ≤ fr.1) ∧ cur.toList.take xs.length = xs
theorem OwnF.sl {base : Nat} {el : TypeId} {v : Value} {xs : List Value} (h : OwnF w base el v xs) : Sl w v xs := by
  obtain ⟨g, cap, cur, fr, rfl, hb, hle, hg, _, ht⟩ := h
  refine ⟨_, cap, rfl, hle, fun _ => ⟨_, rfl, fun j u hu => ?_⟩⟩
  rw [Addr.add_lit, Nat.zero_add, cell_of_row w g j cur el fr hg]
  rw [← ht, List.getElem?_take] at hu
  split at hu
  · simpa using hu
  · cases hu
theorem OwnF.keep {base : Nat} {el : TypeId} {v : Value} {xs : List Value} (h : OwnF w base el v xs) (hb : Below w.heap.size w w') : OwnF w' base el v xs := by
  obtain ⟨g, cap, cur, fr, rfl, h1, hle, hg, h2⟩ := h
  exact ⟨g, cap, cur, fr, rfl, h1, hle, (hb.block g (Array.getElem?_eq_some_iff.1 hg).1).trans hg, h2⟩

theorem WL.toBytes {x : Operand} {ts td el : TypeId} {d : Tmp} {s : ByteArray} (h1 : P.underlying ts = some .string) (h2 : P.underlying td = some (.slice el)) (h3 : P.underlying el = some (.int .u8)) (ho : o.op = .convert ts td x)
    (hx : Opd e x = some (.string s)) (K : ∀ v w', OwnF w' w.heap.size el v (s.data.toList.map byteV) → Below w.heap.size w w' → WL P N ds ops Q rest ((d, v) :: e) w')
    (hg : o.guard = none := by rfl) (hd : o.dst = some d := by rfl) (hdN : d < N := by decide) : WL P N ds ops Q (o :: rest) e w := by
  have hrun := run_bytes_of_string (P := P) w ts td el s h1 h2 h3
  have hlen : (s.data.toList.map byteV).length = s.size := by rw [List.length_map, Array.length_toList]; rfl
  have hge := grownCap_ge w s.size 0 el
  refine WL.eff (v := .slice (some ⟨w.heap.size, 0, none⟩) s.size (grownCap w s.size 0 el))
    (w' := w.drew.alloc (.cells (bytesRow s (grownCap w s.size 0 el)) el ((bytesRow s (grownCap w s.size 0 el)).size, (bytesRow s (grownCap w s.size 0 el)).size + 1)))
    hg hd hdN (fun ρ hρ => ?_) (K _ _ ⟨w.heap.size, grownCap w s.size 0 el, _, _, ?_, Nat.le_refl _, by rw [hlen]; exact hge, heap_alloc_new w.drew _, ?_, ?_⟩ ?_)
  · simp only [execOp, ho, hρ x _ hx, Sem.run_bind, hrun]
    rfl
  · rw [hlen]
  · right
    rw [hlen]
    simp [bytesRow]
  · rw [hlen]
    apply List.ext_getElem?
    intro i
    rw [List.getElem?_take]
    split
    · rename_i hi
      rw [Array.getElem?_toList, bytesRow_at s _ i hi]
      simp only [List.getElem?_map, Array.getElem?_toList]
      rw [Array.getElem?_eq_getElem hi]
      rfl
    · rename_i hi
      rw [List.getElem?_eq_none (by rw [hlen]; omega)]
  · exact ((Below.refl _ _).drew).alloc (Nat.le_refl _) _

theorem Val.toStr {S : World → Prop} {x : Operand} {ts td el : TypeId} {v : Value} {l : List UInt8} (h1 : P.underlying ts = some (.slice el)) (h2 : P.underlying td = some .string) (h3 : P.underlying el = some (.int .u8)) (ho : o.op = .convert ts td x)
    (hx : Opd e x = some v) (hs : ∀ w, S w → Sl w v (l.map byteV)) : Val P e o S (.string ⟨l.toArray⟩) := fun ρ hρ w hw => by
  obtain ⟨A, c, rfl, _, hc⟩ := hs w hw
  simp only [execOp, ho, hρ x _ hx, Sem.run_bind]
  by_cases hl : l = []
  · subst hl
    cases A with
    | none =>
      rw [List.map_nil, List.length_nil, run_convert_bytes_nil (P := P) (w := w) ts el h1 h3 0 c td h2]
      rfl
    | some ad =>
      have := run_convert_bytes_back (P := P) w ts td el ad c [] h1 h3 h2 (by intro j hj; simp at hj)
      simp only [List.length_nil] at this
      rw [List.map_nil, List.length_nil, this]
      rfl
  · obtain ⟨ad, rfl, hcell⟩ := hc (by simpa using hl)
    rw [List.length_map, run_convert_bytes_back (P := P) w ts td el ad c l h1 h3 h2 (fun j hj => hcell j _ (by simp [hj, byteV]))]
    rfl

/-- x[i] = u in a row of the call's own: the place, then the store. -/
theorem WL.setElem {o1 o2 : Oper} {x y z : Operand} {t el : TypeId} {bytes : Nat} {zv : Value} {p : Tmp} {k : IntKind} {i : Int} {base : Nat} {v u : Value} {xs : List Value}
    (hT : ElemT P t el bytes zv) (hown : OwnF w base el v xs) (h1 : o1.op = .indexAddr t x y) (h2 : o2.op = .store el (.tmp p) z)
    (hx : Opd e x = some v) (hy : Opd e y = some (.int k i)) (hz : ∀ q, Opd ((p, q) :: e) z = some u) (hu : u.cells = #[u]) (hu1 : u.oneCell' = true) (h0 : 0 ≤ i) (hi : i.toNat < xs.length)
    (K : ∀ q w', OwnF w' base el v (xs.set i.toNat u) → Below base w w' → WL P N ds ops Q rest ((p, q) :: e) w')
    (g1 : o1.guard = none := by rfl) (d1 : o1.dst = some p := by rfl) (g2 : o2.guard = none := by rfl) (d2 : o2.dst = none := by rfl) (hp : p < N := by decide) : WL P N ds ops Q (o1 :: o2 :: rest) e w := by
  obtain ⟨g, cap, cur, fr, rfl, hbg, hle, hg, hfr, ht⟩ := hown
  have hlen : xs.length ≤ cur.size := by
    have := congrArg List.length ht
    simp at this
    omega
  refine WL.val g1 d1 hp (Val.indexAddr h1 hT hx hy h0 (by omega)) ?_
  have hcell : w.cell? ((⟨g, 0, none⟩ : Addr).add i.toNat) = some cur[i.toNat] := by
    rw [Addr.add_lit, Nat.zero_add, cell_of_row w g _ cur el fr hg, Array.getElem?_eq_getElem (by omega)]
  have hfz : w.frozen? ((⟨g, 0, none⟩ : Addr).add i.toNat) = false := by
    rw [Addr.add_lit, Nat.zero_add]
    obtain ⟨lo, hi'⟩ := fr
    simp only [World.frozen?, hg]
    rcases hfr with h | h
    · cases h
      simp
    · simp only at h
      simp
      omega
  refine WL.eff0 (w' := w.setCell ⟨g, i.toNat, none⟩ u) g2 d2 (fun ρ hρ => ?_) (K _ _ ?_ ?_)
  · have e1 := hρ (.tmp p) _ (by simp [Opd, Env.get]; rfl)
    have e2 := hρ z u (hz _)
    rw [Addr.add_lit, Nat.zero_add] at hcell hfz
    simp only [execOp, h2, e1, e2, Instr.storeAt, Instr.sureAddr, Addr.add_lit, Nat.zero_add]
    have hst : (store ⟨g, i.toNat, none⟩ u).run P w = .ok () (w.setCell ⟨g, i.toNat, none⟩ u) := by
      rw [run_store P w _ u .plain hu1]
      simp [hcell, hfz]
    simp [storeVar, hu, hT.sizeOf, storeCells, Addr.add, hst]
  · refine ⟨g, cap, cur.setIfInBounds i.toNat u, fr, by rw [List.length_set], hbg, by rw [List.length_set]; exact hle, ?_, by rw [List.length_set]; exact hfr, ?_⟩
    · simp [World.setCell, Array.getElem?_modify, hg]
    · rw [List.length_set, Array.toList_setIfInBounds, List.take_set, ht]
  · exact (Below.refl _ _).setCell (by exact hbg) _

/-- internal/bytealg's comparison of strings (a body-less function). -/
theorem WL.cmpstr {f : FuncId} {x y : Operand} {ts : Array TypeId} {d : Tmp} {s t : ByteArray}
    (hrun : ∀ w, (callFunc f #[.string s, .string t]).run P w = .ok (.value (.int .i64 (Lib.compareBytes s.data.toList t.data.toList))) w)
    (ho : o.op = .call { callee := .value (.func f), args := #[x, y], argTypes := ts }) (hx : Opd e x = some (.string s)) (hy : Opd e y = some (.string t))
    (K : WL P N ds ops Q rest ((d, .int .i64 (Lib.compareBytes s.data.toList t.data.toList)) :: e) w)
    (hg : o.guard = none := by rfl) (hd : o.dst = some d := by rfl) (hdN : d < N := by decide) : WL P N ds ops Q (o :: rest) e w :=
  WL.eff hg hd hdN (fun ρ hρ => by
    have hf' : ρ (.func f) = .func (.func f) #[] #[] := hρ _ _ rfl
    simp [execOp, ho, resolve, Deferred.ofValue, hf', invoke, hρ x _ hx, hρ y _ hy, hrun]) K

/-! ### Literals of several elements -/
def enumP : Nat → List Operand → List (Nat × Operand)
  | _, [] => []
  | k, x :: r => (k, x) :: enumP (k + 1) r
def enumV : Nat → List Value → List (Nat × Value)
  | _, [] => []
  | k, x :: r => (k, x) :: enumV (k + 1) r
theorem enum_map {ρ : Operand → Value} {l : List Operand} {vs : List Value} (h : l.map ρ = vs) : ∀ k, (enumP k l).map (fun p => (p.1, ρ p.2)) = enumV k vs := by
  subst h
  induction l with
  | nil => intro k; rfl
  | cons x r ih => intro k; simp [enumP, enumV, ih]
theorem fill_enum : ∀ (vs pre zs : List Value), vs.length = zs.length → (∀ v ∈ vs, v.cells = #[v]) →
    Instr.fill (fun i => some (i * 1, 1)) (pre ++ zs).toArray (enumV pre.length vs) = some (pre ++ vs).toArray := by
  intro vs
  induction vs with
  | nil =>
    intro pre zs hl _
    have : zs = [] := List.eq_nil_of_length_eq_zero hl.symm
    subst this
    simp [enumV, Instr.fill]
  | cons v vs ih =>
    intro pre zs hl hv
    cases zs with
    | nil => simp at hl
    | cons z zs =>
      have h1 := hv v (by simp)
      simp only [enumV, Instr.fill, h1]
      have hsz : ¬ (pre.length * 1 + 1 > (pre ++ z :: zs).length) := by simp
      simp only [List.size_toArray, List.length_cons, List.length_nil, Nat.zero_add]
      rw [if_neg (by simp)]
      have hset : (List.foldl (fun cs (p : Value × Nat) => cs.setIfInBounds (pre.length * 1 + p.2) p.1) (pre ++ z :: zs).toArray [(v, 0)]) = ((pre ++ [v]) ++ zs).toArray := by
        apply Array.ext'
        simp
      have := ih (pre ++ [v]) zs (by simpa using hl) (fun u hu => hv u (by simp [hu]))
      simp only [List.length_append, List.length_singleton] at this
      rw [← hset] at this
      simpa using this

/-- A literal of several elements, each of one cell. -/
theorem WL.build {l : List Operand} {t el : TypeId} {bytes : Nat} {z : Value} {d : Tmp} {vs : List Value} (hT : ElemT P t el bytes z) (ho : o.op = .buildSlice t l.length (enumP 0 l).toArray)
    (hx : opds e l = some vs) (hv : ∀ v ∈ vs, v.cells = #[v]) (hn : l.length ≤ 10000) (hn0 : 0 < l.length)
    (K : Sl (w.alloc (.cells vs.toArray el)) (.slice (some ⟨w.heap.size, 0, none⟩) l.length l.length) vs → WL P N ds ops Q rest ((d, .slice (some ⟨w.heap.size, 0, none⟩) l.length l.length) :: e) (w.alloc (.cells vs.toArray el)))
    (hg : o.guard = none := by rfl) (hd : o.dst = some d := by rfl) (hdN : d < N := by decide) : WL P N ds ops Q (o :: rest) e w := by
  obtain ⟨i, hi, hz, h1, _⟩ := hT.info
  have hlen : vs.length = l.length := by
    have := opds_map hx (ρ := fun x => (Opd e x).getD undef) (fun x u hu => by simp [hu])
    rw [← this]
    simp
  have hz1 := hT.one
  have hcells : ∀ n : Nat, ∃ zs : List Value, (Array.range (n * 1)).map (fun i => z.cells[i % z.cells.size]!) = zs.toArray ∧ zs.length = n := fun n =>
    ⟨((Array.range (n * 1)).map (fun i => z.cells[i % z.cells.size]!)).toList, (Array.toArray_toList).symm, by rw [Array.length_toList, Array.size_map, Array.size_range, Nat.mul_one]⟩
  obtain ⟨zs, hzs, hzl⟩ := hcells l.length
  have hfill := fill_enum vs [] zs (by omega) hv
  simp only [List.nil_append, List.length_nil] at hfill
  refine WL.eff hg hd hdN (fun ρ hρ => ?_) (K ?_)
  · have hm := enum_map (opds_map hx hρ) 0
    have h24 : ¬ (l.length * 1 > 2 ^ 24) := by omega
    simp only [execOp, ho, Instr.buildSlice, List.map_toArray, hm]
    have h0 : ¬ (l.length * 1 = 0) := by omega
    simp only [run_underlying hT.und, Sem.run_bind, Result.andThen_ok, hT.sizeOf, h24, h0, if_false, zeroValue, typeInfo, run_program, hi, hz, Sem.run_pure, hzs, hfill, newRow, run_newObj]
    rfl
  · refine ⟨some ⟨w.heap.size, 0, none⟩, l.length, by rw [hlen], by omega, fun _ => ⟨_, rfl, fun j u hu => ?_⟩⟩
    rw [Addr.add_lit, Nat.zero_add, World.cell?_alloc_at _ _ _ _ rfl]
    simpa using hu

/-- 'append(b, x...)', x a slice of elements of one cell, b nil or a row of the call's own. -/
theorem WL.app {s x : Operand} {t el : TypeId} {bytes : Nat} {z : Value} {d : Tmp} {base : Nat} {v u : Value} {n : Nat} {xs ys : List Value} (hT : ElemT P t el bytes z) (hown : w.ownsRow base el 1 v n xs) (hy : Sl w u ys)
    (ho : o.op = .call { callee := .builtin .append, args := #[s, x], argTypes := #[t, t] })
    (hs : Opd e s = some v) (hx : Opd e x = some u) (hu : ∀ q ∈ ys, q.oneCell' = true) (hn : n + ys.length ≤ maxLen) (hby : (n + ys.length) * bytes ≤ 140737488355328) (hb : base ≤ w.heap.size)
    (K : ∀ v' w', w'.ownsRow base el 1 v' (n + ys.length) (xs ++ ys) → w.grownBy w' v.ownBlock → (v'.ownBlock = v.ownBlock ∨ ∃ g, v'.ownBlock = some g ∧ w.heap.size ≤ g) → WL P N ds ops Q rest ((d, v') :: e) w')
    (hg : o.guard = none := by rfl) (hd : o.dst = some d := by rfl) (hdN : d < N := by decide) : WL P N ds ops Q (o :: rest) e w := by
  obtain ⟨i, hi, hz, h1, h2⟩ := hT.info
  obtain ⟨A, c, rfl, hlc, hcell⟩ := hy
  cases A with
  | some ad =>
    have hnews : ∀ j q, ys[j]? = some q → w.cell? (ad.add j) = some q := by
      intro j q hq
      obtain ⟨ad', he, hc⟩ := hcell (by rintro rfl; simp at hq)
      injection he with he
      subst he
      exact hc j q hq
    obtain ⟨v', w', hrun, hown2, hgr, _, hat⟩ := run_append_own_at (P := P) w base t o.type el i z 1 bytes hT.und hi hz h1 h2 hT.one (by omega) v n xs hown ad ys.length c ys (by simp) hnews hu hn hby hb
    refine WL.eff hg hd hdN (fun ρ hρ => ?_) (K v' w' hown2 hgr ?_)
    · simp [execOp, ho, hρ s _ hs, hρ x _ hx, resolve, invoke, builtin, hrun]
    · rcases hat with h | h
      · exact .inl h
      · exact .inr ⟨_, h, Nat.le_refl _⟩
  | none =>
    have hys : ys = [] := by
      apply Decidable.byContradiction
      intro hne
      obtain ⟨ad', he, _⟩ := hcell hne
      cases he
    subst hys
    have hrun : (Builtin.append_ #[t, t] o.type #[v, .slice none 0 c]).run P w = .ok v w := by
      rcases hown.2 with ⟨rfl, _⟩ | ⟨g, cap, cur, rfl, _, _, hnc, _⟩
      · simp [Builtin.append_, run_underlying hT.und, sizeOf, typeInfo, hi, Builtin.lenOf, Builtin.firstCells]
      · simp [Builtin.append_, run_underlying hT.und, sizeOf, typeInfo, hi, Builtin.lenOf, Builtin.firstCells, hnc, storeCells]
    refine WL.eff hg hd hdN (fun ρ hρ => ?_) (K v w (by simpa using hown) ⟨rfl, rfl, rfl, Nat.le_refl _, fun _ _ _ => rfl⟩ (.inl rfl))
    simp [execOp, ho, hρ s _ hs, hρ x _ hx, resolve, invoke, builtin, hrun]

/-! ### Parts of slices and strings -/
theorem Val.subStr {S : World → Prop} {x : Operand} {lo hi : Option Operand} {t : TypeId} {s : ByteArray} (l h : Nat) (ho : o.op = .slice t x lo hi none) (ht : P.underlying t = some .string)
    (hx : Opd e x = some (.string s)) (hl : match lo with | none => l = 0 | some y => Opd e y = some (.int .i64 l)) (hh : match hi with | none => h = s.size | some y => Opd e y = some (.int .i64 h)) (h1 : l ≤ h) (h2 : h ≤ s.size) :
    Val P e o S (.string (s.extract l h)) := fun ρ hρ w _ => by
  cases lo with
  | none =>
    simp only at hl
    subst hl
    cases hi with
    | none =>
      simp only at hh
      subst hh
      simp [execOp, ho, hρ x _ hx, Instr.sliceAt, Instr.slice, Instr.sliceBounds, run_underlying ht]
    | some y =>
      simp only at hh
      simp [execOp, ho, hρ x _ hx, hρ y _ hh, Instr.sliceAt, Instr.slice, Instr.sliceBounds, Instr.sliceBound, asIntOf, run_underlying ht, h2]
  | some y =>
    simp only at hl
    cases hi with
    | none =>
      simp only at hh
      subst hh
      simp [execOp, ho, hρ x _ hx, hρ y _ hl, Instr.sliceAt, Instr.slice, Instr.sliceBounds, Instr.sliceBound, asIntOf, run_underlying ht, Nat.not_lt.2 h1]
    | some y' =>
      simp only at hh
      simp [execOp, ho, hρ x _ hx, hρ y _ hl, hρ y' _ hh, Instr.sliceAt, Instr.slice, Instr.sliceBounds, Instr.sliceBound, asIntOf, run_underlying ht, h1, h2]
theorem Val.subSl {S : World → Prop} {x : Operand} {lo hi : Option Operand} {t el : TypeId} {bytes : Nat} {z : Value} {A : Option Addr} {n c : Nat} (l h : Nat) (ho : o.op = .slice t x lo hi none) (hT : ElemT P t el bytes z)
    (hx : Opd e x = some (.slice A n c)) (hl : match lo with | none => l = 0 | some y => Opd e y = some (.int .i64 l)) (hh : match hi with | none => h = n | some y => Opd e y = some (.int .i64 h)) (h1 : l ≤ h) (h2 : h ≤ n) (h3 : n ≤ c) :
    Val P e o S (.slice (if c = l then A else A.map (·.add l)) (h - l) (c - l)) := fun ρ hρ w _ => by
  have e2 : h ≤ c := by omega
  cases lo with
  | none =>
    simp only at hl
    subst hl
    cases hi with
    | none =>
      simp only at hh
      subst hh
      simp [execOp, ho, hρ x _ hx, Instr.sliceAt, Instr.slice, Instr.sliceBounds, run_underlying hT.und, hT.sizeOf]
    | some y =>
      simp only at hh
      simp [execOp, ho, hρ x _ hx, hρ y _ hh, Instr.sliceAt, Instr.slice, Instr.sliceBounds, Instr.sliceBound, asIntOf, run_underlying hT.und, hT.sizeOf, Nat.not_lt.2 e2]
  | some y =>
    simp only at hl
    cases hi with
    | none =>
      simp only at hh
      subst hh
      simp [execOp, ho, hρ x _ hx, hρ y _ hl, Instr.sliceAt, Instr.slice, Instr.sliceBounds, Instr.sliceBound, asIntOf, run_underlying hT.und, hT.sizeOf, Nat.not_lt.2 h1]
    | some y' =>
      simp only at hh
      simp [execOp, ho, hρ x _ hx, hρ y _ hl, hρ y' _ hh, Instr.sliceAt, Instr.slice, Instr.sliceBounds, Instr.sliceBound, asIntOf, run_underlying hT.und, hT.sizeOf, h1, e2]
theorem Sl.take {A : Option Addr} {n c : Nat} {xs : List Value} (h : Sl w (.slice A n c) xs) {i : Nat} (hi : i ≤ n) : Sl w (.slice A i c) (xs.take i) := by
  have hcap := h.cap
  have hlen := h.len
  obtain ⟨A', c', hv, hl, h⟩ := h
  injection hv with hA h1 h2
  subst hA h2
  refine ⟨A, c, by rw [List.length_take, Nat.min_eq_left (by omega)], by rw [List.length_take]; omega, fun hx => ?_⟩
  obtain ⟨ad, rfl, hc⟩ := h (by rintro rfl; simp at hx)
  refine ⟨ad, rfl, fun j u hu => hc j u ?_⟩
  rw [List.getElem?_take] at hu
  split at hu
  · exact hu
  · cases hu
theorem Sl.sub {A : Option Addr} {n c : Nat} {xs : List Value} (h : Sl w (.slice A n c) xs) {l k : Nat} (hl : l ≤ k) (hk : k ≤ n) : Sl w (.slice (if c = l then A else A.map (·.add l)) (k - l) (c - l)) ((xs.take k).drop l) :=
  (h.take hk).drop hl

theorem Val.rem {S : World → Prop} {x y : Operand} {tx ty : TypeId} {k : IntKind} {a b : Int} (ho : o.op = .binOp .rem tx x y ty) (hx : Opd e x = some (.int k a)) (hy : Opd e y = some (.int k b)) (hb : b ≠ 0) (c : Int) (hc : a.tmod b = c) :
    Val P e o S (.int k c) := Val.bin ho hx hy fun w => by subst hc; simp [go_sem, Op.intDiv, hb]
theorem Val.quo {S : World → Prop} {x y : Operand} {tx ty : TypeId} {k : IntKind} {a b : Int} (ho : o.op = .binOp .quo tx x y ty) (hx : Opd e x = some (.int k a)) (hy : Opd e y = some (.int k b)) (hb : b ≠ 0) (c : Int) (hc : k.wrap (a.tdiv b) = c) :
    Val P e o S (.int k c) := Val.bin ho hx hy fun w => by subst hc; simp [go_sem, Op.intDiv, hb]
end Go.Eng
