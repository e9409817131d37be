/-
  The calculus, second part: deferred calls, panics, recover, closures, structs, boxes. Over any program.
-/
import Derived.Test.YtjdgckamjgldmaaEng
import Derived.Defers
import Derived.Recover
namespace Go.Eng
open Go.RowKit
variable {P : Program} {N : Nat} {ds : List Deferred} {e : Env} {w w' : World} {Q : Exit → Act → World → Prop} {ops : Array Oper} {rest : List Oper} {o : Oper} {a : Act}

/-! ### Panics -/
theorem Ends.seqp {K : Act → World → Prop} {ch : List PanicEntry} (h : Ends N ds Q (.panic ch) e w) : Ends N ds (Exit.then K Q) (.panic ch) e w := h
theorem Ends.blkp {id : Nat} {ch : List PanicEntry} (h : Ends N ds Q (.panic ch) e w) : Ends N ds (Exit.inBlock id Q) (.panic ch) e w := h
theorem WL.panic {x : Operand} {t : TypeId} {v : Value} (ho : o.op = .panic x) (hx : Opd e x = some (.iface t v)) (h : Ends N ds Q (.panic [{ v := .iface t v, recovered := false }]) e w)
    (hg : o.guard = none := by rfl) : WL P N ds ops Q (o :: rest) e w := fun a ha =>
  wpList_plain hg fun K _ => by
    have hρ := ha.eval x _ hx
    unfold Oper.wp
    have : (execOp a.eval o).run P w = .halt (.panic (.iface t v)) w := by simp [execOp, ho, hρ, Instr.panic]
    rw [this, Oper.upon_panic]
    exact h a ha

/-- f, called so, panics with the chain, in a world of Ψ. -/
def Panics (P : Program) (f : FuncId) (args : Array Value) (w : World) (ch : List PanicEntry) (Ψ : World → Prop) : Prop := Calls P f args w fun ex w' => ex = .panicked ch ∧ Ψ w'
theorem WL.callP {f : FuncId} {l : List Operand} {ts : Array TypeId} {vs : List Value} {ch : List PanicEntry} {Ψ : World → Prop} (hB : Bodied P f) (ho : o.op = .call { callee := .value (.func f), args := l.toArray, argTypes := ts })
    (hvs : opds e l = some vs) (hc : Panics P f vs.toArray w ch Ψ) (K : ∀ w', Ψ w' → Ends N ds Q (.panic ch) e w') (hg : o.guard = none := by rfl) : WL P N ds ops Q (o :: rest) e w :=
  WL.run hg (n := .enter f vs.toArray) (w' := w) (fun ρ hρ => by
    have h := hB vs.toArray w
    have hm := opds_map hvs hρ
    have hf : ρ (.func f) = .func (.func f) #[] #[] := hρ _ _ rfl
    simp [execOp, ho, resolve, Deferred.ofValue, hf, invoke, hm, h])
    fun a ha K' _ => by
      rw [Oper.upon_enter]
      refine Calls.mono hc ?_
      rintro _ w'' ⟨rfl, hΨ⟩
      exact K w'' hΨ a ha

/-! ### Function values -/
theorem Val.makeFunc {S : World → Prop} {f : FuncId} {l : List Operand} {vs : List Value} (ho : o.op = .makeFunc (.func f) #[] l.toArray) (hvs : opds e l = some vs) : Val P e o S (.func (.func f) #[] vs.toArray) := fun ρ hρ w _ => by
  have hm := opds_map hvs hρ
  simp [execOp, ho, Instr.makeFunc, hm]
/-- A call of a function value without arguments of its own. -/
theorem WL.callV {f : FuncId} {caps : Array Value} {x : Operand} {ts : Array TypeId} {d : Tmp} {R : Ending → World → Prop} (hB : Bodied P f) (ho : o.op = .call { callee := .value x, args := #[], argTypes := ts })
    (hx : Opd e x = some (.func (.func f) #[] caps)) (hc : Calls P f caps w R)
    (K : ∀ ex w', R ex w' → match ex with
      | .returned v => WL P N ds ops Q rest ((d, v) :: e) w'
      | .panicked ch => Ends N ds Q (.panic ch) e w'
      | .outgrown => False)
    (hg : o.guard = none := by rfl) (hd : o.dst = some d := by rfl) (hdN : d < N := by decide) : WL P N ds ops Q (o :: rest) e w :=
  WL.run hg (n := .enter f caps) (w' := w) (fun ρ hρ => by
    have h := hB caps w
    simp [execOp, ho, resolve, Deferred.ofValue, hρ x _ hx, invoke, h])
    fun a ha K' hK' => by
      rw [Oper.upon_enter]
      refine Calls.mono hc ?_
      intro ex w'' hR
      have := K ex w'' hR
      cases ex with
      | returned v =>
        simp only [] at this ⊢
        rw [hd]
        exact hK' _ _ (this _ (ha.put hdN v))
      | panicked ch => exact this a ha
      | outgrown => exact this.elim

theorem WL.callVr {f : FuncId} {caps : Array Value} {x : Operand} {ts : Array TypeId} {d : Tmp} {Φ : Value → World → Prop} (hB : Bodied P f) (ho : o.op = .call { callee := .value x, args := #[], argTypes := ts })
    (hx : Opd e x = some (.func (.func f) #[] caps)) (hc : Runs P f caps w Φ) (K : ∀ v w', Φ v w' → WL P N ds ops Q rest ((d, v) :: e) w')
    (hg : o.guard = none := by rfl) (hd : o.dst = some d := by rfl) (hdN : d < N := by decide) : WL P N ds ops Q (o :: rest) e w :=
  WL.callV hB ho hx hc (fun ex w' ⟨v, he, hΦ⟩ => by subst he; exact K v w' hΦ) hg hd hdN
theorem WL.callVp {f : FuncId} {caps : Array Value} {x : Operand} {ts : Array TypeId} {d : Tmp} {ch : List PanicEntry} {Ψ : World → Prop} (hB : Bodied P f) (ho : o.op = .call { callee := .value x, args := #[], argTypes := ts })
    (hx : Opd e x = some (.func (.func f) #[] caps)) (hc : Panics P f caps w ch Ψ) (K : ∀ w', Ψ w' → Ends N ds Q (.panic ch) e w')
    (hg : o.guard = none := by rfl) (hd : o.dst = some d := by rfl) (hdN : d < N := by decide) : WL P N ds ops Q (o :: rest) e w :=
  WL.callV hB ho hx hc (fun ex w' ⟨he, hΨ⟩ => by subst he; exact K w' hΨ) hg hd hdN

/-! ### Deferred calls -/
theorem enterD {f : FuncId} {fn : Func} {c : Code} {args : List Value} {R : Ending → World → Prop} (hf : P.funcs[f]? = some fn) (hb : fn.body = some c) (hN : fn.ntmps = N) (hle : args.length ≤ N)
    (h : CW P N [] c (bodyPostD P fn R) (argEnv 0 args) w) : Calls P f args.toArray w R := by
  refine calls_of_wp_defers hf hb (h _ ⟨rfl, by simp; omega, fun t v hv => ?_⟩)
  obtain ⟨_, h2⟩ := argEnv_get args 0 t v hv
  simp only [Nat.sub_zero] at h2
  rw [Array.getElem?_append_left (by simpa using (List.getElem?_eq_some_iff.1 h2).1)]
  simpa using h2
theorem WL.defer {x : Operand} {ts : Array TypeId} {fn : Fn} {first cap : Array Value} (ho : o.op = .defer { callee := .value x, args := #[], argTypes := ts }) (hx : Opd e x = some (.func fn first cap))
    (h : WL P N ({ target := .fn fn cap, args := first } :: ds) ops Q rest e w) (hg : o.guard = none := by rfl) (hd : o.dst = none := by rfl) : WL P N ds ops Q (o :: rest) e w :=
  WL.run hg (n := .defer { target := .fn fn cap, args := first }) (w' := w) (fun ρ hρ => by simp [execOp, ho, resolve, Deferred.ofValue, hρ x _ hx])
    fun a ha K' hK' => by
      rw [Oper.upon_defer, hd]
      exact hK' _ _ (h _ ⟨by show _ :: a.defers = _; rw [ha.defers], ha.size, ha.get⟩)

/-- The frame's slots say what e says; what is deferred runs from here. -/
def Door (P : Program) (fn : Func) (R : Ending → World → Prop) (ds : List Deferred) (u : FrameMode) (e : Env) (w : World) : Prop :=
  ∀ tmps : Array Value, (∀ t v, e.get t = some v → tmps[t]? = some v) → Leaves P fn tmps R ds u w
theorem Ends.doorRet {fn : Func} {R : Ending → World → Prop} (h : Door P fn R ds .returning e w) : Ends N ds (bodyPostD P fn R) .ret e w := fun a ha => by
  show Leaves P fn a.tmps R a.defers .returning w
  rw [ha.defers]
  exact h _ ha.get
theorem Ends.doorEnd {fn : Func} {R : Ending → World → Prop} (h : Door P fn R ds .returning e w) : Ends N ds (bodyPostD P fn R) .normal e w := fun a ha => by
  show Leaves P fn a.tmps R a.defers .returning w
  rw [ha.defers]
  exact h _ ha.get
theorem Ends.doorPanic {fn : Func} {R : Ending → World → Prop} {ch : List PanicEntry} (h : Door P fn R ds (.panicking ch) e w) : Ends N ds (bodyPostD P fn R) (.panic ch) e w := fun a ha => by
  show Leaves P fn a.tmps R a.defers (.panicking ch) w
  rw [ha.defers]
  exact h _ ha.get
/-- A deferred closure returns. -/
theorem Door.cons {fn : Func} {R : Ending → World → Prop} {f : FuncId} {cap : Array Value} {u u' : FrameMode} {Ψ : World → Prop} (hu : u ≠ .run) (hB : Bodied P f)
    (hc : CallsD P f cap u w fun ex u1 w' => (∃ v, ex = .returned v) ∧ u1 = u' ∧ Ψ w') (K : ∀ w', Ψ w' → Door P fn R ds (settle u') e w') : Door P fn R ({ target := .fn (.func f) cap, args := #[] } :: ds) u e w := fun tmps ht => by
  refine leaves_cons hu (f := f) (args := cap) ?_ ?_
  · have := hB cap w
    simpa [invoke] using this
  · refine hc.mono ?_
    rintro ex u1 w1 ⟨⟨v, rfl⟩, rfl, hΨ⟩
    exact K w1 hΨ tmps ht
theorem Door.nilRet {fn : Func} {Φ : Value → World → Prop} {v : Value} (hr : ∀ tmps : Array Value, (∀ t v, e.get t = some v → tmps[t]? = some v) → (results fn tmps).run P w = .ok v w) (h : Φ v w) :
    Door P fn (fun ex w' => ∃ v, ex = .returned v ∧ Φ v w') [] .returning e w := fun tmps ht => ⟨v, hr tmps ht, v, rfl, h⟩
theorem Door.nilPanic {fn : Func} {R : Ending → World → Prop} {ch : List PanicEntry} (h : R (.panicked ch) w) : Door P fn R [] (.panicking ch) e w := fun _ _ => h

/-! ### Recover: a deferred closure whose first statement is 'x := recover()' -/
def DPost (P : Program) (fn : Func) (R : Ending → FrameMode → World → Prop) (u : FrameMode) : Exit → Act → World → Prop
  | .normal, a, w | .ret, a, w => a.defers = [] ∧ ∃ v, (results fn a.tmps).run P w = .ok v w ∧ R (.returned v) u w
  | .panic ch, a, w => a.defers = [] ∧ R (.panicked ch) u w
  | _, _, _ => False
theorem St.ofArgs {args : List Value} {n : Nat} (hN : n = N) (hle : args.length ≤ N) : St N [] (argEnv 0 args) { tmps := args.toArray ++ Array.replicate (n - args.toArray.size) undef, defers := [] } := by
  subst hN
  refine ⟨rfl, by simp; omega, fun t v hv => ?_⟩
  obtain ⟨_, h2⟩ := argEnv_get args 0 t v hv
  simp only [Nat.sub_zero] at h2
  show (args.toArray ++ _)[t]? = _
  rw [Array.getElem?_append_left (by simpa using (List.getElem?_eq_some_iff.1 h2).1)]
  simpa using h2

section
variable {f : FuncId} {fn : Func} {id d x : Nat} {o1 o2 : Oper} {y : Code} {args : List Value} {R : Ending → FrameMode → World → Prop}
theorem recover_region {cs cs' : List Frame} {v : Value} {QS : Exit → Act → List Frame → World → Prop} (h1 : o1.op = .call { callee := .builtin .recover, args := #[], argTypes := #[] }) (d1 : o1.dst = some d) (g1 : o1.guard = none)
    (h2 : o2.op = .assign (.tmp d)) (d2 : o2.dst = some x) (g2 : o2.guard = none) (hr : recoverD cs = some (v, cs') ∨ (recoverD cs = none ∧ v = .nilIface ∧ cs' = cs)) (hsz : d < a.tmps.size)
    (h : QS .normal ((a.put (some d) v).put (some x) v) cs' w) : (Code.region id #[o1, o2] false).wpS P QS a cs w := by
  have e1 : (execOp a.eval o1).run P w = .ok .recover w := by simp [execOp, h1, resolve, invoke, builtin]
  have e2 : (execOp (a.put (some d) v).eval o2).run P w = .ok (.value v) w := by
    have : (a.put (some d) v).eval (.tmp d) = v := by simp [Act.eval, Act.put, Array.getD_eq_getD_getElem?, hsz]
    simp [execOp, h2, this]
  refine wpS_region ?_
  have hrange : List.range (#[o1, o2] : Array Oper).size = [0, 1] := rfl
  rw [hrange]
  simp only [wpOpsS, List.getElem?_toArray, List.getElem?_cons_zero, List.getElem?_cons_succ, Region.wanted, g1, g2, if_true, e1, d1]
  rcases hr with hr | ⟨hr, rfl, rfl⟩
  · simp only [hr, e2, Oper.upon, d2]
    exact h
  · simp only [hr, e2, Oper.upon, d2]
    exact h
theorem enterRecover {c : Value} {older : List PanicEntry} (hf : P.funcs[f]? = some fn) (hb : fn.body = some (.seq (.region id #[o1, o2] false) y)) (hN : fn.ntmps = N) (hle : args.length ≤ N)
    (h1 : o1.op = .call { callee := .builtin .recover, args := #[], argTypes := #[] }) (d1 : o1.dst = some d) (g1 : o1.guard = none) (h2 : o2.op = .assign (.tmp d)) (d2 : o2.dst = some x) (g2 : o2.guard = none) (hd : d < N) (hx : x < N)
    (h : CW P N [] y (DPost P fn R (.panicking ({ v := c, recovered := true } :: older))) ((x, c) :: (d, c) :: argEnv 0 args) w) :
    CallsD P f args.toArray (.panicking ({ v := c, recovered := false } :: older)) w R := by
  refine callsD_of_wpS hf hb fun c₀ cs hu => ?_
  apply wpS_seq
  have hSt := St.ofArgs (args := args) hN hle
  refine recover_region (v := c) (cs' := { c₀ with mode := .panicking ({ v := c, recovered := true } :: older) } :: cs) h1 d1 g1 h2 d2 g2 (.inl (by simp [recoverD, hu])) (by rw [hSt.size]; exact hd) ?_
  refine wpS_of_wp (wp_mono (h _ ((hSt.put hd c).put hx c)) ?_)
  intro ex a' w' hq
  cases ex with
  | normal => obtain ⟨q1, v, q2, q3⟩ := hq; exact ⟨q1, _, rfl, v, q2, q3⟩
  | ret => obtain ⟨q1, v, q2, q3⟩ := hq; exact ⟨q1, _, rfl, v, q2, q3⟩
  | panic ch => obtain ⟨q1, q3⟩ := hq; exact ⟨q1, _, rfl, q3⟩
  | exit id => exact hq
  | goto l => exact hq
  | outgrown => exact hq.elim
theorem enterIdle (hf : P.funcs[f]? = some fn) (hb : fn.body = some (.seq (.region id #[o1, o2] false) y)) (hN : fn.ntmps = N) (hle : args.length ≤ N)
    (h1 : o1.op = .call { callee := .builtin .recover, args := #[], argTypes := #[] }) (d1 : o1.dst = some d) (g1 : o1.guard = none) (h2 : o2.op = .assign (.tmp d)) (d2 : o2.dst = some x) (g2 : o2.guard = none) (hd : d < N) (hx : x < N)
    (h : CW P N [] y (DPost P fn R .returning) ((x, .nilIface) :: (d, .nilIface) :: argEnv 0 args) w) :
    CallsD P f args.toArray .returning w R := by
  refine callsD_of_wpS hf hb fun c₀ cs hu => ?_
  apply wpS_seq
  have hSt := St.ofArgs (args := args) hN hle
  refine recover_region (v := .nilIface) (cs' := c₀ :: cs) h1 d1 g1 h2 d2 g2 (.inr ⟨by simp [recoverD, hu], rfl, rfl⟩) (by rw [hSt.size]; exact hd) ?_
  refine wpS_of_wp (wp_mono (h _ ((hSt.put hd _).put hx _)) ?_)
  have hc : ({ c₀ with mode := .returning } : Frame) = c₀ := by rw [← hu]
  intro ex a' w' hq
  cases ex with
  | normal => obtain ⟨q1, v, q2, q3⟩ := hq; exact ⟨q1, .returning, by rw [hc], v, q2, q3⟩
  | ret => obtain ⟨q1, v, q2, q3⟩ := hq; exact ⟨q1, .returning, by rw [hc], v, q2, q3⟩
  | panic ch => obtain ⟨q1, q3⟩ := hq; exact ⟨q1, .returning, by rw [hc], q3⟩
  | exit id => exact hq
  | goto l => exact hq
  | outgrown => exact hq.elim
theorem Ends.dEnd {u : FrameMode} (hr : fn.results = #[]) (h : R (.returned (.tuple #[])) u w) : Ends N [] (DPost P fn R u) .normal e w := fun _ ha => ⟨ha.defers, _, results_none hr _ _ _, h⟩
theorem Ends.dRet {u : FrameMode} (hr : fn.results = #[]) (h : R (.returned (.tuple #[])) u w) : Ends N [] (DPost P fn R u) .ret e w := fun _ ha => ⟨ha.defers, _, results_none hr _ _ _, h⟩
end

/-! ### Boxes and structs -/
theorem WL.alloc {t : TypeId} {d : Tmp} {z : Value} (ho : o.op = .alloc t) (hz : ∀ w, (zeroValue t).run P w = .ok z w)
    (K : WL P N ds ops Q rest ((d, .pointer (some ⟨w.heap.size, 0, none⟩)) :: e) (w.alloc (.cells z.cells t))) (hg : o.guard = none := by rfl) (hd : o.dst = some d := by rfl) (hdN : d < N := by decide) : WL P N ds ops Q (o :: rest) e w := by
  refine WL.eff hg hd hdN (fun ρ hρ => ?_) K
  simp [execOp, ho, Instr.alloc, hz w, newVar, newRow]
theorem WL.box {t : TypeId} {x : Operand} {d : Tmp} {v : Value} (ho : o.op = .box t x) (hx : Opd e x = some v)
    (K : WL P N ds ops Q rest ((d, .pointer (some ⟨w.heap.size, 0, none⟩)) :: e) (w.alloc (.cells v.cells t))) (hg : o.guard = none := by rfl) (hd : o.dst = some d := by rfl) (hdN : d < N := by decide) : WL P N ds ops Q (o :: rest) e w := by
  refine WL.eff hg hd hdN (fun ρ hρ => ?_) K
  simp [execOp, ho, hρ x _ hx, Instr.box, newVar, newRow]
/-- Block g is a variable of one cell that holds v. -/
def Box (w : World) (g : Nat) (v : Value) : Prop := w.cell? ⟨g, 0, none⟩ = some v ∧ w.frozen? ⟨g, 0, none⟩ = false
theorem Box.new (w : World) (v : Value) (t : TypeId) : Box (w.alloc (.cells #[v] t)) w.heap.size v := ⟨cell_new w v t, World.frozen?_alloc_at _ _ _ _ rfl⟩
theorem Box.lt {g : Nat} {v : Value} (h : Box w g v) : g < w.heap.size := World.block_lt_of_cell? w _ h.1
theorem Box.alloc {g : Nat} {v : Value} (h : Box w g v) (ob : Obj) : Box (w.alloc ob) g v := ⟨(World.cell?_alloc_past _ _ _ h.lt).trans h.1, (World.frozen?_alloc_past _ _ _ h.lt).trans h.2⟩
theorem Box.below {g B : Nat} {v : Value} (h : Box w g v) (hb : Below B w w') (hg : g < B) : Box w' g v := ⟨(hb.cell (p := ⟨g, 0, none⟩) hg).trans h.1, (hb.frozen (p := ⟨g, 0, none⟩) hg).trans h.2⟩
theorem Box.set {g : Nat} {u : Value} (h : Box w g u) (v : Value) : Box (w.setCell ⟨g, 0, none⟩ v) g v := ⟨World.cell?_setCell_same w _ _ h.1, by rw [World.frozen?_setCell]; exact h.2⟩
theorem Box.far {g : Nat} {u : Value} (h : Box w g u) {p : Addr} (hp : g ≠ p.block) (v : Value) : Box (w.setCell p v) g u := ⟨(World.cell?_setCell_other w p _ v (fun he => hp (by rw [he]))).trans h.1, by rw [World.frozen?_setCell]; exact h.2⟩
theorem Box.drew {g : Nat} {v : Value} (h : Box w g v) : Box w.drew g v := h
theorem WL.allocB {t : TypeId} {d : Tmp} {z q : Value} (ho : o.op = .alloc t) (hz : ∀ w, (zeroValue t).run P w = .ok z w) (hq : z.cells = #[q])
    (K : ∀ g w', Box w' g q → g = w.heap.size → Below w.heap.size w w' → w'.heap.size = w.heap.size + 1 → WL P N ds ops Q rest ((d, .pointer (some ⟨g, 0, none⟩)) :: e) w')
    (hg : o.guard = none := by rfl) (hd : o.dst = some d := by rfl) (hdN : d < N := by decide) : WL P N ds ops Q (o :: rest) e w := by
  refine WL.alloc ho hz ?_ hg hd hdN
  rw [hq]
  exact K _ _ (Box.new w q t) rfl (below_alloc w _) (by simp)
theorem WL.boxB {t : TypeId} {x : Operand} {d : Tmp} {v q : Value} (ho : o.op = .box t x) (hx : Opd e x = some v) (hq : v.cells = #[q])
    (K : ∀ g w', Box w' g q → g = w.heap.size → Below w.heap.size w w' → w'.heap.size = w.heap.size + 1 → WL P N ds ops Q rest ((d, .pointer (some ⟨g, 0, none⟩)) :: e) w')
    (hg : o.guard = none := by rfl) (hd : o.dst = some d := by rfl) (hdN : d < N := by decide) : WL P N ds ops Q (o :: rest) e w := by
  refine WL.box ho hx ?_ hg hd hdN
  rw [hq]
  exact K _ _ (Box.new w q t) rfl (below_alloc w _) (by simp)
theorem Sl.setBox {g : Nat} {u q v : Value} {xs : List Value} (h : Sl w v xs) (hB : Box w g u) (hu : ∀ x ∈ xs, u ≠ x) : Sl (w.setCell ⟨g, 0, none⟩ q) v xs := by
  obtain ⟨A, c, hv, hl, h⟩ := h
  refine ⟨A, c, hv, hl, fun hx => ?_⟩
  obtain ⟨ad, hA, hc⟩ := h hx
  refine ⟨ad, hA, fun j x hj => ?_⟩
  rw [World.cell?_setCell_other w _ _ q ?_]
  · exact hc j x hj
  · intro he
    have h1 := hc j x hj
    rw [← he, hB.1] at h1
    injection h1 with h1
    exact hu x (List.mem_of_getElem? hj) h1
/-- A store of one cell. -/
theorem WL.store1 {t : TypeId} {x y : Operand} {ad : Addr} {v q u : Value} (ho : o.op = .store t x y) (hs : ∀ w, (sizeOf t).run P w = .ok 1 w) (hx : Opd e x = some (.pointer (some ad))) (hy : Opd e y = some v) (hv : v.cells = #[q]) (hv1 : q.oneCell' = true)
    (hc : w.cell? ad = some u) (hf : w.frozen? ad = false) (K : WL P N ds ops Q rest e (w.setCell ad q)) (hg : o.guard = none := by rfl) (hd : o.dst = none := by rfl) : WL P N ds ops Q (o :: rest) e w := by
  refine WL.eff0 hg hd (fun ρ hρ => ?_) K
  have hst : (store ad q).run P w = .ok () (w.setCell ad q) := by
    rw [run_store P w _ q .plain hv1]
    simp [hc, hf]
  simp [execOp, ho, hρ x _ hx, hρ y _ hy, Instr.storeAt, Instr.sureAddr, storeVar, hv, hs w, storeCells, Addr.add, hst]
theorem WL.storeB {t : TypeId} {x y : Operand} {g : Nat} {v q u : Value} (hB : Box w g u) (hs : ∀ w, (sizeOf t).run P w = .ok 1 w) (ho : o.op = .store t x y) (hx : Opd e x = some (.pointer (some ⟨g, 0, none⟩))) (hy : Opd e y = some v) (hv : v.cells = #[q]) (hv1 : q.oneCell' = true)
    (K : Box (w.setCell ⟨g, 0, none⟩ q) g q → WL P N ds ops Q rest e (w.setCell ⟨g, 0, none⟩ q)) (hg : o.guard = none := by rfl) (hd : o.dst = none := by rfl) : WL P N ds ops Q (o :: rest) e w :=
  WL.store1 ho hs hx hy hv hv1 hB.1 hB.2 (K (hB.set q)) hg hd
theorem Ends.panicEnd {fn : Func} {R : Ending → World → Prop} {ch : List PanicEntry} (h : R (.panicked ch) w) : Ends N [] (bodyPost P fn R) (.panic ch) e w := fun _ ha => ⟨ha.defers, h⟩
theorem Val.makeIface {S : World → Prop} {x : Operand} {t : TypeId} {v : Value} {td : TypeDesc} (ho : o.op = .makeInterface t x) (ht : P.underlying t = some td) (hn : ∀ ms, td ≠ .interface ms) (hx : Opd e x = some v) : Val P e o S (.iface t v) := fun ρ hρ w _ => by
  simp only [execOp, ho, hρ x _ hx, Instr.makeInterface, Sem.run_bind, run_underlying ht, Result.andThen_ok]
  cases td <;> simp_all
theorem Val.fieldAddr {S : World → Prop} {x : Operand} {t : TypeId} {f : Nat} {ad : Addr} (ad' : Addr) (ho : o.op = .fieldAddr t x f) (hx : Opd e x = some (.pointer (some ad)))
    (hr : ∀ w, (Instr.fieldAt t (.pointer (some ad)) f).run P w = .ok (.pointer (some ad')) w) : Val P e o S (.pointer (some ad')) := fun ρ hρ w _ => by
  simp only [execOp, ho, hρ x _ hx, Sem.run_bind, hr w]
  rfl
/-- Any operation of which a closed run equation is known. -/
theorem Val.of {S : World → Prop} {v : Value} (h : ∀ ρ : Operand → Value, (∀ x u, Opd e x = some u → ρ x = u) → ∀ w, (execOp ρ o).run P w = .ok (.value v) w) : Val P e o S v := fun ρ hρ w _ => h ρ hρ w
theorem results_cells3 {fn : Func} {p q r : Tmp} {t1 t2 t3 : TypeId} {a b c : Addr} {u v x : Value} (h : fn.results = #[.cell p t1, .cell q t2, .cell r t3])
    (h1 : ∀ w, (isAgg t1).run P w = .ok false w) (h2 : ∀ w, (isAgg t2).run P w = .ok false w) (h3 : ∀ w, (isAgg t3).run P w = .ok false w)
    (e1 : e.get p = some (.pointer (some a))) (e2 : e.get q = some (.pointer (some b))) (e3 : e.get r = some (.pointer (some c))) (c1 : w.cell? a = some u) (c2 : w.cell? b = some v) (c3 : w.cell? c = some x)
    (tmps : Array Value) (ht : ∀ t v, e.get t = some v → tmps[t]? = some v) : (results fn tmps).run P w = .ok (.tuple #[u, v, x]) w := by
  simp [results, h, ht p _ e1, ht q _ e2, ht r _ e3, asAddr, loadVar, h1 w, h2 w, h3 w, c1, c2, c3]
end Go.Eng
