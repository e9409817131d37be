/-
  The calculus, fourth part: variables that are structs, numbers that are shifted and put together. Over any program.
-/
import Derived.Test.YtjdgckamjgldmaaEngC
import Derived.Laws.Tables
import Derived.Laws.CopyOwn
namespace Go.Eng
open Go.RowKit
variable {P : Program} {N : Nat} {ds : List Deferred} {e : Env} {w w' : World} {Q : Exit → Act → World → Prop} {ops : Array Oper} {rest : List Oper} {o : Oper} {a : Act}

/-- Block g is a variable of type t whose cells are cs. -/
def Blk (w : World) (g : Nat) (t : TypeId) (cs : List Value) : Prop := w.heap[g]? = some (.cells cs.toArray t (0, 0))
theorem Blk.lt {g : Nat} {t : TypeId} {cs : List Value} (h : Blk w g t cs) : g < w.heap.size := (Array.getElem?_eq_some_iff.1 h).1
theorem Blk.at {g : Nat} {t : TypeId} {cs : List Value} (h : Blk w g t cs) (i : Nat) {v : Value} (hv : cs[i]? = some v) : w.cell? ⟨g, i, none⟩ = some v := by
  rw [cell_of_row w g i _ t _ h]
  simpa using hv
theorem Blk.thaw {g : Nat} {t : TypeId} {cs : List Value} (h : Blk w g t cs) (i : Nat) : w.frozen? ⟨g, i, none⟩ = false := by
  simp [World.frozen?, show w.heap[g]? = _ from h]
theorem Blk.fld {g : Nat} {t : TypeId} {cs : List Value} (h : Blk w g t cs) (i : Nat) {v : Value} (hv : cs[i]? = some v) : Fld w g i v := ⟨h.at i hv, h.thaw i⟩
theorem Blk.below {g B : Nat} {t : TypeId} {cs : List Value} (h : Blk w g t cs) (hb : Below B w w') (hg : g < B) : Blk w' g t cs := (hb.block g hg).trans h
theorem Blk.keep {g : Nat} {t : TypeId} {cs : List Value} (h : Blk w g t cs) (hb : Below w.heap.size w w') : Blk w' g t cs := h.below hb h.lt
theorem Blk.grown {g : Nat} {t : TypeId} {cs : List Value} {row : Option Nat} (h : Blk w g t cs) (hb : w.grownBy w' row) (hne : some g ≠ row) : Blk w' g t cs := (hb.block g h.lt hne).trans h
theorem Blk.alloc {g : Nat} {t : TypeId} {cs : List Value} (h : Blk w g t cs) (ob : Obj) : Blk (w.alloc ob) g t cs := h.keep (below_alloc w ob)
theorem Blk.drew {g : Nat} {t : TypeId} {cs : List Value} (h : Blk w g t cs) : Blk w.drew g t cs := h
theorem Blk.new (w : World) (t : TypeId) (cs : List Value) : Blk (w.alloc (.cells cs.toArray t)) w.heap.size t cs := heap_alloc_new w _
theorem Blk.set {g : Nat} {t : TypeId} {cs : List Value} (h : Blk w g t cs) (i : Nat) (v : Value) : Blk (w.setCell ⟨g, i, none⟩ v) g t (cs.set i v) := by
  simp only [Blk, World.setCell, Array.getElem?_modify, show w.heap[g]? = _ from h, if_true, Option.map_some]
  simp
theorem Blk.other {g : Nat} {t : TypeId} {cs : List Value} (h : Blk w g t cs) {p : Addr} (hp : g ≠ p.block) (v : Value) : Blk (w.setCell p v) g t cs := (setCell_block w p v g hp).trans h
theorem Blk.row {g : Nat} {t : TypeId} {cs : List Value} (h : Blk w g t cs) (cs' : List Value) : Blk (w.setRow g cs'.toArray) g t cs' := setRow_heap w g _ _ t _ h
theorem Blk.rowOther {g k : Nat} {t : TypeId} {cs : List Value} (h : Blk w g t cs) (hk : g ≠ k) (cs' : Array Value) : Blk (w.setRow k cs') g t cs := (setRow_other w k g cs' hk).trans h
/-- What was written below B is no more than one block beyond it. -/
theorem below_set {B : Nat} {p : Addr} (v : Value) (hp : B ≤ p.block) : Below B w (w.setCell p v) := (Below.refl _ _).setCell hp _

theorem WL.boxS {t : TypeId} {x : Operand} {d : Tmp} {v : Value} (cs : List Value) (ho : o.op = .box t x) (hx : Opd e x = some v) (hc : v.cells = cs.toArray)
    (K : ∀ g w', Blk w' g t cs → g = w.heap.size → Below w.heap.size w w' → w'.heap.size = w.heap.size + 1 → WL P N ds ops Q rest ((d, .pointer (some ⟨g, 0, none⟩)) :: e) w')
    (hg : o.guard = none := by rfl) (hd : o.dst = some d := by rfl) (hdN : d < N := by decide) : WL P N ds ops Q (o :: rest) e w :=
  WL.box ho hx (by rw [hc]; exact K _ _ (Blk.new w t cs) rfl (below_alloc w _) (by simp)) hg hd hdN
theorem WL.allocS {t : TypeId} {d : Tmp} {z : Value} (cs : List Value) (ho : o.op = .alloc t) (hz : ∀ w, (zeroValue t).run P w = .ok z w) (hc : z.cells = cs.toArray)
    (K : ∀ g w', Blk w' g t cs → g = w.heap.size → Below w.heap.size w w' → w'.heap.size = w.heap.size + 1 → WL P N ds ops Q rest ((d, .pointer (some ⟨g, 0, none⟩)) :: e) w')
    (hg : o.guard = none := by rfl) (hd : o.dst = some d := by rfl) (hdN : d < N := by decide) : WL P N ds ops Q (o :: rest) e w :=
  WL.alloc ho hz (by rw [hc]; exact K _ _ (Blk.new w t cs) rfl (below_alloc w _) (by simp)) hg hd hdN
section
variable {S : World → Prop}
theorem Val.fldA {x : Operand} {t : TypeId} {f g : Nat} (i : Nat) (ho : o.op = .fieldAddr t x f) (hx : Opd e x = some (.pointer (some ⟨g, 0, none⟩)))
    (hr : ∀ w, (Instr.fieldAt t (.pointer (some ⟨g, 0, none⟩)) f).run P w = .ok (.pointer (some ⟨g, i, none⟩)) w) : Val P e o S (.pointer (some ⟨g, i, none⟩)) := Val.fieldAddr _ ho hx hr
theorem Val.loadF {x : Operand} {t tb : TypeId} {g i : Nat} {cs : List Value} {v : Value} (ho : o.op = .load t x) (hx : Opd e x = some (.pointer (some ⟨g, i, none⟩))) (hp : ∀ w, (isAgg t).run P w = .ok false w)
    (hB : ∀ w, S w → Blk w g tb cs) (hv : cs[i]? = some v) : Val P e o S v := Val.load ho hp hx (fun w hw => (hB w hw).at i hv)
/-- A whole struct is read. -/
theorem Val.loadS {x : Operand} {t tb : TypeId} {g : Nat} {cs : List Value} {fs : _} (ht : P.underlying t = some (.struct fs)) (hi : (P.info? t).map (·.size) = some cs.length) (ho : o.op = .load t x)
    (hx : Opd e x = some (.pointer (some ⟨g, 0, none⟩))) (hB : ∀ w, S w → Blk w g tb cs) : Val P e o S (.agg cs.toArray) := fun ρ hρ w hw => by
  have h := run_loadVar_row (P := P) w g tb t cs.toArray (0, 0) (.struct fs) (hB w hw) ht rfl (by rw [hi]; simp)
  simp [execOp, ho, hρ x _ hx, Instr.loadAt, Instr.sureAddr, h]
end
theorem WL.storeF {t tb : TypeId} {x y : Operand} {g i : Nat} {cs : List Value} {v q u : Value} (hB : Blk w g tb cs) (hu : cs[i]? = some u) (hs : ∀ w, (sizeOf t).run P w = .ok 1 w) (ho : o.op = .store t x y) (hx : Opd e x = some (.pointer (some ⟨g, i, none⟩))) (hy : Opd e y = some v) (hv : v.cells = #[q]) (hv1 : q.oneCell' = true)
    (K : ∀ w', Blk w' g tb (cs.set i q) → w' = w.setCell ⟨g, i, none⟩ q → WL P N ds ops Q rest e w') (hg : o.guard = none := by rfl) (hd : o.dst = none := by rfl) : WL P N ds ops Q (o :: rest) e w :=
  WL.store1 ho hs hx hy hv hv1 (hB.at i hu) (hB.thaw i) (K _ (hB.set i q) rfl) hg hd
/-- A whole struct is written. -/
theorem WL.storeS {t tb : TypeId} {x y : Operand} {g : Nat} {cs cs' : List Value} (hB : Blk w g tb cs) (hi : (P.info? t).map (·.size) = some cs'.length) (hl : cs.length = cs'.length) (ho : o.op = .store t x y)
    (hx : Opd e x = some (.pointer (some ⟨g, 0, none⟩))) (hy : Opd e y = some (.agg cs'.toArray)) (h1 : ∀ q ∈ cs', q.oneCell' = true)
    (K : ∀ w', Blk w' g tb cs' → w' = w.setRow g cs'.toArray → WL P N ds ops Q rest e w') (hg : o.guard = none := by rfl) (hd : o.dst = none := by rfl) : WL P N ds ops Q (o :: rest) e w := by
  have h := run_storeVar_row (P := P) w g tb t cs.toArray cs'.toArray hB (by rw [hi]; simp) (by simpa using hl) (by rw [Array.all_eq_true_iff_forall_mem]; intro q hq; exact h1 q (by simpa using hq))
  refine WL.eff0 hg hd (fun ρ hρ => ?_) (K _ (hB.row cs') rfl)
  simp [execOp, ho, hρ x _ hx, hρ y _ hy, Instr.storeAt, Instr.sureAddr, h]

theorem Val.subSlHi {S : World → Prop} {x y : Operand} {t el : TypeId} {bytes : Nat} {z : Value} {A : Option Addr} {n c h : Nat} {k : IntKind} (ho : o.op = .slice t x none (some y) none) (hT : ElemT P t el bytes z)
    (hx : Opd e x = some (.slice A n c)) (hy : Opd e y = some (.int k h)) (h2 : h ≤ c) :
    Val P e o S (.slice (if c = 0 then A else A.map (·.add 0)) (h - 0) (c - 0)) := fun ρ hρ w _ => by
  simp [execOp, ho, hρ x _ hx, hρ y _ hy, Instr.sliceAt, Instr.slice, Instr.sliceBounds, Instr.sliceBound, asIntOf, run_underlying hT.und, hT.sizeOf, Nat.not_lt.2 h2]
theorem run_loadBlk {t tb : TypeId} {g : Nat} {cs : List Value} {fs : _} (ht : P.underlying t = some (.struct fs)) (hi : (P.info? t).map (·.size) = some cs.length) (hB : Blk w g tb cs) : (loadVar t ⟨g, 0, none⟩).run P w = .ok (.agg cs.toArray) w :=
  run_loadVar_row (P := P) w g tb t cs.toArray (0, 0) (.struct fs) hB ht rfl (by rw [hi]; simp)
theorem Ends.retS {fn : Func} {p : Tmp} {t tb : TypeId} {g : Nat} {cs : List Value} {fs : _} {Φ : Value → World → Prop} (ht : P.underlying t = some (.struct fs)) (hi : (P.info? t).map (·.size) = some cs.length) (hB : Blk w g tb cs) (hr : fn.results = #[.cell p t])
    (hv : e.get p = some (.pointer (some ⟨g, 0, none⟩))) (h : Φ (.agg cs.toArray) w) : Ends N [] (bodyPost P fn fun ex w' => ∃ v, ex = .returned v ∧ Φ v w') .ret e w := fun a ha => by
  have h1 := ha.eval (.tmp p) _ hv
  simp only [Act.eval, Array.getD_eq_getD_getElem?] at h1
  refine bodyPost_ret (v := .agg cs.toArray) ?_ ha.defers ⟨_, rfl, h⟩
  simp [results, hr, h1, asAddr, run_loadBlk ht hi hB]
theorem Ends.retS1 {fn : Func} {p q : Tmp} {t tb : TypeId} {g : Nat} {cs : List Value} {fs : _} {u : Value} {Φ : Value → World → Prop} (ht : P.underlying t = some (.struct fs)) (hi : (P.info? t).map (·.size) = some cs.length) (hB : Blk w g tb cs) (hr : fn.results = #[.cell p t, .tmp q])
    (hv : e.get p = some (.pointer (some ⟨g, 0, none⟩))) (hu : e.get q = some u) (h : Φ (.tuple #[.agg cs.toArray, u]) w) : Ends N [] (bodyPost P fn fun ex w' => ∃ v, ex = .returned v ∧ Φ v w') .ret e w := fun a ha => by
  have h1 := ha.eval (.tmp p) _ hv
  have h2 := ha.eval (.tmp q) _ hu
  simp only [Act.eval, Array.getD_eq_getD_getElem?] at h1 h2
  refine bodyPost_ret (v := .tuple #[.agg cs.toArray, u]) ?_ ha.defers ⟨_, rfl, h⟩
  simp [results, hr, h1, h2, asAddr, run_loadBlk ht hi hB]

/-! ### Numbers -/
section
variable {S : World → Prop}
theorem Val.shr {x y : Operand} {tx ty : TypeId} {k j : IntKind} {a b : Int} (ho : o.op = .binOp .shr tx x y ty) (hx : Opd e x = some (.int k a)) (hy : Opd e y = some (.int j b)) (c : Int)
    (hc : ¬ b < 0 ∧ a.fdiv (2 ^ (min b.toNat k.bits)) = c) : Val P e o S (.int k c) := Val.bin ho hx hy fun w => by
  obtain ⟨hc0, hc1⟩ := hc
  subst hc1
  have h1 : eqGuard .shr tx x y (.int k a) (.int j b) = pure () := rfl
  have h2 : binOp .shr tx (.int k a) (.int j b) = Op.shift .shr k a j b := rfl
  rw [h1, h2, Sem.run_bind, Sem.run_pure, Result.andThen_ok]
  simp only [Op.shift, if_neg hc0, Sem.run_pure]
theorem Val.shl {x y : Operand} {tx ty : TypeId} {k j : IntKind} {a b : Int} (ho : o.op = .binOp .shl tx x y ty) (hx : Opd e x = some (.int k a)) (hy : Opd e y = some (.int j b)) (c : Int)
    (hc : ¬ b < 0 ∧ k.wrap (a * 2 ^ (min b.toNat k.bits)) = c) : Val P e o S (.int k c) := Val.bin ho hx hy fun w => by
  obtain ⟨hc0, hc1⟩ := hc
  subst hc1
  have h1 : eqGuard .shl tx x y (.int k a) (.int j b) = pure () := rfl
  have h2 : binOp .shl tx (.int k a) (.int j b) = Op.shift .shl k a j b := rfl
  rw [h1, h2, Sem.run_bind, Sem.run_pure, Result.andThen_ok]
  simp only [Op.shift, if_neg hc0, Sem.run_pure]
theorem ofInt_nat (k a : Nat) : BitVec.ofInt k (a : Int) = BitVec.ofNat k a := by simp
theorem wrap_nat {k : IntKind} {a : Nat} (hk : k.signed = false) (h : a < 2 ^ k.bits) : k.wrap (a : Int) = a := by
  cases k <;> simp only [IntKind.signed] at hk <;> first | (cases hk) | skip
  all_goals simp only [IntKind.bits] at h
  · rw [IntKind.wrap_u8]; omega
  · rw [IntKind.wrap_u16]; omega
  · rw [IntKind.wrap_u32]; omega
  · rw [IntKind.wrap_u64]; omega
/-- '|' of numbers whose bits do not meet. -/
theorem Val.orN {x y : Operand} {tx ty : TypeId} {k : IntKind} {a b : Nat} (hk : k.signed = false) (ho : o.op = .binOp .or tx x y ty) (hx : Opd e x = some (.int k a)) (hy : Opd e y = some (.int k b)) (ha : a < 2 ^ k.bits) (hb : b < 2 ^ k.bits) (c : Nat) (hc : a ||| b = c) :
    Val P e o S (.int k (c : Nat)) := Val.bin ho hx hy fun w => by
  subst hc
  have h1 : eqGuard .or tx x y (.int k a) (.int k b) = pure () := rfl
  have h2 : binOp .or tx (.int k a) (.int k b) = Op.intBits .or k a b := by simp [binOp]
  have h3 : Op.intBits .or k a b = pure (.int k (k.wrap ((BitVec.ofInt k.bits (a : Int) ||| BitVec.ofInt k.bits (b : Int)).toNat))) := rfl
  have h4 : (BitVec.ofNat k.bits a ||| BitVec.ofNat k.bits b).toNat = a ||| b := by
    rw [BitVec.toNat_or, BitVec.toNat_ofNat, BitVec.toNat_ofNat, Nat.mod_eq_of_lt ha, Nat.mod_eq_of_lt hb]
  rw [h1, h2, h3, ofInt_nat, ofInt_nat, h4, Sem.run_bind, Sem.run_pure, Result.andThen_ok, Sem.run_pure, wrap_nat hk (Nat.or_lt_two_pow ha hb)]
theorem Val.andN {x y : Operand} {tx ty : TypeId} {k : IntKind} {a b : Nat} (hk : k.signed = false) (ho : o.op = .binOp .and tx x y ty) (hx : Opd e x = some (.int k a)) (hy : Opd e y = some (.int k b)) (ha : a < 2 ^ k.bits) (hb : b < 2 ^ k.bits) (c : Nat) (hc : a &&& b = c) :
    Val P e o S (.int k (c : Nat)) := Val.bin ho hx hy fun w => by
  subst hc
  have h1 : eqGuard .and tx x y (.int k a) (.int k b) = pure () := rfl
  have h2 : binOp .and tx (.int k a) (.int k b) = Op.intBits .and k a b := by simp [binOp]
  have h3 : Op.intBits .and k a b = pure (.int k (k.wrap ((BitVec.ofInt k.bits (a : Int) &&& BitVec.ofInt k.bits (b : Int)).toNat))) := rfl
  have h4 : (BitVec.ofNat k.bits a &&& BitVec.ofNat k.bits b).toNat = a &&& b := by
    rw [BitVec.toNat_and, BitVec.toNat_ofNat, BitVec.toNat_ofNat, Nat.mod_eq_of_lt ha, Nat.mod_eq_of_lt hb]
  rw [h1, h2, h3, ofInt_nat, ofInt_nat, h4, Sem.run_bind, Sem.run_pure, Result.andThen_ok, Sem.run_pure, wrap_nat hk (Nat.lt_of_le_of_lt Nat.and_le_left ha)]
def fopds (e : Env) : List (Nat × Operand) → Option (List (Nat × Value))
  | [] => some []
  | (i, x) :: r => match Opd e x, fopds e r with
    | some v, some vs => some ((i, v) :: vs)
    | _, _ => none
theorem fopds_map {l : List (Nat × Operand)} {vs : List (Nat × Value)} (h : fopds e l = some vs) {ρ : Operand → Value} (hρ : ∀ x u, Opd e x = some u → ρ x = u) : l.map (fun p => (p.1, ρ p.2)) = vs := by
  induction l generalizing vs with
  | nil => simp [fopds] at h; simp [h]
  | cons x r ih =>
    obtain ⟨i, x⟩ := x
    unfold fopds at h
    split at h
    · rename_i v vs' h1 h2
      simp at h
      subst h
      simp [hρ x v h1, ih h2]
    · cases h
/-- A literal of a struct. -/
theorem Val.buildF {t : TypeId} {l : List (Nat × Operand)} {vs : List (Nat × Value)} {v : Value} (ho : o.op = .build t l.toArray) (hvs : fopds e l = some vs) (hr : ∀ w, (Instr.build t vs.toArray).run P w = .ok v w) : Val P e o S v := fun ρ hρ w _ => by
  have hm := fopds_map hvs hρ
  simp only [execOp, ho, Sem.run_bind, List.map_toArray, hm, hr w]
  rfl
/-- 'max' of several. -/
def maxL (a : Int) : List Int → Int
  | [] => a
  | b :: r => maxL (if b > a then b else a) r
theorem run_maxL (k : IntKind) (l : List Int) : ∀ (a : Int) (w : World), ((l.map (Value.int k)).foldlM Builtin.max2 (.int k a)).run P w = .ok (.int k (maxL a l)) w := by
  induction l with
  | nil => intro a w; rfl
  | cons b l ih =>
    intro a w
    simp only [List.map_cons, List.foldlM_cons, maxL, Sem.run_bind, Builtin.max2, Sem.run_pure, Result.andThen_ok]
    exact ih _ w
theorem Val.maxN {xs : List Operand} {ts : Array TypeId} {k : IntKind} {a : Int} {l : List Int} (ho : o.op = .call { callee := .builtin .max, args := xs.toArray, argTypes := ts })
    (hx : opds e xs = some (.int k a :: l.map (Value.int k))) : Val P e o S (.int k (maxL a l)) := fun ρ hρ w _ => by
  have hm := opds_map hx hρ
  have := run_maxL (P := P) k l a w
  simp [execOp, ho, resolve, invoke, builtin, hm, Builtin.max_, this]
theorem maxL_gt (l : List Int) : ∀ (a c : Int), c < maxL a l ↔ (c < a ∨ ∃ x ∈ l, c < x) := by
  induction l with
  | nil => intro a c; simp [maxL]
  | cons b l ih =>
    intro a c
    rw [maxL, ih]
    simp only [List.mem_cons, exists_eq_or_imp]
    constructor
    · rintro (h | h)
      · split at h
        · exact .inr (.inl h)
        · exact .inl h
      · exact .inr (.inr h)
    · rintro (h | h | h)
      · left; split <;> omega
      · left; split <;> omega
      · exact .inr h
end

/-- A literal of several elements: its block. -/
theorem WL.buildX {l : List Operand} {t el : TypeId} {bytes : Nat} {z : Value} {d : Tmp} {vs : List Value} (hT : ElemT P t el bytes z) (ho : o.op = .buildSlice t l.length (enumP 0 l).toArray)
    (hx : opds e l = some vs) (hv : ∀ v ∈ vs, v.cells = #[v]) (hn : l.length ≤ 10000) (hn0 : 0 < l.length)
    (K : ∀ g w', Blk w' g el vs → g = w.heap.size → Below w.heap.size w w' → w'.heap.size = w.heap.size + 1 → WL P N ds ops Q rest ((d, .slice (some ⟨g, 0, none⟩) l.length l.length) :: e) w')
    (hg : o.guard = none := by rfl) (hd : o.dst = some d := by rfl) (hdN : d < N := by decide) : WL P N ds ops Q (o :: rest) e w :=
  WL.build hT ho hx hv hn hn0 (fun _ => K _ _ (Blk.new w el vs) rfl (below_alloc w _) (by simp)) hg hd hdN
theorem Blk.sl {g : Nat} {t : TypeId} {cs : List Value} (h : Blk w g t cs) {n : Nat} (hn : n = cs.length) : Sl w (.slice (some ⟨g, 0, none⟩) n n) cs := by
  subst hn
  refine ⟨_, _, rfl, Nat.le_refl _, fun _ => ⟨_, rfl, fun j u hu => ?_⟩⟩
  rw [Addr.add_lit, Nat.zero_add]
  exact h.at j hu
theorem apart_own {b b' : Option Nat} {g : Nat} (hlt : g < w.heap.size) (hne : b ≠ some g) (hat : b' = b ∨ ∃ k, b' = some k ∧ w.heap.size ≤ k) : b' ≠ some g := by
  rcases hat with h | ⟨k, h, hk⟩
  · rw [h]; exact hne
  · rw [h]
    intro he
    injection he with he
    omega
theorem shr_nat {k : IntKind} {n s m : Nat} (hs : s ≤ k.bits) (hm : m = 2 ^ s) : ¬ (s : Int) < 0 ∧ (n : Int).fdiv (2 ^ (min (s : Int).toNat k.bits)) = ((n / m : Nat) : Int) := by
  refine ⟨by omega, ?_⟩
  have h2 : (2 : Int) ^ s = ((2 ^ s : Nat) : Int) := by push_cast; rfl
  rw [Int.toNat_natCast, Nat.min_eq_left hs, h2, Int.fdiv_eq_ediv_of_nonneg _ (Int.natCast_nonneg _), hm]
  exact (Int.natCast_ediv n (2 ^ s)).symm

theorem shl_nat {k : IntKind} {n s m : Nat} (hu : k.signed = false) (hs : s ≤ k.bits) (hm : m = 2 ^ s) (h : n * m < 2 ^ k.bits) : ¬ (s : Int) < 0 ∧ k.wrap ((n : Int) * 2 ^ (min (s : Int).toNat k.bits)) = ((n * m : Nat) : Int) := by
  refine ⟨by omega, ?_⟩
  have h2 : (2 : Int) ^ s = ((2 ^ s : Nat) : Int) := by push_cast; rfl
  rw [Int.toNat_natCast, Nat.min_eq_left hs, h2, ← hm, ← Int.natCast_mul]
  exact wrap_nat hu h
theorem or_hi {x m y : Nat} (i : Nat) (hm : m = 2 ^ i) (hy : y < m) : x * m ||| y = x * m + y := by
  subst hm
  rw [Nat.mul_comm, Nat.two_pow_add_eq_or_of_lt hy]

/-! ### Branches that meet, in worlds of their own -/
theorem WL.forkX {α : Type} {l : List Oper} (E : α → Env) (J : α → World → Prop) (tail : ∀ x w', J x w' → WL P N ds ops Q rest (E x) w') (br : (∀ x w', J x w' → WL P N ds ops Q rest (E x) w') → WL P N ds ops Q l e w) : WL P N ds ops Q l e w := br tail
theorem WH.forkX {α : Type} {S : World → Prop} {fuel f' : Nat} {listed L' : Array Bool} (E : α → Env) (J : α → World → Prop) (tail : ∀ x w', J x w' → WH P N ds ops Q S f' L' (E x) w') (br : (∀ x w', J x w' → WH P N ds ops Q S f' L' (E x) w') → WH P N ds ops Q S fuel listed e w) : WH P N ds ops Q S fuel listed e w := br tail
theorem WL.join {l : List Oper} {e' : Env} (hs : Sub e' e) (h : WL P N ds ops Q l e' w) : WL P N ds ops Q l e w := WL.sub e' hs h
end Go.Eng
