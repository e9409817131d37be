/-
  The calculus, third part: variables of several cells, strings that are ranged over, calls that return or panic. Over any program.
-/
import Derived.Test.YtjdgckamjgldmaaEngB
import GoSem.Core.Utf8
namespace Go.Eng
open Go.RowKit
variable {P : Program} {N : Nat} {ds : List Deferred} {e : Env} {w w' : World} {Q : Exit → Act → World → Prop} {ops : Array Oper} {rest : List Oper} {o : Oper} {a : Act}

/-- Cell i of block g holds v. -/
def Fld (w : World) (g i : Nat) (v : Value) : Prop := w.cell? ⟨g, i, none⟩ = some v ∧ w.frozen? ⟨g, i, none⟩ = false
theorem Fld.lt {g i : Nat} {v : Value} (h : Fld w g i v) : g < w.heap.size := World.block_lt_of_cell? w _ h.1
theorem Fld.grown {g i : Nat} {v : Value} {row : Option Nat} (h : Fld w g i v) (hb : w.grownBy w' row) (hne : some g ≠ row) : Fld w' g i v := by
  have hk := hb.block g h.lt hne
  exact ⟨by rw [← h.1]; simp [World.cell?, hk], by rw [← h.2]; simp [World.frozen?, hk]⟩
theorem Fld.below {g i B : Nat} {v : Value} (h : Fld w g i v) (hb : Below B w w') (hg : g < B) : Fld w' g i v := ⟨(hb.cell (p := ⟨g, i, none⟩) hg).trans h.1, (hb.frozen (p := ⟨g, i, none⟩) hg).trans h.2⟩
theorem Fld.set {g i : Nat} {u : Value} (h : Fld w g i u) (v : Value) : Fld (w.setCell ⟨g, i, none⟩ v) g i v := ⟨World.cell?_setCell_same w _ _ h.1, by rw [World.frozen?_setCell]; exact h.2⟩
theorem Fld.far {g i : Nat} {u : Value} (h : Fld w g i u) {p : Addr} (hp : p ≠ ⟨g, i, none⟩) (v : Value) : Fld (w.setCell p v) g i u := ⟨(World.cell?_setCell_other w p _ v hp).trans h.1, by rw [World.frozen?_setCell]; exact h.2⟩
theorem Fld.drew {g i : Nat} {v : Value} (h : Fld w g i v) : Fld w.drew g i v := h
theorem setCell_block (w : World) (p : Addr) (v : Value) (k : Nat) (hk : k ≠ p.block) : (w.setCell p v).heap[k]? = w.heap[k]? := by
  simp [World.setCell, Array.getElem?_modify, Ne.symm hk]
theorem grownBy_set1 (w : World) (p : Addr) (v : Value) : w.grownBy (w.setCell p v) (some p.block) :=
  ⟨rfl, rfl, rfl, by simp [World.setCell], fun k _ hne => setCell_block w p v k (fun he => hne (by rw [he]))⟩

/-- What is no row of cells stays as it was. -/
def Still (w w' : World) : Prop := ∀ (k : Nat) (ob : Obj), w.heap[k]? = some ob → (∀ cs t f, ob ≠ .cells cs t f) → w'.heap[k]? = some ob
theorem Still.refl (w : World) : Still w w := fun _ _ h _ => h
theorem Still.trans {w1 w2 w3 : World} (h : Still w1 w2) (h' : Still w2 w3) : Still w1 w3 := fun k ob hk hn => h' k ob (h k ob hk hn) hn
theorem Still.drew (w : World) : Still w w.drew := fun _ _ h _ => h
theorem Still.below (h : Below w.heap.size w w') : Still w w' := fun k _ hk _ => (h.block k (Array.getElem?_eq_some_iff.1 hk).1).trans hk
theorem Still.setCell (w : World) (p : Addr) (v : Value) : Still w (w.setCell p v) := fun k ob hk hn => by
  by_cases hp : k = p.block
  · subst hp
    simp only [World.setCell, Array.getElem?_modify, hk, if_true, Option.map_some]
  · rw [setCell_block w p v k hp]
    exact hk
theorem Still.grown {base : Nat} {el : TypeId} {v : Value} {n : Nat} {xs : List Value} (h : w.ownsRow base el 1 v n xs) (hg : w.grownBy w' v.ownBlock) : Still w w' := fun k ob hk hn => by
  refine (hg.block k (Array.getElem?_eq_some_iff.1 hk).1 ?_).trans hk
  rcases h.2 with ⟨rfl, _⟩ | ⟨g, cap, cur, rfl, _, hgg, _⟩
  · simp [Value.ownBlock]
  · intro he
    simp only [Value.ownBlock, Option.some.injEq] at he
    subst he
    rw [hgg] at hk
    cases hk
    exact hn _ _ _ rfl

/-! ### A string that is ranged over -/
def Iter (w : World) (r : Nat) (s : ByteArray) (pos : Nat) : Prop := w.heap[r]? = some (.stringIter s pos)
theorem Iter.calm {r pos : Nat} {s : ByteArray} (h : Iter w r s pos) (hc : Still w w') : Iter w' r s pos := hc r _ h (by intro cs t f hh; cases hh)
theorem WL.range {x : Operand} {t : TypeId} {s : ByteArray} {d : Tmp} (ho : o.op = .range t x) (ht : P.underlying t = some .string) (hx : Opd e x = some (.string s))
    (K : ∀ r w', Iter w' r s 0 → r = w.heap.size → Below w.heap.size w w' → w'.heap.size = w.heap.size + 1 → WL P N ds ops Q rest ((d, .pointer (some ⟨r, 0, none⟩)) :: e) w')
    (hg : o.guard = none := by rfl) (hd : o.dst = some d := by rfl) (hdN : d < N := by decide) : WL P N ds ops Q (o :: rest) e w := by
  refine WL.eff (w' := w.alloc (.stringIter s 0)) hg hd hdN (fun ρ hρ => ?_) (K w.heap.size _ (heap_alloc_new w _) rfl (below_alloc w _) (by simp))
  simp [execOp, ho, hρ x _ hx, Instr.range, run_underlying ht]
def World.putIter (w : World) (r : Nat) (s : ByteArray) (pos : Nat) : World := { w with heap := w.heap.setIfInBounds r (.stringIter s pos) }
theorem grownBy_putIter (w : World) (r : Nat) (s : ByteArray) (pos : Nat) : w.grownBy (World.putIter w r s pos) (some r) :=
  ⟨rfl, rfl, rfl, by simp [World.putIter], fun k _ hne => by
    have : r ≠ k := fun h => hne (by rw [h])
    simp [World.putIter, Array.getElem?_setIfInBounds_ne this]⟩
theorem below_putIter (w : World) (r : Nat) (s : ByteArray) (pos : Nat) : Below r w (World.putIter w r s pos) :=
  ⟨rfl, rfl, rfl, by simp [World.putIter], fun k hk => (grownBy_putIter w r s pos).block k |> fun h => by
    have hne : r ≠ k := by omega
    simp [World.putIter, Array.getElem?_setIfInBounds_ne hne]⟩
theorem WL.nextS {x : Operand} {s : ByteArray} {r pos : Nat} {d : Tmp} (hI : Iter w r s pos) (ho : o.op = .next x true) (hx : Opd e x = some (.pointer (some ⟨r, 0, none⟩)))
    (hlt : pos < s.size) (K : Iter (World.putIter w r s (pos + (Utf8.decode s pos).2)) r s (pos + (Utf8.decode s pos).2) →
      WL P N ds ops Q rest ((d, .tuple #[.bool true, .int .i64 pos, .int .i32 (Utf8.decode s pos).1]) :: e) (World.putIter w r s (pos + (Utf8.decode s pos).2)))
    (hg : o.guard = none := by rfl) (hd : o.dst = some d := by rfl) (hdN : d < N := by decide) : WL P N ds ops Q (o :: rest) e w := by
  have hrs : r < w.heap.size := (Array.getElem?_eq_some_iff.1 hI).1
  refine WL.eff hg hd hdN (fun ρ hρ => ?_) (K (by simp [Iter, World.putIter, hrs]))
  have h1 : (getObj r).run P w = .ok (.stringIter s pos) w := by simp only [getObj, Sem.run, show w.heap[r]? = _ from hI]
  have h2 : ∀ ob, (setObj r ob).run P w = .ok () { w with heap := w.heap.setIfInBounds r ob } := fun ob => by simp only [setObj, Sem.run, show w.heap[r]? = _ from hI]
  simp [execOp, ho, hρ x _ hx, Instr.next, h1, h2, hlt, goInt, World.putIter]
theorem WL.overS {x : Operand} {s : ByteArray} {r pos : Nat} {d : Tmp} (hI : Iter w r s pos) (ho : o.op = .next x true) (hx : Opd e x = some (.pointer (some ⟨r, 0, none⟩)))
    (hlt : ¬ pos < s.size) (K : WL P N ds ops Q rest ((d, .tuple #[.bool false]) :: e) w)
    (hg : o.guard = none := by rfl) (hd : o.dst = some d := by rfl) (hdN : d < N := by decide) : WL P N ds ops Q (o :: rest) e w := by
  refine WL.eff hg hd hdN (fun ρ hρ => ?_) K
  have h1 : (getObj r).run P w = .ok (.stringIter s pos) w := by simp only [getObj, Sem.run, show w.heap[r]? = _ from hI]
  simp [execOp, ho, hρ x _ hx, Instr.next, h1, hlt]

/-! ### Drawn regions whose branches meet -/
theorem WH.fork {S : World → Prop} {fuel f' : Nat} {listed L' : Array Bool} {e' : Env} {w' : World} (tail : WH P N ds ops Q S f' L' e' w') (br : WH P N ds ops Q S f' L' e' w' → WH P N ds ops Q S fuel listed e w) : WH P N ds ops Q S fuel listed e w := br tail
theorem WH.join {S : World → Prop} {f' : Nat} {listed L' : Array Bool} {e' : Env} (h : WH P N ds ops Q S f' L' e' w) (hL : listed = L') (hs : Sub e' e) : WH P N ds ops Q S f' listed e w := fun a ha hS => by
  subst hL
  exact h a (ha.sub hs) hS

/-! ### Functions that return or panic -/
theorem Ends.retR {fn : Func} {R : Ending → World → Prop} (hr : fn.results = #[]) (h : R (.returned (.tuple #[])) w) : Ends N [] (bodyPost P fn R) .ret e w := fun _ ha => bodyPost_ret (results_none hr _ _ _) ha.defers h
theorem Ends.endR {fn : Func} {R : Ending → World → Prop} (hr : fn.results = #[]) (h : R (.returned (.tuple #[])) w) : Ends N [] (bodyPost P fn R) .normal e w := fun _ ha => bodyPost_end (results_none hr _ _ _) ha.defers h
theorem Ends.ret2R {fn : Func} {t u : Tmp} {R : Ending → World → Prop} {v x : Value} (hr : fn.results = #[.tmp t, .tmp u]) (hv : e.get t = some v) (hx : e.get u = some x) (h : R (.returned (.tuple #[v, x])) w) :
    Ends N [] (bodyPost P fn R) .ret e w := fun a ha => by
  refine bodyPost_ret (results_tmp2 hr _ _ _) ha.defers ?_
  have h1 := ha.eval (.tmp t) v hv
  have h2 := ha.eval (.tmp u) x hx
  simp only [Act.eval] at h1 h2
  rw [h1, h2]
  exact h

/-! ### Branches that meet -/
theorem WL.fork {l : List Oper} {e' : Env} (tail : WL P N ds ops Q rest e' w) (br : WL P N ds ops Q rest e' w → WL P N ds ops Q l e w) : WL P N ds ops Q l e w := br tail
theorem Val.build {S : World → Prop} {t : TypeId} {v : Value} (ho : o.op = .build t #[]) (hr : ∀ w, (Instr.build t #[]).run P w = .ok v w) : Val P e o S v := fun ρ _ w _ => by
  simp only [execOp, ho, Sem.run_bind, List.map_toArray, List.map_nil, hr w]
  rfl
theorem WL.boxC {t : TypeId} {x : Operand} {d : Tmp} {v : Value} (ho : o.op = .box t x) (hx : Opd e x = some v)
    (K : ∀ g w', g = w.heap.size → w' = w.alloc (.cells v.cells t) → Below w.heap.size w w' → w'.heap.size = w.heap.size + 1 → WL P N ds ops Q rest ((d, .pointer (some ⟨g, 0, none⟩)) :: e) w')
    (hg : o.guard = none := by rfl) (hd : o.dst = some d := by rfl) (hdN : d < N := by decide) : WL P N ds ops Q (o :: rest) e w :=
  WL.box ho hx (K _ _ rfl rfl (below_alloc w _) (by simp)) hg hd hdN
theorem Fld.new {i : Nat} {cs : Array Value} {t : TypeId} {v : Value} (h : cs[i]? = some v) : Fld (w.alloc (.cells cs t)) w.heap.size i v :=
  ⟨by rw [World.cell?_alloc_at _ _ _ _ rfl]; exact h, World.frozen?_alloc_at _ _ _ _ rfl⟩
theorem WL.nextD {o1 o2 : Oper} {x : Operand} {s : ByteArray} {r pos : Nat} {d1 d2 : Tmp} (hI : Iter w r s pos) (h1 : o1.op = .next x true) (h2 : o2.op = .extract (.tmp d1) 0) (hx : Opd e x = some (.pointer (some ⟨r, 0, none⟩)))
    (K : ∀ X W', (pos < s.size → X = .tuple #[.bool true, .int .i64 pos, .int .i32 (Utf8.decode s pos).1] ∧ Iter W' r s (pos + (Utf8.decode s pos).2) ∧ w.grownBy W' (some r) ∧ Below r w W') → (¬ pos < s.size → W' = w) →
      WL P N ds ops Q rest ((d2, .bool (decide (pos < s.size))) :: (d1, X) :: e) W')
    (g1 : o1.guard = none := by rfl) (e1 : o1.dst = some d1 := by rfl) (g2 : o2.guard = none := by rfl) (e2 : o2.dst = some d2 := by rfl) (hd1 : d1 < N := by decide) (hd2 : d2 < N := by decide) : WL P N ds ops Q (o1 :: o2 :: rest) e w := by
  by_cases hlt : pos < s.size
  · refine WL.nextS hI h1 hx hlt (fun hI2 => ?_) g1 e1 hd1
    have hk := K _ _ (fun _ => ⟨rfl, hI2, grownBy_putIter w r s _, below_putIter w r s _⟩) (fun h => absurd hlt h)
    rw [decide_eq_true hlt] at hk
    exact WL.v (Val.extract h2 (by simp [Opd, Env.get]; rfl) rfl) hk g2 e2 hd2
  · refine WL.overS hI h1 hx hlt ?_ g1 e1 hd1
    have hk := K (.tuple #[.bool false]) w (fun h => absurd h hlt) (fun _ => rfl)
    rw [decide_eq_false hlt] at hk
    exact WL.v (Val.extract h2 (by simp [Opd, Env.get]; rfl) rfl) hk g2 e2 hd2

/-! ### Drawn regions in which a call may panic -/
def WHp (P : Program) (N : Nat) (ds : List Deferred) (ops : Array Oper) (Q : Exit → Act → World → Prop) (S : World → Prop) (fuel : Nat) (listed : Array Bool) (e : Env) (w : World) : Prop :=
  ∀ a, St N ds e a → S w → wpAnyH P .any ops Q S fuel listed a w
theorem CW.drawP {id : Nat} (S : World → Prop) (hS : S w.drew) (h : WHp P N ds ops Q S ops.size (Array.replicate ops.size false) e w.drew) (hm : P.follows .mixedOrders = true := by kernel_rfl) : CW P N ds (.region id ops true) Q e w := fun a ha =>
  wp_region_held hm (h a ha hS)
section
variable {S : World → Prop} {fuel : Nat} {listed : Array Bool}
theorem WHp.take (i : Nat) {o : Oper} {d : Tmp} {v : Value} (hi : ops[i]? = some o) (hd : o.dst = some d) (hv : Val P e o S v) (h : WHp P N ds ops Q S fuel (listed.setIfInBounds i true) ((d, v) :: e) w)
    (hQ : ∀ c a w, Q (.panic c) (a.put (some d) v) w → Q (.panic c) a w := by intro c a w h; exact h)
    (hg : o.guard = none := by rfl) (hn : Region.noSelect ops = true := by kernel_rfl) (hf : Region.free .any ops listed i = true := by kernel_rfl) (hr : (Region.ready .any ops listed).contains i = true := by kernel_rfl) (hdN : d < N := by decide) :
    WHp P N ds ops Q S (fuel + 1) listed e w := fun a ha hS =>
  wpAnyH_take (v := v) hi hn hf hr (by rw [hd]; exact hQ) (.inl ⟨by simp [Region.wanted, hg], fun w' hw' => hv a.eval ha.eval w' hw'⟩) hS (by rw [hd]; exact h _ (ha.put hdN v) hS)
theorem WHp.done (h : Ends N ds Q .normal e w) (hr : Region.ready .any ops listed = [] := by kernel_rfl) : WHp P N ds ops Q S fuel listed e w := fun a ha _ => wpAnyH_done hr (h a ha) fuel
def BehindP (P : Program) (ops : Array Oper) (Q : Exit → Act → World → Prop) (S : World → Prop) (fuel : Nat) (listed : Array Bool) : Exit → Act → World → Prop :=
  Exit.then (fun a' w' => S w' ∧ wpAnyH P .any ops Q S fuel listed a' w') Q
theorem WHp.step (i : Nat) {o : Oper} (hi : ops[i]? = some o) (h : WL P N ds ops (BehindP P ops Q S fuel (listed.setIfInBounds i true)) [o] e w) (hr : Region.ready .any ops listed = [i] := by kernel_rfl) : WHp P N ds ops Q S (fuel + 1) listed e w := fun a ha _ =>
  wpAnyH_all hr (by simp) (fun k hk => by
    simp only [List.mem_singleton] at hk
    subst hk
    exact wpOp_of_wpList hi (h a ha))
theorem WHp.back (hS : S w) (h : WHp P N ds ops Q S fuel listed e w) : WL P N ds ops (BehindP P ops Q S fuel listed) [] e w := WL.nil fun a ha => ⟨hS, h a ha hS⟩
theorem Ends.behp {ch : List PanicEntry} (h : Ends N ds Q (.panic ch) e w) : Ends N ds (BehindP P ops Q S fuel listed) (.panic ch) e w := h
end
end Go.Eng
