/-
  The calculus, fifth part: slices that are made. Over any program.
-/
import Derived.Test.YtjdgckamjgldmaaEngD
import Derived.Laws.MakeOwn
namespace Go.Eng
open Go.RowKit
variable {P : Program} {N : Nat} {ds : List Deferred} {e : Env} {w w' : World} {Q : Exit → Act → World → Prop} {ops : Array Oper} {rest : List Oper} {o : Oper} {a : Act}
theorem made_one (z : Value) (n : Nat) : madeCells #[z] n = (List.replicate n z).toArray := by
  apply Array.ext'
  apply List.ext_getElem?
  intro i
  by_cases hi : i < n
  · simp [madeCells, hi, Nat.mod_one]
  · simp [madeCells, hi]
/-- 'make([]T, n)', each element one cell. -/
theorem WL.makeX {x y : Operand} {t el : TypeId} {bytes : Nat} {z : Value} {d : Tmp} {k j : IntKind} {n : Nat} (hT : ElemT P t el bytes z) (hz1 : z.cells = #[z]) (ho : o.op = .makeSlice t x y) (hx : Opd e x = some (.int k n)) (hy : Opd e y = some (.int j n)) (hn : bytes * n ≤ 281474976710656) (hn2 : n ≤ 9223372036854775807)
    (K : ∀ g w', Blk w' g el (List.replicate n z) → g = w.heap.size → Below w.heap.size w w' → w'.heap.size = w.heap.size + 1 → WL P N ds ops Q rest ((d, .slice (some ⟨g, 0, none⟩) n n) :: e) w')
    (hg : o.guard = none := by rfl) (hd : o.dst = some d := by rfl) (hdN : d < N := by decide) : WL P N ds ops Q (o :: rest) e w := by
  obtain ⟨i, hi, hz, h1, h2⟩ := hT.info
  have hrun := run_make (P := P) w t el i z hT.und hi hz k j (n : Int) (n : Int) (by omega) (Int.le_refl _) (by rw [h2, ← Int.natCast_mul]; omega) (by omega)
  rw [h1, Nat.mul_one, hz1, Int.toNat_natCast, made_one] at hrun
  refine WL.eff hg hd hdN (fun ρ hρ => ?_) (K w.heap.size _ (Blk.new w el _) rfl (below_alloc w _) (by simp))
  simp only [execOp, ho, hρ x _ hx, hρ y _ hy, Sem.run_bind, hrun]
  rfl
end Go.Eng
