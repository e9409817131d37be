/- Opening numbers, lists of truths, and any count of them. -/
import Derived.Test.YtjdgckamjgldmaaPostB
namespace Go.Proofs.Ytjdgckamjgldmaa
open Go.ChangeShapes Go.WideShapes Go.ChangeAt Go.RowKit Go.Eng
section
variable {H : Type} {enc : TypeId × Value → H} {W : World}
theorem open_u8 {base : Nat} {v : Value} {d : DataW H} {p : List MemPlace} (hval : Value.okWide Try.prog W .any base 5 v) (h : DataW.Trod enc Try.prog W 0 (fun _ => true) true 5 v d p) : ∃ b : UInt8, v = bv b := by
  obtain ⟨n, rfl, -, -, hw⟩ := open_int Try.underlying5 hval h
  obtain ⟨h1, h2⟩ := wf_u8 hw
  refine ⟨UInt8.ofNat n.toNat, ?_⟩
  have : (UInt8.ofNat n.toNat).toNat = n.toNat := by
    rw [UInt8.toNat_ofNat']
    omega
  show _ = Value.int .u8 ((UInt8.ofNat n.toNat).toNat : Int)
  rw [this, Int.toNat_of_nonneg h1]
theorem open_bools {base : Nat} {v : Value} {d : DataW H} {p : List MemPlace} (hval : Value.okWide Try.prog W .any base 64 v) (h : DataW.Trod enc Try.prog W 0 (fun _ => true) true 64 v d p) : ∃ l : List Bool, Sl W v (l.map .bool) := by
  obtain ⟨a0, len, cap, rfl⟩ := okWide_slice Try.underlying64 hval
  obtain ⟨fuel, hf⟩ := h
  have hc : Try.prog.cellsOf 4 = 1 := by kernel_rfl
  rcases DataW.trod_slice Try.underlying64 hf with ⟨hcs, hx⟩ | ⟨a, len', cap', elems, rest, n, _, hcs, hx, hb, hl, hm, hlen, hel, hsp, hns⟩
  · simp [Value.cells] at hcs
    obtain ⟨rfl, rfl, rfl⟩ := hcs
    exact ⟨[], Sl.nil _ _⟩
  · simp [Value.cells] at hcs
    obtain ⟨rfl, rfl, rfl⟩ := hcs
    have each : ∀ i, i < len → ∃ b : Bool, W.cell? (a.add i) = some (.bool b) := by
      intro i hi
      have h1 := hel i hi
      rw [hc, Nat.mul_one, List.getElem?_eq_getElem (by omega), Option.bind_eq_some_iff] at h1
      obtain ⟨cs', h2, h3⟩ := h1
      obtain ⟨b, rfl, _⟩ := DataW.trod_bool Try.underlying4 h3
      exact ⟨b, cell_of_cells?_one h2⟩
    refine ⟨(List.range len).map fun i => (match W.cell? (a.add i) with | some (.bool b) => b | _ => false), some a, cap, by simp, by simpa using hl, fun _ => ⟨a, rfl, fun j u hu => ?_⟩⟩
    have hj : j < len := by simpa using (List.getElem?_eq_some_iff.1 hu).1
    obtain ⟨b, hb⟩ := each j hj
    rw [hb]
    simp [hj, hb] at hu
    rw [hu]
end
end Go.Proofs.Ytjdgckamjgldmaa
