/- Opening bytes, texts, numbers. -/
import Derived.Test.YtjdgckamjgldmaaPost
namespace Go.Proofs.Ytjdgckamjgldmaa
open Go.ChangeShapes Go.WideShapes Go.ChangeAt Go.RowKit Go.Eng
section
variable {H : Type} {enc : TypeId × Value → H} {W : World}
theorem wf_u8 {n : Int} (h : (Lit.int .u8 n).wf = true) : 0 ≤ n ∧ n ≤ 255 := by
  have h1 : IntKind.u8.min = 0 := by decide
  have h2 : IntKind.u8.max = 255 := by decide
  simp only [Lit.wf, Bool.and_eq_true, decide_eq_true_eq, h1, h2] at h
  exact h
theorem open_bytes {base : Nat} {v : Value} {d : DataW H} {p : List MemPlace} (hval : Value.okWide Try.prog W .any base 25 v) (h : DataW.Trod enc Try.prog W 0 (fun _ => true) true 25 v d p) : ∃ l, Bs W v l := by
  obtain ⟨a0, len, cap, rfl⟩ := okWide_slice Try.underlying25 hval
  obtain ⟨fuel, hf⟩ := h
  rcases open_ints Try.underlying25 Try.underlying5 (by kernel_rfl) hf with ⟨hcs, hx⟩ | ⟨a, len', cap', ss, hcs, _, hl, hm, hz, hx, hcell, hws⟩
  · simp [Value.cells] at hcs
    obtain ⟨rfl, rfl, rfl⟩ := hcs
    exact ⟨[], Sl.nil _ _⟩
  · simp [Value.cells] at hcs
    obtain ⟨rfl, rfl, rfl⟩ := hcs
    simp only [if_true] at hz
    have hlen : ((ss.take len).map fun z => UInt8.ofNat z.toNat).length = len := by rw [List.length_map, List.length_take]; omega
    refine ⟨(ss.take len).map fun z => UInt8.ofNat z.toNat, some a, cap, by rw [List.length_map, hlen], by rw [List.length_map, hlen]; exact hl, fun _ => ⟨a, rfl, fun j u hu => ?_⟩⟩
    have hj : j < len := by
      have := (List.getElem?_eq_some_iff.1 hu).1
      rw [List.length_map, hlen] at this
      exact this
    have hj2 : j < ss.length := by omega
    rw [hcell j hj2]
    rw [List.getElem?_map, List.getElem?_map, List.getElem?_take, if_pos hj, List.getElem?_eq_getElem hj2] at hu
    cases hu
    have hw := hws _ (List.getElem_mem hj2)
    have h1 := wf_u8 hw
    have h2 : (UInt8.ofNat ss[j].toNat).toNat = ss[j].toNat := by
      rw [UInt8.toNat_ofNat']
      omega
    simp only [List.getD_eq_getElem?_getD, List.getElem?_eq_getElem hj2, Option.getD_some]
    show _ = some (Value.int .u8 ((UInt8.ofNat ss[j].toNat).toNat : Int))
    rw [h2, Int.toNat_of_nonneg h1.1]
end
end Go.Proofs.Ytjdgckamjgldmaa
