/- Opening settings. -/
import Derived.Test.YtjdgckamjgldmaaPostC
import Derived.Test.YtjdgckamjgldmaaBaseC
namespace Go.Proofs.Ytjdgckamjgldmaa
open Go.ChangeShapes Go.WideShapes Go.ChangeAt Go.RowKit Go.Eng
section
variable {H : Type} {enc : TypeId × Value → H} {W : World}
theorem open_name' {fuel : Nat} {u : Value} {x : DataW H × List MemPlace} (hf : DataW.trod enc Try.prog W 0 (fun _ => true) true fuel 23 [u] = some x) : ∃ l, Nm W u l := by
  rcases open_strings Try.underlying23 Try.underlying9 (by kernel_rfl) hf with ⟨hcs, hx⟩ | ⟨a, len, cap, ss, hcs, _, hl, hm, hz, hx, hcell, hws⟩
  · cases hcs
    exact ⟨[], Sl.nil _ _⟩
  · cases hcs
    simp only [if_true] at hz
    have hlen : (ss.take len).length = len := by rw [List.length_take]; omega
    refine ⟨ss.take len, some a, cap, by rw [List.length_map, hlen], by rw [List.length_map, hlen]; exact hl, fun _ => ⟨a, rfl, fun j u hu => ?_⟩⟩
    have hj : j < len := by
      have := (List.getElem?_eq_some_iff.1 hu).1
      rw [List.length_map, hlen] at this
      exact this
    have hj2 : j < ss.length := by omega
    rw [hcell j hj2]
    rw [List.getElem?_map, List.getElem?_take, if_pos hj, List.getElem?_eq_getElem hj2] at hu
    cases hu
    simp [List.getD_eq_getElem?_getD, hj2, sv]
theorem open_bytes' {fuel : Nat} {u : Value} {x : DataW H × List MemPlace} (hf : DataW.trod enc Try.prog W 0 (fun _ => true) true fuel 25 [u] = some x) : ∃ l, Bs W u l := by
  rcases open_ints Try.underlying25 Try.underlying5 (by kernel_rfl) hf with ⟨hcs, hx⟩ | ⟨a, len, cap, ss, hcs, _, hl, hm, hz, hx, hcell, hws⟩
  · cases hcs
    exact ⟨[], Sl.nil _ _⟩
  · cases hcs
    simp only [if_true] at hz
    have hlen : ((ss.take len).map fun z => UInt8.ofNat z.toNat).length = len := by rw [List.length_map, List.length_take]; omega
    refine ⟨(ss.take len).map fun z => UInt8.ofNat z.toNat, some a, cap, by rw [List.length_map, hlen], by rw [List.length_map, hlen]; exact hl, fun _ => ⟨a, rfl, fun j u hu => ?_⟩⟩
    have hj : j < len := by
      have := (List.getElem?_eq_some_iff.1 hu).1
      rw [List.length_map, hlen] at this
      exact this
    have hj2 : j < ss.length := by omega
    rw [hcell j hj2]
    rw [List.getElem?_map, List.getElem?_map, List.getElem?_take, if_pos hj, List.getElem?_eq_getElem hj2] at hu
    cases hu
    have hw := hws _ (List.getElem_mem hj2)
    have h1 := wf_u8 hw
    have h2 : (UInt8.ofNat ss[j].toNat).toNat = ss[j].toNat := by
      rw [UInt8.toNat_ofNat']
      omega
    simp only [List.getD_eq_getElem?_getD, List.getElem?_eq_getElem hj2, Option.getD_some]
    show _ = some (Value.int .u8 ((UInt8.ofNat ss[j].toNat).toNat : Int))
    rw [h2, Int.toNat_of_nonneg h1.1]
theorem wf_u32 {n : Int} (h : (Lit.int .u32 n).wf = true) : 0 ≤ n ∧ n ≤ 4294967295 := by
  have h1 : IntKind.u32.min = 0 := by decide
  have h2 : IntKind.u32.max = 4294967295 := by decide
  simp only [Lit.wf, Bool.and_eq_true, decide_eq_true_eq, h1, h2] at h
  exact h
theorem wf_u16 {n : Int} (h : (Lit.int .u16 n).wf = true) : 0 ≤ n ∧ n ≤ 65535 := by
  have h1 : IntKind.u16.min = 0 := by decide
  have h2 : IntKind.u16.max = 65535 := by decide
  simp only [Lit.wf, Bool.and_eq_true, decide_eq_true_eq, h1, h2] at h
  exact h
theorem wf_i64 {n : Int} (h : (Lit.int .i64 n).wf = true) : -9223372036854775808 ≤ n ∧ n ≤ 9223372036854775807 := by
  have h1 : IntKind.i64.min = -9223372036854775808 := by decide
  have h2 : IntKind.i64.max = 9223372036854775807 := by decide
  simp only [Lit.wf, Bool.and_eq_true, decide_eq_true_eq, h1, h2] at h
  exact h
theorem open_n32 {fuel : Nat} {u : Value} {x : DataW H × List MemPlace} (hf : DataW.trod enc Try.prog W 0 (fun _ => true) true fuel 24 [u] = some x) : ∃ n : Nat, u = .int .u32 n ∧ n < 4294967296 := by
  obtain ⟨m, hcs, _, hw⟩ := DataW.trod_int Try.underlying24 hf
  cases hcs
  have := wf_u32 hw
  exact ⟨m.toNat, by rw [Int.toNat_of_nonneg this.1], by omega⟩
theorem open_n16 {fuel : Nat} {u : Value} {x : DataW H × List MemPlace} (hf : DataW.trod enc Try.prog W 0 (fun _ => true) true fuel 26 [u] = some x) : ∃ n : Nat, u = .int .u16 n ∧ n < 65536 := by
  obtain ⟨m, hcs, _, hw⟩ := DataW.trod_int Try.underlying26 hf
  cases hcs
  have := wf_u16 hw
  exact ⟨m.toNat, by rw [Int.toNat_of_nonneg this.1], by omega⟩
theorem open_i64 {fuel : Nat} {u : Value} {x : DataW H × List MemPlace} (hf : DataW.trod enc Try.prog W 0 (fun _ => true) true fuel 3 [u] = some x) : ∃ n : Int, u = .int .i64 n ∧ -9223372036854775808 ≤ n ∧ n ≤ 9223372036854775807 := by
  obtain ⟨m, hcs, _, hw⟩ := DataW.trod_int Try.underlying3 hf
  cases hcs
  exact ⟨m, rfl, wf_i64 hw⟩
theorem open_i64v {base : Nat} {v : Value} {d : DataW H} {p : List MemPlace} (hval : Value.okWide Try.prog W .any base 3 v) (h : DataW.Trod enc Try.prog W 0 (fun _ => true) true 3 v d p) : ∃ n : Int, v = .int .i64 n ∧ -9223372036854775808 ≤ n ∧ n ≤ 9223372036854775807 := by
  obtain ⟨n, rfl, -, -, hw⟩ := open_int Try.underlying3 hval h
  exact ⟨n, rfl, wf_i64 hw⟩
theorem open_boolv {base : Nat} {v : Value} {d : DataW H} {p : List MemPlace} (hval : Value.okWide Try.prog W .any base 4 v) (h : DataW.Trod enc Try.prog W 0 (fun _ => true) true 4 v d p) : ∃ b : Bool, v = .bool b := by
  obtain ⟨b, rfl, -, -⟩ := open_bool Try.underlying4 hval h
  exact ⟨b, rfl⟩
theorem list13 {l : List Value} (h : l.length = 13) : ∃ a0 a1 a2 a3 a4 a5 a6 a7 a8 a9 a10 a11 a12, l = [a0, a1, a2, a3, a4, a5, a6, a7, a8, a9, a10, a11, a12] := by
  match l, h with
  | [a0, a1, a2, a3, a4, a5, a6, a7, a8, a9, a10, a11, a12], _ => exact ⟨a0, a1, a2, a3, a4, a5, a6, a7, a8, a9, a10, a11, a12, rfl⟩
theorem open_config {base : Nat} {v : Value} {d : DataW H} {p : List MemPlace} (hval : Value.okWide Try.prog W .any base 28 v) (h : DataW.Trod enc Try.prog W 0 (fun _ => true) true 28 v d p) : ∃ va vs c, CfV W v va vs c := by
  obtain ⟨cs, rfl, hsz⟩ := okWide_struct Try.underlying28 hval
  obtain ⟨fuel, hf⟩ := h
  obtain ⟨xs, n, _, _, _, hxl, hfs⟩ := DataW.trod_struct Try.underlying28 hf
  have hc : Try.prog.cellsOf 28 = 13 := by kernel_rfl
  rw [hc] at hsz
  obtain ⟨a0, a1, a2, a3, a4, a5, a6, a7, a8, a9, a10, a11, a12, hl⟩ := list13 (l := cs.toList) (by simpa using hsz)
  have hcell : (Value.agg cs).cells.toList = [a0, a1, a2, a3, a4, a5, a6, a7, a8, a9, a10, a11, a12] := hl
  rw [hcell] at hfs
  have hxl' : xs.length = 13 := hxl
  have k23 : Try.prog.cellsOf 23 = 1 := by kernel_rfl
  have k24 : Try.prog.cellsOf 24 = 1 := by kernel_rfl
  have k25 : Try.prog.cellsOf 25 = 1 := by kernel_rfl
  have k26 : Try.prog.cellsOf 26 = 1 := by kernel_rfl
  have k3 : Try.prog.cellsOf 3 = 1 := by kernel_rfl
  have get : ∀ i (hi : i < 13), ∃ y, xs[i]? = some y := fun i hi => ⟨xs[i], List.getElem?_eq_getElem (by omega)⟩
  have f0 := hfs 0 { name := "Apex", type := 23, offset := 0, embedded := false, tag := "", pkgPath := "", byteOffset := 0 } rfl
  have f1 := hfs 1 { name := "KeyTtl", type := 24, offset := 1, embedded := false, tag := "", pkgPath := "", byteOffset := 24 } rfl
  have f2 := hfs 2 { name := "Prop", type := 24, offset := 2, embedded := false, tag := "", pkgPath := "", byteOffset := 28 } rfl
  have f3 := hfs 3 { name := "DsTtl", type := 24, offset := 3, embedded := false, tag := "", pkgPath := "", byteOffset := 32 } rfl
  have f4 := hfs 4 { name := "DsProp", type := 24, offset := 4, embedded := false, tag := "", pkgPath := "", byteOffset := 36 } rfl
  have f5 := hfs 5 { name := "Valid", type := 24, offset := 5, embedded := false, tag := "", pkgPath := "", byteOffset := 40 } rfl
  have f6 := hfs 6 { name := "Lead", type := 24, offset := 6, embedded := false, tag := "", pkgPath := "", byteOffset := 44 } rfl
  have f7 := hfs 7 { name := "Gap", type := 24, offset := 7, embedded := false, tag := "", pkgPath := "", byteOffset := 48 } rfl
  have f8 := hfs 8 { name := "MaxTtl", type := 24, offset := 8, embedded := false, tag := "", pkgPath := "", byteOffset := 52 } rfl
  have f9 := hfs 9 { name := "Salt", type := 25, offset := 9, embedded := false, tag := "", pkgPath := "", byteOffset := 56 } rfl
  have f10 := hfs 10 { name := "Iter", type := 26, offset := 10, embedded := false, tag := "", pkgPath := "", byteOffset := 80 } rfl
  have f11 := hfs 11 { name := "H", type := 3, offset := 11, embedded := false, tag := "", pkgPath := "", byteOffset := 88 } rfl
  have f12 := hfs 12 { name := "Size", type := 26, offset := 12, embedded := false, tag := "", pkgPath := "", byteOffset := 96 } rfl
  simp only [k23, k24, k25, k26, k3, List.drop_zero, List.drop_succ_cons, List.take_succ_cons, List.take_zero] at f0 f1 f2 f3 f4 f5 f6 f7 f8 f9 f10 f11 f12
  obtain ⟨y0, e0⟩ := get 0 (by omega)
  obtain ⟨y1, e1⟩ := get 1 (by omega)
  obtain ⟨y2, e2⟩ := get 2 (by omega)
  obtain ⟨y3, e3⟩ := get 3 (by omega)
  obtain ⟨y4, e4⟩ := get 4 (by omega)
  obtain ⟨y5, e5⟩ := get 5 (by omega)
  obtain ⟨y6, e6⟩ := get 6 (by omega)
  obtain ⟨y7, e7⟩ := get 7 (by omega)
  obtain ⟨y8, e8⟩ := get 8 (by omega)
  obtain ⟨y9, e9⟩ := get 9 (by omega)
  obtain ⟨y10, e10⟩ := get 10 (by omega)
  obtain ⟨y11, e11⟩ := get 11 (by omega)
  obtain ⟨y12, e12⟩ := get 12 (by omega)
  rw [e0] at f0
  rw [e1] at f1
  rw [e2] at f2
  rw [e3] at f3
  rw [e4] at f4
  rw [e5] at f5
  rw [e6] at f6
  rw [e7] at f7
  rw [e8] at f8
  rw [e9] at f9
  rw [e10] at f10
  rw [e11] at f11
  rw [e12] at f12
  obtain ⟨apex, ha⟩ := open_name' f0
  obtain ⟨n1, rfl, h1⟩ := open_n32 f1
  obtain ⟨n2, rfl, h2⟩ := open_n32 f2
  obtain ⟨n3, rfl, h3⟩ := open_n32 f3
  obtain ⟨n4, rfl, h4⟩ := open_n32 f4
  obtain ⟨n5, rfl, h5⟩ := open_n32 f5
  obtain ⟨n6, rfl, h6⟩ := open_n32 f6
  obtain ⟨n7, rfl, h7⟩ := open_n32 f7
  obtain ⟨n8, rfl, h8⟩ := open_n32 f8
  obtain ⟨salt, hs⟩ := open_bytes' f9
  obtain ⟨n10, rfl, h10⟩ := open_n16 f10
  obtain ⟨n11, rfl, h11⟩ := open_i64 f11
  obtain ⟨n12, rfl, h12⟩ := open_n16 f12
  refine ⟨a0, a9, { apex := apex, kt := n1, pr := n2, dt := n3, dp := n4, va := n5, le := n6, ga := n7, mt := n8, salt := salt, it := n10, h := n11, sz := n12 }, ⟨?_, ha, hs, ⟨h1, h2, h3, h4, h5, h6, h7, h8, h10, h11, h12⟩⟩⟩
  congr 1
  rw [← Array.toArray_toList (xs := cs), hl]
  rfl
end
end Go.Proofs.Ytjdgckamjgldmaa
