/- Walks: the settings' examples; ConfigChecks; ConfigWrites. -/
import Derived.Test.YtjdgckamjgldmaaW30
import Derived.Test.YtjdgckamjgldmaaW18
namespace Go.Proofs.Ytjdgckamjgldmaa
open Go.RowKit Go.Eng

theorem check5 : checkC cfg5 = 0 := by kernel_rfl
def bad5 : Cf := { cfg5 with le := 80 }
theorem check5b : checkC bad5 = 100 := by kernel_rfl
theorem bad5_ok : bad5.ok := by constructor <;> decide
theorem known_names : cfg5.apex = exName := rfl
-- signet/signetlaw14.known
theorem known14 (w : World) : Runs Try.prog 14 #[] w fun r w' => r = .bool true ∧ Below w.heap.size w w' := by
  refine enter (N := 49) (args := []) Try.func14 rfl rfl (Nat.le_of_ble_eq_true rfl) ?_
  refine CW.seq ?_
  refine CW.region ?_
  refine WL.v (Val.assign rfl rfl) ?_ -- d0
  refine WL.nil ?_
  refine Ends.next ?_
  refine CW.seq ?_
  refine CW.region ?_
  refine WL.call bodied23 rfl rfl (five23 w) ?_
  rintro _ w1 ⟨va, vs, ⟨rfl, ha1, hs1, _⟩, hb1⟩
  have hB0_1 := hb1
  obtain ⟨Aa, ca, hva, -⟩ := id ha1
  replace hva : va = .slice Aa 1 ca := hva
  subst hva
  obtain ⟨As, cs, hvs, -⟩ := id hs1
  replace hvs : vs = .slice As 0 cs := hvs
  subst hvs
  refine WL.allocS zeroC rfl zero28 rfl (fun g1 w2 hG2 hg1 hb2 _ => ?_)
  have hB0_2 := hB0_1.trans (hb2.mono hB0_1.size)
  refine WL.storeS (cs' := cfL (.slice Aa 1 ca) (.slice As 0 cs) cfg5) hG2 (size28 _ rfl) rfl rfl rfl rfl (cfL_one _ _ _ rfl rfl) (fun w3 hG3 hw3 => ?_)
  have hb23 : Below w1.heap.size w1 w3 := hw3 ▸ below_setRow hb2 (by omega) _
  have hB0_3 := hB0_1.trans (hb23.mono hB0_1.size)
  have ha3 := ha1.keep hb23
  have hs3 := hs1.keep hb23
  refine WL.nil ?_
  refine Ends.next ?_
  refine CW.seq ?_
  refine CW.region ?_
  refine WL.v (Val.loadS Try.underlying28 (size28 _ rfl) rfl rfl (at_ hG3)) ?_
  refine WL.call bodied18 rfl rfl (bytes18 _ _ _ cfg5 w3 ⟨rfl, ha3, hs3, cfg5_ok⟩ (by decide) (by decide)) ?_
  rintro r4 w4 ⟨hr4, hb4⟩
  have hB0_4 := hB0_3.trans (hb4.mono hB0_3.size)
  have hG4 := hG3.keep hb4
  have ha4 := ha3.keep hb4
  have hs4 := hs3.keep hb4
  refine WL.call bodied21 rfl rfl (open21 _ _ w4 hr4.sl (by decide)) ?_
  rw [open_back check5 cfg5_ok]
  rintro _ w5 ⟨dv, rfl, -, hdv, hb5⟩
  obtain ⟨va', vs', rfl, ha5', hs5', -⟩ := hdv cfg5 rfl
  have hB0_5 := hB0_4.trans (hb5.mono hB0_4.size)
  have hG5 := hG4.keep hb5
  have ha5 := ha4.keep hb5
  have hs5 := hs4.keep hb5
  have hva1' := sl_one ha5'
  have hvs1' := sl_one hs5'
  refine WL.v (Val.move rfl rfl) ?_ -- d6
  refine WL.v (Val.extract rfl rfl rfl) ?_ -- d10
  refine WL.v (Val.extract rfl rfl rfl) ?_ -- d11
  refine WL.allocS zeroC rfl zero28 rfl (fun g2 w6 hD6 hg2 hb6 _ => ?_)
  have hG6 := hG5.keep hb6
  refine WL.storeS (cs' := cfL va' vs' cfg5) hD6 (size28 _ rfl) rfl rfl rfl rfl (cfL_one _ _ _ hva1' hvs1') (fun w7 hD7 hw7 => ?_)
  have hb7 : Below w5.heap.size w5 w7 := hw7 ▸ below_setRow hb6 (by omega) _
  have hB0_7 := hB0_5.trans (hb7.mono hB0_5.size)
  have hG7 := hG5.keep hb7
  have ha7 := ha5.keep hb7
  have hs7 := hs5.keep hb7
  have ha7' := ha5'.keep hb7
  have hs7' := hs5'.keep hb7
  refine WL.v (Val.assign rfl rfl) ?_ -- d3
  refine WL.nil ?_
  refine Ends.next ?_
  refine CW.seq ?_
  refine CW.region ?_
  refine WL.v (Val.loadS Try.underlying28 (size28 _ rfl) rfl rfl (at_ hG7)) ?_
  refine WL.allocS zeroC rfl zero28 rfl (fun g4 w8 hE8 hg4 hb8 _ => ?_)
  refine WL.storeS (cs' := cfL (.slice Aa 1 ca) (.slice As 0 cs) cfg5) hE8 (size28 _ rfl) rfl rfl rfl rfl (cfL_one _ _ _ rfl rfl) (fun w9 hE9 hw9 => ?_)
  have hb9 : Below w7.heap.size w7 w9 := hw9 ▸ below_setRow hb8 (by omega) _
  have hB0_9 := hB0_7.trans (hb9.mono hB0_7.size)
  have hG9 := hG7.keep hb9
  have hD9 := hD7.keep hb9
  have ha9 := ha7.keep hb9
  have hs9 := hs7.keep hb9
  have ha9' := ha7'.keep hb9
  have hs9' := hs7'.keep hb9
  refine WL.nil ?_
  refine Ends.next ?_
  refine CW.seq ?_
  refine CW.region ?_
  refine WL.v (Val.fldA 8 rfl rfl (fun _ => by kernel_rfl)) ?_ -- d13
  refine WL.v (Val.loadF rfl rfl pl24 (at_ (by assumption)) rfl) ?_ -- d14
  refine WL.v (Val.fldA 7 rfl rfl (fun _ => by kernel_rfl)) ?_ -- d15
  refine WL.v (Val.loadF rfl rfl pl24 (at_ (by assumption)) rfl) ?_ -- d16
  refine WL.v (Val.add rfl rfl rfl 80 (by decide)) ?_
  refine WL.v (Val.fldA 6 rfl rfl (fun _ => by kernel_rfl)) ?_ -- d18
  refine WL.storeF (q := .int .u32 80) hE9 (i := 6) rfl one24 rfl rfl rfl rfl rfl (fun w10 hE10 hw10 => ?_)
  have hb10 : Below w7.heap.size w7 w10 := hw10 ▸ hb9.setCell (by show _ ≤ g4; omega) _
  have hB0_10 := hB0_7.trans (hb10.mono hB0_7.size)
  have hG10 := hG7.keep hb10
  have hD10 := hD7.keep hb10
  have ha10 := ha7.keep hb10
  have hs10 := hs7.keep hb10
  have ha10' := ha7'.keep hb10
  have hs10' := hs7'.keep hb10
  have hE10' : Blk w10 g4 28 (cfL (.slice Aa 1 ca) (.slice As 0 cs) bad5) := hE10
  refine WL.nil ?_
  refine Ends.next ?_
  refine CW.seq ?_
  refine CW.region ?_
  refine WL.v (Val.loadS Try.underlying28 (size28 _ rfl) rfl rfl (at_ hG10)) ?_
  refine WL.call bodied16 rfl rfl (check16 _ _ _ cfg5 w10 ⟨rfl, ha10, hs10, cfg5_ok⟩ (by decide)) ?_
  rw [check5]
  rintro _ w11 ⟨rfl, hb11⟩
  have hB0_11 := hB0_10.trans (hb11.mono hB0_10.size)
  have hG11 := hG10.keep hb11
  have hD11 := hD10.keep hb11
  have ha11 := ha10.keep hb11
  have hs11 := hs10.keep hb11
  have ha11' := ha10'.keep hb11
  have hs11' := hs10'.keep hb11
  have hE11' := hE10'.keep hb11
  refine WL.v (Val.eqlI rfl rfl rfl) ?_ -- d21
  refine WL.v (Val.move rfl rfl) ?_ -- d22
  refine WL.yes rfl rfl rfl (rfl) ?_
  refine WL.v (Val.loadS Try.underlying28 (size28 _ rfl) rfl rfl (at_ hE11')) ?_
  refine WL.yes rfl rfl rfl (rfl) ?_
  refine WL.call bodied16 rfl rfl (check16 _ _ _ bad5 w11 ⟨rfl, ha11, hs11, bad5_ok⟩ (by decide)) ?_
  rw [check5b]
  rintro _ w12 ⟨rfl, hb12⟩
  have hB0_12 := hB0_11.trans (hb12.mono hB0_11.size)
  have hG12 := hG11.keep hb12
  have hD12 := hD11.keep hb12
  have ha12 := ha11.keep hb12
  have hs12 := hs11.keep hb12
  have ha12' := ha11'.keep hb12
  have hs12' := hs11'.keep hb12
  refine WL.yes rfl rfl rfl (rfl) ?_
  refine WL.v (Val.eqlI rfl rfl rfl) ?_ -- d25
  refine WL.v (Val.pickT rfl rfl (rfl) rfl) ?_ -- d26
  refine WL.v (Val.move rfl rfl) ?_ -- d27
  refine WL.yes rfl rfl rfl (rfl) ?_
  refine WL.v (Val.move rfl rfl) ?_ -- d28
  refine WL.yes rfl rfl rfl (rfl) ?_
  refine WL.v (Val.eqlI rfl rfl rfl) ?_ -- d29
  refine WL.v (Val.pickT rfl rfl (rfl) rfl) ?_ -- d30
  refine WL.v (Val.move rfl rfl) ?_ -- d31
  refine WL.yes rfl rfl rfl (rfl) ?_
  refine WL.v (Val.loadS Try.underlying28 (size28 _ rfl) rfl rfl (at_ hG12)) ?_
  refine WL.yes rfl rfl rfl (rfl) ?_
  refine WL.v (Val.loadS Try.underlying28 (size28 _ rfl) rfl rfl (at_ hD12)) ?_
  refine WL.yes rfl rfl rfl (rfl) ?_
  refine WL.call bodied22 rfl rfl (same22 _ _ _ _ _ _ cfg5 cfg5 w12 ⟨rfl, ha12, hs12, cfg5_ok⟩ ⟨rfl, ha12', hs12', cfg5_ok⟩ (by decide)) ?_
  rw [sameC_self]
  rintro _ w13 ⟨rfl, hb13⟩
  have hB0_13 := hB0_12.trans (hb13.mono hB0_12.size)
  have hG13 := hG12.keep hb13
  have hD13 := hD12.keep hb13
  have ha13' := ha12'.keep hb13
  obtain ⟨Aa', ca', hva', -⟩ := id ha13'
  replace hva' : va' = .slice Aa' 1 ca' := hva'
  subst hva'
  refine WL.v (Val.pickT rfl rfl (rfl) rfl) ?_ -- d35
  refine WL.v (Val.move rfl rfl) ?_ -- d36
  refine WL.yes rfl rfl rfl (rfl) ?_
  refine WL.v (Val.fldA 1 rfl rfl (fun _ => by kernel_rfl)) ?_ -- d37
  refine WL.yes rfl rfl rfl (rfl) ?_
  refine WL.v (Val.loadF rfl rfl pl24 (at_ (by assumption)) rfl) ?_ -- d38
  refine WL.yes rfl rfl rfl (rfl) ?_
  refine WL.v (Val.fldA 1 rfl rfl (fun _ => by kernel_rfl)) ?_ -- d39
  refine WL.yes rfl rfl rfl (rfl) ?_
  refine WL.v (Val.loadF rfl rfl pl24 (at_ (by assumption)) rfl) ?_ -- d40
  refine WL.yes rfl rfl rfl (rfl) ?_
  refine WL.v (Val.eqlI rfl rfl rfl) ?_ -- d41
  refine WL.v (Val.pickT rfl rfl (rfl) rfl) ?_ -- d42
  refine WL.v (Val.move rfl rfl) ?_ -- d43
  refine WL.yes rfl rfl rfl (rfl) ?_
  refine WL.v (Val.fldA 0 rfl rfl (fun _ => by kernel_rfl)) ?_ -- d44
  refine WL.yes rfl rfl rfl (rfl) ?_
  refine WL.v (Val.loadF rfl rfl pl23 (at_ (by assumption)) rfl) ?_ -- d45
  refine WL.yes rfl rfl rfl (rfl) ?_
  refine WL.v (Val.lenSl rfl Try.underlying23 rfl) ?_ -- d46
  refine WL.yes rfl rfl rfl (rfl) ?_
  refine WL.v (Val.eqlI rfl rfl rfl) ?_ -- d47
  refine WL.v (Val.pickT rfl rfl (rfl) rfl) ?_ -- d48
  refine WL.v (Val.assign rfl rfl) ?_ -- d0
  refine WL.nil ?_
  refine Ends.next ?_
  refine CW.ret ?_
  exact Ends.ret1 rfl rfl ⟨rfl, hB0_13⟩
theorem lightC_wire {c : Cf} (h : lightC c = true) : (wireL c.apex).length ≤ 2200 ∧ c.salt.length ≤ 300 ∧ c.apex.length ≤ 200 := by
  simp only [lightC, Bool.and_eq_true, decide_eq_true_eq] at h
  obtain ⟨h1, h2⟩ := h
  obtain ⟨h3, h4, _⟩ := light_sum h1
  rw [wireL_length]
  omega
-- signet/signetlaw14.ConfigChecks
theorem checks3a (v va vs : Value) (c : Cf) (w : World) (h : CfV w v va vs c) (hli : lightC c = true) : Runs Try.prog 3 #[v] w fun r w' => r = .bool true ∧ Below w.heap.size w w' := by
  obtain ⟨rfl, ha, hs, hok⟩ := h
  obtain ⟨Aa, ca, hva, -⟩ := id ha
  rw [List.length_map] at hva
  subst hva
  obtain ⟨As, cs, hvs, -⟩ := id hs
  rw [List.length_map] at hvs
  subst hvs
  refine enter (N := 15) (args := [_]) Try.func3 rfl rfl (Nat.le_of_ble_eq_true rfl) ?_
  refine CW.seq ?_
  refine CW.region ?_
  refine WL.boxS _ rfl rfl (cfL_cells _ _ c) (fun g w1 hB1 hg1 hb1 hz1 => ?_)
  have ha1 := ha.keep hb1
  have hs1 := hs.keep hb1
  refine WL.v (Val.assign rfl rfl) ?_ -- d2
  refine WL.nil ?_
  refine Ends.next ?_
  refine CW.seq ?_
  refine CW.seq ?_
  refine CW.region ?_
  refine WL.call bodied14 rfl rfl (known14 w1) ?_
  rintro _ w2 ⟨rfl, hb2⟩
  have hB2 := hB1.keep hb2
  have hb12 := hb1.trans (hb2.mono hb1.size)
  have ha2 := ha.keep hb12
  have hs2 := hs.keep hb12
  refine WL.v (Val.not rfl rfl) ?_ -- d4
  refine WL.nil ?_
  refine Ends.next ?_
  refine CW.condF rfl (rfl) ?_
  refine CW.skip ?_
  refine Ends.next ?_
  refine CW.seq ?_
  refine CW.draw (fun w' => Blk w' g 28 (cfL (.slice Aa c.apex.length ca) (.slice As c.salt.length cs) c)) hB2 ?_
  refine WH.take 0 rfl rfl (Val.loadS Try.underlying28 (size28 _ rfl) rfl rfl (fun _ h => h)) ?_ -- d5
  refine WH.step 1 rfl ?_ -- d6
  refine WL.call bodied15 rfl rfl (light15 _ _ _ c w2.drew ⟨rfl, ha2, hs2, hok⟩) ?_
  rw [hli]
  rintro _ w3 ⟨rfl, hb3⟩
  have hB3 := (Blk.drew hB2).keep hb3
  have hb13 := hb12.drew.trans (hb3.mono hb12.size)
  have ha3 := ha.keep hb13
  have hs3 := hs.keep hb13
  refine WH.back hB3 ?_
  refine WH.take 2 rfl rfl (Val.not rfl rfl) ?_ -- d7
  refine WH.take 3 rfl rfl (Val.move rfl rfl) ?_ -- d8
  refine WH.takeG 4 rfl rfl rfl rfl rfl (by first | rfl | assumption) (Val.loadS Try.underlying28 (size28 _ rfl) rfl rfl (fun _ h => h)) ?_ -- d9
  refine WH.takeG 6 rfl rfl rfl rfl rfl (by first | rfl | assumption) (Val.loadS Try.underlying28 (size28 _ rfl) rfl rfl (fun _ h => h)) ?_ -- d11
  refine WH.step 5 rfl ?_ -- d10
  refine WL.yes rfl rfl rfl (by first | rfl | assumption) ?_ -- guard (3, False) d10
  refine WL.call bodied16 rfl rfl (check16 _ _ _ c w3 ⟨rfl, ha3, hs3, hok⟩ (by have := lightC_wire hli; omega)) ?_
  rintro _ w4 ⟨rfl, hb4⟩
  have hB4 := hB3.keep hb4
  have hb14 := hb13.trans (hb4.mono hb13.size)
  have ha4 := ha.keep hb14
  have hs4 := hs.keep hb14
  refine WH.back hB4 ?_
  refine WH.step 7 rfl ?_ -- d12
  refine WL.yes rfl rfl rfl (by first | rfl | assumption) ?_ -- guard (3, False) d12
  refine WL.call bodied17 rfl rfl (check17 _ _ _ c w4 ⟨rfl, ha4, hs4, hok⟩ (by have := lightC_wire hli; omega)) ?_
  rintro _ w5 ⟨rfl, hb5⟩
  have hB5 := hB4.keep hb5
  have hb15 := hb14.trans (hb5.mono hb14.size)
  refine WH.back hB5 ?_
  refine WH.takeG 8 rfl rfl rfl rfl rfl (by first | rfl | assumption) (Val.eqlI rfl rfl rfl) ?_ -- d13
  refine WH.take 9 rfl rfl (Val.pickF rfl rfl rfl rfl) ?_ -- d14
  refine WH.take 10 rfl rfl (Val.assign rfl rfl) ?_ -- d2
  refine WH.done ?_
  refine Ends.next ?_
  refine CW.ret ?_
  exact Ends.ret1 rfl rfl ⟨congrArg Value.bool (decide_eq_true rfl), hb15⟩
-- signet/signetlaw14.ConfigChecks
theorem checks3b (v va vs : Value) (c : Cf) (w : World) (h : CfV w v va vs c) (hli : lightC c = false) : Runs Try.prog 3 #[v] w fun r w' => r = .bool true ∧ Below w.heap.size w w' := by
  obtain ⟨rfl, ha, hs, hok⟩ := h
  obtain ⟨Aa, ca, hva, -⟩ := id ha
  rw [List.length_map] at hva
  subst hva
  obtain ⟨As, cs, hvs, -⟩ := id hs
  rw [List.length_map] at hvs
  subst hvs
  refine enter (N := 15) (args := [_]) Try.func3 rfl rfl (Nat.le_of_ble_eq_true rfl) ?_
  refine CW.seq ?_
  refine CW.region ?_
  refine WL.boxS _ rfl rfl (cfL_cells _ _ c) (fun g w1 hB1 hg1 hb1 hz1 => ?_)
  have ha1 := ha.keep hb1
  have hs1 := hs.keep hb1
  refine WL.v (Val.assign rfl rfl) ?_ -- d2
  refine WL.nil ?_
  refine Ends.next ?_
  refine CW.seq ?_
  refine CW.seq ?_
  refine CW.region ?_
  refine WL.call bodied14 rfl rfl (known14 w1) ?_
  rintro _ w2 ⟨rfl, hb2⟩
  have hB2 := hB1.keep hb2
  have hb12 := hb1.trans (hb2.mono hb1.size)
  have ha2 := ha.keep hb12
  have hs2 := hs.keep hb12
  refine WL.v (Val.not rfl rfl) ?_ -- d4
  refine WL.nil ?_
  refine Ends.next ?_
  refine CW.condF rfl (rfl) ?_
  refine CW.skip ?_
  refine Ends.next ?_
  refine CW.seq ?_
  refine CW.draw (fun w' => Blk w' g 28 (cfL (.slice Aa c.apex.length ca) (.slice As c.salt.length cs) c)) hB2 ?_
  refine WH.take 0 rfl rfl (Val.loadS Try.underlying28 (size28 _ rfl) rfl rfl (fun _ h => h)) ?_ -- d5
  refine WH.step 1 rfl ?_ -- d6
  refine WL.call bodied15 rfl rfl (light15 _ _ _ c w2.drew ⟨rfl, ha2, hs2, hok⟩) ?_
  rw [hli]
  rintro _ w3 ⟨rfl, hb3⟩
  have hB3 := (Blk.drew hB2).keep hb3
  have hb13 := hb12.drew.trans (hb3.mono hb12.size)
  have ha3 := ha.keep hb13
  have hs3 := hs.keep hb13
  refine WH.back hB3 ?_
  refine WH.take 2 rfl rfl (Val.not rfl rfl) ?_ -- d7
  refine WH.take 3 rfl rfl (Val.move rfl rfl) ?_ -- d8
  refine WH.skip 4 rfl rfl rfl rfl rfl (by first | simp | simp [undef]) ?_ -- d9
  refine WH.skip 5 rfl rfl rfl rfl rfl (by first | simp | simp [undef]) ?_ -- d10
  refine WH.skip 6 rfl rfl rfl rfl rfl (by first | simp | simp [undef]) ?_ -- d11
  refine WH.skip 7 rfl rfl rfl rfl rfl (by first | simp | simp [undef]) ?_ -- d12
  refine WH.skip 8 rfl rfl rfl rfl rfl (by first | simp | simp [undef]) ?_ -- d13
  refine WH.take 9 rfl rfl (Val.pickT rfl rfl rfl rfl) ?_ -- d14
  refine WH.take 10 rfl rfl (Val.assign rfl rfl) ?_ -- d2
  refine WH.done ?_
  refine Ends.next ?_
  refine CW.ret ?_
  exact Ends.ret1 rfl rfl ⟨rfl, hb13⟩
theorem checks3 (v va vs : Value) (c : Cf) (w : World) (h : CfV w v va vs c) : Runs Try.prog 3 #[v] w fun r w' => r = .bool true ∧ Below w.heap.size w w' := by
  cases hli : lightC c with
  | true => exact checks3a v va vs c w h hli
  | false => exact checks3b v va vs c w h hli
-- signet/signetlaw14.ConfigWrites
theorem writes4 (v va vs : Value) (c : Cf) (x : UInt8) (w : World) (h : CfV w v va vs c) : Runs Try.prog 4 #[v, bv x] w fun r w' => r = .bool true ∧ Below w.heap.size w w' := by
  obtain ⟨rfl, ha, hs, hok⟩ := h
  obtain ⟨Aa, ca, hva, -⟩ := id ha
  rw [List.length_map] at hva
  subst hva
  obtain ⟨As, cs, hvs, -⟩ := id hs
  rw [List.length_map] at hvs
  subst hvs
  refine enter (N := 50) (args := [_, _]) Try.func4 rfl rfl (Nat.le_of_ble_eq_true rfl) ?_
  refine CW.seq ?_
  refine CW.region ?_
  refine WL.boxS _ rfl rfl (cfL_cells _ _ c) (fun g w1 hB1 hg1 hb1 hz1 => ?_)
  have ha1 := ha.keep hb1
  have hs1 := hs.keep hb1
  refine WL.v (Val.assign rfl rfl) ?_ -- d4
  refine WL.nil ?_
  refine Ends.next ?_
  refine CW.seq ?_
  refine CW.seq ?_
  refine CW.region ?_
  refine WL.call bodied14 rfl rfl (known14 w1) ?_
  rintro _ w2 ⟨rfl, hb2⟩
  have hB2 := hB1.keep hb2
  have hb12 := hb1.trans (hb2.mono hb1.size)
  have ha2 := ha.keep hb12
  have hs2 := hs.keep hb12
  refine WL.v (Val.not rfl rfl) ?_ -- d11
  refine WL.nil ?_
  refine Ends.next ?_
  refine CW.condF rfl (rfl) ?_
  refine CW.skip ?_
  refine Ends.next ?_
  refine CW.seq ?_
  refine CW.seq ?_
  refine CW.region ?_
  refine WL.v (Val.loadS Try.underlying28 (size28 _ rfl) rfl rfl (at_ hB2)) ?_
  refine WL.call bodied15 rfl rfl (light15 _ _ _ c w2 ⟨rfl, ha2, hs2, hok⟩) ?_
  rintro _ w3 ⟨rfl, hb3⟩
  have hb13 := hb12.trans (hb3.mono hb12.size)
  have hB3 := hB2.keep hb3
  have ha3 := ha.keep hb13
  have hs3 := hs.keep hb13
  refine WL.v (Val.not rfl rfl) ?_ -- d14
  refine WL.nil ?_
  refine Ends.next ?_
  refine CW.cond rfl (fun hc1 => ?_) (fun hc1 => ?_)
  · -- yes
    refine CW.seq ?_
    refine CW.region ?_
    refine WL.v (Val.assign rfl rfl) ?_ -- d4
    refine WL.nil ?_
    refine Ends.next ?_
    refine CW.ret ?_
    refine Ends.seqr ?_
    exact Ends.ret1 rfl rfl ⟨rfl, hb13⟩
  · -- no
    have hli : lightC c = true := by simpa using hc1
    obtain ⟨q1, q2, q3⟩ := lightC_wire hli
    refine CW.skip ?_
    refine Ends.next ?_
    refine CW.seq ?_
    refine CW.region ?_
    refine WL.v (Val.loadS Try.underlying28 (size28 _ rfl) rfl rfl (at_ hB3)) ?_
    refine WL.call bodied18 rfl rfl (bytes18 _ _ _ c w3 ⟨rfl, ha3, hs3, hok⟩ (by omega) (by omega)) ?_
    rintro r4 w4 ⟨hr4, hb4⟩
    have hb14 := hb13.trans (hb4.mono hb13.size)
    have hB4 := hB3.keep hb4
    have ha4 := ha.keep hb14
    have hs4 := hs.keep hb14
    refine WL.v (Val.assign rfl rfl) ?_ -- d5
    refine WL.nil ?_
    refine Ends.next ?_
    refine CW.seq ?_
    refine CW.seq ?_
    refine CW.region ?_
    refine WL.v (Val.move rfl rfl) ?_ -- d17
    refine WL.v (Val.loadS Try.underlying28 (size28 _ rfl) rfl rfl (at_ hB4)) ?_
    refine WL.call bodied20 rfl rfl (bytes20 _ _ _ c w4 ⟨rfl, ha4, hs4, hok⟩ (by omega) (by omega)) ?_
    rintro r5 w5 ⟨hr5, hb5⟩
    have hb15 := hb14.trans (hb5.mono hb14.size)
    have hB5 := hB4.keep hb5
    have ha5 := ha.keep hb15
    have hs5 := hs.keep hb15
    have hr45 := hr4.keep hb5
    refine WL.call bodied19 rfl rfl (bytes19 _ _ _ _ _ hr45.sl hr5.sl) ?_
    rintro _ _ ⟨rfl, rfl⟩
    refine WL.v (Val.not rfl rfl) ?_ -- d21
    refine WL.nil ?_
    refine Ends.next ?_
    refine CW.condF rfl (by simp) ?_
    refine CW.skip ?_
    refine Ends.next ?_
    refine CW.seq ?_
    refine CW.seq ?_
    refine CW.region ?_
    refine WL.v (Val.loadS Try.underlying28 (size28 _ rfl) rfl rfl (at_ hB5)) ?_
    refine WL.call bodied17 rfl rfl (check17 _ _ _ c w5 ⟨rfl, ha5, hs5, hok⟩ (by omega)) ?_
    rintro _ w6 ⟨rfl, hb6⟩
    have hb16 := hb15.trans (hb6.mono hb15.size)
    have hB6 := hB5.keep hb6
    have ha6 := ha.keep hb16
    have hs6 := hs.keep hb16
    have hr6 := hr45.keep hb6
    refine WL.v (Val.neqI rfl rfl rfl) ?_ -- d24
    refine WL.nil ?_
    refine Ends.next ?_
    refine CW.condD rfl (fun hc3 => ?_) (fun hc3 => ?_)
    · -- yes
      refine CW.seq ?_
      refine CW.region ?_
      refine WL.v (Val.assign rfl rfl) ?_ -- d4
      refine WL.nil ?_
      refine Ends.next ?_
      refine CW.ret ?_
      refine Ends.seqr ?_
      exact Ends.ret1 rfl rfl ⟨rfl, hb16⟩
    · -- no
      have hck : checkC c = 0 := by omega
      have hbl : (bytesC c).length ≤ 3000 := by
        simp only [bytesC, restC, timeL, be4, be2, List.flatMap_cons, List.flatMap_nil, List.length_append, List.length_cons, List.length_nil]
        omega
      refine CW.skip ?_
      refine Ends.next ?_
      refine CW.seq ?_
      refine CW.region ?_
      refine WL.v (Val.move rfl rfl) ?_ -- d26
      refine WL.call bodied21 rfl rfl (open21 _ _ w6 hr6.sl (by omega)) ?_
      rw [open_back hck hok]
      rintro _ w7 ⟨dv, rfl, -, hdv, hb7⟩
      have hb17 := hb16.trans (hb7.mono hb16.size)
      have hB7 := hB6.keep hb7
      have ha7 := ha.keep hb17
      have hs7 := hs.keep hb17
      obtain ⟨va', vs', rfl, ha7', hs7', -⟩ := hdv c rfl
      have hr7 := hr6.keep hb7
      have hva1' := sl_one ha7'
      have hvs1' := sl_one hs7'
      refine WL.v (Val.move rfl rfl) ?_ -- d25
      refine WL.v (Val.extract rfl rfl rfl) ?_ -- d28
      refine WL.v (Val.extract rfl rfl rfl) ?_ -- d29
      refine WL.allocS zeroC rfl zero28 rfl (fun g8 w8 hD8 hg8 hb8 _ => ?_)
      refine WL.storeS (cs' := cfL va' vs' c) hD8 (size28 _ rfl) rfl rfl rfl rfl (cfL_one _ _ _ hva1' hvs1') (fun w9 hD9 hw9 => ?_)
      have hb9 : Below w7.heap.size w7 w9 := hw9 ▸ below_setRow hb8 (by omega) _
      have hb19 := hb17.trans (hb9.mono hb17.size)
      have hB9 := hB7.keep hb9
      have hr9 := hr7.keep hb9
      have ha9 := ha.keep hb19
      have hs9 := hs.keep hb19
      have ha9' := ha7'.keep hb9
      have hs9' := hs7'.keep hb9
      obtain ⟨A5, c5, hv5, -⟩ := id hr9.sl
      rw [List.length_map] at hv5
      subst hv5
      refine WL.v (Val.assign rfl rfl) ?_ -- d7
      refine WL.nil ?_
      refine Ends.next ?_
      refine CW.seq ?_
      refine CW.region ?_
      refine WL.v (Val.move rfl rfl) ?_ -- d31
      refine WL.apL (OwnB.nil _ w9.heap.size) hr9.sl rfl rfl rfl (by simp; omega) (Nat.le_refl _) (fun v10 w10 hown10 hg10 _ => ?_)
      have hb10 := (OwnB.nil w9 w9.heap.size).below hg10 (Nat.le_refl _)
      rw [List.nil_append] at hown10
      refine WL.v (Val.move rfl rfl) ?_ -- d33
      refine WL.buildB (l := [_]) [x] rfl rfl (by decide) (by decide) (fun u11 w11 hu11 hb11 _ => ?_)
      have hown11 := hown10.keep hb11
      have hb911 := hb10.trans (hb11.mono hb10.size)
      refine WL.apL hown11 hu11 rfl rfl rfl (by simp; omega) hb911.size (fun v12 w12 hown12 hg12 _ => ?_)
      have hb912 := hb911.trans (hown11.below hg12 hb911.size)
      refine WL.call bodied21 rfl rfl (open21 _ _ w12 hown12.sl (by simp; omega)) ?_
      rw [open_back_more hck]
      rintro _ w13 ⟨dv', rfl, ⟨cs', rfl, hcl', hco'⟩, -, hb13_⟩
      have hb913 := hb912.trans (hb13_.mono hb912.size)
      refine WL.v (Val.move rfl rfl) ?_ -- d30
      refine WL.v (Val.extract rfl rfl rfl) ?_ -- d37
      refine WL.v (Val.extract rfl rfl rfl) ?_ -- d38
      refine WL.allocS zeroC rfl zero28 rfl (fun g14 w14 hE14 hg14 hb14_ _ => ?_)
      refine WL.storeS (cs' := cs') hE14 (size28 _ hcl') hcl'.symm rfl rfl rfl hco' (fun w15 hE15 hw15 => ?_)
      have hb15_ : Below w13.heap.size w13 w15 := hw15 ▸ below_setRow hb14_ (by omega) _
      have hb915 := hb913.trans (hb15_.mono hb913.size)
      have hb0_15 := hb19.trans (hb915.mono hb19.size)
      have hB15 := hB9.keep hb915
      have hD15 := hD9.keep hb915
      have ha15 := ha.keep hb0_15
      have hs15 := hs.keep hb0_15
      have ha15' := ha9'.keep hb915
      have hs15' := hs9'.keep hb915
      refine WL.v (Val.assign rfl rfl) ?_ -- d9
      refine WL.nil ?_
      refine Ends.next ?_
      refine CW.seq ?_
      refine CW.region ?_
      refine WL.v (Val.move rfl rfl) ?_ -- d39
      refine WL.v (Val.eqlI rfl rfl rfl) ?_ -- d40
      refine WL.v (Val.move rfl rfl) ?_ -- d41
      refine WL.yes rfl rfl rfl (rfl) ?_
      refine WL.v (Val.loadS Try.underlying28 (size28 _ rfl) rfl rfl (at_ hB15)) ?_
      refine WL.yes rfl rfl rfl (rfl) ?_
      refine WL.v (Val.loadS Try.underlying28 (size28 _ rfl) rfl rfl (at_ hD15)) ?_
      refine WL.yes rfl rfl rfl (rfl) ?_
      refine WL.call bodied22 rfl rfl (same22 _ _ _ _ _ _ c c w15 ⟨rfl, ha15, hs15, hok⟩ ⟨rfl, ha15', hs15', hok⟩ (by omega)) ?_
      rw [sameC_self]
      rintro _ w16 ⟨rfl, hb16_⟩
      have hb0_16 := hb0_15.trans (hb16_.mono hb0_15.size)
      refine WL.v (Val.pickT rfl rfl (rfl) rfl) ?_ -- d45
      refine WL.v (Val.move rfl rfl) ?_ -- d46
      refine WL.yes rfl rfl rfl (rfl) ?_
      refine WL.v (Val.move rfl rfl) ?_ -- d47
      refine WL.yes rfl rfl rfl (rfl) ?_
      refine WL.v (Val.eqlI rfl rfl rfl) ?_ -- d48
      refine WL.v (Val.pickT rfl rfl (rfl) rfl) ?_ -- d49
      refine WL.v (Val.assign rfl rfl) ?_ -- d4
      refine WL.nil ?_
      refine Ends.next ?_
      refine CW.ret ?_
      exact Ends.ret1 rfl rfl ⟨rfl, hb0_16⟩
-- hook not used: blk
end Go.Proofs.Ytjdgckamjgldmaa
