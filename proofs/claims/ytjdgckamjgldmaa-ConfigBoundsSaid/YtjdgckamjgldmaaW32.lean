/- Walks: ConfigBounds. -/
import Derived.Test.YtjdgckamjgldmaaW31
import Derived.Test.YtjdgckamjgldmaaEngE
namespace Go.Proofs.Ytjdgckamjgldmaa
open Go.RowKit Go.Eng

theorem bytes0 : (Value.int .u8 0).cells = #[.int .u8 0] := rfl
-- signet/signetlaw14.ConfigBounds
theorem bounds5t (which : Int) (w : World) : Runs Try.prog 5 #[.int .i64 which, .bool true] w fun r w' => r = .bool true ∧ Below w.heap.size w w' := by
  refine enter (N := 83) (args := [_, _]) Try.func5 rfl rfl (Nat.le_of_ble_eq_true rfl) ?_
  refine CW.seq ?_
  refine CW.region ?_
  refine WL.v (Val.assign rfl rfl) ?_ -- d4
  refine WL.nil ?_
  refine Ends.next ?_
  refine CW.seq ?_
  refine CW.seq ?_
  refine CW.region ?_
  refine WL.call bodied14 rfl rfl (known14 w) ?_
  rintro _ w1 ⟨rfl, hb1⟩
  refine WL.v (Val.not rfl rfl) ?_ -- d8
  refine WL.nil ?_
  refine Ends.next ?_
  refine CW.condF rfl (rfl) ?_
  refine CW.skip ?_
  refine Ends.next ?_
  refine CW.seq ?_
  refine CW.region ?_
  refine WL.call bodied23 rfl rfl (five23 w1) ?_
  rintro _ w2 ⟨va, vs, ⟨rfl, ha2, hs2, _⟩, hb2⟩
  have hb12 := hb1.trans (hb2.mono hb1.size)
  obtain ⟨Aa, ca, hva, -⟩ := id ha2
  replace hva : va = .slice Aa 1 ca := hva
  subst hva
  obtain ⟨As, cs, hvs, -⟩ := id hs2
  replace hvs : vs = .slice As 0 cs := hvs
  subst hvs
  refine WL.allocS zeroC rfl zero28 rfl (fun g w3' hG3 hg3 hb3 _ => ?_)
  refine WL.storeS (cs' := (cfL (.slice Aa 1 ca) (.slice As 0 cs) cfg5)) hG3 (size28 _ rfl) rfl rfl rfl rfl (cfL_one _ _ _ rfl rfl) (fun w3 hB3 hw3 => ?_)
  have hb23 : Below w2.heap.size w2 w3 := hw3 ▸ below_setRow hb3 (by omega) _
  have hB03 := hb12.trans (hb23.mono hb12.size)
  have hs12 := hb12.size
  refine WL.nil ?_
  refine Ends.next ?_
  refine CW.seq ?_
  refine CW.region ?_
  refine WL.v (Val.assign rfl rfl) ?_ -- d6
  refine WL.nil ?_
  refine Ends.next ?_
  refine CW.seq ?_
  refine CW.seq ?_
  refine CW.region ?_
  refine WL.v (Val.move rfl rfl) ?_ -- d10
  refine WL.nil ?_
  refine Ends.next ?_
  refine CW.condT rfl (rfl) ?_
  refine CW.region ?_
  refine WL.v (Val.assign rfl rfl) ?_ -- d6
  refine WL.nil ?_
  refine Ends.next ?_
  refine CW.cut (α := Cf × Value × Value) (fun _ => [(1, .bool true), (5, .pointer (some ⟨g, 0, none⟩))]) (fun x w5 => Blk w5 g 28 (cfL x.2.1 x.2.2 x.1) ∧ Nm w5 x.2.1 x.1.apex ∧ Bs w5 x.2.2 x.1.salt ∧ x.1.ok ∧ checkC x.1 = 100 ∧ (wireL x.1.apex).length ≤ 100 ∧ Below w.heap.size w w5) ?_ ?_
  · -- first part
    refine CW.seq ?_
    refine CW.region ?_
    refine WL.v (Val.move rfl rfl) ?_ -- d11
    refine WL.call bodied24 rfl rfl (place24 which 9 _ (by decide)) ?_
    rintro _ _ ⟨rfl, rfl⟩
    have hp0 := Int.emod_nonneg which (show (9 : Int) ≠ 0 by decide)
    have hp1 := Int.emod_lt_of_pos which (show (0 : Int) < 9 by decide)
    refine WL.nil ?_
    refine Ends.next ?_
    refine CW.block ?_
    refine CW.seq ?_
    refine CW.region ?_
    refine WL.v (Val.eqlI rfl rfl rfl) ?_ -- d14
    refine WL.v (Val.assign rfl rfl) ?_ -- d13
    refine WL.nil ?_
    refine Ends.next ?_
    refine CW.condD rfl (fun hc2 => ?_) (fun hc2 => ?_)
    · -- yes
      refine CW.region ?_
      refine WL.v (Val.fldA 8 rfl rfl (fun _ => by kernel_rfl)) ?_ -- d15
      refine WL.v (Val.loadF rfl rfl pl24 (at_ (by assumption)) rfl) ?_ -- d16
      refine WL.v (Val.move rfl rfl) ?_ -- d17
      refine WL.v (Val.add rfl rfl rfl 61 (by decide)) ?_
      refine WL.v (Val.fldA 1 rfl rfl (fun _ => by kernel_rfl)) ?_ -- d19
      have hok5 : ({ cfg5 with kt := 61 } : Cf).ok := by constructor <;> decide
      have hck5 : checkC ({ cfg5 with kt := 61 } : Cf) = 100 := by kernel_rfl
      refine WL.storeF (q := .int .u32 61) hB3 (i := 1) rfl one24 rfl rfl rfl rfl rfl (fun w5 hB5 hw5 => ?_)
      replace hB5 : Blk w5 g 28 (cfL (.slice Aa 1 ca) (.slice As 0 cs) ({ cfg5 with kt := 61 } : Cf)) := hB5
      have hb5 : Below w.heap.size w w5 := hw5 ▸ hB03.setCell (by show _ ≤ g; omega) _
      have hb5' : Below w2.heap.size w2 w5 := hw5 ▸ hb23.setCell (by show _ ≤ g; omega) _
      have ha5 := ha2.keep hb5'
      have hs5 := hs2.keep hb5'
      have hw5' : (wireL ({ cfg5 with kt := 61 } : Cf).apex).length ≤ 100 := by decide
      refine WL.nil ?_
      refine Ends.blkn ?_
      exact Ends.cut (_, _, _) ⟨rfl, rfl, trivial⟩ ⟨hB5, ha5, hs5, hok5, hck5, Nat.le_trans hw5' (Nat.le_refl _), hb5⟩
    · -- no
      refine CW.seq ?_
      refine CW.region ?_
      refine WL.v (Val.eqlI rfl rfl rfl) ?_ -- d21
      refine WL.v (Val.assign rfl rfl) ?_ -- d20
      refine WL.nil ?_
      refine Ends.next ?_
      refine CW.condD rfl (fun hc3 => ?_) (fun hc3 => ?_)
      · -- yes
        refine CW.region ?_
        refine WL.v (Val.fldA 8 rfl rfl (fun _ => by kernel_rfl)) ?_ -- d22
        refine WL.v (Val.loadF rfl rfl pl24 (at_ (by assumption)) rfl) ?_ -- d23
        refine WL.v (Val.fldA 7 rfl rfl (fun _ => by kernel_rfl)) ?_ -- d24
        refine WL.v (Val.loadF rfl rfl pl24 (at_ (by assumption)) rfl) ?_ -- d25
        refine WL.v (Val.add rfl rfl rfl 80 (by decide)) ?_
        refine WL.v (Val.add rfl rfl rfl 81 (by decide)) ?_
        refine WL.v (Val.move rfl rfl) ?_ -- d28
        refine WL.v (Val.subt rfl rfl rfl 80 (by decide)) ?_
        refine WL.v (Val.fldA 6 rfl rfl (fun _ => by kernel_rfl)) ?_ -- d30
        have hok5 : ({ cfg5 with le := 80 } : Cf).ok := by constructor <;> decide
        have hck5 : checkC ({ cfg5 with le := 80 } : Cf) = 100 := by kernel_rfl
        refine WL.storeF (q := .int .u32 80) hB3 (i := 6) rfl one24 rfl rfl rfl rfl rfl (fun w5 hB5 hw5 => ?_)
        replace hB5 : Blk w5 g 28 (cfL (.slice Aa 1 ca) (.slice As 0 cs) ({ cfg5 with le := 80 } : Cf)) := hB5
        have hb5 : Below w.heap.size w w5 := hw5 ▸ hB03.setCell (by show _ ≤ g; omega) _
        have hb5' : Below w2.heap.size w2 w5 := hw5 ▸ hb23.setCell (by show _ ≤ g; omega) _
        have ha5 := ha2.keep hb5'
        have hs5 := hs2.keep hb5'
        have hw5' : (wireL ({ cfg5 with le := 80 } : Cf).apex).length ≤ 100 := by decide
        refine WL.nil ?_
        refine Ends.blkn ?_
        exact Ends.cut (_, _, _) ⟨rfl, rfl, trivial⟩ ⟨hB5, ha5, hs5, hok5, hck5, Nat.le_trans hw5' (Nat.le_refl _), hb5⟩
      · -- no
        refine CW.seq ?_
        refine CW.region ?_
        refine WL.v (Val.eqlI rfl rfl rfl) ?_ -- d32
        refine WL.v (Val.assign rfl rfl) ?_ -- d31
        refine WL.nil ?_
        refine Ends.next ?_
        refine CW.condD rfl (fun hc4 => ?_) (fun hc4 => ?_)
        · -- yes
          refine CW.region ?_
          refine WL.v (Val.fldA 6 rfl rfl (fun _ => by kernel_rfl)) ?_ -- d33
          refine WL.v (Val.loadF rfl rfl pl24 (at_ (by assumption)) rfl) ?_ -- d34
          refine WL.v (Val.fldA 7 rfl rfl (fun _ => by kernel_rfl)) ?_ -- d35
          refine WL.v (Val.loadF rfl rfl pl24 (at_ (by assumption)) rfl) ?_ -- d36
          refine WL.v (Val.add rfl rfl rfl 120 (by decide)) ?_
          refine WL.v (Val.add rfl rfl rfl 121 (by decide)) ?_
          refine WL.v (Val.move rfl rfl) ?_ -- d39
          refine WL.v (Val.subt rfl rfl rfl 120 (by decide)) ?_
          refine WL.v (Val.fldA 5 rfl rfl (fun _ => by kernel_rfl)) ?_ -- d41
          have hok5 : ({ cfg5 with va := 120 } : Cf).ok := by constructor <;> decide
          have hck5 : checkC ({ cfg5 with va := 120 } : Cf) = 100 := by kernel_rfl
          refine WL.storeF (q := .int .u32 120) hB3 (i := 5) rfl one24 rfl rfl rfl rfl rfl (fun w5 hB5 hw5 => ?_)
          replace hB5 : Blk w5 g 28 (cfL (.slice Aa 1 ca) (.slice As 0 cs) ({ cfg5 with va := 120 } : Cf)) := hB5
          have hb5 : Below w.heap.size w w5 := hw5 ▸ hB03.setCell (by show _ ≤ g; omega) _
          have hb5' : Below w2.heap.size w2 w5 := hw5 ▸ hb23.setCell (by show _ ≤ g; omega) _
          have ha5 := ha2.keep hb5'
          have hs5 := hs2.keep hb5'
          have hw5' : (wireL ({ cfg5 with va := 120 } : Cf).apex).length ≤ 100 := by decide
          refine WL.nil ?_
          refine Ends.blkn ?_
          exact Ends.cut (_, _, _) ⟨rfl, rfl, trivial⟩ ⟨hB5, ha5, hs5, hok5, hck5, Nat.le_trans hw5' (Nat.le_refl _), hb5⟩
        · -- no
          refine CW.seq ?_
          refine CW.region ?_
          refine WL.v (Val.eqlI rfl rfl rfl) ?_ -- d43
          refine WL.v (Val.assign rfl rfl) ?_ -- d42
          refine WL.nil ?_
          refine Ends.next ?_
          refine CW.condD rfl (fun hc5 => ?_) (fun hc5 => ?_)
          · -- yes
            refine CW.region ?_
            refine WL.v (Val.move rfl rfl) ?_ -- d44
            refine WL.v (Val.convI rfl Try.underlying24 Try.underlying3 rfl 1 (by decide)) ?_
            refine WL.v (Val.add rfl rfl rfl 17 (by decide)) ?_
            refine WL.makeX (n := 17) ty25 bytes0 rfl rfl rfl (by decide) (by decide) (fun gm w4 hM4 hgm hb4 _ => ?_)
            have hB4 := hB3.keep hb4
            have hB04 := hB03.trans (hb4.mono hB03.size)
            have hb24 := hb23.trans (hb4.mono hb23.size)
            refine WL.v (Val.fldA 9 rfl rfl (fun _ => by kernel_rfl)) ?_ -- d48
            have hok5 : ({ cfg5 with salt := List.replicate 17 0 } : Cf).ok := by constructor <;> decide
            have hck5 : checkC ({ cfg5 with salt := List.replicate 17 0 } : Cf) = 100 := by kernel_rfl
            refine WL.storeF (q := .slice (some ⟨gm, 0, none⟩) 17 17) hB4 (i := 9) rfl one25 rfl rfl rfl rfl rfl (fun w5 hB5 hw5 => ?_)
            replace hB5 : Blk w5 g 28 (cfL (.slice Aa 1 ca) (.slice (some ⟨gm, 0, none⟩) 17 17) ({ cfg5 with salt := List.replicate 17 0 } : Cf)) := hB5
            have hb5 : Below w.heap.size w w5 := hw5 ▸ hB04.setCell (by show _ ≤ g; omega) _
            have hb5' : Below w2.heap.size w2 w5 := hw5 ▸ hb24.setCell (by show _ ≤ g; omega) _
            have ha5 := ha2.keep hb5'
            have hM5 : Blk w5 gm 5 (List.replicate 17 (.int .u8 0)) := hw5 ▸ hM4.other (by have := hB3.lt; show gm ≠ g; omega) _
            have hs5 : Bs w5 (.slice (some ⟨gm, 0, none⟩) 17 17) (List.replicate 17 0) := hM5.sl rfl
            have hw5' : (wireL ({ cfg5 with salt := List.replicate 17 0 } : Cf).apex).length ≤ 100 := by decide
            refine WL.nil ?_
            refine Ends.blkn ?_
            exact Ends.cut (_, _, _) ⟨rfl, rfl, trivial⟩ ⟨hB5, ha5, hs5, hok5, hck5, Nat.le_trans hw5' (Nat.le_refl _), hb5⟩
          · -- no
            refine CW.seq ?_
            refine CW.region ?_
            refine WL.v (Val.eqlI rfl rfl rfl) ?_ -- d50
            refine WL.v (Val.assign rfl rfl) ?_ -- d49
            refine WL.nil ?_
            refine Ends.next ?_
            refine CW.condD rfl (fun hc6 => ?_) (fun hc6 => ?_)
            · -- yes
              refine CW.region ?_
              refine WL.v (Val.move rfl rfl) ?_ -- d51
              refine WL.v (Val.convI rfl Try.underlying24 Try.underlying26 rfl 1 (by decide)) ?_
              refine WL.v (Val.add rfl rfl rfl 51 (by decide)) ?_
              refine WL.v (Val.fldA 10 rfl rfl (fun _ => by kernel_rfl)) ?_ -- d54
              have hok5 : ({ cfg5 with it := 51 } : Cf).ok := by constructor <;> decide
              have hck5 : checkC ({ cfg5 with it := 51 } : Cf) = 100 := by kernel_rfl
              refine WL.storeF (q := .int .u16 51) hB3 (i := 10) rfl one26 rfl rfl rfl rfl rfl (fun w5 hB5 hw5 => ?_)
              replace hB5 : Blk w5 g 28 (cfL (.slice Aa 1 ca) (.slice As 0 cs) ({ cfg5 with it := 51 } : Cf)) := hB5
              have hb5 : Below w.heap.size w w5 := hw5 ▸ hB03.setCell (by show _ ≤ g; omega) _
              have hb5' : Below w2.heap.size w2 w5 := hw5 ▸ hb23.setCell (by show _ ≤ g; omega) _
              have ha5 := ha2.keep hb5'
              have hs5 := hs2.keep hb5'
              have hw5' : (wireL ({ cfg5 with it := 51 } : Cf).apex).length ≤ 100 := by decide
              refine WL.nil ?_
              refine Ends.blkn ?_
              exact Ends.cut (_, _, _) ⟨rfl, rfl, trivial⟩ ⟨hB5, ha5, hs5, hok5, hck5, Nat.le_trans hw5' (Nat.le_refl _), hb5⟩
            · -- no
              refine CW.seq ?_
              refine CW.region ?_
              refine WL.v (Val.eqlI rfl rfl rfl) ?_ -- d56
              refine WL.v (Val.assign rfl rfl) ?_ -- d55
              refine WL.nil ?_
              refine Ends.next ?_
              refine CW.condD rfl (fun hc7 => ?_) (fun hc7 => ?_)
              · -- yes
                refine CW.region ?_
                refine WL.v (Val.move rfl rfl) ?_ -- d57
                refine WL.v (Val.convI rfl Try.underlying24 Try.underlying3 rfl 1 (by decide)) ?_
                refine WL.v (Val.add rfl rfl rfl 11 (by decide)) ?_
                refine WL.v (Val.fldA 11 rfl rfl (fun _ => by kernel_rfl)) ?_ -- d60
                have hok5 : ({ cfg5 with h := 11 } : Cf).ok := by constructor <;> decide
                have hck5 : checkC ({ cfg5 with h := 11 } : Cf) = 100 := by kernel_rfl
                refine WL.storeF (q := .int .i64 11) hB3 (i := 11) rfl one3 rfl rfl rfl rfl rfl (fun w5 hB5 hw5 => ?_)
                replace hB5 : Blk w5 g 28 (cfL (.slice Aa 1 ca) (.slice As 0 cs) ({ cfg5 with h := 11 } : Cf)) := hB5
                have hb5 : Below w.heap.size w w5 := hw5 ▸ hB03.setCell (by show _ ≤ g; omega) _
                have hb5' : Below w2.heap.size w2 w5 := hw5 ▸ hb23.setCell (by show _ ≤ g; omega) _
                have ha5 := ha2.keep hb5'
                have hs5 := hs2.keep hb5'
                have hw5' : (wireL ({ cfg5 with h := 11 } : Cf).apex).length ≤ 100 := by decide
                refine WL.nil ?_
                refine Ends.blkn ?_
                exact Ends.cut (_, _, _) ⟨rfl, rfl, trivial⟩ ⟨hB5, ha5, hs5, hok5, hck5, Nat.le_trans hw5' (Nat.le_refl _), hb5⟩
              · -- no
                refine CW.seq ?_
                refine CW.region ?_
                refine WL.v (Val.eqlI rfl rfl rfl) ?_ -- d62
                refine WL.v (Val.assign rfl rfl) ?_ -- d61
                refine WL.nil ?_
                refine Ends.next ?_
                refine CW.condD rfl (fun hc8 => ?_) (fun hc8 => ?_)
                · -- yes
                  refine CW.region ?_
                  refine WL.v (Val.move rfl rfl) ?_ -- d63
                  refine WL.v (Val.convI rfl Try.underlying24 Try.underlying26 rfl 1 (by decide)) ?_
                  refine WL.v (Val.subt rfl rfl rfl 511 (by decide)) ?_
                  refine WL.v (Val.fldA 12 rfl rfl (fun _ => by kernel_rfl)) ?_ -- d66
                  have hok5 : ({ cfg5 with sz := 511 } : Cf).ok := by constructor <;> decide
                  have hck5 : checkC ({ cfg5 with sz := 511 } : Cf) = 100 := by kernel_rfl
                  refine WL.storeF (q := .int .u16 511) hB3 (i := 12) rfl one26 rfl rfl rfl rfl rfl (fun w5 hB5 hw5 => ?_)
                  replace hB5 : Blk w5 g 28 (cfL (.slice Aa 1 ca) (.slice As 0 cs) ({ cfg5 with sz := 511 } : Cf)) := hB5
                  have hb5 : Below w.heap.size w w5 := hw5 ▸ hB03.setCell (by show _ ≤ g; omega) _
                  have hb5' : Below w2.heap.size w2 w5 := hw5 ▸ hb23.setCell (by show _ ≤ g; omega) _
                  have ha5 := ha2.keep hb5'
                  have hs5 := hs2.keep hb5'
                  have hw5' : (wireL ({ cfg5 with sz := 511 } : Cf).apex).length ≤ 100 := by decide
                  refine WL.nil ?_
                  refine Ends.blkn ?_
                  exact Ends.cut (_, _, _) ⟨rfl, rfl, trivial⟩ ⟨hB5, ha5, hs5, hok5, hck5, Nat.le_trans hw5' (Nat.le_refl _), hb5⟩
                · -- no
                  refine CW.seq ?_
                  refine CW.region ?_
                  refine WL.v (Val.eqlI rfl rfl rfl) ?_ -- d68
                  refine WL.v (Val.assign rfl rfl) ?_ -- d67
                  refine WL.nil ?_
                  refine Ends.next ?_
                  refine CW.condD rfl (fun hc9 => ?_) (fun hc9 => ?_)
                  · -- yes
                    refine CW.region ?_
                    refine WL.v (Val.move rfl rfl) ?_ -- d69
                    refine WL.v (Val.add rfl rfl rfl 16777217 (by decide)) ?_
                    refine WL.v (Val.fldA 3 rfl rfl (fun _ => by kernel_rfl)) ?_ -- d71
                    have hok5 : ({ cfg5 with dt := 16777217 } : Cf).ok := by constructor <;> decide
                    have hck5 : checkC ({ cfg5 with dt := 16777217 } : Cf) = 100 := by kernel_rfl
                    refine WL.storeF (q := .int .u32 16777217) hB3 (i := 3) rfl one24 rfl rfl rfl rfl rfl (fun w5 hB5 hw5 => ?_)
                    replace hB5 : Blk w5 g 28 (cfL (.slice Aa 1 ca) (.slice As 0 cs) ({ cfg5 with dt := 16777217 } : Cf)) := hB5
                    have hb5 : Below w.heap.size w w5 := hw5 ▸ hB03.setCell (by show _ ≤ g; omega) _
                    have hb5' : Below w2.heap.size w2 w5 := hw5 ▸ hb23.setCell (by show _ ≤ g; omega) _
                    have ha5 := ha2.keep hb5'
                    have hs5 := hs2.keep hb5'
                    have hw5' : (wireL ({ cfg5 with dt := 16777217 } : Cf).apex).length ≤ 100 := by decide
                    refine WL.nil ?_
                    refine Ends.blkn ?_
                    exact Ends.cut (_, _, _) ⟨rfl, rfl, trivial⟩ ⟨hB5, ha5, hs5, hok5, hck5, Nat.le_trans hw5' (Nat.le_refl _), hb5⟩
                  · -- no
                    refine CW.seq ?_
                    refine CW.region ?_
                    refine WL.v (Val.eqlI rfl rfl rfl) ?_ -- d73
                    refine WL.v (Val.assign rfl rfl) ?_ -- d72
                    refine WL.nil ?_
                    refine Ends.next ?_
                    refine CW.condD rfl (fun hc10 => ?_) (fun hc10 => ?_)
                    · -- yes
                      refine CW.region ?_
                      refine WL.v (Val.move rfl rfl) ?_ -- d74
                      refine WL.v (Val.subt rfl rfl rfl 0 (by decide)) ?_
                      refine WL.v (Val.fldA 1 rfl rfl (fun _ => by kernel_rfl)) ?_ -- d76
                      have hok5 : ({ cfg5 with kt := 0 } : Cf).ok := by constructor <;> decide
                      have hck5 : checkC ({ cfg5 with kt := 0 } : Cf) = 100 := by kernel_rfl
                      refine WL.storeF (q := .int .u32 0) hB3 (i := 1) rfl one24 rfl rfl rfl rfl rfl (fun w5 hB5 hw5 => ?_)
                      replace hB5 : Blk w5 g 28 (cfL (.slice Aa 1 ca) (.slice As 0 cs) ({ cfg5 with kt := 0 } : Cf)) := hB5
                      have hb5 : Below w.heap.size w w5 := hw5 ▸ hB03.setCell (by show _ ≤ g; omega) _
                      have hb5' : Below w2.heap.size w2 w5 := hw5 ▸ hb23.setCell (by show _ ≤ g; omega) _
                      have ha5 := ha2.keep hb5'
                      have hs5 := hs2.keep hb5'
                      have hw5' : (wireL ({ cfg5 with kt := 0 } : Cf).apex).length ≤ 100 := by decide
                      refine WL.nil ?_
                      refine Ends.blkn ?_
                      exact Ends.cut (_, _, _) ⟨rfl, rfl, trivial⟩ ⟨hB5, ha5, hs5, hok5, hck5, Nat.le_trans hw5' (Nat.le_refl _), hb5⟩
                    · -- no
                      exfalso
                      omega
  · -- what follows
    rintro ⟨c, va, vs⟩ w5 ⟨hB5, ha5, hs5, hok5, hck5, hw5', hb5⟩
    dsimp only at hB5 ha5 hs5 hok5 hck5 hw5'
    refine CW.seq ?_
    refine CW.region ?_
    refine WL.v (Val.loadS Try.underlying28 (size28 _ rfl) rfl rfl (at_ hB5)) ?_
    refine WL.call bodied16 rfl rfl (check16 _ _ _ c w5 ⟨rfl, ha5, hs5, hok5⟩ (by omega)) ?_
    rw [hck5]
    rintro _ w6 ⟨rfl, hb6⟩
    refine WL.v (Val.eqlI rfl rfl rfl) ?_ -- d79
    refine WL.v (Val.move rfl rfl) ?_ -- d80
    refine WL.v (Val.not rfl rfl) ?_ -- d81
    refine WL.v (Val.eqlB Try.underlying4 rfl rfl rfl) ?_
    refine WL.v (Val.assign rfl rfl) ?_ -- d4
    refine WL.nil ?_
    refine Ends.next ?_
    refine CW.ret ?_
    exact Ends.ret1 rfl rfl ⟨rfl, hb5.trans (hb6.mono hb5.size)⟩
-- signet/signetlaw14.ConfigBounds
theorem bounds5f (which : Int) (w : World) : Runs Try.prog 5 #[.int .i64 which, .bool false] w fun r w' => r = .bool true ∧ Below w.heap.size w w' := by
  refine enter (N := 83) (args := [_, _]) Try.func5 rfl rfl (Nat.le_of_ble_eq_true rfl) ?_
  refine CW.seq ?_
  refine CW.region ?_
  refine WL.v (Val.assign rfl rfl) ?_ -- d4
  refine WL.nil ?_
  refine Ends.next ?_
  refine CW.seq ?_
  refine CW.seq ?_
  refine CW.region ?_
  refine WL.call bodied14 rfl rfl (known14 w) ?_
  rintro _ w1 ⟨rfl, hb1⟩
  refine WL.v (Val.not rfl rfl) ?_ -- d8
  refine WL.nil ?_
  refine Ends.next ?_
  refine CW.condF rfl (rfl) ?_
  refine CW.skip ?_
  refine Ends.next ?_
  refine CW.seq ?_
  refine CW.region ?_
  refine WL.call bodied23 rfl rfl (five23 w1) ?_
  rintro _ w2 ⟨va, vs, ⟨rfl, ha2, hs2, _⟩, hb2⟩
  have hb12 := hb1.trans (hb2.mono hb1.size)
  obtain ⟨Aa, ca, hva, -⟩ := id ha2
  replace hva : va = .slice Aa 1 ca := hva
  subst hva
  obtain ⟨As, cs, hvs, -⟩ := id hs2
  replace hvs : vs = .slice As 0 cs := hvs
  subst hvs
  refine WL.allocS zeroC rfl zero28 rfl (fun g w3' hG3 hg3 hb3 _ => ?_)
  refine WL.storeS (cs' := (cfL (.slice Aa 1 ca) (.slice As 0 cs) cfg5)) hG3 (size28 _ rfl) rfl rfl rfl rfl (cfL_one _ _ _ rfl rfl) (fun w3 hB3 hw3 => ?_)
  have hb23 : Below w2.heap.size w2 w3 := hw3 ▸ below_setRow hb3 (by omega) _
  have hB03 := hb12.trans (hb23.mono hb12.size)
  have hs12 := hb12.size
  refine WL.nil ?_
  refine Ends.next ?_
  refine CW.seq ?_
  refine CW.region ?_
  refine WL.v (Val.assign rfl rfl) ?_ -- d6
  refine WL.nil ?_
  refine Ends.next ?_
  refine CW.seq ?_
  refine CW.seq ?_
  refine CW.region ?_
  refine WL.v (Val.move rfl rfl) ?_ -- d10
  refine WL.nil ?_
  refine Ends.next ?_
  refine CW.condF rfl (rfl) ?_
  refine CW.skip ?_
  refine Ends.next ?_
  refine CW.cut (α := Cf × Value × Value) (fun _ => [(1, .bool false), (5, .pointer (some ⟨g, 0, none⟩))]) (fun x w5 => Blk w5 g 28 (cfL x.2.1 x.2.2 x.1) ∧ Nm w5 x.2.1 x.1.apex ∧ Bs w5 x.2.2 x.1.salt ∧ x.1.ok ∧ checkC x.1 = 0 ∧ (wireL x.1.apex).length ≤ 100 ∧ Below w.heap.size w w5) ?_ ?_
  · -- first part
    refine CW.seq ?_
    refine CW.region ?_
    refine WL.v (Val.move rfl rfl) ?_ -- d11
    refine WL.call bodied24 rfl rfl (place24 which 9 _ (by decide)) ?_
    rintro _ _ ⟨rfl, rfl⟩
    have hp0 := Int.emod_nonneg which (show (9 : Int) ≠ 0 by decide)
    have hp1 := Int.emod_lt_of_pos which (show (0 : Int) < 9 by decide)
    refine WL.nil ?_
    refine Ends.next ?_
    refine CW.block ?_
    refine CW.seq ?_
    refine CW.region ?_
    refine WL.v (Val.eqlI rfl rfl rfl) ?_ -- d14
    refine WL.v (Val.assign rfl rfl) ?_ -- d13
    refine WL.nil ?_
    refine Ends.next ?_
    refine CW.condD rfl (fun hc2 => ?_) (fun hc2 => ?_)
    · -- yes
      refine CW.region ?_
      refine WL.v (Val.fldA 8 rfl rfl (fun _ => by kernel_rfl)) ?_ -- d15
      refine WL.v (Val.loadF rfl rfl pl24 (at_ (by assumption)) rfl) ?_ -- d16
      refine WL.v (Val.move rfl rfl) ?_ -- d17
      refine WL.v (Val.add rfl rfl rfl 60 (by decide)) ?_
      refine WL.v (Val.fldA 1 rfl rfl (fun _ => by kernel_rfl)) ?_ -- d19
      have hok5 : ({ cfg5 with kt := 60 } : Cf).ok := by constructor <;> decide
      have hck5 : checkC ({ cfg5 with kt := 60 } : Cf) = 0 := by kernel_rfl
      refine WL.storeF (q := .int .u32 60) hB3 (i := 1) rfl one24 rfl rfl rfl rfl rfl (fun w5 hB5 hw5 => ?_)
      replace hB5 : Blk w5 g 28 (cfL (.slice Aa 1 ca) (.slice As 0 cs) ({ cfg5 with kt := 60 } : Cf)) := hB5
      have hb5 : Below w.heap.size w w5 := hw5 ▸ hB03.setCell (by show _ ≤ g; omega) _
      have hb5' : Below w2.heap.size w2 w5 := hw5 ▸ hb23.setCell (by show _ ≤ g; omega) _
      have ha5 := ha2.keep hb5'
      have hs5 := hs2.keep hb5'
      have hw5' : (wireL ({ cfg5 with kt := 60 } : Cf).apex).length ≤ 100 := by decide
      refine WL.nil ?_
      refine Ends.blkn ?_
      exact Ends.cut (_, _, _) ⟨rfl, rfl, trivial⟩ ⟨hB5, ha5, hs5, hok5, hck5, Nat.le_trans hw5' (Nat.le_refl _), hb5⟩
    · -- no
      refine CW.seq ?_
      refine CW.region ?_
      refine WL.v (Val.eqlI rfl rfl rfl) ?_ -- d21
      refine WL.v (Val.assign rfl rfl) ?_ -- d20
      refine WL.nil ?_
      refine Ends.next ?_
      refine CW.condD rfl (fun hc3 => ?_) (fun hc3 => ?_)
      · -- yes
        refine CW.region ?_
        refine WL.v (Val.fldA 8 rfl rfl (fun _ => by kernel_rfl)) ?_ -- d22
        refine WL.v (Val.loadF rfl rfl pl24 (at_ (by assumption)) rfl) ?_ -- d23
        refine WL.v (Val.fldA 7 rfl rfl (fun _ => by kernel_rfl)) ?_ -- d24
        refine WL.v (Val.loadF rfl rfl pl24 (at_ (by assumption)) rfl) ?_ -- d25
        refine WL.v (Val.add rfl rfl rfl 80 (by decide)) ?_
        refine WL.v (Val.add rfl rfl rfl 81 (by decide)) ?_
        refine WL.v (Val.move rfl rfl) ?_ -- d28
        refine WL.v (Val.subt rfl rfl rfl 81 (by decide)) ?_
        refine WL.v (Val.fldA 6 rfl rfl (fun _ => by kernel_rfl)) ?_ -- d30
        have hok5 : ({ cfg5 with le := 81 } : Cf).ok := by constructor <;> decide
        have hck5 : checkC ({ cfg5 with le := 81 } : Cf) = 0 := by kernel_rfl
        refine WL.storeF (q := .int .u32 81) hB3 (i := 6) rfl one24 rfl rfl rfl rfl rfl (fun w5 hB5 hw5 => ?_)
        replace hB5 : Blk w5 g 28 (cfL (.slice Aa 1 ca) (.slice As 0 cs) ({ cfg5 with le := 81 } : Cf)) := hB5
        have hb5 : Below w.heap.size w w5 := hw5 ▸ hB03.setCell (by show _ ≤ g; omega) _
        have hb5' : Below w2.heap.size w2 w5 := hw5 ▸ hb23.setCell (by show _ ≤ g; omega) _
        have ha5 := ha2.keep hb5'
        have hs5 := hs2.keep hb5'
        have hw5' : (wireL ({ cfg5 with le := 81 } : Cf).apex).length ≤ 100 := by decide
        refine WL.nil ?_
        refine Ends.blkn ?_
        exact Ends.cut (_, _, _) ⟨rfl, rfl, trivial⟩ ⟨hB5, ha5, hs5, hok5, hck5, Nat.le_trans hw5' (Nat.le_refl _), hb5⟩
      · -- no
        refine CW.seq ?_
        refine CW.region ?_
        refine WL.v (Val.eqlI rfl rfl rfl) ?_ -- d32
        refine WL.v (Val.assign rfl rfl) ?_ -- d31
        refine WL.nil ?_
        refine Ends.next ?_
        refine CW.condD rfl (fun hc4 => ?_) (fun hc4 => ?_)
        · -- yes
          refine CW.region ?_
          refine WL.v (Val.fldA 6 rfl rfl (fun _ => by kernel_rfl)) ?_ -- d33
          refine WL.v (Val.loadF rfl rfl pl24 (at_ (by assumption)) rfl) ?_ -- d34
          refine WL.v (Val.fldA 7 rfl rfl (fun _ => by kernel_rfl)) ?_ -- d35
          refine WL.v (Val.loadF rfl rfl pl24 (at_ (by assumption)) rfl) ?_ -- d36
          refine WL.v (Val.add rfl rfl rfl 120 (by decide)) ?_
          refine WL.v (Val.add rfl rfl rfl 121 (by decide)) ?_
          refine WL.v (Val.move rfl rfl) ?_ -- d39
          refine WL.v (Val.subt rfl rfl rfl 121 (by decide)) ?_
          refine WL.v (Val.fldA 5 rfl rfl (fun _ => by kernel_rfl)) ?_ -- d41
          have hok5 : ({ cfg5 with va := 121 } : Cf).ok := by constructor <;> decide
          have hck5 : checkC ({ cfg5 with va := 121 } : Cf) = 0 := by kernel_rfl
          refine WL.storeF (q := .int .u32 121) hB3 (i := 5) rfl one24 rfl rfl rfl rfl rfl (fun w5 hB5 hw5 => ?_)
          replace hB5 : Blk w5 g 28 (cfL (.slice Aa 1 ca) (.slice As 0 cs) ({ cfg5 with va := 121 } : Cf)) := hB5
          have hb5 : Below w.heap.size w w5 := hw5 ▸ hB03.setCell (by show _ ≤ g; omega) _
          have hb5' : Below w2.heap.size w2 w5 := hw5 ▸ hb23.setCell (by show _ ≤ g; omega) _
          have ha5 := ha2.keep hb5'
          have hs5 := hs2.keep hb5'
          have hw5' : (wireL ({ cfg5 with va := 121 } : Cf).apex).length ≤ 100 := by decide
          refine WL.nil ?_
          refine Ends.blkn ?_
          exact Ends.cut (_, _, _) ⟨rfl, rfl, trivial⟩ ⟨hB5, ha5, hs5, hok5, hck5, Nat.le_trans hw5' (Nat.le_refl _), hb5⟩
        · -- no
          refine CW.seq ?_
          refine CW.region ?_
          refine WL.v (Val.eqlI rfl rfl rfl) ?_ -- d43
          refine WL.v (Val.assign rfl rfl) ?_ -- d42
          refine WL.nil ?_
          refine Ends.next ?_
          refine CW.condD rfl (fun hc5 => ?_) (fun hc5 => ?_)
          · -- yes
            refine CW.region ?_
            refine WL.v (Val.move rfl rfl) ?_ -- d44
            refine WL.v (Val.convI rfl Try.underlying24 Try.underlying3 rfl 0 (by decide)) ?_
            refine WL.v (Val.add rfl rfl rfl 16 (by decide)) ?_
            refine WL.makeX (n := 16) ty25 bytes0 rfl rfl rfl (by decide) (by decide) (fun gm w4 hM4 hgm hb4 _ => ?_)
            have hB4 := hB3.keep hb4
            have hB04 := hB03.trans (hb4.mono hB03.size)
            have hb24 := hb23.trans (hb4.mono hb23.size)
            refine WL.v (Val.fldA 9 rfl rfl (fun _ => by kernel_rfl)) ?_ -- d48
            have hok5 : ({ cfg5 with salt := List.replicate 16 0 } : Cf).ok := by constructor <;> decide
            have hck5 : checkC ({ cfg5 with salt := List.replicate 16 0 } : Cf) = 0 := by kernel_rfl
            refine WL.storeF (q := .slice (some ⟨gm, 0, none⟩) 16 16) hB4 (i := 9) rfl one25 rfl rfl rfl rfl rfl (fun w5 hB5 hw5 => ?_)
            replace hB5 : Blk w5 g 28 (cfL (.slice Aa 1 ca) (.slice (some ⟨gm, 0, none⟩) 16 16) ({ cfg5 with salt := List.replicate 16 0 } : Cf)) := hB5
            have hb5 : Below w.heap.size w w5 := hw5 ▸ hB04.setCell (by show _ ≤ g; omega) _
            have hb5' : Below w2.heap.size w2 w5 := hw5 ▸ hb24.setCell (by show _ ≤ g; omega) _
            have ha5 := ha2.keep hb5'
            have hM5 : Blk w5 gm 5 (List.replicate 16 (.int .u8 0)) := hw5 ▸ hM4.other (by have := hB3.lt; show gm ≠ g; omega) _
            have hs5 : Bs w5 (.slice (some ⟨gm, 0, none⟩) 16 16) (List.replicate 16 0) := hM5.sl rfl
            have hw5' : (wireL ({ cfg5 with salt := List.replicate 16 0 } : Cf).apex).length ≤ 100 := by decide
            refine WL.nil ?_
            refine Ends.blkn ?_
            exact Ends.cut (_, _, _) ⟨rfl, rfl, trivial⟩ ⟨hB5, ha5, hs5, hok5, hck5, Nat.le_trans hw5' (Nat.le_refl _), hb5⟩
          · -- no
            refine CW.seq ?_
            refine CW.region ?_
            refine WL.v (Val.eqlI rfl rfl rfl) ?_ -- d50
            refine WL.v (Val.assign rfl rfl) ?_ -- d49
            refine WL.nil ?_
            refine Ends.next ?_
            refine CW.condD rfl (fun hc6 => ?_) (fun hc6 => ?_)
            · -- yes
              refine CW.region ?_
              refine WL.v (Val.move rfl rfl) ?_ -- d51
              refine WL.v (Val.convI rfl Try.underlying24 Try.underlying26 rfl 0 (by decide)) ?_
              refine WL.v (Val.add rfl rfl rfl 50 (by decide)) ?_
              refine WL.v (Val.fldA 10 rfl rfl (fun _ => by kernel_rfl)) ?_ -- d54
              have hok5 : ({ cfg5 with it := 50 } : Cf).ok := by constructor <;> decide
              have hck5 : checkC ({ cfg5 with it := 50 } : Cf) = 0 := by kernel_rfl
              refine WL.storeF (q := .int .u16 50) hB3 (i := 10) rfl one26 rfl rfl rfl rfl rfl (fun w5 hB5 hw5 => ?_)
              replace hB5 : Blk w5 g 28 (cfL (.slice Aa 1 ca) (.slice As 0 cs) ({ cfg5 with it := 50 } : Cf)) := hB5
              have hb5 : Below w.heap.size w w5 := hw5 ▸ hB03.setCell (by show _ ≤ g; omega) _
              have hb5' : Below w2.heap.size w2 w5 := hw5 ▸ hb23.setCell (by show _ ≤ g; omega) _
              have ha5 := ha2.keep hb5'
              have hs5 := hs2.keep hb5'
              have hw5' : (wireL ({ cfg5 with it := 50 } : Cf).apex).length ≤ 100 := by decide
              refine WL.nil ?_
              refine Ends.blkn ?_
              exact Ends.cut (_, _, _) ⟨rfl, rfl, trivial⟩ ⟨hB5, ha5, hs5, hok5, hck5, Nat.le_trans hw5' (Nat.le_refl _), hb5⟩
            · -- no
              refine CW.seq ?_
              refine CW.region ?_
              refine WL.v (Val.eqlI rfl rfl rfl) ?_ -- d56
              refine WL.v (Val.assign rfl rfl) ?_ -- d55
              refine WL.nil ?_
              refine Ends.next ?_
              refine CW.condD rfl (fun hc7 => ?_) (fun hc7 => ?_)
              · -- yes
                refine CW.region ?_
                refine WL.v (Val.move rfl rfl) ?_ -- d57
                refine WL.v (Val.convI rfl Try.underlying24 Try.underlying3 rfl 0 (by decide)) ?_
                refine WL.v (Val.add rfl rfl rfl 10 (by decide)) ?_
                refine WL.v (Val.fldA 11 rfl rfl (fun _ => by kernel_rfl)) ?_ -- d60
                have hok5 : ({ cfg5 with h := 10 } : Cf).ok := by constructor <;> decide
                have hck5 : checkC ({ cfg5 with h := 10 } : Cf) = 0 := by kernel_rfl
                refine WL.storeF (q := .int .i64 10) hB3 (i := 11) rfl one3 rfl rfl rfl rfl rfl (fun w5 hB5 hw5 => ?_)
                replace hB5 : Blk w5 g 28 (cfL (.slice Aa 1 ca) (.slice As 0 cs) ({ cfg5 with h := 10 } : Cf)) := hB5
                have hb5 : Below w.heap.size w w5 := hw5 ▸ hB03.setCell (by show _ ≤ g; omega) _
                have hb5' : Below w2.heap.size w2 w5 := hw5 ▸ hb23.setCell (by show _ ≤ g; omega) _
                have ha5 := ha2.keep hb5'
                have hs5 := hs2.keep hb5'
                have hw5' : (wireL ({ cfg5 with h := 10 } : Cf).apex).length ≤ 100 := by decide
                refine WL.nil ?_
                refine Ends.blkn ?_
                exact Ends.cut (_, _, _) ⟨rfl, rfl, trivial⟩ ⟨hB5, ha5, hs5, hok5, hck5, Nat.le_trans hw5' (Nat.le_refl _), hb5⟩
              · -- no
                refine CW.seq ?_
                refine CW.region ?_
                refine WL.v (Val.eqlI rfl rfl rfl) ?_ -- d62
                refine WL.v (Val.assign rfl rfl) ?_ -- d61
                refine WL.nil ?_
                refine Ends.next ?_
                refine CW.condD rfl (fun hc8 => ?_) (fun hc8 => ?_)
                · -- yes
                  refine CW.region ?_
                  refine WL.v (Val.move rfl rfl) ?_ -- d63
                  refine WL.v (Val.convI rfl Try.underlying24 Try.underlying26 rfl 0 (by decide)) ?_
                  refine WL.v (Val.subt rfl rfl rfl 512 (by decide)) ?_
                  refine WL.v (Val.fldA 12 rfl rfl (fun _ => by kernel_rfl)) ?_ -- d66
                  have hok5 : ({ cfg5 with sz := 512 } : Cf).ok := by constructor <;> decide
                  have hck5 : checkC ({ cfg5 with sz := 512 } : Cf) = 0 := by kernel_rfl
                  refine WL.storeF (q := .int .u16 512) hB3 (i := 12) rfl one26 rfl rfl rfl rfl rfl (fun w5 hB5 hw5 => ?_)
                  replace hB5 : Blk w5 g 28 (cfL (.slice Aa 1 ca) (.slice As 0 cs) ({ cfg5 with sz := 512 } : Cf)) := hB5
                  have hb5 : Below w.heap.size w w5 := hw5 ▸ hB03.setCell (by show _ ≤ g; omega) _
                  have hb5' : Below w2.heap.size w2 w5 := hw5 ▸ hb23.setCell (by show _ ≤ g; omega) _
                  have ha5 := ha2.keep hb5'
                  have hs5 := hs2.keep hb5'
                  have hw5' : (wireL ({ cfg5 with sz := 512 } : Cf).apex).length ≤ 100 := by decide
                  refine WL.nil ?_
                  refine Ends.blkn ?_
                  exact Ends.cut (_, _, _) ⟨rfl, rfl, trivial⟩ ⟨hB5, ha5, hs5, hok5, hck5, Nat.le_trans hw5' (Nat.le_refl _), hb5⟩
                · -- no
                  refine CW.seq ?_
                  refine CW.region ?_
                  refine WL.v (Val.eqlI rfl rfl rfl) ?_ -- d68
                  refine WL.v (Val.assign rfl rfl) ?_ -- d67
                  refine WL.nil ?_
                  refine Ends.next ?_
                  refine CW.condD rfl (fun hc9 => ?_) (fun hc9 => ?_)
                  · -- yes
                    refine CW.region ?_
                    refine WL.v (Val.move rfl rfl) ?_ -- d69
                    refine WL.v (Val.add rfl rfl rfl 16777216 (by decide)) ?_
                    refine WL.v (Val.fldA 3 rfl rfl (fun _ => by kernel_rfl)) ?_ -- d71
                    have hok5 : ({ cfg5 with dt := 16777216 } : Cf).ok := by constructor <;> decide
                    have hck5 : checkC ({ cfg5 with dt := 16777216 } : Cf) = 0 := by kernel_rfl
                    refine WL.storeF (q := .int .u32 16777216) hB3 (i := 3) rfl one24 rfl rfl rfl rfl rfl (fun w5 hB5 hw5 => ?_)
                    replace hB5 : Blk w5 g 28 (cfL (.slice Aa 1 ca) (.slice As 0 cs) ({ cfg5 with dt := 16777216 } : Cf)) := hB5
                    have hb5 : Below w.heap.size w w5 := hw5 ▸ hB03.setCell (by show _ ≤ g; omega) _
                    have hb5' : Below w2.heap.size w2 w5 := hw5 ▸ hb23.setCell (by show _ ≤ g; omega) _
                    have ha5 := ha2.keep hb5'
                    have hs5 := hs2.keep hb5'
                    have hw5' : (wireL ({ cfg5 with dt := 16777216 } : Cf).apex).length ≤ 100 := by decide
                    refine WL.nil ?_
                    refine Ends.blkn ?_
                    exact Ends.cut (_, _, _) ⟨rfl, rfl, trivial⟩ ⟨hB5, ha5, hs5, hok5, hck5, Nat.le_trans hw5' (Nat.le_refl _), hb5⟩
                  · -- no
                    refine CW.seq ?_
                    refine CW.region ?_
                    refine WL.v (Val.eqlI rfl rfl rfl) ?_ -- d73
                    refine WL.v (Val.assign rfl rfl) ?_ -- d72
                    refine WL.nil ?_
                    refine Ends.next ?_
                    refine CW.condD rfl (fun hc10 => ?_) (fun hc10 => ?_)
                    · -- yes
                      refine CW.region ?_
                      refine WL.v (Val.move rfl rfl) ?_ -- d74
                      refine WL.v (Val.subt rfl rfl rfl 1 (by decide)) ?_
                      refine WL.v (Val.fldA 1 rfl rfl (fun _ => by kernel_rfl)) ?_ -- d76
                      have hok5 : ({ cfg5 with kt := 1 } : Cf).ok := by constructor <;> decide
                      have hck5 : checkC ({ cfg5 with kt := 1 } : Cf) = 0 := by kernel_rfl
                      refine WL.storeF (q := .int .u32 1) hB3 (i := 1) rfl one24 rfl rfl rfl rfl rfl (fun w5 hB5 hw5 => ?_)
                      replace hB5 : Blk w5 g 28 (cfL (.slice Aa 1 ca) (.slice As 0 cs) ({ cfg5 with kt := 1 } : Cf)) := hB5
                      have hb5 : Below w.heap.size w w5 := hw5 ▸ hB03.setCell (by show _ ≤ g; omega) _
                      have hb5' : Below w2.heap.size w2 w5 := hw5 ▸ hb23.setCell (by show _ ≤ g; omega) _
                      have ha5 := ha2.keep hb5'
                      have hs5 := hs2.keep hb5'
                      have hw5' : (wireL ({ cfg5 with kt := 1 } : Cf).apex).length ≤ 100 := by decide
                      refine WL.nil ?_
                      refine Ends.blkn ?_
                      exact Ends.cut (_, _, _) ⟨rfl, rfl, trivial⟩ ⟨hB5, ha5, hs5, hok5, hck5, Nat.le_trans hw5' (Nat.le_refl _), hb5⟩
                    · -- no
                      exfalso
                      omega
  · -- what follows
    rintro ⟨c, va, vs⟩ w5 ⟨hB5, ha5, hs5, hok5, hck5, hw5', hb5⟩
    dsimp only at hB5 ha5 hs5 hok5 hck5 hw5'
    refine CW.seq ?_
    refine CW.region ?_
    refine WL.v (Val.loadS Try.underlying28 (size28 _ rfl) rfl rfl (at_ hB5)) ?_
    refine WL.call bodied16 rfl rfl (check16 _ _ _ c w5 ⟨rfl, ha5, hs5, hok5⟩ (by omega)) ?_
    rw [hck5]
    rintro _ w6 ⟨rfl, hb6⟩
    refine WL.v (Val.eqlI rfl rfl rfl) ?_ -- d79
    refine WL.v (Val.move rfl rfl) ?_ -- d80
    refine WL.v (Val.not rfl rfl) ?_ -- d81
    refine WL.v (Val.eqlB Try.underlying4 rfl rfl rfl) ?_
    refine WL.v (Val.assign rfl rfl) ?_ -- d4
    refine WL.nil ?_
    refine Ends.next ?_
    refine CW.ret ?_
    exact Ends.ret1 rfl rfl ⟨rfl, hb5.trans (hb6.mono hb5.size)⟩
theorem bounds5 (which : Int) (over : Bool) (w : World) (_h : -9223372036854775808 ≤ which ∧ which ≤ 9223372036854775807) : Runs Try.prog 5 #[.int .i64 which, .bool over] w fun r w' => r = .bool true ∧ Below w.heap.size w w' := by
  cases over with
  | true => exact bounds5t which w
  | false => exact bounds5f which w
end Go.Proofs.Ytjdgckamjgldmaa
