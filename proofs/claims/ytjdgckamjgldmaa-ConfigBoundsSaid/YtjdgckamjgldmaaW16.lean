/- Walks: the reference's reading of a text. -/
import Derived.Test.YtjdgckamjgldmaaW15
namespace Go.Proofs.Ytjdgckamjgldmaa
open Go.RowKit Go.Eng

theorem bodied27 : Bodied Try.prog 27 := bodied Try.func27 rfl rfl
theorem bodied58 : Bodied Try.prog 58 := bodied Try.func58 rfl rfl
theorem bodied39' : Bodied Try.prog 39 := bodied Try.func39 rfl rfl
-- signet/signetref3.Parse
theorem parse27 (t : ByteArray) (w : World) (ht : t.size ≤ 1000000) :
    Runs Try.prog 27 #[sv t] w fun r w' => ∃ nv, r = .tuple #[nv, .int .i64 (parseN (bytes t)).2] ∧ Nm w' nv (parseN (bytes t)).1 ∧ Below w.heap.size w w' := by
  refine enter (N := 125) (args := [_]) Try.func27 rfl rfl (Nat.le_of_ble_eq_true rfl) ?_
  refine CW.seq ?_
  refine CW.region ?_
  refine WL.v (Val.assign rfl rfl) ?_ -- d2
  refine WL.v (Val.assign rfl rfl) ?_ -- d3
  refine WL.nil ?_
  refine Ends.next ?_
  refine CW.seq ?_
  refine CW.seq ?_
  refine CW.region ?_
  refine WL.v (Val.move rfl rfl) ?_ -- d10
  refine WL.v (Val.eqlS rfl rfl rfl) ?_ -- d11
  refine WL.nil ?_
  refine Ends.next ?_
  refine CW.condD rfl (fun hc0 => ?_) (fun hc0 => ?_)
  · -- yes
    refine CW.seq ?_
    refine CW.region ?_
    refine WL.v (Val.assign rfl rfl) ?_ -- d2
    refine WL.v (Val.assign rfl rfl) ?_ -- d3
    refine WL.nil ?_
    refine Ends.next ?_
    refine CW.ret ?_
    refine Ends.seqr ?_
    subst hc0
    exact Ends.ret2 rfl rfl rfl ⟨nilV, rfl, Sl.nil _ _, Below.refl _ _⟩
  · -- no
    refine CW.skip ?_
    refine Ends.next ?_
    refine CW.seq ?_
    refine CW.seq ?_
    refine CW.region ?_
    refine WL.v (Val.move rfl rfl) ?_ -- d12
    refine WL.v (Val.eqlS rfl rfl rfl) ?_ -- d13
    refine WL.nil ?_
    refine Ends.next ?_
    refine CW.condD rfl (fun hc1 => ?_) (fun hc1 => ?_)
    · -- yes
      refine CW.seq ?_
      refine CW.region ?_
      refine WL.v (Val.assign rfl rfl) ?_ -- d2
      refine WL.v (Val.assign rfl rfl) ?_ -- d3
      refine WL.nil ?_
      refine Ends.next ?_
      refine CW.ret ?_
      refine Ends.seqr ?_
      subst hc1
      exact Ends.ret2 rfl rfl rfl ⟨nilV, rfl, Sl.nil _ _, Below.refl _ _⟩
    · -- no
      have hpos : 0 < t.size := Nat.pos_of_ne_zero (fun h => hc1 (size_zero.2 h))
      refine CW.skip ?_
      refine Ends.next ?_
      refine CW.seq ?_
      refine CW.region ?_
      refine WL.v (Val.assign rfl rfl) ?_ -- d4
      refine WL.nil ?_
      refine Ends.next ?_
      refine CW.seq ?_
      refine CW.region ?_
      refine WL.v (Val.assign rfl rfl) ?_ -- d5
      refine WL.nil ?_
      refine Ends.next ?_
      refine CW.seq ?_
      refine CW.seq ?_
      refine CW.region ?_
      refine WL.v (Val.assign rfl rfl) ?_ -- d6
      refine WL.nil ?_
      refine Ends.next ?_
      refine CW.block ?_
      refine CW.loop (α := Nat × Value × Value × List ByteArray × List UInt8) (fun (i, vn, vl, n, l) => [(0, sv t), (4, vn), (5, vl), (6, .int .i64 i)]) (fun (i, vn, vl, n, l) w1 => readP (bytes t) = goP n l ((bytes t).drop i) ∧ OwnN w1 w.heap.size vn n ∧ OwnB w1 w.heap.size vl l ∧ Below w.heap.size w w1 ∧ i ≤ t.size ∧ l.length ≤ i ∧ n.length ≤ i ∧ (0 < i → n ≠ [] ∨ l ≠ [])) (fun (i, vn, vl, n, l) => t.size - i) (0, nilV, nilV, [], []) ⟨rfl, rfl, rfl, rfl, trivial⟩ ⟨read_go (fun h => hc0 (dot_iff.1 h)), OwnN.nil _ _, OwnB.nil _ _, Below.refl _ _, Nat.zero_le _, Nat.zero_le _, Nat.zero_le _, fun h => absurd h (by decide)⟩ ?_
      rintro ⟨i, vn, vl, n, l⟩ w1 ⟨heq, hown, hownl, hbw, hi, hll, hnl, hpp⟩
      have hsz := hbw.size
      obtain ⟨Al, cl, hvl, -⟩ := id hownl.sl
      rw [List.length_map] at hvl
      subst hvl
      refine CW.seq ?_
      refine CW.seq ?_
      refine CW.region ?_
      refine WL.v (Val.move rfl rfl) ?_ -- d14
      refine WL.v (Val.move rfl rfl) ?_ -- d15
      refine WL.v (Val.lenStr rfl Try.underlying9 rfl) ?_ -- d16
      refine WL.v (Val.lss rfl rfl rfl) ?_ -- d17
      refine WL.nil ?_
      refine Ends.next ?_
      refine CW.condD rfl (fun hc2 => ?_) (fun hc2 => ?_)
      · -- yes
        have hlt : i < t.size := by omega
        refine CW.skip ?_
        refine Ends.next ?_
        refine CW.block ?_
        refine CW.seq ?_
        refine CW.region ?_
        refine WL.v (Val.move rfl rfl) ?_ -- d18
        refine WL.v (Val.move rfl rfl) ?_ -- d19
        refine WL.v (Val.idxStr rfl Try.underlying9 rfl rfl (by omega) (at_byte (k := i) (hlt))) ?_
        refine WL.v (Val.assign rfl rfl) ?_ -- d7
        refine WL.nil ?_
        refine Ends.next ?_
        refine CW.seq ?_
        refine CW.block ?_
        refine CW.seq ?_
        refine CW.region ?_
        refine WL.v (Val.move rfl rfl) ?_ -- d71
        refine WL.v (Val.eqlI rfl rfl rfl) ?_ -- d72
        refine WL.v (Val.assign rfl rfl) ?_ -- d70
        refine WL.nil ?_
        refine Ends.next ?_
        refine CW.condD rfl (fun hc3 => ?_) (fun hc3 => ?_)
        · -- yes
          have hc46 : ((bytes t).getD i 0) = 46 := UInt8.toNat_inj.1 (by have : (46 : UInt8).toNat = 46 := rfl; omega)
          rw [drop_at hlt, hc46] at heq
          refine CW.seq ?_
          refine CW.seq ?_
          refine CW.region ?_
          refine WL.v (Val.move rfl rfl) ?_ -- d73
          refine WL.v (Val.lenSl rfl Try.underlying25 rfl) ?_ -- d74
          refine WL.v (Val.eqlI rfl rfl rfl) ?_ -- d75
          refine WL.nil ?_
          refine Ends.next ?_
          refine CW.condD rfl (fun hc4 => ?_) (fun hc4 => ?_)
          · -- yes
            have hl0 : l = [] := List.eq_nil_of_length_eq_zero (by omega)
            have hres : parseN (bytes t) = ([], 30) := by
              unfold parseN
              rw [heq, hl0, goP_dot0]
            refine CW.seq ?_
            refine CW.region ?_
            refine WL.v (Val.assign rfl rfl) ?_ -- d2
            refine WL.v (Val.assign rfl rfl) ?_ -- d3
            refine WL.nil ?_
            refine Ends.next ?_
            refine CW.ret ?_
            refine Ends.seqr ?_
            refine Ends.blkr ?_
            refine Ends.seqr ?_
            refine Ends.blkr ?_
            refine Ends.seqr ?_
            refine Ends.blkr ?_
            refine Ends.seqr ?_
            exact Ends.ret2 rfl rfl rfl ⟨nilV, by rw [hres], by rw [hres]; exact Sl.nil _ _, hbw⟩
          · -- no
            have hlne : l ≠ [] := fun h => hc4 (by rw [h]; rfl)
            rw [goP_dot hlne] at heq
            refine CW.skip ?_
            refine Ends.next ?_
            refine CW.seq ?_
            refine CW.region ?_
            refine WL.v (Val.move rfl rfl) ?_ -- d76
            refine WL.v (Val.move rfl rfl) ?_ -- d77
            refine WL.v (Val.toStr (l := l) Try.underlying25 Try.underlying9 Try.underlying5 rfl rfl (at_ hownl.sl)) ?_
            refine WL.build1 ty23 rfl rfl rfl ?_
            refine WL.apN (mkS l) hown rfl rfl rfl (by omega) (by omega) (fun v2 w2 hown2 hg2 _ => ?_)
            refine WL.v (Val.assign rfl rfl) ?_ -- d4
            refine WL.v (Val.assign rfl rfl) ?_ -- d5
            refine WL.nil ?_
            refine Ends.next ?_
            refine CW.seq ?_
            refine CW.region ?_
            refine WL.v (Val.move rfl rfl) ?_ -- d81
            refine WL.v (Val.add rfl rfl rfl ((i + 1 : Nat) : Int) (i64_eq (by omega) (by omega))) ?_
            refine WL.v (Val.assign rfl rfl) ?_ -- d6
            refine WL.nil ?_
            refine Ends.next ?_
            refine CW.exit ?_
            refine Ends.blkx (by decide) ?_
            refine Ends.seqx ?_
            refine Ends.blke ?_
            first
            | exact Ends.round (i + 1, v2, nilV, n ++ [mkS l], []) (by simp only; omega) ⟨rfl, rfl, rfl, rfl, trivial⟩ ⟨heq, hown2, OwnB.nil _ _, hbw.trans (hown.below hg2 (by omega)), by omega, Nat.zero_le _, by simp; omega, fun _ => .inl (by simp)⟩
            | exact Ends.round (i + 1, vn, v2, n, l ++ [((bytes t).getD i 0)]) (by simp only; omega) ⟨rfl, rfl, rfl, rfl, trivial⟩ ⟨by rw [heq, drop_at hlt, goP_plain hc46 hc92], own_ap hown hg2 (Ap.types hown hownl (by decide)), hownl2, hbw.trans (hownl.below hg2 (by omega)), by omega, by simp; omega, by omega, fun _ => .inr (by simp)⟩
            | exact Ends.round (i + 2, vn, v2, n, l ++ [((bytes t).getD (i + 1) 0)]) (by simp only; omega) ⟨rfl, rfl, rfl, rfl, trivial⟩ ⟨by rw [heq, drop_at hlt, hc92, drop_at hlt1, goP_sign hd1], own_ap hown hg2 (Ap.types hown hownl (by decide)), hownl2, hbw.trans (hownl.below hg2 (by omega)), by omega, by simp; omega, by omega, fun _ => .inr (by simp)⟩
            | exact Ends.round (i + 4, vn, v2, n, l ++ [UInt8.ofNat (valS [((bytes t).getD (i + 1) 0), ((bytes t).getD (i + 2) 0), ((bytes t).getD (i + 3) 0)])]) (by simp only; omega) ⟨rfl, rfl, rfl, rfl, trivial⟩ ⟨by rw [heq, drop_at hlt, hc92, drop_at hlt1, drop_at (show i + 1 + 1 < t.size by omega), drop_at (show i + 1 + 1 + 1 < t.size by omega), goP_code hd1 hd2 hd3 (by omega)], own_ap hown hg2 (Ap.types hown hownl (by decide)), hownl2, hbw.trans (hownl.below hg2 (by omega)), by omega, by simp; omega, by omega, fun _ => .inr (by simp)⟩
        · -- no
          have hc46 : ((bytes t).getD i 0).toNat ≠ 46 := by omega
          refine CW.seq ?_
          refine CW.region ?_
          refine WL.v (Val.move rfl rfl) ?_ -- d84
          refine WL.v (Val.neqI rfl rfl rfl) ?_ -- d85
          refine WL.v (Val.assign rfl rfl) ?_ -- d83
          refine WL.nil ?_
          refine Ends.next ?_
          refine CW.condD rfl (fun hc5 => ?_) (fun hc5 => ?_)
          · -- yes
            have hc92 : ((bytes t).getD i 0).toNat ≠ 92 := by omega
            refine CW.region ?_
            refine WL.v (Val.move rfl rfl) ?_ -- d86
            refine WL.v (Val.add rfl rfl rfl ((i + 1 : Nat) : Int) (i64_eq (by omega) (by omega))) ?_
            refine WL.v (Val.assign rfl rfl) ?_ -- d6
            refine WL.nil ?_
            refine Ends.blkn ?_
            refine Ends.next ?_
            refine CW.region ?_
            refine WL.v (Val.move rfl rfl) ?_ -- d107
            refine WL.v (Val.move rfl rfl) ?_ -- d108
            refine WL.build1 ty25 rfl rfl rfl ?_
            refine WL.apB _ hownl rfl rfl rfl (by omega) (by omega) (fun v2 w2 hownl2 hg2 _ => ?_)
            refine WL.v (Val.assign rfl rfl) ?_ -- d5
            refine WL.nil ?_
            refine Ends.blkn ?_
            first
            | exact Ends.round (i + 1, v2, nilV, n ++ [mkS l], []) (by simp only; omega) ⟨rfl, rfl, rfl, rfl, trivial⟩ ⟨heq, hown2, OwnB.nil _ _, hbw.trans (hown.below hg2 (by omega)), by omega, Nat.zero_le _, by simp; omega, fun _ => .inl (by simp)⟩
            | exact Ends.round (i + 1, vn, v2, n, l ++ [((bytes t).getD i 0)]) (by simp only; omega) ⟨rfl, rfl, rfl, rfl, trivial⟩ ⟨by rw [heq, drop_at hlt, goP_plain hc46 hc92], own_ap hown hg2 (Ap.types hown hownl (by decide)), hownl2, hbw.trans (hownl.below hg2 (by omega)), by omega, by simp; omega, by omega, fun _ => .inr (by simp)⟩
            | exact Ends.round (i + 2, vn, v2, n, l ++ [((bytes t).getD (i + 1) 0)]) (by simp only; omega) ⟨rfl, rfl, rfl, rfl, trivial⟩ ⟨by rw [heq, drop_at hlt, hc92, drop_at hlt1, goP_sign hd1], own_ap hown hg2 (Ap.types hown hownl (by decide)), hownl2, hbw.trans (hownl.below hg2 (by omega)), by omega, by simp; omega, by omega, fun _ => .inr (by simp)⟩
            | exact Ends.round (i + 4, vn, v2, n, l ++ [UInt8.ofNat (valS [((bytes t).getD (i + 1) 0), ((bytes t).getD (i + 2) 0), ((bytes t).getD (i + 3) 0)])]) (by simp only; omega) ⟨rfl, rfl, rfl, rfl, trivial⟩ ⟨by rw [heq, drop_at hlt, hc92, drop_at hlt1, drop_at (show i + 1 + 1 < t.size by omega), drop_at (show i + 1 + 1 + 1 < t.size by omega), goP_code hd1 hd2 hd3 (by omega)], own_ap hown hg2 (Ap.types hown hownl (by decide)), hownl2, hbw.trans (hownl.below hg2 (by omega)), by omega, by simp; omega, by omega, fun _ => .inr (by simp)⟩
          · -- no
            have hc92 : ((bytes t).getD i 0) = 92 := UInt8.toNat_inj.1 (by have : (92 : UInt8).toNat = 92 := rfl; omega)
            refine CW.seq ?_
            refine CW.region ?_
            refine WL.v (Val.move rfl rfl) ?_ -- d89
            refine WL.v (Val.add rfl rfl rfl ((i + 1 : Nat) : Int) (i64_eq (by omega) (by omega))) ?_
            refine WL.v (Val.move rfl rfl) ?_ -- d91
            refine WL.v (Val.lenStr rfl Try.underlying9 rfl) ?_ -- d92
            refine WL.v (Val.geq rfl rfl rfl) ?_ -- d93
            refine WL.v (Val.assign rfl rfl) ?_ -- d88
            refine WL.nil ?_
            refine Ends.next ?_
            refine CW.condD rfl (fun hc6 => ?_) (fun hc6 => ?_)
            · -- yes
              have hres : parseN (bytes t) = ([], 30) := by
                unfold parseN
                rw [heq, drop_at hlt, hc92, drop_end (show t.size ≤ i + 1 by omega), goP_end]
              refine CW.seq ?_
              refine CW.region ?_
              refine WL.v (Val.assign rfl rfl) ?_ -- d2
              refine WL.v (Val.assign rfl rfl) ?_ -- d3
              refine WL.nil ?_
              refine Ends.next ?_
              refine CW.ret ?_
              refine Ends.blkr ?_
              refine Ends.seqr ?_
              refine Ends.blkr ?_
              refine Ends.seqr ?_
              refine Ends.blkr ?_
              refine Ends.seqr ?_
              exact Ends.ret2 rfl rfl rfl ⟨nilV, by rw [hres], by rw [hres]; exact Sl.nil _ _, hbw⟩
            · -- no
              have hlt1 : i + 1 < t.size := by omega
              refine CW.seq ?_
              refine CW.region ?_
              refine WL.v (Val.move rfl rfl) ?_ -- d95
              refine WL.v (Val.move rfl rfl) ?_ -- d96
              refine WL.v (Val.add rfl rfl rfl ((i + 1 : Nat) : Int) (i64_eq (by omega) (by omega))) ?_
              refine WL.v (Val.idxStr rfl Try.underlying9 rfl rfl (by omega) (at_byte (k := i + 1) (hlt1))) ?_
              refine WL.call bodied58 rfl rfl (digit58 _ _) ?_
              rintro _ _ ⟨rfl, rfl⟩
              refine WL.v (Val.not rfl rfl) ?_ -- d100
              refine WL.v (Val.assign rfl rfl) ?_ -- d94
              refine WL.nil ?_
              refine Ends.next ?_
              refine CW.cond rfl (fun hc7 => ?_) (fun hc7 => ?_)
              · -- yes
                have hd1 : ¬ digN ((bytes t).getD (i + 1) 0).toNat := by
                  simp only [Bool.not_eq_true', decide_eq_false_iff_not] at hc7
                  unfold digN
                  omega
                refine CW.seq ?_
                refine CW.region ?_
                refine WL.v (Val.move rfl rfl) ?_ -- d101
                refine WL.v (Val.move rfl rfl) ?_ -- d102
                refine WL.v (Val.add rfl rfl rfl ((i + 1 : Nat) : Int) (i64_eq (by omega) (by omega))) ?_
                refine WL.v (Val.idxStr rfl Try.underlying9 rfl rfl (by omega) (at_byte (k := i + 1) (hlt1))) ?_
                refine WL.v (Val.assign rfl rfl) ?_ -- d7
                refine WL.nil ?_
                refine Ends.next ?_
                refine CW.region ?_
                refine WL.v (Val.move rfl rfl) ?_ -- d105
                refine WL.v (Val.add rfl rfl rfl ((i + 2 : Nat) : Int) (i64_eq (by omega) (by omega))) ?_
                refine WL.v (Val.assign rfl rfl) ?_ -- d6
                refine WL.nil ?_
                refine Ends.blkn ?_
                refine Ends.next ?_
                refine CW.region ?_
                refine WL.v (Val.move rfl rfl) ?_ -- d107
                refine WL.v (Val.move rfl rfl) ?_ -- d108
                refine WL.build1 ty25 rfl rfl rfl ?_
                refine WL.apB _ hownl rfl rfl rfl (by omega) (by omega) (fun v2 w2 hownl2 hg2 _ => ?_)
                refine WL.v (Val.assign rfl rfl) ?_ -- d5
                refine WL.nil ?_
                refine Ends.blkn ?_
                first
                | exact Ends.round (i + 1, v2, nilV, n ++ [mkS l], []) (by simp only; omega) ⟨rfl, rfl, rfl, rfl, trivial⟩ ⟨heq, hown2, OwnB.nil _ _, hbw.trans (hown.below hg2 (by omega)), by omega, Nat.zero_le _, by simp; omega, fun _ => .inl (by simp)⟩
                | exact Ends.round (i + 1, vn, v2, n, l ++ [((bytes t).getD i 0)]) (by simp only; omega) ⟨rfl, rfl, rfl, rfl, trivial⟩ ⟨by rw [heq, drop_at hlt, goP_plain hc46 hc92], own_ap hown hg2 (Ap.types hown hownl (by decide)), hownl2, hbw.trans (hownl.below hg2 (by omega)), by omega, by simp; omega, by omega, fun _ => .inr (by simp)⟩
                | exact Ends.round (i + 2, vn, v2, n, l ++ [((bytes t).getD (i + 1) 0)]) (by simp only; omega) ⟨rfl, rfl, rfl, rfl, trivial⟩ ⟨by rw [heq, drop_at hlt, hc92, drop_at hlt1, goP_sign hd1], own_ap hown hg2 (Ap.types hown hownl (by decide)), hownl2, hbw.trans (hownl.below hg2 (by omega)), by omega, by simp; omega, by omega, fun _ => .inr (by simp)⟩
                | exact Ends.round (i + 4, vn, v2, n, l ++ [UInt8.ofNat (valS [((bytes t).getD (i + 1) 0), ((bytes t).getD (i + 2) 0), ((bytes t).getD (i + 3) 0)])]) (by simp only; omega) ⟨rfl, rfl, rfl, rfl, trivial⟩ ⟨by rw [heq, drop_at hlt, hc92, drop_at hlt1, drop_at (show i + 1 + 1 < t.size by omega), drop_at (show i + 1 + 1 + 1 < t.size by omega), goP_code hd1 hd2 hd3 (by omega)], own_ap hown hg2 (Ap.types hown hownl (by decide)), hownl2, hbw.trans (hownl.below hg2 (by omega)), by omega, by simp; omega, by omega, fun _ => .inr (by simp)⟩
              · -- no
                have hd1 : digN ((bytes t).getD (i + 1) 0).toNat := by
                  simp only [Bool.not_eq_false', decide_eq_true_eq] at hc7
                  unfold digN
                  omega
                refine CW.seq ?_
                refine CW.seq ?_
                refine CW.region ?_
                refine WL.v (Val.move rfl rfl) ?_ -- d21
                refine WL.v (Val.add rfl rfl rfl ((i + 3 : Nat) : Int) (i64_eq (by omega) (by omega))) ?_
                refine WL.v (Val.move rfl rfl) ?_ -- d23
                refine WL.v (Val.lenStr rfl Try.underlying9 rfl) ?_ -- d24
                refine WL.v (Val.geq rfl rfl rfl) ?_ -- d25
                refine WL.v (Val.move rfl rfl) ?_ -- d26
                refine WL.or (j := 5) (seg := [_, _, _, _, _, _]) (r := !(decide (48 ≤ (((bytes t).getD (i + 2) 0).toNat : Int) ∧ (((bytes t).getD (i + 2) 0).toNat : Int) ≤ 57))) rfl rfl rfl rfl (fun hb33 HK33 => ?hT1) ?_
                case hT1 =>
                  refine WL.yes rfl rfl rfl hb33 ?_
                  refine WL.v (Val.move rfl rfl) ?_ -- d27
                  refine WL.yes rfl rfl rfl hb33 ?_
                  refine WL.v (Val.move rfl rfl) ?_ -- d28
                  refine WL.yes rfl rfl rfl hb33 ?_
                  refine WL.v (Val.add rfl rfl rfl ((i + 2 : Nat) : Int) (i64_eq (by omega) (by omega))) ?_
                  refine WL.yes rfl rfl rfl hb33 ?_
                  refine WL.v (Val.idxStr rfl Try.underlying9 rfl rfl (by omega) (at_byte (k := i + 2) (by simp only [decide_eq_false_iff_not] at hb33; omega))) ?_
                  refine WL.yes rfl rfl rfl hb33 ?_
                  refine WL.call bodied58 rfl rfl (digit58 _ _) ?_
                  rintro _ _ ⟨rfl, rfl⟩
                  refine WL.yes rfl rfl rfl hb33 ?_
                  refine WL.v (Val.not rfl rfl) ?_ -- d32
                  refine WL.v (Val.pickF rfl rfl hb33 rfl) ?_
                  refine WL.forget rfl ?_; refine WL.forget rfl ?_; refine WL.forget rfl ?_; refine WL.forget rfl ?_; refine WL.forget rfl ?_; refine WL.forget rfl ?_
                  exact HK33
                refine WL.v (Val.move rfl rfl) ?_ -- d34
                refine WL.or (j := 13) (seg := [_, _, _, _, _, _]) (r := !(decide (48 ≤ (((bytes t).getD (i + 3) 0).toNat : Int) ∧ (((bytes t).getD (i + 3) 0).toNat : Int) ≤ 57))) rfl rfl rfl rfl (fun hb41 HK41 => ?hT2) ?_
                case hT2 =>
                  refine WL.yes rfl rfl rfl hb41 ?_
                  refine WL.v (Val.move rfl rfl) ?_ -- d35
                  refine WL.yes rfl rfl rfl hb41 ?_
                  refine WL.v (Val.move rfl rfl) ?_ -- d36
                  refine WL.yes rfl rfl rfl hb41 ?_
                  refine WL.v (Val.add rfl rfl rfl ((i + 3 : Nat) : Int) (i64_eq (by omega) (by omega))) ?_
                  refine WL.yes rfl rfl rfl hb41 ?_
                  refine WL.v (Val.idxStr rfl Try.underlying9 rfl rfl (by omega) (at_byte (k := i + 3) (by simp only [Bool.or_eq_false_iff, decide_eq_false_iff_not] at hb41; omega))) ?_
                  refine WL.yes rfl rfl rfl hb41 ?_
                  refine WL.call bodied58 rfl rfl (digit58 _ _) ?_
                  rintro _ _ ⟨rfl, rfl⟩
                  refine WL.yes rfl rfl rfl hb41 ?_
                  refine WL.v (Val.not rfl rfl) ?_ -- d40
                  refine WL.v (Val.pickF rfl rfl hb41 rfl) ?_
                  refine WL.forget rfl ?_; refine WL.forget rfl ?_; refine WL.forget rfl ?_; refine WL.forget rfl ?_; refine WL.forget rfl ?_; refine WL.forget rfl ?_
                  exact HK41
                refine WL.nil ?_
                refine Ends.next ?_
                refine CW.cond rfl (fun hc8 => ?_) (fun hc8 => ?_)
                · -- yes
                  have hres : parseN (bytes t) = ([], 30) := by
                    unfold parseN
                    rw [heq, goP_codes hlt1 hc92 hd1 (by
                      simp only [Bool.or_eq_true, Bool.not_eq_true', decide_eq_true_eq, decide_eq_false_iff_not] at hc8
                      unfold digN
                      omega)]
                  refine CW.seq ?_
                  refine CW.region ?_
                  refine WL.v (Val.assign rfl rfl) ?_ -- d2
                  refine WL.v (Val.assign rfl rfl) ?_ -- d3
                  refine WL.nil ?_
                  refine Ends.next ?_
                  refine CW.ret ?_
                  refine Ends.seqr ?_
                  refine Ends.blkr ?_
                  refine Ends.seqr ?_
                  refine Ends.blkr ?_
                  refine Ends.seqr ?_
                  refine Ends.blkr ?_
                  refine Ends.seqr ?_
                  exact Ends.ret2 rfl rfl rfl ⟨nilV, by rw [hres], by rw [hres]; exact Sl.nil _ _, hbw⟩
                · -- no
                  simp only [Bool.or_eq_false_iff, Bool.not_eq_false', decide_eq_true_eq, decide_eq_false_iff_not] at hc8
                  have hlt3 : i + 3 < t.size := by omega
                  have hd2 : digN ((bytes t).getD (i + 2) 0).toNat := by
                    unfold digN
                    omega
                  have hd3 : digN ((bytes t).getD (i + 3) 0).toNat := by
                    unfold digN
                    omega
                  have hb1 := (((bytes t).getD (i + 1) 0) - 48).toNat_lt
                  have hb2 := (((bytes t).getD (i + 2) 0) - 48).toNat_lt
                  have hb3 := (((bytes t).getD (i + 3) 0) - 48).toNat_lt
                  have hval : valS [((bytes t).getD (i + 1) 0), ((bytes t).getD (i + 2) 0), ((bytes t).getD (i + 3) 0)] = 100 * (((bytes t).getD (i + 1) 0) - 48).toNat + 10 * (((bytes t).getD (i + 2) 0) - 48).toNat + (((bytes t).getD (i + 3) 0) - 48).toNat := by
                    simp only [valS, List.foldl]
                    omega
                  refine CW.skip ?_
                  refine Ends.next ?_
                  refine CW.seq ?_
                  refine CW.draw (fun _ => True) trivial ?_
                  have hown : OwnN w1.drew w.heap.size vn n := hown
                  have hownl : OwnB w1.drew w.heap.size _ l := hownl
                  have hbw := hbw.drew
                  have hsz : w.heap.size ≤ w1.drew.heap.size := hsz
                  refine WH.take 0 rfl rfl (Val.move rfl rfl) ?_ -- d42
                  refine WH.take 1 rfl rfl (Val.move rfl rfl) ?_ -- d43
                  refine WH.take 2 rfl rfl (Val.add rfl rfl rfl ((i + 1 : Nat) : Int) (i64_eq (by omega) (by omega))) ?_ -- d44
                  refine WH.take 3 rfl rfl (Val.idxStr rfl Try.underlying9 rfl rfl (by omega) (at_byte (k := i + 1) (by omega))) ?_ -- d45
                  refine WH.take 4 rfl rfl (Val.subt rfl rfl rfl _ (u8_sub48 _)) ?_ -- d46
                  refine WH.take 5 rfl rfl (Val.convI rfl Try.underlying5 Try.underlying3 rfl _ (IntWalk.i64_in _ (by omega))) ?_ -- d47
                  refine WH.take 6 rfl rfl (Val.mul rfl rfl rfl _ (IntWalk.i64_in _ (by omega))) ?_ -- d48
                  refine WH.take 7 rfl rfl (Val.move rfl rfl) ?_ -- d49
                  refine WH.take 8 rfl rfl (Val.move rfl rfl) ?_ -- d50
                  refine WH.take 9 rfl rfl (Val.add rfl rfl rfl ((i + 2 : Nat) : Int) (i64_eq (by omega) (by omega))) ?_ -- d51
                  refine WH.take 10 rfl rfl (Val.idxStr rfl Try.underlying9 rfl rfl (by omega) (at_byte (k := i + 2) (by omega))) ?_ -- d52
                  refine WH.take 11 rfl rfl (Val.subt rfl rfl rfl _ (u8_sub48 _)) ?_ -- d53
                  refine WH.take 12 rfl rfl (Val.convI rfl Try.underlying5 Try.underlying3 rfl _ (IntWalk.i64_in _ (by omega))) ?_ -- d54
                  refine WH.take 13 rfl rfl (Val.mul rfl rfl rfl _ (IntWalk.i64_in _ (by omega))) ?_ -- d55
                  refine WH.take 14 rfl rfl (Val.add rfl rfl rfl _ (IntWalk.i64_in _ (by omega))) ?_ -- d56
                  refine WH.take 15 rfl rfl (Val.move rfl rfl) ?_ -- d57
                  refine WH.take 16 rfl rfl (Val.move rfl rfl) ?_ -- d58
                  refine WH.take 17 rfl rfl (Val.add rfl rfl rfl ((i + 3 : Nat) : Int) (i64_eq (by omega) (by omega))) ?_ -- d59
                  refine WH.take 18 rfl rfl (Val.idxStr rfl Try.underlying9 rfl rfl (by omega) (at_byte (k := i + 3) (by omega))) ?_ -- d60
                  refine WH.take 19 rfl rfl (Val.subt rfl rfl rfl _ (u8_sub48 _)) ?_ -- d61
                  refine WH.take 20 rfl rfl (Val.convI rfl Try.underlying5 Try.underlying3 rfl _ (IntWalk.i64_in _ (by omega))) ?_ -- d62
                  refine WH.take 21 rfl rfl (Val.add rfl rfl rfl (((valS [((bytes t).getD (i + 1) 0), ((bytes t).getD (i + 2) 0), ((bytes t).getD (i + 3) 0)]) : Nat) : Int) (i64_eq (by omega) (by omega))) ?_ -- d63
                  refine WH.take 22 rfl rfl (Val.assign rfl rfl) ?_ -- d8
                  refine WH.done ?_
                  refine Ends.next ?_
                  refine CW.seq ?_
                  refine CW.seq ?_
                  refine CW.region ?_
                  refine WL.v (Val.move rfl rfl) ?_ -- d64
                  refine WL.v (Val.gtr rfl rfl rfl) ?_ -- d65
                  refine WL.nil ?_
                  refine Ends.next ?_
                  refine CW.condD rfl (fun hc9 => ?_) (fun hc9 => ?_)
                  · -- yes
                    have hres : parseN (bytes t) = ([], 30) := by
                      unfold parseN
                      rw [heq, drop_at hlt, hc92, drop_at hlt1, drop_at (show i + 1 + 1 < t.size by omega), drop_at (show i + 1 + 1 + 1 < t.size by omega), goP_big hd1 hd2 hd3 (by omega)]
                    refine CW.seq ?_
                    refine CW.region ?_
                    refine WL.v (Val.assign rfl rfl) ?_ -- d2
                    refine WL.v (Val.assign rfl rfl) ?_ -- d3
                    refine WL.nil ?_
                    refine Ends.next ?_
                    refine CW.ret ?_
                    refine Ends.seqr ?_
                    refine Ends.blkr ?_
                    refine Ends.seqr ?_
                    refine Ends.blkr ?_
                    refine Ends.seqr ?_
                    refine Ends.blkr ?_
                    refine Ends.seqr ?_
                    exact Ends.ret2 rfl rfl rfl ⟨nilV, by rw [hres], by rw [hres]; exact Sl.nil _ _, hbw⟩
                  · -- no
                    refine CW.skip ?_
                    refine Ends.next ?_
                    refine CW.seq ?_
                    refine CW.region ?_
                    refine WL.v (Val.move rfl rfl) ?_ -- d66
                    refine WL.v (Val.convI rfl Try.underlying3 Try.underlying5 rfl _ (wrapU8 _)) ?_
                    refine WL.v (Val.assign rfl rfl) ?_ -- d7
                    refine WL.nil ?_
                    refine Ends.next ?_
                    refine CW.region ?_
                    refine WL.v (Val.move rfl rfl) ?_ -- d68
                    refine WL.v (Val.add rfl rfl rfl ((i + 4 : Nat) : Int) (i64_eq (by omega) (by omega))) ?_
                    refine WL.v (Val.assign rfl rfl) ?_ -- d6
                    refine WL.nil ?_
                    refine Ends.blkn ?_
                    refine Ends.next ?_
                    refine CW.region ?_
                    refine WL.v (Val.move rfl rfl) ?_ -- d107
                    refine WL.v (Val.move rfl rfl) ?_ -- d108
                    refine WL.build1 ty25 rfl rfl rfl ?_
                    refine WL.apB _ hownl rfl rfl rfl (by omega) (by omega) (fun v2 w2 hownl2 hg2 _ => ?_)
                    refine WL.v (Val.assign rfl rfl) ?_ -- d5
                    refine WL.nil ?_
                    refine Ends.blkn ?_
                    first
                    | exact Ends.round (i + 1, v2, nilV, n ++ [mkS l], []) (by simp only; omega) ⟨rfl, rfl, rfl, rfl, trivial⟩ ⟨heq, hown2, OwnB.nil _ _, hbw.trans (hown.below hg2 (by omega)), by omega, Nat.zero_le _, by simp; omega, fun _ => .inl (by simp)⟩
                    | exact Ends.round (i + 1, vn, v2, n, l ++ [((bytes t).getD i 0)]) (by simp only; omega) ⟨rfl, rfl, rfl, rfl, trivial⟩ ⟨by rw [heq, drop_at hlt, goP_plain hc46 hc92], own_ap hown hg2 (Ap.types hown hownl (by decide)), hownl2, hbw.trans (hownl.below hg2 (by omega)), by omega, by simp; omega, by omega, fun _ => .inr (by simp)⟩
                    | exact Ends.round (i + 2, vn, v2, n, l ++ [((bytes t).getD (i + 1) 0)]) (by simp only; omega) ⟨rfl, rfl, rfl, rfl, trivial⟩ ⟨by rw [heq, drop_at hlt, hc92, drop_at hlt1, goP_sign hd1], own_ap hown hg2 (Ap.types hown hownl (by decide)), hownl2, hbw.trans (hownl.below hg2 (by omega)), by omega, by simp; omega, by omega, fun _ => .inr (by simp)⟩
                    | exact Ends.round (i + 4, vn, v2, n, l ++ [UInt8.ofNat (valS [((bytes t).getD (i + 1) 0), ((bytes t).getD (i + 2) 0), ((bytes t).getD (i + 3) 0)])]) (by simp only; omega) ⟨rfl, rfl, rfl, rfl, trivial⟩ ⟨by rw [heq, drop_at hlt, hc92, drop_at hlt1, drop_at (show i + 1 + 1 < t.size by omega), drop_at (show i + 1 + 1 + 1 < t.size by omega), goP_code hd1 hd2 hd3 (by omega)], own_ap hown hg2 (Ap.types hown hownl (by decide)), hownl2, hbw.trans (hownl.below hg2 (by omega)), by omega, by simp; omega, by omega, fun _ => .inr (by simp)⟩
      · -- no
        have hend : readP (bytes t) = some (if l = [] then n else n ++ [mkS l]) := by
          rw [heq, drop_end (show t.size ≤ i by omega), goP_nil, finP, if_neg]
          simp only [Bool.false_eq_true, false_or, not_and]
          intro hn hl
          exact (hpp (by omega)).elim (fun h => h hn) (fun h => h hl)
        refine CW.exit ?_
        refine Ends.seqx ?_
        refine Ends.seqx ?_
        refine Ends.blke ?_
        refine Ends.next ?_
        refine CW.seq ?_
        refine CW.seq ?_
        refine CW.region ?_
        refine WL.v (Val.move rfl rfl) ?_ -- d111
        refine WL.v (Val.lenSl rfl Try.underlying25 rfl) ?_ -- d112
        refine WL.v (Val.gtr rfl rfl rfl) ?_ -- d113
        refine WL.nil ?_
        refine Ends.next ?_
        refine CW.condD rfl (fun hc10 => ?_) (fun hc10 => ?_)
        · -- yes
          have hlne : l ≠ [] := fun h => by rw [h] at hc10; exact absurd hc10 (by decide)
          rw [if_neg hlne] at hend
          refine CW.region ?_
          refine WL.v (Val.move rfl rfl) ?_ -- d114
          refine WL.v (Val.move rfl rfl) ?_ -- d115
          refine WL.v (Val.toStr (l := l) Try.underlying25 Try.underlying9 Try.underlying5 rfl rfl (at_ hownl.sl)) ?_
          refine WL.build1 ty23 rfl rfl rfl ?_
          refine WL.apN (mkS l) hown rfl rfl rfl (by omega) (by omega) (fun vz w2 hz hg2 _ => ?_)
          have hbz := hbw.trans (hown.below hg2 (by omega))
          refine WL.v (Val.assign rfl rfl) ?_ -- d4
          refine WL.nil ?_
          refine Ends.next ?_
          refine CW.seq ?_
          refine CW.seq ?_
          refine CW.region ?_
          refine WL.v (Val.move rfl rfl) ?_ -- d119
          refine WL.call bodied39' rfl rfl (check39 _ _ _ hz.sl (by first | omega | (simp; omega))) ?_
          rintro _ _ ⟨rfl, rfl⟩
          refine WL.v (Val.assign rfl rfl) ?_ -- d9
          refine WL.nil ?_
          refine Ends.next ?_
          refine CW.seq ?_
          refine CW.region ?_
          refine WL.v (Val.move rfl rfl) ?_ -- d121
          refine WL.v (Val.neqI rfl rfl rfl) ?_ -- d122
          refine WL.nil ?_
          refine Ends.next ?_
          refine CW.condD rfl (fun hc11 => ?_) (fun hc11 => ?_)
          · -- yes
            have hres : parseN (bytes t) = ([], checkN (n ++ [mkS l])) := by
              unfold parseN
              rw [hend]
              exact if_neg hc11
            refine CW.seq ?_
            refine CW.region ?_
            refine WL.v (Val.move rfl rfl) ?_ -- d123
            refine WL.v (Val.assign rfl rfl) ?_ -- d2
            refine WL.v (Val.assign rfl rfl) ?_ -- d3
            refine WL.nil ?_
            refine Ends.next ?_
            refine CW.ret ?_
            refine Ends.seqr ?_
            exact Ends.ret2 rfl rfl rfl ⟨nilV, by rw [hres], by rw [hres]; exact Sl.nil _ _, hbz⟩
          · -- no
            have hres : parseN (bytes t) = ((n ++ [mkS l]), 0) := by
              unfold parseN
              rw [hend]
              exact if_pos (Decidable.not_not.1 hc11)
            refine CW.skip ?_
            refine Ends.next ?_
            refine CW.seq ?_
            refine CW.region ?_
            refine WL.v (Val.move rfl rfl) ?_ -- d124
            refine WL.v (Val.assign rfl rfl) ?_ -- d2
            refine WL.v (Val.assign rfl rfl) ?_ -- d3
            refine WL.nil ?_
            refine Ends.next ?_
            refine CW.ret ?_
            exact Ends.ret2 rfl rfl rfl ⟨_, by rw [hres], by rw [hres]; exact hz.sl, hbz⟩
        · -- no
          have hl0 : l = [] := List.eq_nil_of_length_eq_zero (by omega)
          rw [if_pos hl0] at hend
          have hz := hown
          have hbz := hbw
          refine CW.skip ?_
          refine Ends.next ?_
          refine CW.seq ?_
          refine CW.seq ?_
          refine CW.region ?_
          refine WL.v (Val.move rfl rfl) ?_ -- d119
          refine WL.call bodied39' rfl rfl (check39 _ _ _ hz.sl (by first | omega | (simp; omega))) ?_
          rintro _ _ ⟨rfl, rfl⟩
          refine WL.v (Val.assign rfl rfl) ?_ -- d9
          refine WL.nil ?_
          refine Ends.next ?_
          refine CW.seq ?_
          refine CW.region ?_
          refine WL.v (Val.move rfl rfl) ?_ -- d121
          refine WL.v (Val.neqI rfl rfl rfl) ?_ -- d122
          refine WL.nil ?_
          refine Ends.next ?_
          refine CW.condD rfl (fun hc11 => ?_) (fun hc11 => ?_)
          · -- yes
            have hres : parseN (bytes t) = ([], checkN n) := by
              unfold parseN
              rw [hend]
              exact if_neg hc11
            refine CW.seq ?_
            refine CW.region ?_
            refine WL.v (Val.move rfl rfl) ?_ -- d123
            refine WL.v (Val.assign rfl rfl) ?_ -- d2
            refine WL.v (Val.assign rfl rfl) ?_ -- d3
            refine WL.nil ?_
            refine Ends.next ?_
            refine CW.ret ?_
            refine Ends.seqr ?_
            exact Ends.ret2 rfl rfl rfl ⟨nilV, by rw [hres], by rw [hres]; exact Sl.nil _ _, hbz⟩
          · -- no
            have hres : parseN (bytes t) = (n, 0) := by
              unfold parseN
              rw [hend]
              exact if_pos (Decidable.not_not.1 hc11)
            refine CW.skip ?_
            refine Ends.next ?_
            refine CW.seq ?_
            refine CW.region ?_
            refine WL.v (Val.move rfl rfl) ?_ -- d124
            refine WL.v (Val.assign rfl rfl) ?_ -- d2
            refine WL.v (Val.assign rfl rfl) ?_ -- d3
            refine WL.nil ?_
            refine Ends.next ?_
            refine CW.ret ?_
            exact Ends.ret2 rfl rfl rfl ⟨_, by rw [hres], by rw [hres]; exact hz.sl, hbz⟩
end Go.Proofs.Ytjdgckamjgldmaa
