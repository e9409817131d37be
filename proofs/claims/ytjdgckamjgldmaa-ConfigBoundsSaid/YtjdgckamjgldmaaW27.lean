/- Walks: the reference's check of settings; config.Bytes. -/
import Derived.Test.YtjdgckamjgldmaaW26
namespace Go.Proofs.Ytjdgckamjgldmaa
open Go.RowKit Go.Eng

theorem bigL_at (va vs : Value) (c : Cf) : cfL va vs c = cfL va vs c := rfl
theorem big_get (c : Cf) (i : Nat) (h : i < 8) : ((bigL c).map fun n => Value.int .u32 (n : Nat))[i]? = some (.int .u32 ((bigL c).getD i 0 : Nat)) := by
  have : i < (bigL c).length := h
  simp [List.getD_eq_getElem?_getD, this]
theorem all_snoc (c : Cf) (i : Nat) (h : i < 8) : ((bigL c).take (i + 1)).all (fun n => decide (n ≤ 16777216)) = (((bigL c).take i).all (fun n => decide (n ≤ 16777216)) && decide ((bigL c).getD i 0 ≤ 16777216)) := by
  have hi : i < (bigL c).length := h
  rw [List.take_succ_eq_append_getElem hi, List.all_append]
  simp [List.getD_eq_getElem?_getD, hi]
theorem big_all (c : Cf) : (bigL c).all (fun n => decide (n ≤ 16777216)) = !cb2 c := by
  rw [Bool.eq_iff_iff]
  simp [bigL, cb2]
-- signet/signetref10.Check
theorem check17 (v va vs : Value) (c : Cf) (w : World) (h : CfV w v va vs c) (hw : (wireL c.apex).length ≤ 1000000) : Runs Try.prog 17 #[v] w fun r w' => r = .int .i64 (checkC c) ∧ Below w.heap.size w w' := by
  obtain ⟨rfl, ha, hs, hok⟩ := h
  obtain ⟨Aa, ca, hva, -⟩ := id ha
  rw [List.length_map] at hva
  subst hva
  obtain ⟨As, cs, hvs, -⟩ := id hs
  rw [List.length_map] at hvs
  subst hvs
  refine enter (N := 114) (args := [_]) Try.func17 rfl rfl (Nat.le_of_ble_eq_true rfl) ?_
  refine CW.seq ?_
  refine CW.region ?_
  refine WL.boxS _ rfl rfl (cfL_cells _ _ c) (fun g w1 hB1 hg1 hb1 hz1 => ?_)
  have ha1 := ha.keep hb1
  have hs1 := hs.keep hb1
  refine WL.v (Val.assign rfl rfl) ?_ -- d2
  refine WL.nil ?_
  refine Ends.next ?_
  refine CW.seq ?_
  refine CW.region ?_
  refine WL.v (Val.fldA 1 rfl rfl (fun _ => by kernel_rfl)) ?_ -- d6
  refine WL.v (Val.loadF rfl rfl pl24 (at_ (by assumption)) rfl) ?_ -- d7
  refine WL.v (Val.fldA 2 rfl rfl (fun _ => by kernel_rfl)) ?_ -- d8
  refine WL.v (Val.loadF rfl rfl pl24 (at_ (by assumption)) rfl) ?_ -- d9
  refine WL.v (Val.fldA 3 rfl rfl (fun _ => by kernel_rfl)) ?_ -- d10
  refine WL.v (Val.loadF rfl rfl pl24 (at_ (by assumption)) rfl) ?_ -- d11
  refine WL.v (Val.fldA 4 rfl rfl (fun _ => by kernel_rfl)) ?_ -- d12
  refine WL.v (Val.loadF rfl rfl pl24 (at_ (by assumption)) rfl) ?_ -- d13
  refine WL.v (Val.fldA 8 rfl rfl (fun _ => by kernel_rfl)) ?_ -- d14
  refine WL.v (Val.loadF rfl rfl pl24 (at_ (by assumption)) rfl) ?_ -- d15
  refine WL.v (Val.fldA 7 rfl rfl (fun _ => by kernel_rfl)) ?_ -- d16
  refine WL.v (Val.loadF rfl rfl pl24 (at_ (by assumption)) rfl) ?_ -- d17
  refine WL.v (Val.fldA 6 rfl rfl (fun _ => by kernel_rfl)) ?_ -- d18
  refine WL.v (Val.loadF rfl rfl pl24 (at_ (by assumption)) rfl) ?_ -- d19
  refine WL.v (Val.fldA 5 rfl rfl (fun _ => by kernel_rfl)) ?_ -- d20
  refine WL.v (Val.loadF rfl rfl pl24 (at_ (by assumption)) rfl) ?_ -- d21
  refine WL.buildX (l := [_, _, _, _, _, _, _, _]) (vs := ((bigL c).map fun n => Value.int .u32 (n : Nat))) ty66 rfl rfl (by intro v hv; simp at hv; obtain ⟨n, _, rfl⟩ := hv; rfl) (by decide) (by decide) (fun g2 w2 hG2 hg2 hb2 hz2 => ?_)
  have hB2 := hB1.keep hb2
  have ha2 := ha1.keep hb2
  refine WL.v (Val.assign rfl rfl) ?_ -- d3
  refine WL.nil ?_
  refine Ends.next ?_
  refine CW.seq ?_
  refine CW.region ?_
  refine WL.v (Val.fldA 0 rfl rfl (fun _ => by kernel_rfl)) ?_ -- d23
  refine WL.v (Val.loadF rfl rfl pl23 (at_ (by assumption)) rfl) ?_ -- d24
  refine WL.call bodied39 rfl rfl (check39 _ _ _ ha2 (by rw [wireL_length] at hw; omega)) ?_
  rintro _ _ ⟨rfl, rfl⟩
  refine WL.v (Val.eqlI rfl rfl rfl) ?_ -- d26
  refine WL.v (Val.move rfl rfl) ?_ -- d27
  refine WL.forkX (rest := []) (α := Unit) (fun _ => [(1, .pointer (some ⟨g, 0, none⟩)), (3, .slice (some ⟨g2, 0, none⟩) 8 8), (4, (.bool (!cb1 c)))]) (fun _ w' => Blk w' g 28 (cfL (.slice Aa c.apex.length ca) (.slice As c.salt.length cs) c) ∧ Blk w' g2 24 ((bigL c).map fun n => Value.int .u32 (n : Nat)) ∧ Below w2.heap.size w2 w') ?_ (fun tail => ?_)
  rotate_left
  · -- the branches
    by_cases h1 : checkN c.apex = 0
    · -- yes
      by_cases h2 : 0 < (c.apex.length : Int)
      · -- yes
        refine WL.yes rfl rfl rfl (decide_eq_true h1) ?_
        refine WL.v (Val.fldA 0 rfl rfl (fun _ => by kernel_rfl)) ?_ -- d28
        refine WL.yes rfl rfl rfl (decide_eq_true h1) ?_
        refine WL.v (Val.loadF rfl rfl pl23 (at_ (by assumption)) rfl) ?_ -- d29
        refine WL.yes rfl rfl rfl (decide_eq_true h1) ?_
        refine WL.v (Val.lenSl rfl Try.underlying23 rfl) ?_ -- d30
        refine WL.yes rfl rfl rfl (decide_eq_true h1) ?_
        refine WL.v (Val.gtr rfl rfl rfl) ?_ -- d31
        refine WL.v (Val.pickT rfl rfl (decide_eq_true h1) rfl) ?_ -- d32
        refine WL.v (Val.move rfl rfl) ?_ -- d33
        refine WL.yes rfl rfl rfl (decide_eq_true h2) ?_
        refine WL.v (Val.fldA 0 rfl rfl (fun _ => by kernel_rfl)) ?_ -- d34
        refine WL.yes rfl rfl rfl (decide_eq_true h2) ?_
        refine WL.v (Val.loadF rfl rfl pl23 (at_ (by assumption)) rfl) ?_ -- d35
        refine WL.yes rfl rfl rfl (decide_eq_true h2) ?_
        refine WL.call bodied41 rfl rfl (wire41 _ _ _ ha2 hw) ?_
        rintro r3 w3 ⟨hr3, hb3⟩
        obtain ⟨A3, c3, hv3, -⟩ := id hr3.sl
        rw [List.length_map] at hv3
        subst hv3
        have hB3 := hB2.keep hb3
        have hG3 := hG2.keep hb3
        have hlw : (wireL c.apex ++ [0]).length = (wireL c.apex).length + 1 := by simp
        refine WL.yes rfl rfl rfl (decide_eq_true h2) ?_
        refine WL.v (Val.lenSl rfl Try.underlying25 rfl) ?_ -- d37
        refine WL.yes rfl rfl rfl (decide_eq_true h2) ?_
        refine WL.v (Val.leq rfl rfl rfl) ?_ -- d38
        refine WL.v (Val.pickT rfl rfl (decide_eq_true h2) rfl) ?_ -- d39
        refine WL.v (Val.assign rfl rfl) ?_ -- d4
        refine WL.know 4 (.bool (!cb1 c)) rfl (congrArg Value.bool (by rw [cb1, ← decide_not]; exact decide_eq_decide.2 (by rw [hlw]; omega))) ?_
        refine WL.join ?_ (tail () _ ⟨hB3, hG3, hb3⟩)
        exact ⟨rfl, rfl, rfl, trivial⟩
      · -- no
        refine WL.yes rfl rfl rfl (decide_eq_true h1) ?_
        refine WL.v (Val.fldA 0 rfl rfl (fun _ => by kernel_rfl)) ?_ -- d28
        refine WL.yes rfl rfl rfl (decide_eq_true h1) ?_
        refine WL.v (Val.loadF rfl rfl pl23 (at_ (by assumption)) rfl) ?_ -- d29
        refine WL.yes rfl rfl rfl (decide_eq_true h1) ?_
        refine WL.v (Val.lenSl rfl Try.underlying23 rfl) ?_ -- d30
        refine WL.yes rfl rfl rfl (decide_eq_true h1) ?_
        refine WL.v (Val.gtr rfl rfl rfl) ?_ -- d31
        refine WL.v (Val.pickT rfl rfl (decide_eq_true h1) rfl) ?_ -- d32
        refine WL.v (Val.move rfl rfl) ?_ -- d33
        refine WL.noB rfl rfl rfl (decide_eq_false h2) ?_
        refine WL.noB rfl rfl rfl (decide_eq_false h2) ?_
        refine WL.noB rfl rfl rfl (decide_eq_false h2) ?_
        refine WL.noB rfl rfl rfl (decide_eq_false h2) ?_
        refine WL.noB rfl rfl rfl (decide_eq_false h2) ?_
        refine WL.v (Val.pickF rfl rfl (decide_eq_false h2) rfl) ?_ -- d39
        refine WL.v (Val.assign rfl rfl) ?_ -- d4
        refine WL.know 4 (.bool (!cb1 c)) rfl (congrArg Value.bool (by rw [cb1, ← decide_not]; exact (decide_eq_false (by omega)).symm)) ?_
        refine WL.join ?_ (tail () _ ⟨by assumption, by assumption, Below.refl _ _⟩)
        exact ⟨rfl, rfl, rfl, trivial⟩
    · -- no
      refine WL.noB rfl rfl rfl (decide_eq_false h1) ?_
      refine WL.noB rfl rfl rfl (decide_eq_false h1) ?_
      refine WL.noB rfl rfl rfl (decide_eq_false h1) ?_
      refine WL.noB rfl rfl rfl (decide_eq_false h1) ?_
      refine WL.v (Val.pickF rfl rfl (decide_eq_false h1) rfl) ?_ -- d32
      refine WL.v (Val.move rfl rfl) ?_ -- d33
      refine WL.noB rfl rfl rfl (rfl) ?_
      refine WL.noB rfl rfl rfl (rfl) ?_
      refine WL.noB rfl rfl rfl (rfl) ?_
      refine WL.noB rfl rfl rfl (rfl) ?_
      refine WL.noB rfl rfl rfl (rfl) ?_
      refine WL.v (Val.pickF rfl rfl (rfl) rfl) ?_ -- d39
      refine WL.v (Val.assign rfl rfl) ?_ -- d4
      refine WL.know 4 (.bool (!cb1 c)) rfl (congrArg Value.bool (by rw [cb1, ← decide_not]; exact (decide_eq_false (by omega)).symm)) ?_
      refine WL.join ?_ (tail () _ ⟨by assumption, by assumption, Below.refl _ _⟩)
      exact ⟨rfl, rfl, rfl, trivial⟩
  rintro ⟨⟩ w3 ⟨hB3, hG3, hb3⟩
  have hb23 := hb2.trans (hb3.mono hb2.size)
  have hb13 := hb1.trans (hb23.mono hb1.size)
  refine WL.nil ?_
  refine Ends.next ?_
  refine CW.seq ?_
  refine CW.seq ?_
  refine CW.region ?_
  refine WL.v (Val.assign rfl rfl) ?_ -- d5
  refine WL.nil ?_
  refine Ends.next ?_
  refine CW.block ?_
  refine CW.loop (α := Nat) (fun i => [(1, .pointer (some ⟨g, 0, none⟩)), (3, .slice (some ⟨g2, 0, none⟩) 8 8), (4, .bool (!cb1 c && (((bigL c).take i).all fun n => decide (n ≤ 16777216)))), (5, .int .i64 i)]) (fun i w4 => w3 = w4 ∧ i ≤ 8) (fun i => 8 - i) 0 ⟨rfl, rfl, by rw [List.take_zero, List.all_nil, Bool.and_true]; rfl, rfl, trivial⟩ ⟨rfl, Nat.zero_le _⟩ ?_
  rintro i w4 ⟨rfl, hi⟩
  refine CW.seq ?_
  refine CW.seq ?_
  refine CW.region ?_
  refine WL.v (Val.move rfl rfl) ?_ -- d40
  refine WL.v (Val.move rfl rfl) ?_ -- d41
  refine WL.v (Val.lenSl rfl Try.underlying66 rfl) ?_ -- d42
  refine WL.v (Val.lss rfl rfl rfl) ?_ -- d43
  refine WL.nil ?_
  refine Ends.next ?_
  refine CW.condD rfl (fun hc0 => ?_) (fun hc0 => ?_)
  · -- yes
    have hlt : i < 8 := by omega
    have hcell : w3.cell? ((⟨g2, 0, none⟩ : Addr).add i) = some (.int .u32 ((bigL c).getD i 0 : Nat)) := by rw [Addr.add_lit, Nat.zero_add]; exact Blk.at hG3 i (big_get c i hlt)
    refine CW.skip ?_
    refine Ends.next ?_
    refine CW.seq ?_
    refine CW.block ?_
    refine CW.region ?_
    refine WL.v (Val.move rfl rfl) ?_ -- d46
    refine WL.v (Val.move rfl rfl) ?_ -- d47
    refine WL.and (j := 1) (seg := [_, _, _, _, _]) (r := decide (((bigL c).getD i 0 : Nat) ≤ (16777216 : Int))) rfl rfl rfl rfl (fun hb53 HK53 => ?hT1) ?_
    case hT1 =>
      refine WL.yes rfl rfl rfl hb53 ?_
      refine WL.v (Val.move rfl rfl) ?_ -- d48
      refine WL.yes rfl rfl rfl hb53 ?_
      refine WL.v (Val.move rfl rfl) ?_ -- d49
      refine WL.yes rfl rfl rfl hb53 ?_
      refine WL.v (Val.indexAddr rfl ty66 rfl rfl (by omega) (by omega)) ?_ -- d50
      refine WL.yes rfl rfl rfl hb53 ?_
      refine WL.v (Val.load rfl pl24 rfl (at_ hcell)) ?_
      refine WL.yes rfl rfl rfl hb53 ?_
      refine WL.v (Val.leq rfl rfl rfl) ?_ -- d52
      refine WL.v (Val.pickT rfl rfl hb53 rfl) ?_
      refine WL.forget rfl ?_; refine WL.forget rfl ?_; refine WL.forget rfl ?_; refine WL.forget rfl ?_; refine WL.forget rfl ?_
      exact HK53
    refine WL.v (Val.assign rfl rfl) ?_ -- d4
    refine WL.nil ?_
    refine Ends.blkn ?_
    refine Ends.next ?_
    refine CW.region ?_
    refine WL.v (Val.move rfl rfl) ?_ -- d44
    refine WL.v (Val.add rfl rfl rfl _ (IntWalk.i64_in _ (by omega))) ?_ -- d45
    refine WL.v (Val.assign rfl rfl) ?_ -- d5
    refine WL.nil ?_
    exact Ends.round (i + 1) (by omega) ⟨rfl, rfl, by rw [all_snoc c i hlt, ← Bool.and_assoc, show decide ((bigL c).getD i 0 ≤ 16777216) = decide (((bigL c).getD i 0 : Nat) ≤ (16777216 : Int)) from decide_eq_decide.2 (by omega)]; rfl, rfl, trivial⟩ ⟨rfl, hlt⟩
  · -- no
    obtain rfl : i = 8 := by omega
    have hal : (((bigL c).take 8).all fun n => decide (n ≤ 16777216)) = !cb2 c := by rw [← big_all]; rfl
    rw [hal]
    refine CW.exit ?_
    refine Ends.seqx ?_
    refine Ends.seqx ?_
    refine Ends.blke ?_
    refine Ends.next ?_
    refine CW.seq ?_
    refine CW.seq ?_
    refine CW.region ?_
    refine WL.v (Val.move rfl rfl) ?_ -- d54
    refine WL.v (Val.not rfl rfl) ?_ -- d55
    refine WL.v (Val.move rfl rfl) ?_ -- d56
    refine WL.or (j := 2) (seg := [_, _, _]) (r := decide ((c.kt : Int) < 1)) rfl rfl rfl rfl (fun hb60 HK60 => ?hT2) ?_
    case hT2 =>
      refine WL.yes rfl rfl rfl hb60 ?_
      refine WL.v (Val.fldA 1 rfl rfl (fun _ => by kernel_rfl)) ?_ -- d57
      refine WL.yes rfl rfl rfl hb60 ?_
      refine WL.v (Val.loadF rfl rfl pl24 (at_ (by assumption)) rfl) ?_ -- d58
      refine WL.yes rfl rfl rfl hb60 ?_
      refine WL.v (Val.lss rfl rfl rfl) ?_ -- d59
      refine WL.v (Val.pickF rfl rfl hb60 rfl) ?_
      refine WL.forget rfl ?_; refine WL.forget rfl ?_; refine WL.forget rfl ?_
      exact HK60
    refine WL.v (Val.move rfl rfl) ?_ -- d61
    refine WL.or (j := 7) (seg := [_, _, _, _, _]) (r := decide ((c.mt : Int) < c.kt)) rfl rfl rfl rfl (fun hb67 HK67 => ?hT3) ?_
    case hT3 =>
      refine WL.yes rfl rfl rfl hb67 ?_
      refine WL.v (Val.fldA 1 rfl rfl (fun _ => by kernel_rfl)) ?_ -- d62
      refine WL.yes rfl rfl rfl hb67 ?_
      refine WL.v (Val.loadF rfl rfl pl24 (at_ (by assumption)) rfl) ?_ -- d63
      refine WL.yes rfl rfl rfl hb67 ?_
      refine WL.v (Val.fldA 8 rfl rfl (fun _ => by kernel_rfl)) ?_ -- d64
      refine WL.yes rfl rfl rfl hb67 ?_
      refine WL.v (Val.loadF rfl rfl pl24 (at_ (by assumption)) rfl) ?_ -- d65
      refine WL.yes rfl rfl rfl hb67 ?_
      refine WL.v (Val.gtr rfl rfl rfl) ?_ -- d66
      refine WL.v (Val.pickF rfl rfl hb67 rfl) ?_
      refine WL.forget rfl ?_; refine WL.forget rfl ?_; refine WL.forget rfl ?_; refine WL.forget rfl ?_; refine WL.forget rfl ?_
      exact HK67
    refine WL.v (Val.move rfl rfl) ?_ -- d68
    refine WL.or (j := 14) (seg := [_, _, _, _, _, _, _, _]) (r := decide ((c.le : Int) ≤ (c.mt + c.ga : Nat))) rfl rfl rfl rfl (fun hb77 HK77 => ?hT4) ?_
    case hT4 =>
      refine WL.yes rfl rfl rfl hb77 ?_
      refine WL.v (Val.fldA 6 rfl rfl (fun _ => by kernel_rfl)) ?_ -- d69
      refine WL.yes rfl rfl rfl hb77 ?_
      refine WL.v (Val.loadF rfl rfl pl24 (at_ (by assumption)) rfl) ?_ -- d70
      refine WL.yes rfl rfl rfl hb77 ?_
      refine WL.v (Val.fldA 8 rfl rfl (fun _ => by kernel_rfl)) ?_ -- d71
      refine WL.yes rfl rfl rfl hb77 ?_
      refine WL.v (Val.loadF rfl rfl pl24 (at_ (by assumption)) rfl) ?_ -- d72
      refine WL.yes rfl rfl rfl hb77 ?_
      refine WL.v (Val.fldA 7 rfl rfl (fun _ => by kernel_rfl)) ?_ -- d73
      refine WL.yes rfl rfl rfl hb77 ?_
      refine WL.v (Val.loadF rfl rfl pl24 (at_ (by assumption)) rfl) ?_ -- d74
      refine WL.yes rfl rfl rfl hb77 ?_
      have hcb2 : cb2 c = false := by
        simp only [Bool.or_eq_false_iff, Bool.not_eq_false', Bool.and_eq_true, Bool.not_eq_true'] at hb77
        exact hb77.1.1.2
      have hbg : ∀ n ∈ bigL c, n ≤ 16777216 := by simpa [cb2] using hcb2
      have hbmt := hbg c.mt (by simp [bigL])
      have hbga := hbg c.ga (by simp [bigL])
      have hble := hbg c.le (by simp [bigL])
      refine WL.v (Val.add rfl rfl rfl ((c.mt + c.ga : Nat) : Int) (by rw [IntWalk.u32_in _ (by omega)]; omega)) ?_
      refine WL.yes rfl rfl rfl hb77 ?_
      refine WL.v (Val.leq rfl rfl rfl) ?_ -- d76
      refine WL.v (Val.pickF rfl rfl hb77 rfl) ?_
      refine WL.forget rfl ?_; refine WL.forget rfl ?_; refine WL.forget rfl ?_; refine WL.forget rfl ?_; refine WL.forget rfl ?_; refine WL.forget rfl ?_; refine WL.forget rfl ?_; refine WL.forget rfl ?_
      exact HK77
    refine WL.v (Val.move rfl rfl) ?_ -- d78
    refine WL.or (j := 24) (seg := [_, _, _, _, _, _, _, _]) (r := decide ((c.va : Int) ≤ (c.le + c.ga : Nat))) rfl rfl rfl rfl (fun hb87 HK87 => ?hT5) ?_
    case hT5 =>
      refine WL.yes rfl rfl rfl hb87 ?_
      refine WL.v (Val.fldA 5 rfl rfl (fun _ => by kernel_rfl)) ?_ -- d79
      refine WL.yes rfl rfl rfl hb87 ?_
      refine WL.v (Val.loadF rfl rfl pl24 (at_ (by assumption)) rfl) ?_ -- d80
      refine WL.yes rfl rfl rfl hb87 ?_
      refine WL.v (Val.fldA 6 rfl rfl (fun _ => by kernel_rfl)) ?_ -- d81
      refine WL.yes rfl rfl rfl hb87 ?_
      refine WL.v (Val.loadF rfl rfl pl24 (at_ (by assumption)) rfl) ?_ -- d82
      refine WL.yes rfl rfl rfl hb87 ?_
      refine WL.v (Val.fldA 7 rfl rfl (fun _ => by kernel_rfl)) ?_ -- d83
      refine WL.yes rfl rfl rfl hb87 ?_
      refine WL.v (Val.loadF rfl rfl pl24 (at_ (by assumption)) rfl) ?_ -- d84
      refine WL.yes rfl rfl rfl hb87 ?_
      have hcb2 : cb2 c = false := by
        simp only [Bool.or_eq_false_iff, Bool.not_eq_false', Bool.and_eq_true, Bool.not_eq_true'] at hb87
        exact hb87.1.1.1.2
      have hbg : ∀ n ∈ bigL c, n ≤ 16777216 := by simpa [cb2] using hcb2
      have hbmt := hbg c.mt (by simp [bigL])
      have hbga := hbg c.ga (by simp [bigL])
      have hble := hbg c.le (by simp [bigL])
      refine WL.v (Val.add rfl rfl rfl ((c.le + c.ga : Nat) : Int) (by rw [IntWalk.u32_in _ (by omega)]; omega)) ?_
      refine WL.yes rfl rfl rfl hb87 ?_
      refine WL.v (Val.leq rfl rfl rfl) ?_ -- d86
      refine WL.v (Val.pickF rfl rfl hb87 rfl) ?_
      refine WL.forget rfl ?_; refine WL.forget rfl ?_; refine WL.forget rfl ?_; refine WL.forget rfl ?_; refine WL.forget rfl ?_; refine WL.forget rfl ?_; refine WL.forget rfl ?_; refine WL.forget rfl ?_
      exact HK87
    refine WL.v (Val.move rfl rfl) ?_ -- d88
    refine WL.or (j := 34) (seg := [_, _, _, _]) (r := decide (16 < (c.salt.length : Int))) rfl rfl rfl rfl (fun hb93 HK93 => ?hT6) ?_
    case hT6 =>
      refine WL.yes rfl rfl rfl hb93 ?_
      refine WL.v (Val.fldA 9 rfl rfl (fun _ => by kernel_rfl)) ?_ -- d89
      refine WL.yes rfl rfl rfl hb93 ?_
      refine WL.v (Val.loadF rfl rfl pl25 (at_ (by assumption)) rfl) ?_ -- d90
      refine WL.yes rfl rfl rfl hb93 ?_
      refine WL.v (Val.lenSl rfl Try.underlying25 rfl) ?_ -- d91
      refine WL.yes rfl rfl rfl hb93 ?_
      refine WL.v (Val.gtr rfl rfl rfl) ?_ -- d92
      refine WL.v (Val.pickF rfl rfl hb93 rfl) ?_
      refine WL.forget rfl ?_; refine WL.forget rfl ?_; refine WL.forget rfl ?_; refine WL.forget rfl ?_
      exact HK93
    refine WL.v (Val.move rfl rfl) ?_ -- d94
    refine WL.or (j := 40) (seg := [_, _, _]) (r := decide (50 < (c.it : Int))) rfl rfl rfl rfl (fun hb98 HK98 => ?hT7) ?_
    case hT7 =>
      refine WL.yes rfl rfl rfl hb98 ?_
      refine WL.v (Val.fldA 10 rfl rfl (fun _ => by kernel_rfl)) ?_ -- d95
      refine WL.yes rfl rfl rfl hb98 ?_
      refine WL.v (Val.loadF rfl rfl pl26 (at_ (by assumption)) rfl) ?_ -- d96
      refine WL.yes rfl rfl rfl hb98 ?_
      refine WL.v (Val.gtr rfl rfl rfl) ?_ -- d97
      refine WL.v (Val.pickF rfl rfl hb98 rfl) ?_
      refine WL.forget rfl ?_; refine WL.forget rfl ?_; refine WL.forget rfl ?_
      exact HK98
    refine WL.v (Val.move rfl rfl) ?_ -- d99
    refine WL.or (j := 45) (seg := [_, _, _]) (r := decide (c.h < 0)) rfl rfl rfl rfl (fun hb103 HK103 => ?hT8) ?_
    case hT8 =>
      refine WL.yes rfl rfl rfl hb103 ?_
      refine WL.v (Val.fldA 11 rfl rfl (fun _ => by kernel_rfl)) ?_ -- d100
      refine WL.yes rfl rfl rfl hb103 ?_
      refine WL.v (Val.loadF rfl rfl pl3 (at_ (by assumption)) rfl) ?_ -- d101
      refine WL.yes rfl rfl rfl hb103 ?_
      refine WL.v (Val.lss rfl rfl rfl) ?_ -- d102
      refine WL.v (Val.pickF rfl rfl hb103 rfl) ?_
      refine WL.forget rfl ?_; refine WL.forget rfl ?_; refine WL.forget rfl ?_
      exact HK103
    refine WL.v (Val.move rfl rfl) ?_ -- d104
    refine WL.or (j := 50) (seg := [_, _, _]) (r := decide (10 < c.h)) rfl rfl rfl rfl (fun hb108 HK108 => ?hT9) ?_
    case hT9 =>
      refine WL.yes rfl rfl rfl hb108 ?_
      refine WL.v (Val.fldA 11 rfl rfl (fun _ => by kernel_rfl)) ?_ -- d105
      refine WL.yes rfl rfl rfl hb108 ?_
      refine WL.v (Val.loadF rfl rfl pl3 (at_ (by assumption)) rfl) ?_ -- d106
      refine WL.yes rfl rfl rfl hb108 ?_
      refine WL.v (Val.gtr rfl rfl rfl) ?_ -- d107
      refine WL.v (Val.pickF rfl rfl hb108 rfl) ?_
      refine WL.forget rfl ?_; refine WL.forget rfl ?_; refine WL.forget rfl ?_
      exact HK108
    refine WL.v (Val.move rfl rfl) ?_ -- d109
    refine WL.or (j := 55) (seg := [_, _, _]) (r := decide ((c.sz : Int) < 512)) rfl rfl rfl rfl (fun hb113 HK113 => ?hT10) ?_
    case hT10 =>
      refine WL.yes rfl rfl rfl hb113 ?_
      refine WL.v (Val.fldA 12 rfl rfl (fun _ => by kernel_rfl)) ?_ -- d110
      refine WL.yes rfl rfl rfl hb113 ?_
      refine WL.v (Val.loadF rfl rfl pl26 (at_ (by assumption)) rfl) ?_ -- d111
      refine WL.yes rfl rfl rfl hb113 ?_
      refine WL.v (Val.lss rfl rfl rfl) ?_ -- d112
      refine WL.v (Val.pickF rfl rfl hb113 rfl) ?_
      refine WL.forget rfl ?_; refine WL.forget rfl ?_; refine WL.forget rfl ?_
      exact HK113
    refine WL.know 113 (.bool (cb1 c || cb2 c || cb3 c || cb4 c || cb5 c || cb6 c)) rfl (congrArg Value.bool ?hcb) ?_
    case hcb =>
      cases cb1 c <;> cases cb2 c <;> rw [Bool.eq_iff_iff] <;> simp [cb3, cb4, cb5, cb6] <;> omega
    refine WL.nil ?_
    refine Ends.next ?_
    refine CW.cond rfl (fun hc1 => ?_) (fun hc1 => ?_)
    · -- yes
      refine CW.seq ?_
      refine CW.region ?_
      refine WL.v (Val.assign rfl rfl) ?_ -- d2
      refine WL.nil ?_
      refine Ends.next ?_
      refine CW.ret ?_
      refine Ends.seqr ?_
      exact Ends.ret1 rfl rfl ⟨congrArg (Value.int .i64) (if_pos hc1).symm, hb13⟩
    · -- no
      refine CW.skip ?_
      refine Ends.next ?_
      refine CW.seq ?_
      refine CW.region ?_
      refine WL.v (Val.assign rfl rfl) ?_ -- d2
      refine WL.nil ?_
      refine Ends.next ?_
      refine CW.ret ?_
      exact Ends.ret1 rfl rfl ⟨congrArg (Value.int .i64) (if_neg (by rw [hc1]; decide)).symm, hb13⟩
theorem time_get (va vs : Value) (c : Cf) (i : Nat) (h : i < 8) : (cfL va vs c)[i + 1]? = some (.int .u32 ((timeL c).getD i 0 : Nat)) := by
  have : i = 0 ∨ i = 1 ∨ i = 2 ∨ i = 3 ∨ i = 4 ∨ i = 5 ∨ i = 6 ∨ i = 7 := by omega
  rcases this with rfl | rfl | rfl | rfl | rfl | rfl | rfl | rfl <;> rfl
theorem time_snoc (c : Cf) (i : Nat) (h : i < 8) : ((timeL c).take (i + 1)).flatMap be4 = ((timeL c).take i).flatMap be4 ++ be4 ((timeL c).getD i 0) := by
  have hi : i < (timeL c).length := h
  rw [List.take_succ_eq_append_getElem hi, List.flatMap_append]
  simp [List.getD_eq_getElem?_getD, hi]
theorem time_len (c : Cf) (i : Nat) : (((timeL c).take i).flatMap be4).length ≤ 32 := by
  have : ∀ l : List Nat, (l.flatMap be4).length = 4 * l.length := by
    intro l
    induction l with
    | nil => rfl
    | cons n l ih => simp only [List.flatMap_cons, List.length_append, ih, List.length_cons, be4, List.length_nil]; omega
  rw [this, List.length_take]
  have : (timeL c).length = 8 := rfl
  omega
theorem own_ne {w : World} {base g : Nat} {b : Value} {l : List UInt8} (h : OwnB w base b l) (hg : g < base) : b.ownBlock ≠ some g := by
  rcases h.2 with ⟨rfl, _⟩ | ⟨k, cap, cur, rfl, hk, _⟩
  · simp [Value.ownBlock]
  · simp only [Value.ownBlock, ne_eq, Option.some.injEq]
    omega
theorem own_lt {w : World} {base g : Nat} {b : Value} {l : List UInt8} (h : OwnB w base b l) (hg : w.heap.size ≤ g) : b.ownBlock ≠ some g := by
  intro he
  have := World.ownsRow.lt h g he
  omega
theorem wrapHB (h : Int) : IntKind.u8.wrap h = ((hB h).toNat : Int) := by
  rw [IntKind.wrap_u8, hB, UInt8.toNat_ofNat']
  omega
theorem own_lower {w : World} {base base' : Nat} {v : Value} {l : List UInt8} (hb : base' ≤ base) (h : OwnB w base v l) : OwnB w base' v l := by
  refine ⟨h.1, ?_⟩
  rcases h.2 with h0 | ⟨g, cap, cur, h1, h2, h3⟩
  · exact .inl h0
  · exact .inr ⟨g, cap, cur, h1, by omega, h3⟩
-- signet/config.Bytes
theorem bytes18 (v va vs : Value) (c : Cf) (w : World) (h : CfV w v va vs c) (hw : (wireL c.apex).length ≤ 1000000) (hsl : c.salt.length ≤ 1000000) : Runs Try.prog 18 #[v] w fun r w' => OwnB w' w.heap.size r (bytesC c) ∧ Below w.heap.size w w' := by
  obtain ⟨rfl, ha, hs, hok⟩ := h
  obtain ⟨Aa, ca, hva, -⟩ := id ha
  rw [List.length_map] at hva
  subst hva
  obtain ⟨As, cs, hvs, -⟩ := id hs
  rw [List.length_map] at hvs
  subst hvs
  refine enter (N := 68) (args := [_]) Try.func18 rfl rfl (Nat.le_of_ble_eq_true rfl) ?_
  refine CW.seq ?_
  refine CW.region ?_
  refine WL.boxS _ rfl rfl (cfL_cells _ _ c) (fun g w1 hB1 hg1 hb1 hz1 => ?_)
  have ha1 := ha.keep hb1
  have hs1 := hs.keep hb1
  refine WL.v (Val.assign rfl rfl) ?_ -- d2
  refine WL.nil ?_
  refine Ends.next ?_
  refine CW.seq ?_
  refine CW.region ?_
  refine WL.v (Val.fldA 0 rfl rfl (fun _ => by kernel_rfl)) ?_ -- d6
  refine WL.v (Val.loadF rfl rfl pl23 (at_ (by assumption)) rfl) ?_ -- d7
  refine WL.call bodied33 rfl rfl (wire33 _ _ _ ha1 hw) ?_
  rintro r2 w2 ⟨hr2, hb2⟩
  have hB2 := hB1.keep hb2
  have hs2 := hs1.keep hb2
  refine WL.v (Val.assign rfl rfl) ?_ -- d3
  refine WL.nil ?_
  refine Ends.next ?_
  refine CW.seq ?_
  refine CW.seq ?_
  refine CW.region ?_
  refine WL.call bodied49 rfl rfl (times49 g w2) ?_
  rintro _ w3 ⟨g2, rfl, hG3, hg2, hb3⟩
  have hB3 := hB2.keep hb3
  have hs3 := hs2.keep hb3
  have hr3 := hr2.keep hb3
  have hne3 : r2.ownBlock ≠ some g := own_ne hr2 (by have := hB1.lt; omega)
  have hne3' : r2.ownBlock ≠ some g2 := own_lt hr2 (by omega)
  have hb13 := hb2.trans (hb3.mono hb2.size)
  refine WL.v (Val.lenSl rfl Try.underlying67 rfl) ?_ -- d10
  refine WL.v (Val.move rfl rfl) ?_ -- d11
  refine WL.nil ?_
  refine Ends.next ?_
  refine CW.block ?_
  refine CW.loop (α := Value × Nat) (fun x => [(1, .pointer (some ⟨g, 0, none⟩)), (3, x.1), (9, .slice (some ⟨g2, 0, none⟩) 8 8), (10, .int .i64 8), (11, .int .i64 x.2)]) (fun x w4 => x.2 ≤ 8 ∧ OwnB w4 w1.heap.size x.1 (wireL c.apex ++ [0] ++ ((timeL c).take x.2).flatMap be4) ∧ Blk w4 g 28 (cfL (.slice Aa c.apex.length ca) (.slice As c.salt.length cs) c) ∧ Blk w4 g2 70 (ptrs g) ∧ x.1.ownBlock ≠ some g ∧ x.1.ownBlock ≠ some g2 ∧ Below w1.heap.size w1 w4) (fun x => 8 - x.2) (r2, 0) ⟨rfl, rfl, rfl, rfl, rfl, trivial⟩ ⟨Nat.zero_le _, by simpa using hr3, hB3, hG3, hne3, hne3', hb13⟩ ?_
  rintro ⟨b, i⟩ w4 ⟨hi, hown, hB4, hG4, hne, hne', hb4⟩
  dsimp only at hi hown hne hne' ⊢
  have htl := time_len c i
  have hwl : (wireL c.apex ++ [0]).length = (wireL c.apex).length + 1 := by simp
  refine CW.seq ?_
  refine CW.region ?_
  refine WL.v (Val.lss rfl rfl rfl) ?_ -- d12
  refine WL.nil ?_
  refine Ends.next ?_
  refine CW.seq ?_
  refine CW.condD rfl (fun hc0 => ?_) (fun hc0 => ?_)
  · -- yes
    have hlt : i < 8 := by omega
    refine CW.skip ?_
    refine Ends.next ?_
    refine CW.seq ?_
    refine CW.block ?_
    refine CW.seq ?_
    refine CW.region ?_
    refine WL.elem ty67 (hG4.sl rfl) rfl rfl rfl rfl (by omega) (v := .pointer (some ⟨g, i + 1, none⟩)) (ptrs_get g i hlt) (fun _ => ?_)
    refine WL.v (Val.assign rfl rfl) ?_ -- d5
    refine WL.nil ?_
    refine Ends.next ?_
    refine CW.draw (fun w' => Blk w' g 28 (cfL (.slice Aa c.apex.length ca) (.slice As c.salt.length cs) c)) hB4 ?_
    refine WH.take 0 rfl rfl (Val.move rfl rfl) ?_ -- d15
    refine WH.take 1 rfl rfl (Val.move rfl rfl) ?_ -- d16
    refine WH.take 2 rfl rfl (Val.nilCheck rfl rfl) ?_ -- d17
    refine WH.take 3 rfl rfl (Val.loadF rfl rfl pl24 (fun _ h => h) (time_get _ _ c i hlt)) ?_ -- d18
    refine WH.take 4 rfl rfl (Val.shr rfl rfl rfl _ (shr_nat (s := 24) (m := 16777216) (by decide) (by decide))) ?_ -- d19
    refine WH.take 5 rfl rfl (Val.convI rfl Try.underlying24 Try.underlying5 rfl _ (wrapU8 _)) ?_ -- d20
    refine WH.take 6 rfl rfl (Val.move rfl rfl) ?_ -- d21
    refine WH.take 7 rfl rfl (Val.nilCheck rfl rfl) ?_ -- d22
    refine WH.take 8 rfl rfl (Val.loadF rfl rfl pl24 (fun _ h => h) (time_get _ _ c i hlt)) ?_ -- d23
    refine WH.take 9 rfl rfl (Val.shr rfl rfl rfl _ (shr_nat (s := 16) (m := 65536) (by decide) (by decide))) ?_ -- d24
    refine WH.take 10 rfl rfl (Val.convI rfl Try.underlying24 Try.underlying5 rfl _ (wrapU8 _)) ?_ -- d25
    refine WH.take 11 rfl rfl (Val.move rfl rfl) ?_ -- d26
    refine WH.take 12 rfl rfl (Val.nilCheck rfl rfl) ?_ -- d27
    refine WH.take 13 rfl rfl (Val.loadF rfl rfl pl24 (fun _ h => h) (time_get _ _ c i hlt)) ?_ -- d28
    refine WH.take 14 rfl rfl (Val.shr rfl rfl rfl _ (shr_nat (s := 8) (m := 256) (by decide) (by decide))) ?_ -- d29
    refine WH.take 15 rfl rfl (Val.convI rfl Try.underlying24 Try.underlying5 rfl _ (wrapU8 _)) ?_ -- d30
    refine WH.take 16 rfl rfl (Val.move rfl rfl) ?_ -- d31
    refine WH.take 17 rfl rfl (Val.nilCheck rfl rfl) ?_ -- d32
    refine WH.take 18 rfl rfl (Val.loadF rfl rfl pl24 (fun _ h => h) (time_get _ _ c i hlt)) ?_ -- d33
    refine WH.take 19 rfl rfl (Val.convI rfl Try.underlying24 Try.underlying5 rfl _ (wrapU8 _)) ?_ -- d34
    refine WH.step 20 rfl ?_ -- d35
    refine WL.buildB (l := [_, _, _, _]) (be4 ((timeL c).getD i 0)) rfl rfl (by decide) (by decide) (fun u w5 hu5 hb5 _ => ?_)
    have hB5 : Blk w5 g 28 (cfL (.slice Aa c.apex.length ca) (.slice As c.salt.length cs) c) := (Blk.drew hB4).keep hb5
    have hG5 : Blk w5 g2 70 (ptrs g) := (Blk.drew hG4).keep hb5
    have hown5 : OwnB w5 w1.heap.size b _ := (show OwnB w4.drew _ _ _ from hown).keep hb5
    have hbd5 : Below w1.heap.size w1 w5 := hb4.drew.trans (hb5.mono hb4.size)
    refine WH.back hB5 ?_
    refine WH.step 21 rfl ?_ -- d36
    refine WL.apL hown5 hu5 rfl rfl rfl (by simp only [List.length_append, be4, List.length_cons, List.length_nil] at *; omega) hbd5.size (fun v6 w6 hown6 hg6 hat6 => ?_)
    have hB6 := hB5.grown hg6 (fun h => hne h.symm)
    have hG6 := hG5.grown hg6 (fun h => hne' h.symm)
    have hbd6 : Below w1.heap.size w1 w6 := hbd5.trans (hown5.below hg6 hbd5.size)
    refine WH.back hB6 ?_
    refine WH.take 22 rfl rfl (Val.assign rfl rfl) ?_ -- d3
    refine WH.done ?_
    refine Ends.blkn ?_
    refine Ends.next ?_
    refine CW.region ?_
    refine WL.v (Val.add rfl rfl rfl ((i + 1 : Nat) : Int) (i64_eq (by omega) (by omega))) ?_
    refine WL.v (Val.move rfl rfl) ?_ -- d11
    refine WL.nil ?_
    exact Ends.round (v6, i + 1) (by simp only; omega) ⟨rfl, rfl, rfl, rfl, rfl, trivial⟩ ⟨hlt, by rw [time_snoc c i hlt, ← List.append_assoc]; exact hown6, hB6, hG6, apart_own hB5.lt hne hat6, apart_own hG5.lt hne' hat6, hbd6⟩
  · -- no
    obtain rfl : i = 8 := by omega
    have hs4 : Bs w4 (.slice As c.salt.length cs) c.salt := hs1.keep hb4
    have htk : (timeL c).take 8 = timeL c := rfl
    rw [htk] at hown htl
    refine CW.exit ?_
    refine Ends.seqx ?_
    refine Ends.seqx ?_
    refine Ends.blke ?_
    refine Ends.next ?_
    refine CW.seq ?_
    refine CW.draw (fun w' => Blk w' g 28 (cfL (.slice Aa c.apex.length ca) (.slice As c.salt.length cs) c)) hB4 ?_
    refine WH.take 0 rfl rfl (Val.move rfl rfl) ?_ -- d38
    refine WH.take 1 rfl rfl (Val.fldA 9 rfl rfl (fun _ => by kernel_rfl)) ?_ -- d39
    refine WH.take 2 rfl rfl (Val.loadF rfl rfl pl25 (fun _ h => h) rfl) ?_ -- d40
    refine WH.take 3 rfl rfl (Val.lenSl rfl Try.underlying25 rfl) ?_ -- d41
    refine WH.take 4 rfl rfl (Val.convI rfl Try.underlying3 Try.underlying5 rfl _ (wrapU8 _)) ?_ -- d42
    refine WH.take 7 rfl rfl (Val.fldA 9 rfl rfl (fun _ => by kernel_rfl)) ?_ -- d45
    refine WH.take 8 rfl rfl (Val.loadF rfl rfl pl25 (fun _ h => h) rfl) ?_ -- d46
    refine WH.step 5 rfl ?_ -- d43
    refine WL.buildB (l := [_]) [UInt8.ofNat c.salt.length] rfl rfl (by decide) (by decide) (fun u w5 hu5 hb5 _ => ?_)
    have hB5 : Blk w5 g 28 (cfL (.slice Aa c.apex.length ca) (.slice As c.salt.length cs) c) := (Blk.drew hB4).keep hb5
    have hs5 : Bs w5 (.slice As c.salt.length cs) c.salt := (show Bs w4.drew _ _ from hs4).keep hb5
    have hown5 : OwnB w5 w1.heap.size b _ := (show OwnB w4.drew _ _ _ from hown).keep hb5
    have hbd5 : Below w1.heap.size w1 w5 := hb4.drew.trans (hb5.mono hb4.size)
    refine WH.back hB5 ?_
    refine WH.step 6 rfl ?_ -- d44
    refine WL.apL hown5 hu5 rfl rfl rfl (by simp only [List.length_append, List.length_cons, List.length_nil] at *; omega) hbd5.size (fun v6 w6 hown6 hg6 hat6 => ?_)
    have hB6 := hB5.grown hg6 (fun h => hne h.symm)
    have hbd6 : Below w1.heap.size w1 w6 := hbd5.trans (hown5.below hg6 hbd5.size)
    have hs6 : Bs w6 (.slice As c.salt.length cs) c.salt := hs1.keep hbd6
    have hne6 := apart_own hB5.lt hne hat6
    refine WH.back hB6 ?_
    refine WH.step 9 rfl ?_ -- d47
    refine WL.apL hown6 hs6 rfl rfl rfl (by simp only [List.length_append, List.length_cons, List.length_nil] at *; omega) hbd6.size (fun v7 w7 hown7 hg7 hat7 => ?_)
    have hB7 := hB6.grown hg7 (fun h => hne6 h.symm)
    have hbd7 : Below w1.heap.size w1 w7 := hbd6.trans (hown6.below hg7 hbd6.size)
    have hne7 := apart_own hB6.lt hne6 hat7
    refine WH.back hB7 ?_
    refine WH.take 10 rfl rfl (Val.assign rfl rfl) ?_ -- d3
    refine WH.done ?_
    refine Ends.next ?_
    refine CW.seq ?_
    refine CW.region ?_
    refine WL.v (Val.move rfl rfl) ?_ -- d48
    refine WL.v (Val.fldA 10 rfl rfl (fun _ => by kernel_rfl)) ?_ -- d49
    refine WL.v (Val.loadF rfl rfl pl26 (at_ (by assumption)) rfl) ?_ -- d50
    refine WL.v (Val.shr rfl rfl rfl _ (shr_nat (s := 8) (m := 256) (by decide) (by decide))) ?_
    refine WL.v (Val.convI rfl Try.underlying26 Try.underlying5 rfl _ (wrapU8 _)) ?_
    refine WL.v (Val.fldA 10 rfl rfl (fun _ => by kernel_rfl)) ?_ -- d53
    refine WL.v (Val.loadF rfl rfl pl26 (at_ (by assumption)) rfl) ?_ -- d54
    refine WL.v (Val.convI rfl Try.underlying26 Try.underlying5 rfl _ (wrapU8 _)) ?_
    refine WL.v (Val.fldA 11 rfl rfl (fun _ => by kernel_rfl)) ?_ -- d56
    refine WL.v (Val.loadF rfl rfl pl3 (at_ (by assumption)) rfl) ?_ -- d57
    refine WL.v (Val.convI rfl Try.underlying3 Try.underlying5 rfl _ (wrapHB c.h)) ?_
    refine WL.v (Val.fldA 12 rfl rfl (fun _ => by kernel_rfl)) ?_ -- d59
    refine WL.v (Val.loadF rfl rfl pl26 (at_ (by assumption)) rfl) ?_ -- d60
    refine WL.v (Val.shr rfl rfl rfl _ (shr_nat (s := 8) (m := 256) (by decide) (by decide))) ?_
    refine WL.v (Val.convI rfl Try.underlying26 Try.underlying5 rfl _ (wrapU8 _)) ?_
    refine WL.v (Val.fldA 12 rfl rfl (fun _ => by kernel_rfl)) ?_ -- d63
    refine WL.v (Val.loadF rfl rfl pl26 (at_ (by assumption)) rfl) ?_ -- d64
    refine WL.v (Val.convI rfl Try.underlying26 Try.underlying5 rfl _ (wrapU8 _)) ?_
    refine WL.buildB (l := [_, _, _, _, _]) (be2 c.it ++ [hB c.h] ++ be2 c.sz) rfl rfl (by decide) (by decide) (fun u8 w8 hu8 hb8 _ => ?_)
    have hown8 := hown7.keep hb8
    have hbd8 : Below w1.heap.size w1 w8 := hbd7.trans (hb8.mono hbd7.size)
    refine WL.apL hown8 hu8 rfl rfl rfl (by simp only [List.length_append, List.length_cons, List.length_nil, be2] at *; omega) hbd8.size (fun v9 w9 hown9 hg9 _ => ?_)
    have hbd9 : Below w1.heap.size w1 w9 := hbd8.trans (hown8.below hg9 hbd8.size)
    refine WL.v (Val.assign rfl rfl) ?_ -- d2
    refine WL.nil ?_
    refine Ends.next ?_
    refine CW.ret ?_
    exact Ends.ret1 rfl rfl ⟨own_lower (by have := hb1.size; omega) (by simpa [bytesC, restC] using hown9), hb1.trans (hbd9.mono hb1.size)⟩
end Go.Proofs.Ytjdgckamjgldmaa
