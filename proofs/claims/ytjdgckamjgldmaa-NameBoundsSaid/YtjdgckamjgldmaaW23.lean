/- Walks: NameBounds. -/
import Derived.Test.YtjdgckamjgldmaaW18
import Derived.Test.YtjdgckamjgldmaaSpecR
namespace Go.Proofs.Ytjdgckamjgldmaa
open Go.RowKit Go.Eng

def abc80 : ByteArray := ⟨#[97, 98, 99, 100, 101, 102, 103, 104, 105, 106, 97, 98, 99, 100, 101, 102, 103, 104, 105, 106, 97, 98, 99, 100, 101, 102, 103, 104, 105, 106, 97, 98, 99, 100, 101, 102, 103, 104, 105, 106, 97, 98, 99, 100, 101, 102, 103, 104, 105, 106, 97, 98, 99, 100, 101, 102, 103, 104, 105, 106, 97, 98, 99, 100, 101, 102, 103, 104, 105, 106, 97, 98, 99, 100, 101, 102, 103, 104, 105, 106]⟩
def labN (k : Nat) : ByteArray := abc80.extract 0 k
theorem labN_size {k : Nat} (h : k ≤ 80) : (labN k).size = k := by
  have : abc80.size = 80 := by decide
  simp only [labN, ByteArray.size_extract, this]
  omega
theorem sumS_replicate (s : ByteArray) (i : Nat) : sumS (List.replicate i s) = i * s.size := by
  induction i with
  | zero => simp [sumS]
  | succ i ih => simp only [List.replicate_succ, sumS, ih, Nat.succ_mul]; omega
theorem checkN_rep {k i m : Nat} (h0 : 1 ≤ k) (h : k ≤ 70) (hm : m = i * (k + 1)) : checkN (List.replicate i (labN k)) = if 0 < i ∧ (63 < k ∨ 255 < 1 + m) then 31 else 0 := by
  have hs := labN_size (k := k) (by omega)
  have hsum := sumS_replicate (labN k) i
  rw [hs] at hsum
  rw [Nat.mul_add, Nat.mul_one] at hm
  unfold checkN
  rw [if_neg]
  · rw [hsum, List.length_replicate]
    by_cases hi : 0 < i
    · have : (List.replicate i (labN k)).any (fun s => decide (63 < s.size)) = decide (63 < k) := by
        rw [Bool.eq_iff_iff, List.any_eq_true]
        constructor
        · rintro ⟨s, hs1, hs2⟩
          rw [(List.mem_replicate.1 hs1).2, hs] at hs2
          exact hs2
        · intro hk
          exact ⟨labN k, List.mem_replicate.2 ⟨by omega, rfl⟩, by rw [hs]; exact hk⟩
      rw [this]
      simp only [decide_eq_true_eq]
      by_cases hc : 63 < k ∨ 255 < 1 + i * k + i
      · rw [if_pos hc, if_pos ⟨hi, by omega⟩]
      · rw [if_neg hc, if_neg (by omega)]
    · obtain rfl : i = 0 := by omega
      simp
  · rw [List.any_eq_true]
    rintro ⟨s, hs1, hs2⟩
    rw [(List.mem_replicate.1 hs1).2, hs] at hs2
    simp at hs2
    omega
-- signet/signetlaw3.NameBounds
theorem bounds9 (n k : UInt8) (w : World) : Runs Try.prog 9 #[bv n, bv k] w fun r w' => r = .bool true ∧ Below w.heap.size w w' := by
  have hnb := n.toNat_lt
  have hkb := k.toNat_lt
  refine enter (N := 47) (args := [_, _]) Try.func9 rfl rfl (Nat.le_of_ble_eq_true rfl) ?_
  refine CW.seq ?_
  refine CW.region ?_
  refine WL.v (Val.assign rfl rfl) ?_ -- d4
  refine WL.nil ?_
  refine Ends.next ?_
  refine CW.seq ?_
  refine CW.seq ?_
  refine CW.region ?_
  refine WL.call bodied25 rfl rfl (known25 w) ?_
  rintro _ w1 ⟨rfl, hb1⟩
  refine WL.v (Val.not rfl rfl) ?_ -- d11
  refine WL.nil ?_
  refine Ends.next ?_
  refine CW.condF rfl (rfl) ?_
  refine CW.skip ?_
  refine Ends.next ?_
  refine CW.seq ?_
  refine CW.region ?_
  refine WL.v (Val.assign rfl rfl) ?_ -- d5
  refine WL.nil ?_
  refine Ends.next ?_
  refine CW.seq ?_
  refine CW.region ?_
  refine WL.v (Val.assign rfl rfl) ?_ -- d6
  refine WL.nil ?_
  refine Ends.next ?_
  refine CW.seq ?_
  refine CW.region ?_
  refine WL.v (Val.move rfl rfl) ?_ -- d12
  refine WL.v (Val.rem rfl rfl rfl (by decide) ((k.toNat % 70 : Nat) : Int) (by rw [Int.tmod_eq_emod_of_nonneg (by omega)]; omega)) ?_
  refine WL.v (Val.convI rfl Try.underlying5 Try.underlying3 rfl _ (IntWalk.i64_in _ (by omega))) ?_ -- d14
  refine WL.v (Val.add rfl rfl rfl ((k.toNat % 70 + 1 : Nat) : Int) (i64_eq (by omega) (by omega))) ?_
  refine WL.v (Val.assign rfl rfl) ?_
  obtain ⟨L, hL⟩ : ∃ L, L = k.toNat % 70 + 1 := ⟨_, rfl⟩
  rw [← hL]
  have hL1 : 1 ≤ L := by omega
  have hL2 : L ≤ 70 := by omega
  refine WL.nil ?_
  refine Ends.next ?_
  refine CW.seq ?_
  refine CW.seq ?_
  refine CW.region ?_
  refine WL.v (Val.assign rfl rfl) ?_ -- d8
  refine WL.nil ?_
  refine Ends.next ?_
  refine CW.block ?_
  refine CW.loop (α := Value × Nat × Nat) (fun x => [(0, bv n), (5, x.1), (6, .int .i64 ((1 + x.2.2 : Nat) : Int)), (7, .int .i64 L), (8, .int .i64 x.2.1)]) (fun x w2 => x.2.1 ≤ n.toNat % 140 ∧ x.2.2 = x.2.1 * (L + 1) ∧ OwnN w2 w.heap.size x.1 (List.replicate x.2.1 (labN L)) ∧ Below w.heap.size w w2) (fun x => 200 - x.2.1) (.slice none 0 0, 0, 0) ⟨rfl, rfl, rfl, rfl, rfl, trivial⟩ ⟨Nat.zero_le _, by simp, OwnN.nil _ _, hb1⟩ ?_
  rintro ⟨v, i, m⟩ w2 ⟨hi, hm, hown, hbw⟩
  dsimp only at hi hm hown ⊢
  have hmb : m ≤ 140 * 71 := by rw [hm]; exact Nat.mul_le_mul (by omega) (by omega)
  have hsz := hbw.size
  refine CW.seq ?_
  refine CW.seq ?_
  refine CW.region ?_
  refine WL.v (Val.move rfl rfl) ?_ -- d16
  refine WL.v (Val.move rfl rfl) ?_ -- d17
  refine WL.v (Val.rem rfl rfl rfl (by decide) ((n.toNat % 140 : Nat) : Int) (by rw [Int.tmod_eq_emod_of_nonneg (by omega)]; omega)) ?_
  refine WL.v (Val.convI rfl Try.underlying5 Try.underlying3 rfl _ (IntWalk.i64_in _ (by omega))) ?_ -- d19
  refine WL.v (Val.lss rfl rfl rfl) ?_ -- d20
  refine WL.nil ?_
  refine Ends.next ?_
  refine CW.condD rfl (fun hc1 => ?_) (fun hc1 => ?_)
  · -- yes
    have hlt : i < n.toNat % 140 := by omega
    refine CW.skip ?_
    refine Ends.next ?_
    refine CW.seq ?_
    refine CW.block ?_
    refine CW.seq ?_
    refine CW.region ?_
    refine WL.v (Val.move rfl rfl) ?_ -- d23
    refine WL.v (Val.move rfl rfl) ?_ -- d24
    refine WL.v (Val.subStr 0 L rfl Try.underlying9 (s := abc80) rfl rfl rfl (Nat.zero_le _) (by show L ≤ 80; omega)) ?_
    refine WL.build1 ty23 rfl rfl rfl ?_
    refine WL.apN (labN L) hown rfl rfl rfl (by rw [List.length_replicate]; omega) hsz (fun v3 w3 hown3 hg3 _ => ?_)
    have hb3 := hown.below hg3 hsz
    refine WL.v (Val.assign rfl rfl) ?_ -- d5
    refine WL.nil ?_
    refine Ends.next ?_
    refine CW.region ?_
    refine WL.v (Val.move rfl rfl) ?_ -- d28
    refine WL.v (Val.move rfl rfl) ?_ -- d29
    refine WL.v (Val.add rfl rfl rfl ((L + 1 : Nat) : Int) (i64_eq (by omega) (by omega))) ?_
    refine WL.v (Val.add rfl rfl rfl ((1 + (m + (L + 1)) : Nat) : Int) (i64_eq (by omega) (by omega))) ?_
    refine WL.v (Val.assign rfl rfl) ?_ -- d6
    refine WL.nil ?_
    refine Ends.blkn ?_
    refine Ends.next ?_
    refine CW.region ?_
    refine WL.v (Val.move rfl rfl) ?_ -- d21
    refine WL.v (Val.add rfl rfl rfl ((i + 1 : Nat) : Int) (i64_eq (by omega) (by omega))) ?_
    refine WL.v (Val.assign rfl rfl) ?_ -- d8
    refine WL.nil ?_
    exact Ends.round (v3, i + 1, m + (L + 1)) (by simp only; omega) ⟨rfl, rfl, rfl, rfl, rfl, trivial⟩ ⟨hlt, by rw [Nat.succ_mul, hm], by rw [List.replicate_succ']; exact hown3, hbw.trans hb3⟩
  · -- no
    obtain ⟨A, c, hv, -⟩ := id hown.sl
    rw [List.length_map, List.length_replicate] at hv
    subst hv
    have hck := checkN_rep hL1 hL2 hm
    refine CW.exit ?_
    refine Ends.seqx ?_
    refine Ends.seqx ?_
    refine Ends.blke ?_
    refine Ends.next ?_
    refine CW.seq ?_
    refine CW.region ?_
    refine WL.v (Val.assign rfl rfl) ?_ -- d9
    refine WL.nil ?_
    refine Ends.next ?_
    refine CW.seq ?_
    refine CW.seq ?_
    refine CW.region ?_
    refine WL.v (Val.move rfl rfl) ?_ -- d32
    refine WL.v (Val.lenSl rfl Try.underlying23 rfl) ?_ -- d33
    refine WL.v (Val.gtr rfl rfl rfl) ?_ -- d34
    refine WL.v (Val.move rfl rfl) ?_ -- d35
    -- at once
    refine WL.fork (rest := []) (e' := [(5, .slice A i c), (9, .int .i64 0), (42, .bool (decide (0 < i ∧ (63 < L ∨ 255 < 1 + m))))]) ?_ (fun tail => ?_)
    rotate_left
    · by_cases h0 : 0 < (i : Int)
      · refine WL.yes rfl rfl rfl (decide_eq_true h0) ?_
        refine WL.v (Val.move rfl rfl) ?_
        refine WL.yes rfl rfl rfl (decide_eq_true h0) ?_
        refine WL.v (Val.gtr rfl rfl rfl) ?_
        refine WL.yes rfl rfl rfl (decide_eq_true h0) ?_
        refine WL.v (Val.move rfl rfl) ?_
        by_cases h1 : 63 < (L : Int)
        · refine WL.noB rfl rfl rfl (decide_eq_true h1) ?_
          refine WL.noB rfl rfl rfl (decide_eq_true h1) ?_
          refine WL.yes rfl rfl rfl (decide_eq_true h0) ?_
          refine WL.v (Val.pickT rfl rfl (decide_eq_true h1) rfl) ?_
          refine WL.v (Val.pickT rfl rfl (decide_eq_true h0) rfl) ?_
          refine WL.know 42 (.bool (decide (0 < i ∧ (63 < L ∨ 255 < 1 + m)))) rfl (congrArg Value.bool ((decide_eq_true (by omega)).symm)) ?_
          refine WL.sub _ ?_ tail
          exact ⟨rfl, rfl, rfl, trivial⟩
        · refine WL.yes rfl rfl rfl (decide_eq_false h1) ?_
          refine WL.v (Val.move rfl rfl) ?_
          refine WL.yes rfl rfl rfl (decide_eq_false h1) ?_
          refine WL.v (Val.gtr rfl rfl rfl) ?_
          refine WL.yes rfl rfl rfl (decide_eq_true h0) ?_
          refine WL.v (Val.pickF rfl rfl (decide_eq_false h1) rfl) ?_
          refine WL.v (Val.pickT rfl rfl (decide_eq_true h0) rfl) ?_
          refine WL.know 42 (.bool (decide (0 < i ∧ (63 < L ∨ 255 < 1 + m)))) rfl (congrArg Value.bool (decide_eq_decide.2 (by omega))) ?_
          refine WL.sub _ ?_ tail
          exact ⟨rfl, rfl, rfl, trivial⟩
      · refine WL.noB rfl rfl rfl (decide_eq_false h0) ?_
        refine WL.noB rfl rfl rfl (decide_eq_false h0) ?_
        refine WL.noB rfl rfl rfl (decide_eq_false h0) ?_
        refine WL.no (v := undef) rfl rfl rfl (by simp [undef]) rfl (by decide) ?_
        refine WL.no (v := undef) rfl rfl rfl (by simp [undef]) rfl (by decide) ?_
        refine WL.noB rfl rfl rfl (decide_eq_false h0) ?_
        refine WL.v (Val.pickF rfl rfl (decide_eq_false h0) rfl) ?_
        refine WL.know 42 (.bool (decide (0 < i ∧ (63 < L ∨ 255 < 1 + m)))) rfl (congrArg Value.bool ((decide_eq_false (by omega)).symm)) ?_
        refine WL.sub _ ?_ tail
        exact ⟨rfl, rfl, rfl, trivial⟩
    refine WL.nil ?_
    refine Ends.next ?_
    refine CW.condD rfl (fun hc2 => ?_) (fun hc2 => ?_)
    · -- yes
      rw [if_pos hc2] at hck
      refine CW.region ?_
      refine WL.v (Val.assign rfl rfl) ?_ -- d9
      refine WL.nil ?_
      refine Ends.next ?_
      refine CW.seq ?_
      refine CW.region ?_
      refine WL.v (Val.move rfl rfl) ?_ -- d43
      refine WL.call bodied38 rfl rfl (check38 _ _ _ hown.sl (by rw [List.length_replicate]; omega)) ?_
      rintro _ _ ⟨rfl, rfl⟩
      refine WL.v (Val.move rfl rfl) ?_ -- d45
      refine WL.v (Val.eqlI rfl rfl rfl) ?_ -- d46
      refine WL.v (Val.assign rfl rfl) ?_ -- d4
      refine WL.nil ?_
      refine Ends.next ?_
      refine CW.ret ?_
      refine Ends.ret1 rfl rfl ⟨congrArg Value.bool (decide_eq_true (hck)), hbw⟩
    · -- no
      rw [if_neg hc2] at hck
      refine CW.skip ?_
      refine Ends.next ?_
      refine CW.seq ?_
      refine CW.region ?_
      refine WL.v (Val.move rfl rfl) ?_ -- d43
      refine WL.call bodied38 rfl rfl (check38 _ _ _ hown.sl (by rw [List.length_replicate]; omega)) ?_
      rintro _ _ ⟨rfl, rfl⟩
      refine WL.v (Val.move rfl rfl) ?_ -- d45
      refine WL.v (Val.eqlI rfl rfl rfl) ?_ -- d46
      refine WL.v (Val.assign rfl rfl) ?_ -- d4
      refine WL.nil ?_
      refine Ends.next ?_
      refine CW.ret ?_
      refine Ends.ret1 rfl rfl ⟨congrArg Value.bool (decide_eq_true (hck)), hbw⟩
end Go.Proofs.Ytjdgckamjgldmaa
