/- Walks: the references' reading of bytes. -/
import Derived.Test.YtjdgckamjgldmaaBase
import Derived.Test.YtjdgckamjgldmaaW3
namespace Go.Proofs.Ytjdgckamjgldmaa
open Go.RowKit Go.Eng

-- signet/signetref3.digit
theorem digit58 (c : Int) (w : World) : Runs Try.prog 58 #[.int .u8 c] w fun r w' => r = .bool (decide (48 ≤ c ∧ c ≤ 57)) ∧ w = w' := by
  refine enter (N := 9) (args := [_]) Try.func58 rfl rfl (Nat.le_of_ble_eq_true rfl) ?_
  refine CW.seq ?_
  refine CW.region ?_
  refine WL.v (Val.assign rfl rfl) ?_ -- d2
  refine WL.nil ?_
  refine Ends.next ?_
  refine CW.seq ?_
  refine CW.region ?_
  refine WL.v (Val.move rfl rfl) ?_ -- d3
  refine WL.v (Val.geq rfl rfl rfl) ?_ -- d4
  refine WL.v (Val.move rfl rfl) ?_ -- d5
  refine WL.and (j := 2) (seg := [_, _]) (r := ?r1) rfl rfl rfl rfl (fun hb8 HK8 => ?hT1) ?_
  case hT1 =>
    refine WL.yes rfl rfl rfl hb8 ?_
    refine WL.v (Val.move rfl rfl) ?_ -- d6
    refine WL.yes rfl rfl rfl hb8 ?_
    refine WL.v (Val.leq rfl rfl rfl) ?_ -- d7
    refine WL.v (Val.pickT rfl rfl hb8 rfl) ?_
    refine WL.forget rfl ?_; refine WL.forget rfl ?_
    exact HK8
  refine WL.v (Val.assign rfl rfl) ?_ -- d2
  refine WL.nil ?_
  refine Ends.next ?_
  refine CW.ret ?_
  exact Ends.ret1 rfl rfl ⟨congrArg Value.bool (by rw [Bool.eq_iff_iff]; simp), rfl⟩
-- signet/name.digit
theorem digit65 (c : Int) (w : World) : Runs Try.prog 65 #[.int .i32 c] w fun r w' => r = .bool (decide (48 ≤ c ∧ c ≤ 57)) ∧ w = w' := by
  refine enter (N := 9) (args := [_]) Try.func65 rfl rfl (Nat.le_of_ble_eq_true rfl) ?_
  refine CW.seq ?_
  refine CW.region ?_
  refine WL.v (Val.assign rfl rfl) ?_ -- d2
  refine WL.nil ?_
  refine Ends.next ?_
  refine CW.seq ?_
  refine CW.region ?_
  refine WL.v (Val.move rfl rfl) ?_ -- d3
  refine WL.v (Val.geq rfl rfl rfl) ?_ -- d4
  refine WL.v (Val.move rfl rfl) ?_ -- d5
  refine WL.and (j := 2) (seg := [_, _]) (r := ?r1) rfl rfl rfl rfl (fun hb8 HK8 => ?hT1) ?_
  case hT1 =>
    refine WL.yes rfl rfl rfl hb8 ?_
    refine WL.v (Val.move rfl rfl) ?_ -- d6
    refine WL.yes rfl rfl rfl hb8 ?_
    refine WL.v (Val.leq rfl rfl rfl) ?_ -- d7
    refine WL.v (Val.pickT rfl rfl hb8 rfl) ?_
    refine WL.forget rfl ?_; refine WL.forget rfl ?_
    exact HK8
  refine WL.v (Val.assign rfl rfl) ?_ -- d2
  refine WL.nil ?_
  refine Ends.next ?_
  refine CW.ret ?_
  exact Ends.ret1 rfl rfl ⟨congrArg Value.bool (by rw [Bool.eq_iff_iff]; simp), rfl⟩
-- signet/signetref3.Open
theorem open29 (v : Value) (b : List UInt8) (w : World) (h : Bs w v b) (hl : b.length ≤ 1000000) :
    Runs Try.prog 29 #[v] w fun r w' => ∃ nv, r = .tuple #[nv, .int .i64 (openN b).2.1, .int .i64 (openN b).2.2] ∧ Nm w' nv (openN b).1 ∧ Below w.heap.size w w' := by
  obtain ⟨A, c, hv, -⟩ := id h
  rw [List.length_map] at hv
  subst hv
  refine enter (N := 52) (args := [_]) Try.func29 rfl rfl (Nat.le_of_ble_eq_true rfl) ?_
  refine CW.seq ?_
  refine CW.region ?_
  refine WL.v (Val.assign rfl rfl) ?_ -- d2
  refine WL.v (Val.assign rfl rfl) ?_ -- d3
  refine WL.v (Val.assign rfl rfl) ?_ -- d4
  refine WL.nil ?_
  refine Ends.next ?_
  refine CW.seq ?_
  refine CW.region ?_
  refine WL.v (Val.assign rfl rfl) ?_ -- d5
  refine WL.nil ?_
  refine Ends.next ?_
  refine CW.seq ?_
  refine CW.region ?_
  refine WL.v (Val.assign rfl rfl) ?_ -- d6
  refine WL.nil ?_
  refine Ends.next ?_
  refine CW.seq ?_
  refine CW.block ?_
  refine CW.loop (α := Nat × List ByteArray × Value × Nat) (fun (i, acc, v1, f) => [(0, .slice A b.length c), (5, v1), (6, .int .i64 i)]) (fun (i, acc, v1, f) w1 => b.length < f + i ∧ openF (b.length + 1) b 0 [] = openF f b i acc ∧ ReadSoFar acc i ∧ i ≤ b.length ∧ OwnN w1 w.heap.size v1 acc ∧ Below w.heap.size w w1) (fun (i, acc, v1, f) => b.length - i) (0, [], .slice none 0 0, b.length + 1) ⟨rfl, rfl, rfl, trivial⟩ ⟨by omega, rfl, ⟨rfl, by simp⟩, Nat.zero_le _, OwnN.nil _ _, Below.refl _ _⟩ ?_
  rintro ⟨i, acc, v1, f⟩ w1 ⟨hf, heq, hrd, hi, hown, hbw⟩
  refine CW.block ?_
  refine CW.seq ?_
  refine CW.seq ?_
  refine CW.region ?_
  refine WL.v (Val.move rfl rfl) ?_ -- d8
  refine WL.v (Val.move rfl rfl) ?_ -- d9
  refine WL.v (Val.lenSl rfl Try.underlying25 rfl) ?_ -- d10
  refine WL.v (Val.geq rfl rfl rfl) ?_ -- d11
  refine WL.nil ?_
  refine Ends.next ?_
  refine CW.condD rfl (fun hc0 => ?_) (fun hc0 => ?_)
  · -- yes
    have hres : openN b = ([], 0, 30) := by rw [openN, heq, openF_end (by omega) (by omega)]
    refine CW.seq ?_
    refine CW.region ?_
    refine WL.v (Val.assign rfl rfl) ?_ -- d2
    refine WL.v (Val.assign rfl rfl) ?_ -- d3
    refine WL.v (Val.assign rfl rfl) ?_ -- d4
    refine WL.nil ?_
    refine Ends.next ?_
    refine CW.ret ?_
    refine Ends.seqr ?_
    refine Ends.blkr ?_
    refine Ends.seqr ?_
    refine Ends.blkr ?_
    refine Ends.seqr ?_
    exact Ends.ret3 rfl rfl rfl rfl ⟨.slice none 0 0, by rw [hres], by rw [hres]; exact Sl.nil _ _, hbw⟩
  · -- no
    have hlt : i < b.length := by omega
    have hbt := b[i].toNat_lt
    have hsz := hbw.size
    refine CW.skip ?_
    refine Ends.next ?_
    refine CW.seq ?_
    refine CW.region ?_
    refine WL.v (Val.move rfl rfl) ?_ -- d12
    refine WL.v (Val.move rfl rfl) ?_ -- d13
    refine WL.elem ty25 (h.keep hbw) rfl rfl rfl rfl (by omega) (v := bv b[i]) (by simp [hlt]) (fun _ => ?_)
    refine WL.v (Val.convI rfl Try.underlying5 Try.underlying3 rfl _ (IntWalk.i64_in _ (by omega))) ?_ -- d16
    refine WL.v (Val.assign rfl rfl) ?_ -- d7
    refine WL.nil ?_
    refine Ends.next ?_
    refine CW.seq ?_
    refine CW.seq ?_
    refine CW.region ?_
    refine WL.v (Val.move rfl rfl) ?_ -- d17
    refine WL.v (Val.eqlI rfl rfl rfl) ?_ -- d18
    refine WL.nil ?_
    refine Ends.next ?_
    refine CW.condD rfl (fun hc1 => ?_) (fun hc1 => ?_)
    · -- yes
      have hz : b[i].toNat = 0 := by omega
      rw [openF_zero (by omega) hlt hz] at heq
      refine CW.exit ?_
      refine Ends.seqx ?_
      refine Ends.blkx (by decide) ?_
      refine Ends.seqx ?_
      refine Ends.blke ?_
      refine Ends.next ?_
      refine CW.seq ?_
      refine CW.seq ?_
      refine CW.region ?_
      refine WL.v (Val.move rfl rfl) ?_ -- d46
      refine WL.v (Val.add rfl rfl rfl _ (IntWalk.i64_in _ (by omega))) ?_ -- d47
      refine WL.v (Val.gtr rfl rfl rfl) ?_ -- d48
      refine WL.nil ?_
      refine Ends.next ?_
      refine CW.condD rfl (fun hc2 => ?_) (fun hc2 => ?_)
      · -- yes
        have hres : openN b = ([], 0, 31) := by rw [openN, heq]; simp only []; rw [if_pos (by omega)]
        refine CW.seq ?_
        refine CW.region ?_
        refine WL.v (Val.assign rfl rfl) ?_ -- d2
        refine WL.v (Val.assign rfl rfl) ?_ -- d3
        refine WL.v (Val.assign rfl rfl) ?_ -- d4
        refine WL.nil ?_
        refine Ends.next ?_
        refine CW.ret ?_
        refine Ends.seqr ?_
        exact Ends.ret3 rfl rfl rfl rfl ⟨.slice none 0 0, by rw [hres], by rw [hres]; exact Sl.nil _ _, hbw⟩
      · -- no
        have hres : openN b = (acc, ((i + 1 : Nat) : Int), 0) := by rw [openN, heq]; simp only []; rw [if_neg (by omega)]
        refine CW.skip ?_
        refine Ends.next ?_
        refine CW.seq ?_
        refine CW.region ?_
        refine WL.v (Val.move rfl rfl) ?_ -- d49
        refine WL.v (Val.move rfl rfl) ?_ -- d50
        refine WL.v (Val.add rfl rfl rfl _ (IntWalk.i64_in _ (by omega))) ?_ -- d51
        refine WL.v (Val.assign rfl rfl) ?_ -- d2
        refine WL.v (Val.assign rfl rfl) ?_ -- d3
        refine WL.v (Val.assign rfl rfl) ?_ -- d4
        refine WL.nil ?_
        refine Ends.next ?_
        refine CW.ret ?_
        exact Ends.ret3 rfl rfl rfl rfl ⟨v1, by rw [hres]; rfl, by rw [hres]; exact hown.sl, hbw⟩
    · -- no
      have hnz : b[i].toNat ≠ 0 := by omega
      refine CW.skip ?_
      refine Ends.next ?_
      refine CW.seq ?_
      refine CW.seq ?_
      refine CW.region ?_
      refine WL.v (Val.move rfl rfl) ?_ -- d19
      refine WL.v (Val.gtr rfl rfl rfl) ?_ -- d20
      refine WL.v (Val.move rfl rfl) ?_ -- d21
      refine WL.or (j := 2) (seg := [_, _, _, _, _, _, _]) (r := ?r1) rfl rfl rfl rfl (fun hb29 HK29 => ?hT1) ?_
      case hT1 =>
        refine WL.yes rfl rfl rfl hb29 ?_
        refine WL.v (Val.move rfl rfl) ?_ -- d22
        refine WL.yes rfl rfl rfl hb29 ?_
        refine WL.v (Val.lenSl rfl Try.underlying25 rfl) ?_ -- d23
        refine WL.yes rfl rfl rfl hb29 ?_
        refine WL.v (Val.move rfl rfl) ?_ -- d24
        refine WL.yes rfl rfl rfl hb29 ?_
        refine WL.v (Val.subt rfl rfl rfl _ (IntWalk.i64_in _ (by omega))) ?_ -- d25
        refine WL.yes rfl rfl rfl hb29 ?_
        refine WL.v (Val.subt rfl rfl rfl _ (IntWalk.i64_in _ (by omega))) ?_ -- d26
        refine WL.yes rfl rfl rfl hb29 ?_
        refine WL.v (Val.move rfl rfl) ?_ -- d27
        refine WL.yes rfl rfl rfl hb29 ?_
        refine WL.v (Val.lss rfl rfl rfl) ?_ -- d28
        refine WL.v (Val.pickF rfl rfl hb29 rfl) ?_
        refine WL.forget rfl ?_; refine WL.forget rfl ?_; refine WL.forget rfl ?_; refine WL.forget rfl ?_; refine WL.forget rfl ?_; refine WL.forget rfl ?_; refine WL.forget rfl ?_
        exact HK29
      refine WL.nil ?_
      refine Ends.next ?_
      refine CW.cond rfl (fun hc3 => ?_) (fun hc3 => ?_)
      · -- yes
        simp only [Bool.or_eq_true, decide_eq_true_eq] at hc3
        have hres : openN b = ([], 0, 30) := by rw [openN, heq, openF_bad (by omega) hlt hnz (by omega)]
        refine CW.seq ?_
        refine CW.region ?_
        refine WL.v (Val.assign rfl rfl) ?_ -- d2
        refine WL.v (Val.assign rfl rfl) ?_ -- d3
        refine WL.v (Val.assign rfl rfl) ?_ -- d4
        refine WL.nil ?_
        refine Ends.next ?_
        refine CW.ret ?_
        refine Ends.seqr ?_
        refine Ends.blkr ?_
        refine Ends.seqr ?_
        refine Ends.blkr ?_
        refine Ends.seqr ?_
        exact Ends.ret3 rfl rfl rfl rfl ⟨.slice none 0 0, by rw [hres], by rw [hres]; exact Sl.nil _ _, hbw⟩
      · -- no
        simp only [Bool.or_eq_false_iff, decide_eq_false_iff_not] at hc3
        have hok : ¬ (63 < b[i].toNat ∨ b.length - i - 1 < b[i].toNat) := by omega
        obtain ⟨f', rfl⟩ : ∃ f', f = f' + 1 := ⟨f - 1, by omega⟩
        rw [openF_next hlt hnz hok] at heq
        have hrd2 := readSoFar_step (b := b) hrd hnz (by omega) (by omega)
        have hbs : Bs w1 (.slice (if c = i + 1 then A else A.map (·.add (i + 1))) (i + 1 + b[i].toNat - (i + 1)) (c - (i + 1))) ((b.drop (i + 1)).take b[i].toNat) := by
          have h1 := (h.keep hbw).sub (i := i + 1) (k := i + 1 + b[i].toNat) (by omega) (by omega)
          rw [List.drop_take, Nat.add_sub_cancel_left] at h1
          rw [Nat.add_sub_cancel_left]
          exact h1
        have hacc : acc.length ≤ b.length := by have := hrd.1; omega
        refine CW.skip ?_
        refine Ends.next ?_
        refine CW.seq ?_
        refine CW.region ?_
        refine WL.v (Val.move rfl rfl) ?_ -- d30
        refine WL.v (Val.move rfl rfl) ?_ -- d31
        refine WL.v (Val.move rfl rfl) ?_ -- d32
        refine WL.v (Val.add rfl rfl rfl _ (IntWalk.i64_in _ (by omega))) ?_ -- d33
        refine WL.v (Val.move rfl rfl) ?_ -- d34
        refine WL.v (Val.add rfl rfl rfl _ (IntWalk.i64_in _ (by omega))) ?_ -- d35
        refine WL.v (Val.move rfl rfl) ?_ -- d36
        refine WL.v (Val.add rfl rfl rfl _ (IntWalk.i64_in _ (by omega))) ?_ -- d37
        refine WL.v (Val.subSl (i + 1) (i + 1 + b[i].toNat) rfl ty25 rfl rfl rfl (by omega) (by omega) (Sl.cap h)) ?_
        refine WL.v (Val.toStr (l := (b.drop (i + 1)).take b[i].toNat) Try.underlying25 Try.underlying9 Try.underlying5 rfl rfl (at_ hbs)) ?_
        refine WL.build1 ty23 rfl rfl rfl ?_
        refine WL.apN (mkS ((b.drop (i + 1)).take b[i].toNat)) hown rfl rfl rfl (by omega) (by omega) (fun v2 w2 hown2 hg2 _ => ?_)
        have hb2 := hown.below hg2 (by omega)
        refine WL.v (Val.assign rfl rfl) ?_ -- d5
        refine WL.nil ?_
        refine Ends.next ?_
        refine CW.region ?_
        refine WL.v (Val.move rfl rfl) ?_ -- d42
        refine WL.v (Val.move rfl rfl) ?_ -- d43
        refine WL.v (Val.add rfl rfl rfl _ (IntWalk.i64_in _ (by omega))) ?_ -- d44
        refine WL.v (Val.add rfl rfl rfl ((i + 1 + b[i].toNat : Nat) : Int) (i64_eq (by omega) (by omega))) ?_
        refine WL.v (Val.assign rfl rfl) ?_ -- d6
        refine WL.nil ?_
        refine Ends.blkn ?_
        exact Ends.round (i + 1 + b[i].toNat, acc ++ [mkS ((b.drop (i + 1)).take b[i].toNat)], v2, f') (by simp only; omega) ⟨rfl, rfl, rfl, trivial⟩ ⟨by omega, heq, hrd2, by omega, hown2, hbw.trans hb2⟩
end Go.Proofs.Ytjdgckamjgldmaa
