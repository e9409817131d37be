/- Walks: reading bytes. -/
import Derived.Test.YtjdgckamjgldmaaW10
namespace Go.Proofs.Ytjdgckamjgldmaa
open Go.RowKit Go.Eng

theorem pl25 : ∀ w, (isAgg 25).run Try.prog w = .ok false w := fun _ => by kernel_rfl
theorem openF_read : ∀ {f : Nat} {b : List UInt8} {i : Nat} {acc n : List ByteArray} {k : Nat}, ReadSoFar acc i → openF f b i acc = some (n, k) → ∃ j, k = j + 1 ∧ ReadSoFar n j ∧ j < b.length := by
  intro f
  induction f with
  | zero => intro b i acc n k _ h; rw [openF] at h; cases h
  | succ f ih =>
    intro b i acc n k hr h
    by_cases hi : i < b.length
    · by_cases h0 : b[i].toNat = 0
      · rw [openF_zero (by omega) hi h0] at h
        cases h
        exact ⟨i, rfl, hr, hi⟩
      · by_cases hbad : 63 < b[i].toNat ∨ b.length - i - 1 < b[i].toNat
        · rw [openF_bad (by omega) hi h0 hbad] at h
          cases h
        · rw [openF_next hi h0 hbad] at h
          exact ih (readSoFar_step hr h0 (by omega) (by omega)) h
    · rw [openF_end (by omega) (by omega)] at h
      cases h
/-- What 'Open' reads, ahead of its check. -/
def openR (b : List UInt8) : Option (List ByteArray × Int) := (openF (b.length + 1) b 0 []).map fun p => (p.1, (p.2 : Int))
theorem caught_open (b : List UInt8) : caughtS (openR b) = openN b := by
  rw [openR, openN]
  cases h : openF (b.length + 1) b 0 [] with
  | none => rfl
  | some p =>
    obtain ⟨n, k⟩ := p
    obtain ⟨j, rfl, hr, _⟩ := openF_read (acc := []) ⟨rfl, by simp⟩ h
    have hc := checkN_read hr
    by_cases hj : 255 < j + 1
    · rw [if_pos hj] at hc
      simp [caughtS, hc, hj]
    · rw [if_neg hj] at hc
      simp [caughtS, hc, hj]
-- signet/name.Open$1
theorem open59p (g : Nat) (v : Value) (b : List UInt8) (w : World) (hB : Box w g v) (h : Bs w v b) (hl : b.length ≤ 1000000) (hres : openF (b.length + 1) b 0 [] = none) : Panics Try.prog 59 #[.pointer (some ⟨g, 0, none⟩)] w (Failed 30) (fun w' => Below w.heap.size w w') := by
  obtain ⟨A, c, hv, -⟩ := id h
  rw [List.length_map] at hv
  subst hv
  refine enter (N := 45) (args := [_]) Try.func59 rfl rfl (Nat.le_of_ble_eq_true rfl) ?_
  refine CW.seq ?_
  refine CW.region ?_
  refine WL.v (Val.assign rfl rfl) ?_ -- d1
  refine WL.v (Val.assign rfl rfl) ?_ -- d2
  refine WL.nil ?_
  refine Ends.next ?_
  refine CW.seq ?_
  refine CW.region ?_
  refine WL.v (Val.assign rfl rfl) ?_ -- d3
  refine WL.nil ?_
  refine Ends.next ?_
  refine CW.seq ?_
  refine CW.region ?_
  refine WL.v (Val.assign rfl rfl) ?_ -- d4
  refine WL.nil ?_
  refine Ends.next ?_
  refine CW.block ?_
  refine CW.loop (α := Nat × List ByteArray × Value × Nat) (fun (i, acc, v1, f) => [(0, .pointer (some ⟨g, 0, none⟩)), (3, v1), (4, .int .i64 i)]) (fun (i, acc, v1, f) w1 => b.length < f + i ∧ openF (b.length + 1) b 0 [] = openF f b i acc ∧ ReadSoFar acc i ∧ i ≤ b.length ∧ OwnN w1 w.heap.size v1 acc ∧ Below w.heap.size w w1) (fun (i, acc, v1, f) => b.length - i) (0, [], .slice none 0 0, b.length + 1) ⟨rfl, rfl, rfl, trivial⟩ ⟨by omega, rfl, ⟨rfl, by simp⟩, Nat.zero_le _, OwnN.nil _ _, Below.refl _ _⟩ ?_
  rintro ⟨i, acc, v1, f⟩ w1 ⟨hf, heq, hrd, hi, hown, hbw⟩
  have hB1 := hB.below hbw hB.lt
  have h1 := h.keep hbw
  have hsz := hbw.size
  refine CW.block ?_
  refine CW.seq ?_
  refine CW.seq ?_
  refine CW.region ?_
  refine WL.v (Val.move rfl rfl) ?_ -- d6
  refine WL.v (Val.load rfl pl25 rfl (at_ hB1.1)) ?_
  refine WL.v (Val.lenSl rfl Try.underlying25 rfl) ?_ -- d8
  refine WL.v (Val.geq rfl rfl rfl) ?_ -- d9
  refine WL.nil ?_
  refine Ends.next ?_
  refine CW.condD rfl (fun hc0 => ?_) (fun hc0 => ?_)
  · -- yes
    have hbad := openF_end (f := f) (acc := acc) (by omega) (show b.length ≤ i by omega)
    rw [← heq, hres] at hbad
    refine CW.region ?_
    refine WL.callP bodied56 rfl rfl (fail56 _ _) ?_
    rintro _ rfl
    refine Ends.seqp ?_
    refine Ends.blkp ?_
    refine Ends.seqp ?_
    refine Ends.blkp ?_
    exact Ends.panicEnd ⟨rfl, hbw⟩
  · -- no
    have hlt : i < b.length := by omega
    have hbt := b[i].toNat_lt
    refine CW.skip ?_
    refine Ends.next ?_
    refine CW.seq ?_
    refine CW.region ?_
    refine WL.v (Val.load rfl pl25 rfl (at_ hB1.1)) ?_
    refine WL.v (Val.move rfl rfl) ?_ -- d12
    refine WL.elem ty25 h1 rfl rfl rfl rfl (by omega) (v := bv b[i]) (by simp [hlt]) (fun _ => ?_)
    refine WL.v (Val.convI rfl Try.underlying5 Try.underlying3 rfl _ (IntWalk.i64_in _ (by omega))) ?_ -- d15
    refine WL.v (Val.assign rfl rfl) ?_ -- d5
    refine WL.nil ?_
    refine Ends.next ?_
    refine CW.seq ?_
    refine CW.seq ?_
    refine CW.region ?_
    refine WL.v (Val.move rfl rfl) ?_ -- d16
    refine WL.v (Val.gtr rfl rfl rfl) ?_ -- d17
    refine WL.nil ?_
    refine Ends.next ?_
    refine CW.condD rfl (fun hc1 => ?_) (fun hc1 => ?_)
    · -- yes
      have hbad := openF_bad (f := f) (acc := acc) (by omega) hlt (by omega) (.inl (by omega))
      rw [← heq, hres] at hbad
      refine CW.region ?_
      refine WL.callP bodied56 rfl rfl (fail56 _ _) ?_
      rintro _ rfl
      refine Ends.seqp ?_
      refine Ends.blkp ?_
      refine Ends.seqp ?_
      refine Ends.blkp ?_
      exact Ends.panicEnd ⟨rfl, hbw⟩
    · -- no
      refine CW.skip ?_
      refine Ends.next ?_
      refine CW.seq ?_
      refine CW.region ?_
      refine WL.v (Val.move rfl rfl) ?_ -- d19
      refine WL.v (Val.add rfl rfl rfl _ (IntWalk.i64_in _ (by omega))) ?_ -- d20
      refine WL.v (Val.assign rfl rfl) ?_ -- d4
      refine WL.nil ?_
      refine Ends.next ?_
      refine CW.seq ?_
      refine CW.seq ?_
      refine CW.region ?_
      refine WL.v (Val.move rfl rfl) ?_ -- d21
      refine WL.v (Val.eqlI rfl rfl rfl) ?_ -- d22
      refine WL.nil ?_
      refine Ends.next ?_
      refine CW.condD rfl (fun hc2 => ?_) (fun hc2 => ?_)
      · -- yes
        have hend := openF_zero (f := f) (acc := acc) (by omega) hlt (by omega)
        rw [← heq, hres] at hend
        refine CW.seq ?_
        refine CW.region ?_
        cases hend
      · -- no
        have hnz : b[i].toNat ≠ 0 := by omega
        refine CW.skip ?_
        refine Ends.next ?_
        refine CW.seq ?_
        refine CW.seq ?_
        refine CW.region ?_
        refine WL.v (Val.move rfl rfl) ?_ -- d25
        refine WL.v (Val.load rfl pl25 rfl (at_ hB1.1)) ?_
        refine WL.v (Val.lenSl rfl Try.underlying25 rfl) ?_ -- d27
        refine WL.v (Val.move rfl rfl) ?_ -- d28
        refine WL.v (Val.subt rfl rfl rfl _ (IntWalk.i64_in _ (by omega))) ?_ -- d29
        refine WL.v (Val.gtr rfl rfl rfl) ?_ -- d30
        refine WL.nil ?_
        refine Ends.next ?_
        refine CW.condD rfl (fun hc3 => ?_) (fun hc3 => ?_)
        · -- yes
          have hbad := openF_bad (f := f) (acc := acc) (by omega) hlt hnz (.inr (by omega))
          rw [← heq, hres] at hbad
          refine CW.region ?_
          refine WL.callP bodied56 rfl rfl (fail56 _ _) ?_
          rintro _ rfl
          refine Ends.seqp ?_
          refine Ends.blkp ?_
          refine Ends.seqp ?_
          refine Ends.blkp ?_
          exact Ends.panicEnd ⟨rfl, hbw⟩
        · -- no
          have hok : ¬ (63 < b[i].toNat ∨ b.length - i - 1 < b[i].toNat) := by omega
          obtain ⟨f', rfl⟩ : ∃ f', f = f' + 1 := ⟨f - 1, by omega⟩
          rw [openF_next hlt hnz hok] at heq
          have hrd2 := readSoFar_step (b := b) hrd hnz (by omega) (by omega)
          have hbs : Bs w1 (.slice (if c = i + 1 then A else A.map (·.add (i + 1))) (i + 1 + b[i].toNat - (i + 1)) (c - (i + 1))) ((b.drop (i + 1)).take b[i].toNat) := by
            have h1 := h1.sub (i := i + 1) (k := i + 1 + b[i].toNat) (by omega) (by omega)
            rw [List.drop_take, Nat.add_sub_cancel_left] at h1
            rw [Nat.add_sub_cancel_left]
            exact h1
          have hacc : acc.length ≤ b.length := by have := hrd.1; omega
          refine CW.skip ?_
          refine Ends.next ?_
          refine CW.region ?_
          refine WL.v (Val.move rfl rfl) ?_ -- d32
          refine WL.v (Val.load rfl pl25 rfl (at_ hB1.1)) ?_
          refine WL.v (Val.move rfl rfl) ?_ -- d34
          refine WL.v (Val.move rfl rfl) ?_ -- d35
          refine WL.v (Val.move rfl rfl) ?_ -- d36
          refine WL.v (Val.add rfl rfl rfl ((i + 1 + b[i].toNat : Nat) : Int) (i64_eq (by omega) (by omega))) ?_
          refine WL.v (Val.subSl (i + 1) (i + 1 + b[i].toNat) rfl ty25 rfl rfl rfl (by omega) (by omega) (Sl.cap h)) ?_
          refine WL.v (Val.toStr (l := (b.drop (i + 1)).take b[i].toNat) Try.underlying25 Try.underlying9 Try.underlying5 rfl rfl (at_ hbs)) ?_
          refine WL.build1 ty23 rfl rfl rfl ?_
          refine WL.apN (mkS ((b.drop (i + 1)).take b[i].toNat)) hown rfl rfl rfl (by omega) (by omega) (fun v2 w2 hown2 hg2 _ => ?_)
          have hb2 := hown.below hg2 (by omega)
          refine WL.v (Val.move rfl rfl) ?_ -- d42
          refine WL.v (Val.move rfl rfl) ?_ -- d43
          refine WL.v (Val.add rfl rfl rfl ((i + 1 + b[i].toNat : Nat) : Int) (i64_eq (by omega) (by omega))) ?_
          refine WL.v (Val.assign rfl rfl) ?_ -- d3
          refine WL.v (Val.assign rfl rfl) ?_ -- d4
          refine WL.nil ?_
          refine Ends.blkn ?_
          exact Ends.round (i + 1 + b[i].toNat, acc ++ [mkS ((b.drop (i + 1)).take b[i].toNat)], v2, f') (by simp only; omega) ⟨rfl, rfl, rfl, trivial⟩ ⟨by omega, heq, hrd2, by omega, hown2, hbw.trans hb2⟩
-- signet/name.Open$1
theorem open59r (g : Nat) (v : Value) (b : List UInt8) (n : List ByteArray) (k : Nat) (w : World) (hB : Box w g v) (h : Bs w v b) (hl : b.length ≤ 1000000) (hres : openF (b.length + 1) b 0 [] = some (n, k)) : Runs Try.prog 59 #[.pointer (some ⟨g, 0, none⟩)] w fun r w' => ∃ nv, r = .tuple #[nv, .int .i64 (k : Int)] ∧ Nm w' nv n ∧ Below w.heap.size w w' := by
  obtain ⟨A, c, hv, -⟩ := id h
  rw [List.length_map] at hv
  subst hv
  refine enter (N := 45) (args := [_]) Try.func59 rfl rfl (Nat.le_of_ble_eq_true rfl) ?_
  refine CW.seq ?_
  refine CW.region ?_
  refine WL.v (Val.assign rfl rfl) ?_ -- d1
  refine WL.v (Val.assign rfl rfl) ?_ -- d2
  refine WL.nil ?_
  refine Ends.next ?_
  refine CW.seq ?_
  refine CW.region ?_
  refine WL.v (Val.assign rfl rfl) ?_ -- d3
  refine WL.nil ?_
  refine Ends.next ?_
  refine CW.seq ?_
  refine CW.region ?_
  refine WL.v (Val.assign rfl rfl) ?_ -- d4
  refine WL.nil ?_
  refine Ends.next ?_
  refine CW.block ?_
  refine CW.loop (α := Nat × List ByteArray × Value × Nat) (fun (i, acc, v1, f) => [(0, .pointer (some ⟨g, 0, none⟩)), (3, v1), (4, .int .i64 i)]) (fun (i, acc, v1, f) w1 => b.length < f + i ∧ openF (b.length + 1) b 0 [] = openF f b i acc ∧ ReadSoFar acc i ∧ i ≤ b.length ∧ OwnN w1 w.heap.size v1 acc ∧ Below w.heap.size w w1) (fun (i, acc, v1, f) => b.length - i) (0, [], .slice none 0 0, b.length + 1) ⟨rfl, rfl, rfl, trivial⟩ ⟨by omega, rfl, ⟨rfl, by simp⟩, Nat.zero_le _, OwnN.nil _ _, Below.refl _ _⟩ ?_
  rintro ⟨i, acc, v1, f⟩ w1 ⟨hf, heq, hrd, hi, hown, hbw⟩
  have hB1 := hB.below hbw hB.lt
  have h1 := h.keep hbw
  have hsz := hbw.size
  refine CW.block ?_
  refine CW.seq ?_
  refine CW.seq ?_
  refine CW.region ?_
  refine WL.v (Val.move rfl rfl) ?_ -- d6
  refine WL.v (Val.load rfl pl25 rfl (at_ hB1.1)) ?_
  refine WL.v (Val.lenSl rfl Try.underlying25 rfl) ?_ -- d8
  refine WL.v (Val.geq rfl rfl rfl) ?_ -- d9
  refine WL.nil ?_
  refine Ends.next ?_
  refine CW.condD rfl (fun hc0 => ?_) (fun hc0 => ?_)
  · -- yes
    have hbad := openF_end (f := f) (acc := acc) (by omega) (show b.length ≤ i by omega)
    rw [← heq, hres] at hbad
    refine CW.region ?_
    cases hbad
  · -- no
    have hlt : i < b.length := by omega
    have hbt := b[i].toNat_lt
    refine CW.skip ?_
    refine Ends.next ?_
    refine CW.seq ?_
    refine CW.region ?_
    refine WL.v (Val.load rfl pl25 rfl (at_ hB1.1)) ?_
    refine WL.v (Val.move rfl rfl) ?_ -- d12
    refine WL.elem ty25 h1 rfl rfl rfl rfl (by omega) (v := bv b[i]) (by simp [hlt]) (fun _ => ?_)
    refine WL.v (Val.convI rfl Try.underlying5 Try.underlying3 rfl _ (IntWalk.i64_in _ (by omega))) ?_ -- d15
    refine WL.v (Val.assign rfl rfl) ?_ -- d5
    refine WL.nil ?_
    refine Ends.next ?_
    refine CW.seq ?_
    refine CW.seq ?_
    refine CW.region ?_
    refine WL.v (Val.move rfl rfl) ?_ -- d16
    refine WL.v (Val.gtr rfl rfl rfl) ?_ -- d17
    refine WL.nil ?_
    refine Ends.next ?_
    refine CW.condD rfl (fun hc1 => ?_) (fun hc1 => ?_)
    · -- yes
      have hbad := openF_bad (f := f) (acc := acc) (by omega) hlt (by omega) (.inl (by omega))
      rw [← heq, hres] at hbad
      refine CW.region ?_
      cases hbad
    · -- no
      refine CW.skip ?_
      refine Ends.next ?_
      refine CW.seq ?_
      refine CW.region ?_
      refine WL.v (Val.move rfl rfl) ?_ -- d19
      refine WL.v (Val.add rfl rfl rfl _ (IntWalk.i64_in _ (by omega))) ?_ -- d20
      refine WL.v (Val.assign rfl rfl) ?_ -- d4
      refine WL.nil ?_
      refine Ends.next ?_
      refine CW.seq ?_
      refine CW.seq ?_
      refine CW.region ?_
      refine WL.v (Val.move rfl rfl) ?_ -- d21
      refine WL.v (Val.eqlI rfl rfl rfl) ?_ -- d22
      refine WL.nil ?_
      refine Ends.next ?_
      refine CW.condD rfl (fun hc2 => ?_) (fun hc2 => ?_)
      · -- yes
        have hend := openF_zero (f := f) (acc := acc) (by omega) hlt (by omega)
        rw [← heq, hres] at hend
        refine CW.seq ?_
        refine CW.region ?_
        refine WL.v (Val.move rfl rfl) ?_ -- d23
        refine WL.v (Val.move rfl rfl) ?_ -- d24
        refine WL.v (Val.assign rfl rfl) ?_ -- d1
        refine WL.v (Val.assign rfl rfl) ?_ -- d2
        refine WL.nil ?_
        refine Ends.next ?_
        refine CW.ret ?_
        refine Ends.seqr ?_
        refine Ends.blkr ?_
        refine Ends.seqr ?_
        refine Ends.blkr ?_
        cases hend
        exact Ends.ret2 rfl rfl rfl ⟨_, rfl, hown.sl, hbw⟩
      · -- no
        have hnz : b[i].toNat ≠ 0 := by omega
        refine CW.skip ?_
        refine Ends.next ?_
        refine CW.seq ?_
        refine CW.seq ?_
        refine CW.region ?_
        refine WL.v (Val.move rfl rfl) ?_ -- d25
        refine WL.v (Val.load rfl pl25 rfl (at_ hB1.1)) ?_
        refine WL.v (Val.lenSl rfl Try.underlying25 rfl) ?_ -- d27
        refine WL.v (Val.move rfl rfl) ?_ -- d28
        refine WL.v (Val.subt rfl rfl rfl _ (IntWalk.i64_in _ (by omega))) ?_ -- d29
        refine WL.v (Val.gtr rfl rfl rfl) ?_ -- d30
        refine WL.nil ?_
        refine Ends.next ?_
        refine CW.condD rfl (fun hc3 => ?_) (fun hc3 => ?_)
        · -- yes
          have hbad := openF_bad (f := f) (acc := acc) (by omega) hlt hnz (.inr (by omega))
          rw [← heq, hres] at hbad
          refine CW.region ?_
          cases hbad
        · -- no
          have hok : ¬ (63 < b[i].toNat ∨ b.length - i - 1 < b[i].toNat) := by omega
          obtain ⟨f', rfl⟩ : ∃ f', f = f' + 1 := ⟨f - 1, by omega⟩
          rw [openF_next hlt hnz hok] at heq
          have hrd2 := readSoFar_step (b := b) hrd hnz (by omega) (by omega)
          have hbs : Bs w1 (.slice (if c = i + 1 then A else A.map (·.add (i + 1))) (i + 1 + b[i].toNat - (i + 1)) (c - (i + 1))) ((b.drop (i + 1)).take b[i].toNat) := by
            have h1 := h1.sub (i := i + 1) (k := i + 1 + b[i].toNat) (by omega) (by omega)
            rw [List.drop_take, Nat.add_sub_cancel_left] at h1
            rw [Nat.add_sub_cancel_left]
            exact h1
          have hacc : acc.length ≤ b.length := by have := hrd.1; omega
          refine CW.skip ?_
          refine Ends.next ?_
          refine CW.region ?_
          refine WL.v (Val.move rfl rfl) ?_ -- d32
          refine WL.v (Val.load rfl pl25 rfl (at_ hB1.1)) ?_
          refine WL.v (Val.move rfl rfl) ?_ -- d34
          refine WL.v (Val.move rfl rfl) ?_ -- d35
          refine WL.v (Val.move rfl rfl) ?_ -- d36
          refine WL.v (Val.add rfl rfl rfl ((i + 1 + b[i].toNat : Nat) : Int) (i64_eq (by omega) (by omega))) ?_
          refine WL.v (Val.subSl (i + 1) (i + 1 + b[i].toNat) rfl ty25 rfl rfl rfl (by omega) (by omega) (Sl.cap h)) ?_
          refine WL.v (Val.toStr (l := (b.drop (i + 1)).take b[i].toNat) Try.underlying25 Try.underlying9 Try.underlying5 rfl rfl (at_ hbs)) ?_
          refine WL.build1 ty23 rfl rfl rfl ?_
          refine WL.apN (mkS ((b.drop (i + 1)).take b[i].toNat)) hown rfl rfl rfl (by omega) (by omega) (fun v2 w2 hown2 hg2 _ => ?_)
          have hb2 := hown.below hg2 (by omega)
          refine WL.v (Val.move rfl rfl) ?_ -- d42
          refine WL.v (Val.move rfl rfl) ?_ -- d43
          refine WL.v (Val.add rfl rfl rfl ((i + 1 + b[i].toNat : Nat) : Int) (i64_eq (by omega) (by omega))) ?_
          refine WL.v (Val.assign rfl rfl) ?_ -- d3
          refine WL.v (Val.assign rfl rfl) ?_ -- d4
          refine WL.nil ?_
          refine Ends.blkn ?_
          exact Ends.round (i + 1 + b[i].toNat, acc ++ [mkS ((b.drop (i + 1)).take b[i].toNat)], v2, f') (by simp only; omega) ⟨rfl, rfl, rfl, trivial⟩ ⟨by omega, heq, hrd2, by omega, hown2, hbw.trans hb2⟩
theorem caught52 (F : FuncId) (hBF : Bodied Try.prog F) (caps : Array Value) (res : Option (List ByteArray × Int)) (hn : ∀ p, res = some p → p.1.length ≤ 1000000000000000) (w : World) (hF : ∀ w', Below w.heap.size w w' → Gives F caps res w') :
    Runs Try.prog 52 #[.func (.func F) #[] caps] w fun r w' => ∃ nv, r = .tuple #[nv, .int .i64 (caughtS res).2.1, .int .i64 (caughtS res).2.2] ∧ Nm w' nv (caughtS res).1 ∧ Below w.heap.size w w' := by
  cases res with
  | none => exact caught52p F hBF caps w hF
  | some p => exact caught52r F hBF caps p.1 p.2 (hn p rfl) w hF
theorem open59 (g : Nat) (v : Value) (b : List UInt8) (w : World) (hB : Box w g v) (h : Bs w v b) (hl : b.length ≤ 1000000) : Gives 59 #[.pointer (some ⟨g, 0, none⟩)] (openR b) w := by
  rw [openR]
  cases hres : openF (b.length + 1) b 0 [] with
  | none => exact open59p g v b w hB h hl hres
  | some p => exact open59r g v b p.1 p.2 w hB h hl hres
-- signet/name.Open
theorem open28 (v : Value) (b : List UInt8) (w : World) (h : Bs w v b) (hl : b.length ≤ 1000000) :
    Runs Try.prog 28 #[v] w fun r w' => ∃ nv, r = .tuple #[nv, .int .i64 (openN b).2.1, .int .i64 (openN b).2.2] ∧ Nm w' nv (openN b).1 ∧ Below w.heap.size w w' := by
  have hvc : v.cells = #[v] := by
    obtain ⟨A, c, hv, -⟩ := id h
    rw [hv]
    rfl
  refine enter (N := 10) (args := [_]) Try.func28 rfl rfl (Nat.le_of_ble_eq_true rfl) ?_
  refine CW.seq ?_
  refine CW.region ?_
  refine WL.boxB rfl rfl hvc (fun g w1 x0 hg0 hb1 hs1 => ?_)
  have h1 := h.keep hb1
  refine WL.v (Val.assign rfl rfl) ?_ -- d2
  refine WL.v (Val.assign rfl rfl) ?_ -- d3
  refine WL.v (Val.assign rfl rfl) ?_ -- d4
  refine WL.nil ?_
  refine Ends.next ?_
  refine CW.seq ?_
  refine CW.region ?_
  refine WL.v (Val.makeFunc (l := [.tmp 1]) rfl rfl) ?_
  refine WL.call bodied52 rfl rfl (caught52 59 bodied59 _ (openR b) (fun p hp => ?_) _ (fun w' hb => open59 g v b w' (x0.below hb x0.lt) (h1.keep hb) hl)) ?_
  · rw [openR] at hp
    obtain ⟨q, hq, rfl⟩ := Option.map_eq_some_iff.1 hp
    obtain ⟨j, _, hr, hj⟩ := openF_read (acc := []) (n := q.1) (k := q.2) ⟨rfl, by simp⟩ hq
    have := hr.1
    show q.1.length ≤ _
    omega
  rw [caught_open]
  rintro _ w2 ⟨nv, rfl, hnv, hb2⟩
  refine WL.v (Val.extract rfl rfl rfl) ?_ -- d7
  refine WL.v (Val.extract rfl rfl rfl) ?_ -- d8
  refine WL.v (Val.extract rfl rfl rfl) ?_ -- d9
  refine WL.v (Val.assign rfl rfl) ?_ -- d2
  refine WL.v (Val.assign rfl rfl) ?_ -- d3
  refine WL.v (Val.assign rfl rfl) ?_ -- d4
  refine WL.nil ?_
  refine Ends.next ?_
  refine CW.ret ?_
  exact Ends.ret3 rfl rfl rfl rfl ⟨nv, rfl, hnv, hb1.trans (hb2.mono (by omega))⟩
end Go.Proofs.Ytjdgckamjgldmaa
