/- Walks: reading a text. -/
import Derived.Test.YtjdgckamjgldmaaW14
namespace Go.Proofs.Ytjdgckamjgldmaa
open Go.RowKit Go.Eng

theorem bodied53 : Bodied Try.prog 53 := bodied Try.func53 rfl rfl
theorem bodied26 : Bodied Try.prog 26 := bodied Try.func26 rfl rfl
theorem pl9 : ∀ w, (isAgg 9).run Try.prog w = .ok false w := fun _ => by kernel_rfl
def rune0 (u : ByteArray) : Nat := if u.size = 0 then 0 else (Utf8.decode u 0).1
-- signet/name.first
theorem first55a (u : ByteArray) (hz : 0 < u.size) (w : World) : Runs Try.prog 55 #[sv u] w fun r w' => r = .int .i32 ((Utf8.decode u 0).1 : Nat) ∧ Below w.heap.size w w' := by
  refine enter (N := 11) (args := [_]) Try.func55 rfl rfl (Nat.le_of_ble_eq_true rfl) ?_
  refine CW.seq ?_
  refine CW.region ?_
  refine WL.v (Val.assign rfl rfl) ?_ -- d2
  refine WL.nil ?_
  refine Ends.next ?_
  refine CW.seq ?_
  refine CW.seq ?_
  refine CW.region ?_
  refine WL.v (Val.move rfl rfl) ?_ -- d5
  refine WL.range rfl Try.underlying9 rfl (fun r w1 hI hr0 hb1 hs1 => ?_)
  refine WL.nil ?_
  refine Ends.next ?_
  refine CW.block ?_
  refine CW.loop (α := Unit) (fun _ => [(6, .pointer (some ⟨r, 0, none⟩))]) (fun _ w2 => w1 = w2) (fun _ => 0) () ⟨rfl, trivial⟩ rfl ?_
  rintro _ _ rfl
  refine CW.seq ?_
  refine CW.region ?_
  refine WL.nextS hI rfl rfl hz (fun _ => ?_)
  refine WL.v (Val.extract rfl rfl rfl) ?_ -- d8
  refine WL.nil ?_
  refine Ends.next ?_
  refine CW.seq ?_
  refine CW.condT rfl (rfl) ?_
  refine CW.skip ?_
  refine Ends.next ?_
  refine CW.block ?_
  refine CW.seq ?_
  refine CW.region ?_
  refine WL.v (Val.extract rfl rfl rfl) ?_ -- d9
  refine WL.v (Val.assign rfl rfl) ?_ -- d4
  refine WL.nil ?_
  refine Ends.next ?_
  refine CW.seq ?_
  refine CW.region ?_
  refine WL.v (Val.move rfl rfl) ?_ -- d10
  refine WL.v (Val.assign rfl rfl) ?_ -- d2
  refine WL.nil ?_
  refine Ends.next ?_
  refine CW.ret ?_
  refine Ends.blkr ?_
  refine Ends.seqr ?_
  refine Ends.blkr ?_
  refine Ends.seqr ?_
  exact Ends.ret1 rfl rfl ⟨rfl, hb1.trans ((below_putIter _ _ _ _).mono (by omega))⟩
-- signet/name.first
theorem first55b (u : ByteArray) (hz : ¬ 0 < u.size) (w : World) : Runs Try.prog 55 #[sv u] w fun r w' => r = .int .i32 (0 : Nat) ∧ Below w.heap.size w w' := by
  refine enter (N := 11) (args := [_]) Try.func55 rfl rfl (Nat.le_of_ble_eq_true rfl) ?_
  refine CW.seq ?_
  refine CW.region ?_
  refine WL.v (Val.assign rfl rfl) ?_ -- d2
  refine WL.nil ?_
  refine Ends.next ?_
  refine CW.seq ?_
  refine CW.seq ?_
  refine CW.region ?_
  refine WL.v (Val.move rfl rfl) ?_ -- d5
  refine WL.range rfl Try.underlying9 rfl (fun r w1 hI hr0 hb1 hs1 => ?_)
  refine WL.nil ?_
  refine Ends.next ?_
  refine CW.block ?_
  refine CW.loop (α := Unit) (fun _ => [(6, .pointer (some ⟨r, 0, none⟩))]) (fun _ w2 => w1 = w2) (fun _ => 0) () ⟨rfl, trivial⟩ rfl ?_
  rintro _ _ rfl
  refine CW.seq ?_
  refine CW.region ?_
  refine WL.overS hI rfl rfl hz ?_
  refine WL.v (Val.extract rfl rfl rfl) ?_ -- d8
  refine WL.nil ?_
  refine Ends.next ?_
  refine CW.seq ?_
  refine CW.condF rfl (rfl) ?_
  refine CW.exit ?_
  refine Ends.seqx ?_
  refine Ends.seqx ?_
  refine Ends.blke ?_
  refine Ends.next ?_
  refine CW.seq ?_
  refine CW.region ?_
  refine WL.v (Val.assign rfl rfl) ?_ -- d2
  refine WL.nil ?_
  refine Ends.next ?_
  refine CW.ret ?_
  exact Ends.ret1 rfl rfl ⟨rfl, hb1⟩
theorem first55 (u : ByteArray) (w : World) : Runs Try.prog 55 #[sv u] w fun r w' => r = .int .i32 (rune0 u : Nat) ∧ Below w.heap.size w w' := by
  unfold rune0
  by_cases hz : 0 < u.size
  · rw [if_neg (by omega)]
    exact first55a u hz w
  · rw [if_pos (by omega)]
    exact first55b u hz w
/-- What a reading closure ends with, as one. -/
def GiveR (res : Option (List ByteArray × Int)) (w : World) : Ending → World → Prop := fun ex w' => match res with
  | none => ex = .panicked (Failed 30) ∧ Below w.heap.size w w'
  | some (n, k) => ∃ v, ex = .returned v ∧ ∃ nv, v = .tuple #[nv, .int .i64 k] ∧ Nm w' nv n ∧ Below w.heap.size w w'
theorem gives_of {F : FuncId} {caps : Array Value} {res : Option (List ByteArray × Int)} {w : World} (h : Calls Try.prog F caps w (GiveR res w)) : Gives F caps res w := by
  cases res with
  | none => exact h
  | some p => exact h
theorem grown_of_below {w w' : World} (hb : Below w.heap.size w w') : w.grownBy w' none := ⟨hb.os, hb.tape, hb.output, hb.size, fun k hk _ => hb.block k hk⟩
theorem RdV.keep {w w' : World} {g : Nat} {s : PS} {vn vl vc : Value} (h : RdV w g s vn vl vc) (hb : Below w.heap.size w w') : RdV w' g s vn vl vc := h.grown (grown_of_below hb) (fun _ hk => by cases hk)
theorem RdV.next {w w' : World} {g r pos : Nat} {s : PS} {t : ByteArray} {vn vl vc : Value} (h : RdV w g s vn vl vc) (hI : Iter w r t pos) (hr : r ≠ g) (hb : w.grownBy w' (some r)) : RdV w' g s vn vl vc :=
  h.grown hb (fun k hk => by
    cases hk
    refine ⟨hr, fun cs ty f hh => ?_⟩
    have h1 : w.heap[r]? = _ := hI
    rw [h1] at hh
    cases hh)
-- signet/name.Parse$1
theorem parse53a (gs : Nat) (t : ByteArray) (hdot : t = ⟨#[46]⟩) (w : World) (hB : Box w gs (sv t)) : Calls Try.prog 53 #[.pointer (some ⟨gs, 0, none⟩)] w (GiveR ((readP (bytes t)).map fun n => (n, 0)) w) := by
  refine enter (N := 73) (args := [_]) Try.func53 rfl rfl (Nat.le_of_ble_eq_true rfl) ?_
  refine CW.seq ?_
  refine CW.region ?_
  refine WL.v (Val.assign rfl rfl) ?_ -- d1
  refine WL.v (Val.assign rfl rfl) ?_ -- d2
  refine WL.nil ?_
  refine Ends.next ?_
  refine CW.seq ?_
  refine CW.seq ?_
  refine CW.region ?_
  refine WL.v (Val.load rfl pl9 rfl (at_ hB.1)) ?_
  refine WL.v (Val.eqlS rfl rfl rfl) ?_ -- d7
  refine WL.nil ?_
  refine Ends.next ?_
  refine CW.condT rfl (decide_eq_true hdot) ?_
  refine CW.seq ?_
  refine CW.region ?_
  refine WL.v (Val.assign rfl rfl) ?_ -- d1
  refine WL.v (Val.assign rfl rfl) ?_ -- d2
  refine WL.nil ?_
  refine Ends.next ?_
  refine CW.ret ?_
  refine Ends.seqr ?_
  subst hdot
  exact Ends.ret2R rfl rfl rfl ⟨_, rfl, _, rfl, Sl.nil _ _, Below.refl _ _⟩
-- signet/name.Parse$1
theorem parse53b (gs : Nat) (t : ByteArray) (hdot : t ≠ ⟨#[46]⟩) (ht : t.size ≤ 1000000) (w : World) (hB : Box w gs (sv t)) : Calls Try.prog 53 #[.pointer (some ⟨gs, 0, none⟩)] w (GiveR ((readP (bytes t)).map fun n => (n, 0)) w) := by
  have hread : readP (bytes t) = (runP startP (bytes t)).bind finP := if_neg (fun h => hdot (by
    obtain ⟨d⟩ := t
    have : d.toList = [46] := h
    obtain rfl : d = #[46] := by
      apply Array.ext'
      rw [this]
    rfl))
  refine enter (N := 73) (args := [_]) Try.func53 rfl rfl (Nat.le_of_ble_eq_true rfl) ?_
  refine CW.seq ?_
  refine CW.region ?_
  refine WL.v (Val.assign rfl rfl) ?_ -- d1
  refine WL.v (Val.assign rfl rfl) ?_ -- d2
  refine WL.nil ?_
  refine Ends.next ?_
  refine CW.seq ?_
  refine CW.seq ?_
  refine CW.region ?_
  refine WL.v (Val.load rfl pl9 rfl (at_ hB.1)) ?_
  refine WL.v (Val.eqlS rfl rfl rfl) ?_ -- d7
  refine WL.nil ?_
  refine Ends.next ?_
  refine CW.condF rfl (decide_eq_false hdot) ?_
  refine CW.skip ?_
  refine Ends.next ?_
  refine CW.seq ?_
  refine CW.region ?_
  refine WL.v (v := .agg #[nilV, nilV, nilV, .bool false]) (Val.build rfl (fun _ => by kernel_rfl)) ?_
  refine WL.boxC rfl rfl (fun g w1 hg0 hw1 hb1 hs1 => ?_)
  have hr1 : RdV w1 g startP nilV nilV nilV := by
    subst hw1
    subst hg0
    exact ⟨Fld.new rfl, Fld.new rfl, Fld.new rfl, Fld.new rfl, OwnN.nil _ _, OwnB.nil _ _, OwnB.nil _ _, Ap.nilL _, fun _ => rfl⟩
  have hgs := hB.lt
  have hB1 := hB.below hb1 hB.lt
  refine WL.v (Val.assign rfl rfl) ?_ -- d3
  refine WL.nil ?_
  refine Ends.next ?_
  refine CW.seq ?_
  refine CW.region ?_
  refine WL.v (Val.assign rfl rfl) ?_ -- d4
  refine WL.nil ?_
  refine Ends.next ?_
  refine CW.seq ?_
  refine CW.seq ?_
  refine CW.region ?_
  refine WL.v (Val.load rfl pl9 rfl (at_ hB1.1)) ?_
  refine WL.range rfl Try.underlying9 rfl (fun r w2 hI hr0 hb2 hs2 => ?_)
  have hB2 := hB1.below hb2 (by omega)
  refine WL.nil ?_
  refine Ends.next ?_
  refine CW.block ?_
  refine CW.loop (α := Nat × Nat × PS) (fun (b, p, s) => [(0, .pointer (some ⟨gs, 0, none⟩)), (3, .pointer (some ⟨g, 0, none⟩)), (4, .int .i64 b), (11, .pointer (some ⟨r, 0, none⟩))]) (fun (b, p, s) w3 => Rd w3 g s ∧ Iter w3 r t p ∧ Box w3 gs (sv t) ∧ Below w.heap.size w w3 ∧ runP startP (bytes t) = runP s ((bytes t).drop b) ∧ Sml s b ∧ ((b = 0 ∧ p = 0) ∨ (b < t.size ∧ p = b + (Utf8.decode t b).2)) ∧ p ≤ t.size) (fun (b, p, s) => t.size - p) (0, 0, startP) ⟨rfl, rfl, rfl, rfl, trivial⟩ ⟨⟨_, _, _, hr1.keep hb2⟩, hI, hB2, hb1.trans (hb2.mono (by omega)), rfl, ⟨Nat.zero_le _, Nat.zero_le _, Nat.zero_le _⟩, .inl ⟨rfl, rfl⟩, Nat.zero_le _⟩ ?_
  rintro ⟨b, p, s⟩ w3 ⟨⟨vn, vl, vc, hr3⟩, hI3, hB3, hbw3, hrun, hsm, hst0, hpt⟩
  refine CW.seq ?_
  refine CW.region ?_
  refine WL.nextD hI3 rfl rfl rfl (fun X w4 hN1 hN2 => ?_)
  refine WL.nil ?_
  refine Ends.next ?_
  refine CW.seq ?_
  refine CW.condD rfl (fun hc1 => ?_) (fun hc1 => ?_)
  · -- yes
    obtain ⟨rfl, hI4, hg4, hb4⟩ := hN1 hc1
    have hr4 := hr3.next hI3 (by omega) hg4
    have hB4 := hB3.below hb4 (by omega)
    have hbw4 : Below w.heap.size w w4 := hbw3.trans (hb4.mono (by omega))
    have hdp := decode_pos hc1
    clear hN1 hN2
    refine CW.skip ?_
    refine Ends.next ?_
    refine CW.block ?_
    refine CW.seq ?_
    refine CW.region ?_
    refine WL.v (Val.extract rfl rfl rfl) ?_ -- d14
    refine WL.v (Val.assign rfl rfl) ?_ -- d5
    refine WL.nil ?_
    refine Ends.next ?_
    refine CW.seq ?_
    refine CW.region ?_
    refine WL.v (Val.move rfl rfl) ?_ -- d15
    refine WL.v (Val.gtr rfl rfl rfl) ?_ -- d16
    refine WL.nil ?_
    refine Ends.next ?_
    refine CW.condD rfl (fun hc2 => ?_) (fun hc2 => ?_)
    · -- yes
      obtain ⟨hbs, hst⟩ : b < t.size ∧ p = b + (Utf8.decode t b).2 := by
        rcases hst0 with h | h
        · omega
        · exact h
      have hdb := decode_pos hbs
      refine CW.seq ?_
      refine CW.drawP (fun w' => Box w' gs (sv t)) hB4.drew ?_
      refine WHp.take 0 rfl rfl (Val.move rfl rfl) ?_ -- d17
      refine WHp.take 1 rfl rfl (Val.load rfl pl9 rfl (fun _ hS => hS.1)) ?_ -- d18
      refine WHp.take 2 rfl rfl (Val.move rfl rfl) ?_ -- d19
      refine WHp.take 3 rfl rfl (Val.move rfl rfl) ?_ -- d20
      refine WHp.take 4 rfl rfl (Val.subStr b p rfl Try.underlying9 rfl rfl rfl (by omega) (by omega)) ?_ -- d21
      refine WHp.take 6 rfl rfl (Val.load rfl pl9 rfl (fun _ hS => hS.1)) ?_ -- d23
      refine WHp.take 7 rfl rfl (Val.move rfl rfl) ?_ -- d24
      refine WHp.take 8 rfl rfl (Val.move rfl rfl) ?_ -- d25
      refine WHp.take 9 rfl rfl (Val.subStr b p rfl Try.underlying9 rfl rfl rfl (by omega) (by omega)) ?_ -- d26
      refine WHp.step 5 rfl ?_ -- d22
      refine WL.call bodied55 rfl rfl (first55 _ _) ?_
      rintro _ w5 ⟨rfl, hb5⟩
      have hB5 := hB4.drew.below hb5 hB4.drew.lt
      have hr5 := hr4.drew.keep hb5
      refine WHp.back hB5 ?_
      refine WHp.step 10 rfl ?_ -- d27
      have hsz5 : (t.extract b p).size ≤ 100000000 := by simp; omega
      have hne5 : (t.extract b p).size ≠ 0 := by simp; omega
      have hsm5 : Sml s 100000000 := ⟨by have := hsm.1; omega, by have := hsm.2.1; omega, hsm.2.2⟩
      have htk := take54 g (rune0 (t.extract b p)) (t.extract b p) s vn vl vc w5 hr5 hsm5 hsz5
      have hru : rune0 (t.extract b p) = (Utf8.decode (t.extract b p) 0).1 := if_neg hne5
      rw [hru, take_run (piece_of hbs hst)] at htk
      rcases hrun5 : runP s (bytes (t.extract b p)) with _ | s2
      · rw [hrun5] at htk
        have hnone : readP (bytes t) = none := by rw [hread, hrun, drop_piece (b := b) (e := p) (by omega), runP_append, hrun5]; rfl
        rw [hru]
        refine WL.callP bodied54 rfl rfl htk (fun w6 hb6 => ?_)
        repeat (first | refine Ends.behp ?_ | refine Ends.seqp ?_ | refine Ends.blkp ?_)
        exact Ends.panicEnd (by rw [hnone]; exact ⟨rfl, (hbw4.drew.trans (hb5.mono (by have := hbw4.size; simp; omega))).trans (hb6.mono (by omega))⟩)
      rw [hrun5] at htk
      rw [hru]
      refine WL.call bodied54 rfl rfl htk ?_
      rintro _ w6 ⟨rfl, hr6, hbc6⟩
      have hbw6 : Below w.heap.size w w6 := (hbw4.drew.trans (hb5.mono (by have := hbw4.size; simp; omega))).trans (hbc6.1.mono (by omega))
      have hrun6 : runP startP (bytes t) = runP s2 ((bytes t).drop (p)) := by rw [hrun, drop_piece (b := b) (e := p) (by omega), runP_append, hrun5]; rfl
      have hsm6 : Sml s2 (p) := by
        have := hsm.run hrun5
        rw [bytes_length, ByteArray.size_extract] at this
        exact ⟨by have := this.1; omega, by have := this.2.1; omega, this.2.2⟩
      have hB6 := hB5.below hbc6.1 (by omega)
      refine WHp.back hB6 ?_
      refine WHp.done ?_
      refine Ends.next ?_
      refine CW.region ?_
      refine WL.v (Val.move rfl rfl) ?_ -- d28
      refine WL.v (Val.assign rfl rfl) ?_ -- d4
      refine WL.nil ?_
      refine Ends.blkn ?_
      first
      | exact Ends.round (p, p + (Utf8.decode t p).2, s2) (by simp only; omega) ⟨rfl, rfl, rfl, rfl, trivial⟩ ⟨hr6, (hI4.calm (Still.drew _)).calm ((Still.below hb5).trans hbc6.2), hB6, hbw6, hrun6, hsm6, .inr ⟨hc1, rfl⟩, hdp.2⟩
      | exact Ends.round (0, 0 + (Utf8.decode t 0).2, s) (by simp only; omega) ⟨rfl, rfl, rfl, rfl, trivial⟩ ⟨⟨_, _, _, hr4⟩, hI4, hB4, hbw4, hrun, hsm, .inr ⟨hc1, rfl⟩, hdp.2⟩
    · -- no
      obtain ⟨rfl, rfl⟩ : b = 0 ∧ p = 0 := by
        rcases hst0 with h | h
        · exact h
        · have := decode_pos h.1; omega
      refine CW.skip ?_
      refine Ends.blkn ?_
      first
      | exact Ends.round (p, p + (Utf8.decode t p).2, s2) (by simp only; omega) ⟨rfl, rfl, rfl, rfl, trivial⟩ ⟨hr6, (hI4.calm (Still.drew _)).calm ((Still.below hb5).trans hbc6.2), hB6, hbw6, hrun6, hsm6, .inr ⟨hc1, rfl⟩, hdp.2⟩
      | exact Ends.round (0, 0 + (Utf8.decode t 0).2, s) (by simp only; omega) ⟨rfl, rfl, rfl, rfl, trivial⟩ ⟨⟨_, _, _, hr4⟩, hI4, hB4, hbw4, hrun, hsm, .inr ⟨hc1, rfl⟩, hdp.2⟩
  · -- no
    obtain rfl := hN2 hc1
    clear hN1 hN2
    refine CW.exit ?_
    refine Ends.seqx ?_
    refine Ends.seqx ?_
    refine Ends.blke ?_
    refine Ends.next ?_
    refine CW.cut (α := PS) (fun _ => [(3, .pointer (some ⟨g, 0, none⟩))]) (fun s w5 => runP startP (bytes t) = some s ∧ Rd w5 g s ∧ Below w.heap.size w w5 ∧ Sml s t.size) ?_ ?_
    · -- first part
      refine CW.seq ?_
      refine CW.region ?_
      refine WL.v (Val.load rfl pl9 rfl (at_ hB3.1)) ?_
      refine WL.v (Val.neqS rfl rfl rfl) ?_ -- d30
      refine WL.nil ?_
      refine Ends.next ?_
      refine CW.condD rfl (fun hc3 => ?_) (fun hc3 => ?_)
      · -- yes
        have htz : t.size ≠ 0 := fun h => hc3 (size_zero.2 h)
        obtain ⟨hbs, hst⟩ : b < t.size ∧ t.size = b + (Utf8.decode t b).2 := by
          rcases hst0 with h | h
          · omega
          · exact ⟨h.1, by omega⟩
        have hbw4 := hbw3
        have hr4 := hr3
        have hB4 := hB3
        refine CW.drawP (fun w' => Box w' gs (sv t)) hB4.drew ?_
        refine WHp.take 0 rfl rfl (Val.move rfl rfl) ?_ -- d31
        refine WHp.take 1 rfl rfl (Val.load rfl pl9 rfl (fun _ hS => hS.1)) ?_ -- d32
        refine WHp.take 2 rfl rfl (Val.move rfl rfl) ?_ -- d33
        refine WHp.take 3 rfl rfl (Val.subStr b t.size rfl Try.underlying9 rfl rfl rfl (by omega) (by omega)) ?_ -- d34
        refine WHp.take 5 rfl rfl (Val.load rfl pl9 rfl (fun _ hS => hS.1)) ?_ -- d36
        refine WHp.take 6 rfl rfl (Val.move rfl rfl) ?_ -- d37
        refine WHp.take 7 rfl rfl (Val.subStr b t.size rfl Try.underlying9 rfl rfl rfl (by omega) (by omega)) ?_ -- d38
        refine WHp.step 4 rfl ?_ -- d35
        refine WL.call bodied55 rfl rfl (first55 _ _) ?_
        rintro _ w5 ⟨rfl, hb5⟩
        have hB5 := hB4.drew.below hb5 hB4.drew.lt
        have hr5 := hr4.drew.keep hb5
        refine WHp.back hB5 ?_
        refine WHp.step 8 rfl ?_ -- d39
        have hsz5 : (t.extract b t.size).size ≤ 100000000 := by simp; omega
        have hne5 : (t.extract b t.size).size ≠ 0 := by simp; omega
        have hsm5 : Sml s 100000000 := ⟨by have := hsm.1; omega, by have := hsm.2.1; omega, hsm.2.2⟩
        have htk := take54 g (rune0 (t.extract b t.size)) (t.extract b t.size) s vn vl vc w5 hr5 hsm5 hsz5
        have hru : rune0 (t.extract b t.size) = (Utf8.decode (t.extract b t.size) 0).1 := if_neg hne5
        rw [hru, take_run (piece_of hbs hst)] at htk
        rcases hrun5 : runP s (bytes (t.extract b t.size)) with _ | s2
        · rw [hrun5] at htk
          have hnone : readP (bytes t) = none := by rw [hread, hrun, drop_piece (b := b) (e := t.size) (by omega), runP_append, hrun5]; rfl
          rw [hru]
          refine WL.callP bodied54 rfl rfl htk (fun w6 hb6 => ?_)
          repeat (first | refine Ends.behp ?_ | refine Ends.seqp ?_ | refine Ends.blkp ?_)
          exact Ends.panicEnd (by rw [hnone]; exact ⟨rfl, (hbw4.drew.trans (hb5.mono (by have := hbw4.size; simp; omega))).trans (hb6.mono (by omega))⟩)
        rw [hrun5] at htk
        rw [hru]
        refine WL.call bodied54 rfl rfl htk ?_
        rintro _ w6 ⟨rfl, hr6, hbc6⟩
        have hbw6 : Below w.heap.size w w6 := (hbw4.drew.trans (hb5.mono (by have := hbw4.size; simp; omega))).trans (hbc6.1.mono (by omega))
        have hrun6 : runP startP (bytes t) = runP s2 ((bytes t).drop (t.size)) := by rw [hrun, drop_piece (b := b) (e := t.size) (by omega), runP_append, hrun5]; rfl
        have hsm6 : Sml s2 (t.size) := by
          have := hsm.run hrun5
          rw [bytes_length, ByteArray.size_extract] at this
          exact ⟨by have := this.1; omega, by have := this.2.1; omega, this.2.2⟩
        have hB6 := hB5.below hbc6.1 (by omega)
        refine WHp.back hB6 ?_
        refine WHp.done ?_
        first
        | exact Ends.cut s2 ⟨rfl, trivial⟩ ⟨by rw [hrun6, List.drop_eq_nil_of_le (by rw [bytes_length]; exact Nat.le_refl _)]; rfl, hr6, hbw6, hsm6⟩
        | exact Ends.cut s ⟨rfl, trivial⟩ ⟨hrune, ⟨_, _, _, hr3⟩, hbw3, hsme⟩
      · -- no
        have hte : t = ByteArray.empty := Decidable.not_not.1 hc3
        have hrune : runP startP (bytes t) = some s := by
          rw [hrun]
          subst hte
          rw [show bytes ByteArray.empty = [] from rfl, List.drop_nil]
          rfl
        have hsme : Sml s t.size := by
          have : b ≤ t.size := by rcases hst0 with h | h <;> omega
          exact ⟨by have := hsm.1; omega, by have := hsm.2.1; omega, hsm.2.2⟩
        refine CW.skip ?_
        first
        | exact Ends.cut s2 ⟨rfl, trivial⟩ ⟨by rw [hrun6, List.drop_eq_nil_of_le (by rw [bytes_length]; exact Nat.le_refl _)]; rfl, hr6, hbw6, hsm6⟩
        | exact Ends.cut s ⟨rfl, trivial⟩ ⟨hrune, ⟨_, _, _, hr3⟩, hbw3, hsme⟩
    · -- what follows
      rintro s w5 ⟨hrunz, ⟨vn, vl, vc, hr⟩, hbw, hsm⟩
      have hread2 : readP (bytes t) = finP s := by rw [hread, hrunz]; rfl
      obtain ⟨An, cn, hvn, -⟩ := id hr.on.sl
      rw [List.length_map] at hvn
      subst hvn
      obtain ⟨Al, cl, hvl, -⟩ := id hr.ol.sl
      rw [List.length_map] at hvl
      subst hvl
      refine CW.seq ?_
      refine CW.seq ?_
      refine CW.region ?_
      refine WL.v (Val.move rfl rfl) ?_ -- d40
      refine WL.v (Val.nilCheck rfl rfl) ?_ -- d41
      refine WL.v (Val.fieldAddr ⟨g, 3, none⟩ rfl rfl (fun _ => by kernel_rfl)) ?_
      refine WL.v (Val.load rfl pl4 rfl (at_ hr.f3.1)) ?_
      refine WL.v (Val.move rfl rfl) ?_ -- d44
      -- the whole condition at once
      refine WL.fork (rest := []) (e' := [(3, .pointer (some ⟨g, 0, none⟩)), (59, .bool (decide (s.sign = true ∨ (s.n.length = 0 ∧ s.l.length = 0))))]) ?_ (fun tail => ?_)
      rotate_left
      · rcases Bool.eq_false_or_eq_true s.sign with hsg | hsg
        · refine WL.noB rfl rfl rfl hsg ?_
          refine WL.noB rfl rfl rfl hsg ?_
          refine WL.noB rfl rfl rfl hsg ?_
          refine WL.noB rfl rfl rfl hsg ?_
          refine WL.noB rfl rfl rfl hsg ?_
          refine WL.noB rfl rfl rfl hsg ?_
          refine WL.noB rfl rfl rfl hsg ?_
          refine WL.no (v := undef) rfl rfl rfl (by simp [undef]) rfl (by decide) ?_
          refine WL.no (v := undef) rfl rfl rfl (by simp [undef]) rfl (by decide) ?_
          refine WL.no (v := undef) rfl rfl rfl (by simp [undef]) rfl (by decide) ?_
          refine WL.no (v := undef) rfl rfl rfl (by simp [undef]) rfl (by decide) ?_
          refine WL.no (v := undef) rfl rfl rfl (by simp [undef]) rfl (by decide) ?_
          refine WL.no (v := undef) rfl rfl rfl (by simp [undef]) rfl (by decide) ?_
          refine WL.noB rfl rfl rfl hsg ?_
          refine WL.v (Val.pickT rfl rfl hsg rfl) ?_
          refine WL.know 59 (.bool (decide (s.sign = true ∨ (s.n.length = 0 ∧ s.l.length = 0)))) rfl (congrArg Value.bool (decide_eq_true (Or.inl hsg)).symm) ?_
          refine WL.sub _ ?_ tail
          exact ⟨rfl, rfl, trivial⟩
        · refine WL.yes rfl rfl rfl hsg ?_
          refine WL.v (Val.move rfl rfl) ?_
          refine WL.yes rfl rfl rfl hsg ?_
          refine WL.v (Val.nilCheck rfl rfl) ?_
          refine WL.yes rfl rfl rfl hsg ?_
          refine WL.v (Val.fieldAddr ⟨g, 0, none⟩ rfl rfl (fun _ => by kernel_rfl)) ?_
          refine WL.yes rfl rfl rfl hsg ?_
          refine WL.v (Val.load rfl pl23 rfl (at_ hr.f0.1)) ?_
          refine WL.yes rfl rfl rfl hsg ?_
          refine WL.v (Val.lenSl rfl Try.underlying23 rfl) ?_
          refine WL.yes rfl rfl rfl hsg ?_
          refine WL.v (Val.eqlI rfl rfl rfl) ?_
          refine WL.yes rfl rfl rfl hsg ?_
          refine WL.v (Val.move rfl rfl) ?_
          by_cases hn0 : (s.n.length : Int) = 0
          · refine WL.yes rfl rfl rfl (decide_eq_true hn0) ?_
            refine WL.v (Val.move rfl rfl) ?_
            refine WL.yes rfl rfl rfl (decide_eq_true hn0) ?_
            refine WL.v (Val.nilCheck rfl rfl) ?_
            refine WL.yes rfl rfl rfl (decide_eq_true hn0) ?_
            refine WL.v (Val.fieldAddr ⟨g, 1, none⟩ rfl rfl (fun _ => by kernel_rfl)) ?_
            refine WL.yes rfl rfl rfl (decide_eq_true hn0) ?_
            refine WL.v (Val.load rfl pl25 rfl (at_ hr.f1.1)) ?_
            refine WL.yes rfl rfl rfl (decide_eq_true hn0) ?_
            refine WL.v (Val.lenSl rfl Try.underlying25 rfl) ?_
            refine WL.yes rfl rfl rfl (decide_eq_true hn0) ?_
            refine WL.v (Val.eqlI rfl rfl rfl) ?_
            refine WL.yes rfl rfl rfl hsg ?_
            refine WL.v (Val.pickT rfl rfl (decide_eq_true hn0) rfl) ?_
            refine WL.v (Val.pickF rfl rfl hsg rfl) ?_
            refine WL.know 59 (.bool (decide (s.sign = true ∨ (s.n.length = 0 ∧ s.l.length = 0)))) rfl (congrArg Value.bool (by rw [Bool.eq_iff_iff]; simp only [hsg, decide_eq_true_eq, Bool.false_eq_true, false_or]; omega)) ?_
            refine WL.sub _ ?_ tail
            exact ⟨rfl, rfl, trivial⟩
          · refine WL.noB rfl rfl rfl (decide_eq_false hn0) ?_
            refine WL.noB rfl rfl rfl (decide_eq_false hn0) ?_
            refine WL.noB rfl rfl rfl (decide_eq_false hn0) ?_
            refine WL.noB rfl rfl rfl (decide_eq_false hn0) ?_
            refine WL.noB rfl rfl rfl (decide_eq_false hn0) ?_
            refine WL.noB rfl rfl rfl (decide_eq_false hn0) ?_
            refine WL.yes rfl rfl rfl hsg ?_
            refine WL.v (Val.pickF rfl rfl (decide_eq_false hn0) rfl) ?_
            refine WL.v (Val.pickF rfl rfl hsg rfl) ?_
            refine WL.know 59 (.bool (decide (s.sign = true ∨ (s.n.length = 0 ∧ s.l.length = 0)))) rfl (congrArg Value.bool (by rw [Bool.eq_iff_iff]; simp only [hsg, decide_eq_true_eq, Bool.false_eq_true, false_or, false_iff]; omega)) ?_
            refine WL.sub _ ?_ tail
            exact ⟨rfl, rfl, trivial⟩
      refine WL.nil ?_
      refine Ends.next ?_
      refine CW.condD rfl (fun hc4 => ?_) (fun hc4 => ?_)
      · -- yes
        have hfin : finP s = none := if_pos (hc4.imp id (fun h => ⟨List.eq_nil_of_length_eq_zero h.1, List.eq_nil_of_length_eq_zero h.2⟩))
        refine CW.region ?_
        refine WL.callP bodied56 rfl rfl (fail56 _ _) ?_
        rintro _ rfl
        refine Ends.seqp ?_
        exact Ends.panicEnd (by rw [hread2, hfin]; exact ⟨rfl, hbw⟩)
      · -- no
        have hfin0 : finP s = some (if s.l = [] then s.n else s.n ++ [mkS s.l]) := if_neg (fun h => hc4 (h.imp id (fun h => ⟨by rw [h.1]; rfl, by rw [h.2]; rfl⟩)))
        refine CW.skip ?_
        refine Ends.next ?_
        refine CW.seq ?_
        refine CW.seq ?_
        refine CW.region ?_
        refine WL.v (Val.move rfl rfl) ?_ -- d61
        refine WL.v (Val.nilCheck rfl rfl) ?_ -- d62
        refine WL.v (Val.fieldAddr ⟨g, 1, none⟩ rfl rfl (fun _ => by kernel_rfl)) ?_
        refine WL.v (Val.load rfl pl25 rfl (at_ hr.f1.1)) ?_
        refine WL.v (Val.lenSl rfl Try.underlying25 rfl) ?_ -- d65
        refine WL.v (Val.gtr rfl rfl rfl) ?_ -- d66
        refine WL.nil ?_
        refine Ends.next ?_
        refine CW.condD rfl (fun hc5 => ?_) (fun hc5 => ?_)
        · -- yes
          have hlne : s.l ≠ [] := fun h => by rw [h] at hc5; exact absurd hc5 (by decide)
          have hfin : finP s = some (s.n ++ [mkS s.l]) := by rw [hfin0, if_neg hlne]
          refine CW.region ?_
          refine WL.v (Val.move rfl rfl) ?_ -- d67
          refine WL.call bodied57 rfl rfl (end57r g s _ _ _ w5 hr hlne ⟨by have := hsm.1; omega, by have := hsm.2.1; omega, hsm.2.2⟩) ?_
          rintro _ w6 ⟨rfl, ⟨vnz, vlz, vcz, hrz⟩, hbc⟩
          have hbz : Below w.heap.size w w6 := hbw.trans (hbc.1.mono (by omega))
          refine WL.nil ?_
          refine Ends.next ?_
          refine CW.seq ?_
          refine CW.region ?_
          refine WL.v (Val.move rfl rfl) ?_ -- d69
          refine WL.v (Val.nilCheck rfl rfl) ?_ -- d70
          refine WL.v (Val.fieldAddr ⟨g, 0, none⟩ rfl rfl (fun _ => by kernel_rfl)) ?_
          refine WL.v (Val.load rfl pl23 rfl (at_ hrz.f0.1)) ?_
          refine WL.v (Val.assign rfl rfl) ?_ -- d1
          refine WL.v (Val.assign rfl rfl) ?_ -- d2
          refine WL.nil ?_
          refine Ends.next ?_
          refine CW.ret ?_
          exact Ends.ret2R rfl rfl rfl (by rw [hread2, hfin]; exact ⟨_, rfl, _, rfl, hrz.on.sl, hbz⟩)
        · -- no
          have hl0 : s.l = [] := List.eq_nil_of_length_eq_zero (by omega)
          have hfin : finP s = some s.n := by rw [hfin0, if_pos hl0]
          have hrz := hr
          have hbz := hbw
          refine CW.skip ?_
          refine Ends.next ?_
          refine CW.seq ?_
          refine CW.region ?_
          refine WL.v (Val.move rfl rfl) ?_ -- d69
          refine WL.v (Val.nilCheck rfl rfl) ?_ -- d70
          refine WL.v (Val.fieldAddr ⟨g, 0, none⟩ rfl rfl (fun _ => by kernel_rfl)) ?_
          refine WL.v (Val.load rfl pl23 rfl (at_ hrz.f0.1)) ?_
          refine WL.v (Val.assign rfl rfl) ?_ -- d1
          refine WL.v (Val.assign rfl rfl) ?_ -- d2
          refine WL.nil ?_
          refine Ends.next ?_
          refine CW.ret ?_
          exact Ends.ret2R rfl rfl rfl (by rw [hread2, hfin]; exact ⟨_, rfl, _, rfl, hrz.on.sl, hbz⟩)
theorem parse53 (gs : Nat) (t : ByteArray) (ht : t.size ≤ 1000000) (w : World) (hB : Box w gs (sv t)) : Gives 53 #[.pointer (some ⟨gs, 0, none⟩)] ((readP (bytes t)).map fun n => (n, 0)) w := by
  refine gives_of ?_
  by_cases hdot : t = ⟨#[46]⟩
  · exact parse53a gs t hdot w hB
  · exact parse53b gs t hdot ht w hB
theorem read_len {b : List UInt8} {n : List ByteArray} (h : readP b = some n) : n.length ≤ b.length + 1 := by
  unfold readP at h
  split at h
  · cases h
    simp
  · cases hr : runP startP b with
    | none => rw [hr] at h; cases h
    | some s =>
      rw [hr, Option.bind_some] at h
      have hs := Sml.run (s := startP) (k := 0) ⟨Nat.zero_le _, Nat.zero_le _, Nat.zero_le _⟩ hr
      unfold finP at h
      split at h
      · cases h
      · cases h
        have := hs.2.1
        split
        · omega
        · simp; omega
theorem caught_parse (b : List UInt8) : ((caughtS ((readP b).map fun n => (n, 0))).1, (caughtS ((readP b).map fun n => (n, 0))).2.2) = parseN b := by
  unfold parseN
  cases readP b with
  | none => rfl
  | some n =>
    by_cases hc : checkN n = 0
    · simp [caughtS, hc]
    · simp [caughtS, hc]
-- signet/name.Parse
theorem parse26 (t : ByteArray) (w : World) (ht : t.size ≤ 1000000) :
    Runs Try.prog 26 #[sv t] w fun r w' => ∃ nv, r = .tuple #[nv, .int .i64 (parseN (bytes t)).2] ∧ Nm w' nv (parseN (bytes t)).1 ∧ Below w.heap.size w w' := by
  refine enter (N := 15) (args := [_]) Try.func26 rfl rfl (Nat.le_of_ble_eq_true rfl) ?_
  refine CW.seq ?_
  refine CW.region ?_
  refine WL.boxB rfl rfl rfl (fun g w1 x0 hg0 hb1 hs1 => ?_)
  refine WL.v (Val.assign rfl rfl) ?_ -- d2
  refine WL.v (Val.assign rfl rfl) ?_ -- d3
  refine WL.nil ?_
  refine Ends.next ?_
  refine CW.seq ?_
  refine CW.region ?_
  refine WL.v (Val.makeFunc (l := [.tmp 1]) rfl rfl) ?_
  refine WL.call bodied52 rfl rfl (caught52 53 bodied53 _ ((readP (bytes t)).map fun n => (n, 0)) (fun p hp => ?_) _ (fun w' hb => parse53 g t ht w' (x0.below hb x0.lt))) ?_
  · obtain ⟨q, hq, rfl⟩ := Option.map_eq_some_iff.1 hp
    have := read_len hq
    rw [bytes_length] at this
    show q.length ≤ _
    omega
  rw [← caught_parse]
  rintro _ w2 ⟨nv, rfl, hnv, hb2⟩
  refine WL.v (Val.move rfl rfl) ?_ -- d7
  refine WL.v (Val.extract rfl rfl rfl) ?_ -- d10
  refine WL.v (Val.extract rfl rfl rfl) ?_ -- d11
  refine WL.v (Val.extract rfl rfl rfl) ?_ -- d12
  refine WL.v (Val.assign rfl rfl) ?_ -- d4
  refine WL.v (Val.assign rfl rfl) ?_ -- d5
  refine WL.v (Val.assign rfl rfl) ?_ -- d6
  refine WL.nil ?_
  refine Ends.next ?_
  refine CW.seq ?_
  refine CW.region ?_
  refine WL.v (Val.move rfl rfl) ?_ -- d13
  refine WL.v (Val.move rfl rfl) ?_ -- d14
  refine WL.v (Val.assign rfl rfl) ?_ -- d2
  refine WL.v (Val.assign rfl rfl) ?_ -- d3
  refine WL.nil ?_
  refine Ends.next ?_
  refine CW.ret ?_
  exact Ends.ret2 rfl rfl rfl ⟨nv, rfl, hnv, hb1.trans (hb2.mono (by omega))⟩
end Go.Proofs.Ytjdgckamjgldmaa
