/- Walks: the order. -/
import Derived.Test.YtjdgckamjgldmaaBase
import Derived.Test.YtjdgckamjgldmaaW3
namespace Go.Proofs.Ytjdgckamjgldmaa
open Go.RowKit Go.Eng

theorem run68 (s t : ByteArray) (w : World) : (callFunc 68 #[.string s, .string t]).run Try.prog w = .ok (.value (.int .i64 (Lib.compareBytes s.data.toList t.data.toList))) w := by
  rw [run_callFunc_extern Try.func68 (by kernel_rfl) (by kernel_rfl) (by kernel_rfl) (e := Extern.BytealgCompare.compare) (by kernel_rfl), Lib.run_compareString]
  rfl
-- internal/bytealg.CompareString
theorem cmp66 (s t : ByteArray) (w : World) : Runs Try.prog 66 #[sv s, sv t] w fun r w' => r = .int .i64 (cmpB (bytes s) (bytes t)) ∧ w = w' := by
  refine enter (N := 8) (args := [_, _]) Try.func66 rfl rfl (Nat.le_of_ble_eq_true rfl) ?_
  refine CW.seq ?_
  refine CW.region ?_
  refine WL.v (Val.assign rfl rfl) ?_ -- d4
  refine WL.nil ?_
  refine Ends.next ?_
  refine CW.seq ?_
  refine CW.region ?_
  refine WL.v (Val.move rfl rfl) ?_ -- d5
  refine WL.v (Val.move rfl rfl) ?_ -- d6
  refine WL.cmpstr (run68 s t) rfl rfl rfl ?_
  refine WL.v (Val.assign rfl rfl) ?_ -- d4
  refine WL.nil ?_
  refine Ends.next ?_
  refine CW.ret ?_
  exact Ends.ret1 rfl rfl ⟨rfl, rfl⟩
-- strings.Compare
theorem cmp60 (s t : ByteArray) (w : World) : Runs Try.prog 60 #[sv s, sv t] w fun r w' => r = .int .i64 (cmpB (bytes s) (bytes t)) ∧ w = w' := by
  refine enter (N := 8) (args := [_, _]) Try.func60 rfl rfl (Nat.le_of_ble_eq_true rfl) ?_
  refine CW.seq ?_
  refine CW.region ?_
  refine WL.v (Val.assign rfl rfl) ?_ -- d4
  refine WL.nil ?_
  refine Ends.next ?_
  refine CW.seq ?_
  refine CW.region ?_
  refine WL.v (Val.move rfl rfl) ?_ -- d5
  refine WL.v (Val.move rfl rfl) ?_ -- d6
  refine WL.call bodied66 rfl rfl (cmp66 s t _) ?_
  rintro _ _ ⟨rfl, rfl⟩
  refine WL.v (Val.assign rfl rfl) ?_ -- d4
  refine WL.nil ?_
  refine Ends.next ?_
  refine CW.ret ?_
  exact Ends.ret1 rfl rfl ⟨rfl, rfl⟩
-- signet/name.Compare
theorem cmp37 (v u : Value) (l m : List ByteArray) (w : World) (h : Nm w v l) (h' : Nm w u m) (ol : OkN l) (om : OkN m) :
    Runs Try.prog 37 #[v, u] w fun r w' => r = .int .i64 (cmpN l m) ∧ Below w.heap.size w w' := by
  obtain ⟨hl, hsl⟩ := ol
  obtain ⟨hm, hsm⟩ := om
  obtain ⟨A, c, hv, -⟩ := id h
  rw [List.length_map] at hv
  subst hv
  obtain ⟨A', c', hv, -⟩ := id h'
  rw [List.length_map] at hv
  subst hv
  refine enter (N := 50) (args := [_, _]) Try.func37 rfl rfl (Nat.le_of_ble_eq_true rfl) ?_
  refine CW.seq ?_
  refine CW.region ?_
  refine WL.v (Val.assign rfl rfl) ?_ -- d4
  refine WL.nil ?_
  refine Ends.next ?_
  refine CW.seq ?_
  refine CW.seq ?_
  refine CW.region ?_
  refine WL.v (Val.move rfl rfl) ?_ -- d7
  refine WL.v (Val.lenSl rfl Try.underlying23 rfl) ?_ -- d8
  refine WL.v (Val.move rfl rfl) ?_ -- d9
  refine WL.v (Val.lenSl rfl Try.underlying23 rfl) ?_ -- d10
  refine WL.v (Val.min2 rfl rfl rfl) ?_
  refine WL.know 11 (.int .i64 ((min l.length m.length : Nat) : Int)) rfl (congrArg (Value.int .i64) (by split <;> omega)) ?_
  refine WL.v (Val.move rfl rfl) ?_ -- d12
  refine WL.nil ?_
  refine Ends.next ?_
  refine CW.block ?_
  refine CW.loop (α := Nat) (fun k => [(0, .slice A l.length c), (1, .slice A' m.length c'), (11, .int .i64 ((min l.length m.length : Nat) : Int)), (12, .int .i64 k)]) (fun k w1 => k ≤ min l.length m.length ∧ cmpN l m = cmpR (l.reverse.drop k) (m.reverse.drop k) ∧ Below w.heap.size w w1) (fun k => min l.length m.length - k) 0 ⟨rfl, rfl, rfl, rfl, trivial⟩ ⟨Nat.zero_le _, by simp [cmpN], Below.refl _ _⟩ ?_
  rintro k w1 ⟨hk, heq, hb⟩
  refine CW.seq ?_
  refine CW.region ?_
  refine WL.v (Val.lss rfl rfl rfl) ?_ -- d13
  refine WL.nil ?_
  refine Ends.next ?_
  refine CW.seq ?_
  refine CW.condD rfl (fun hc0 => ?_) (fun hc0 => ?_)
  · -- yes
    have hlt : k < l.length := by omega
    have hlt' : k < m.length := by omega
    have hi : l.length - 1 - k < l.length := by omega
    have hi' : m.length - 1 - k < m.length := by omega
    rw [cmpR_step l m k hlt hlt'] at heq
    obtain ⟨ad, rfl, hce⟩ := h.at_ hi
    obtain ⟨ad', rfl, hce'⟩ := h'.at_ hi'
    have hsz := hb.size
    refine CW.skip ?_
    refine Ends.next ?_
    refine CW.seq ?_
    refine CW.block ?_
    refine CW.seq ?_
    refine CW.region ?_
    refine WL.v (Val.move rfl rfl) ?_ -- d14
    refine WL.v (Val.assign rfl rfl) ?_ -- d5
    refine WL.nil ?_
    refine Ends.next ?_
    refine CW.seq ?_
    refine CW.draw (Below w.heap.size w) hb.drew ?_
    refine WH.take 0 rfl rfl (Val.move rfl rfl) ?_ -- d15
    refine WH.take 1 rfl rfl (Val.move rfl rfl) ?_ -- d16
    refine WH.take 2 rfl rfl (Val.lenSl rfl Try.underlying23 rfl) ?_ -- d17
    refine WH.take 3 rfl rfl (Val.subt rfl rfl rfl _ (IntWalk.i64_in _ (by omega))) ?_ -- d18
    refine WH.take 4 rfl rfl (Val.move rfl rfl) ?_ -- d19
    refine WH.take 5 rfl rfl (Val.subt rfl rfl rfl ((l.length - 1 - k : Nat) : Int) (i64_eq (by omega) (by omega))) ?_ -- d20
    refine WH.take 6 rfl rfl (Val.indexAddr rfl ty23 rfl rfl (by omega) (by omega)) ?_ -- d21
    refine WH.take 7 rfl rfl (Val.load rfl ty23.plain rfl (fun _ hw => below_cell hw hce)) ?_ -- d22
    refine WH.take 9 rfl rfl (Val.move rfl rfl) ?_ -- d24
    refine WH.take 10 rfl rfl (Val.move rfl rfl) ?_ -- d25
    refine WH.take 11 rfl rfl (Val.lenSl rfl Try.underlying23 rfl) ?_ -- d26
    refine WH.take 12 rfl rfl (Val.subt rfl rfl rfl _ (IntWalk.i64_in _ (by omega))) ?_ -- d27
    refine WH.take 13 rfl rfl (Val.move rfl rfl) ?_ -- d28
    refine WH.take 14 rfl rfl (Val.subt rfl rfl rfl ((m.length - 1 - k : Nat) : Int) (i64_eq (by omega) (by omega))) ?_ -- d29
    refine WH.take 15 rfl rfl (Val.indexAddr rfl ty23 rfl rfl (by omega) (by omega)) ?_ -- d30
    refine WH.take 16 rfl rfl (Val.load rfl ty23.plain rfl (fun _ hw => below_cell hw hce')) ?_ -- d31
    refine WH.step 8 rfl ?_ -- d23
    refine WL.call bodied61 rfl rfl (small61 _ _ (by have := hsl _ (List.getElem_mem hi); omega)) ?_
    rintro _ w2 ⟨rfl, hb2⟩
    have hb2' : Below w.heap.size w w2 := hb.drew.trans (hb2.mono (by simp; omega))
    refine WH.back hb2' ?_
    refine WH.step 17 rfl ?_ -- d32
    refine WL.call bodied61 rfl rfl (small61 _ _ (by have := hsm _ (List.getElem_mem hi'); omega)) ?_
    rintro _ w3 ⟨rfl, hb3⟩
    have hb3' : Below w.heap.size w w3 := hb2'.trans (hb3.mono (by have := hb2.size; simp at this; omega))
    refine WH.back hb3' ?_
    refine WH.step 18 rfl ?_ -- d33
    refine WL.call bodied60 rfl rfl (cmp60 _ _ _) ?_
    rintro _ _ ⟨rfl, rfl⟩
    refine WH.back hb3' ?_
    refine WH.take 19 rfl rfl (Val.assign rfl rfl) ?_ -- d6
    refine WH.done ?_
    refine Ends.next ?_
    refine CW.seq ?_
    refine CW.region ?_
    refine WL.v (Val.move rfl rfl) ?_ -- d34
    refine WL.v (Val.neqI rfl rfl rfl) ?_ -- d35
    refine WL.nil ?_
    refine Ends.next ?_
    refine CW.condD rfl (fun hc1 => ?_) (fun hc1 => ?_)
    · -- yes
      rw [if_neg hc1] at heq
      refine CW.seq ?_
      refine CW.region ?_
      refine WL.v (Val.move rfl rfl) ?_ -- d36
      refine WL.v (Val.assign rfl rfl) ?_ -- d4
      refine WL.nil ?_
      refine Ends.next ?_
      refine CW.ret ?_
      refine Ends.blkr ?_
      refine Ends.seqr ?_
      refine Ends.seqr ?_
      refine Ends.blkr ?_
      refine Ends.seqr ?_
      exact Ends.ret1 rfl rfl ⟨by rw [heq], hb3'⟩
    · -- no
      rw [if_pos (Decidable.not_not.1 hc1)] at heq
      refine CW.skip ?_
      refine Ends.blkn ?_
      refine Ends.next ?_
      refine CW.region ?_
      refine WL.v (Val.add rfl rfl rfl _ (IntWalk.i64_in _ (by omega))) ?_ -- d37
      refine WL.v (Val.move rfl rfl) ?_ -- d12
      refine WL.nil ?_
      exact Ends.round (k + 1) (by omega) ⟨rfl, rfl, rfl, rfl, trivial⟩ ⟨by omega, heq, hb3'⟩
  · -- no
    have hkm : k = min l.length m.length := by omega
    rw [cmpR_end l m k hkm] at heq
    refine CW.exit ?_
    refine Ends.seqx ?_
    refine Ends.seqx ?_
    refine Ends.blke ?_
    refine Ends.next ?_
    refine CW.seq ?_
    refine CW.block ?_
    refine CW.seq ?_
    refine CW.region ?_
    refine WL.v (Val.move rfl rfl) ?_ -- d39
    refine WL.v (Val.lenSl rfl Try.underlying23 rfl) ?_ -- d40
    refine WL.v (Val.move rfl rfl) ?_ -- d41
    refine WL.v (Val.lenSl rfl Try.underlying23 rfl) ?_ -- d42
    refine WL.v (Val.lss rfl rfl rfl) ?_ -- d43
    refine WL.v (Val.assign rfl rfl) ?_ -- d38
    refine WL.nil ?_
    refine Ends.next ?_
    refine CW.condD rfl (fun hc2 => ?_) (fun hc2 => ?_)
    · -- yes
      refine CW.seq ?_
      refine CW.region ?_
      refine WL.v (Val.assign rfl rfl) ?_ -- d4
      refine WL.nil ?_
      refine Ends.next ?_
      refine CW.ret ?_
      refine Ends.blkr ?_
      refine Ends.seqr ?_
      exact Ends.ret1 rfl rfl ⟨by rw [heq, if_pos (by omega)], hb⟩
    · -- no
      refine CW.seq ?_
      refine CW.region ?_
      refine WL.v (Val.move rfl rfl) ?_ -- d45
      refine WL.v (Val.lenSl rfl Try.underlying23 rfl) ?_ -- d46
      refine WL.v (Val.move rfl rfl) ?_ -- d47
      refine WL.v (Val.lenSl rfl Try.underlying23 rfl) ?_ -- d48
      refine WL.v (Val.gtr rfl rfl rfl) ?_ -- d49
      refine WL.v (Val.assign rfl rfl) ?_ -- d44
      refine WL.nil ?_
      refine Ends.next ?_
      refine CW.condD rfl (fun hc3 => ?_) (fun hc3 => ?_)
      · -- yes
        refine CW.seq ?_
        refine CW.region ?_
        refine WL.v (Val.assign rfl rfl) ?_ -- d4
        refine WL.nil ?_
        refine Ends.next ?_
        refine CW.ret ?_
        refine Ends.blkr ?_
        refine Ends.seqr ?_
        exact Ends.ret1 rfl rfl ⟨by rw [heq, if_neg (by omega), if_pos (by omega)], hb⟩
      · -- no
        refine CW.skip ?_
        refine Ends.blkn ?_
        refine Ends.next ?_
        refine CW.seq ?_
        refine CW.region ?_
        refine WL.v (Val.assign rfl rfl) ?_ -- d4
        refine WL.nil ?_
        refine Ends.next ?_
        refine CW.ret ?_
        exact Ends.ret1 rfl rfl ⟨by rw [heq, if_neg (by omega), if_neg (by omega)], hb⟩
-- signet/name.Same
theorem same47 (v u : Value) (l m : List ByteArray) (w : World) (h : Nm w v l) (h' : Nm w u m) (ol : OkN l) (om : OkN m) :
    Runs Try.prog 47 #[v, u] w fun r w' => r = .bool (sameN l m) ∧ Below w.heap.size w w' := by
  refine enter (N := 9) (args := [_, _]) Try.func47 rfl rfl (Nat.le_of_ble_eq_true rfl) ?_
  refine CW.seq ?_
  refine CW.region ?_
  refine WL.v (Val.assign rfl rfl) ?_ -- d4
  refine WL.nil ?_
  refine Ends.next ?_
  refine CW.seq ?_
  refine CW.region ?_
  refine WL.v (Val.move rfl rfl) ?_ -- d5
  refine WL.v (Val.move rfl rfl) ?_ -- d6
  refine WL.call bodied37 rfl rfl (cmp37 _ _ l m _ h h' ol om) ?_
  rintro _ w2 ⟨rfl, hb2⟩
  refine WL.v (Val.eqlI rfl rfl rfl) ?_ -- d8
  refine WL.v (Val.assign rfl rfl) ?_ -- d4
  refine WL.nil ?_
  refine Ends.next ?_
  refine CW.ret ?_
  exact Ends.ret1 rfl rfl ⟨rfl, hb2⟩
end Go.Proofs.Ytjdgckamjgldmaa
