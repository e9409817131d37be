/- Walks: the references' order; within. -/
import Derived.Test.YtjdgckamjgldmaaBase
import Derived.Test.YtjdgckamjgldmaaW3
import Derived.Test.YtjdgckamjgldmaaW5
namespace Go.Proofs.Ytjdgckamjgldmaa
open Go.RowKit Go.Eng

theorem add1 (k : Nat) : ((k : Int) + 1) = ((k + 1 : Nat) : Int) := rfl
-- signet/signetref3.Compare
theorem cmp46 (v u : Value) (l m : List ByteArray) (w : World) (h : Nm w v l) (h' : Nm w u m) (ol : OkN l) (om : OkN m) :
    Runs Try.prog 46 #[v, u] w fun r w' => r = .int .i64 (cmpN l m) ∧ Below w.heap.size w w' := by
  obtain ⟨hl, hsl⟩ := ol
  obtain ⟨hm, hsm⟩ := om
  obtain ⟨A, c, hv, -⟩ := id h
  rw [List.length_map] at hv
  subst hv
  obtain ⟨A', c', hv, -⟩ := id h'
  rw [List.length_map] at hv
  subst hv
  refine enter (N := 54) (args := [_, _]) Try.func46 rfl rfl (Nat.le_of_ble_eq_true rfl) ?_
  refine CW.seq ?_
  refine CW.region ?_
  refine WL.v (Val.assign rfl rfl) ?_ -- d4
  refine WL.nil ?_
  refine Ends.next ?_
  refine CW.seq ?_
  refine CW.seq ?_
  refine CW.region ?_
  refine WL.v (Val.assign rfl rfl) ?_ -- d5
  refine WL.nil ?_
  refine Ends.next ?_
  refine CW.block ?_
  refine CW.loop (α := Nat) (fun k => [(0, .slice A l.length c), (1, .slice A' m.length c'), (5, .int .i64 ((k + 1 : Nat) : Int))]) (fun k w1 => k ≤ min l.length m.length ∧ cmpN l m = cmpR (l.reverse.drop k) (m.reverse.drop k) ∧ Below w.heap.size w w1) (fun k => min l.length m.length - k) 0 ⟨rfl, rfl, rfl, trivial⟩ ⟨Nat.zero_le _, by simp [cmpN], Below.refl _ _⟩ ?_
  rintro k w1 ⟨hk, heq, hb⟩
  refine CW.seq ?_
  refine CW.seq ?_
  refine CW.region ?_
  refine WL.v (Val.move rfl rfl) ?_ -- d8
  refine WL.v (Val.move rfl rfl) ?_ -- d9
  refine WL.v (Val.lenSl rfl Try.underlying23 rfl) ?_ -- d10
  refine WL.v (Val.leq rfl rfl rfl) ?_ -- d11
  refine WL.v (Val.move rfl rfl) ?_ -- d12
  refine WL.and (j := 4) (seg := [_, _, _, _]) (r := ?r1) rfl rfl rfl rfl (fun hb17 HK17 => ?hT1) ?_
  case hT1 =>
    refine WL.yes rfl rfl rfl hb17 ?_
    refine WL.v (Val.move rfl rfl) ?_ -- d13
    refine WL.yes rfl rfl rfl hb17 ?_
    refine WL.v (Val.move rfl rfl) ?_ -- d14
    refine WL.yes rfl rfl rfl hb17 ?_
    refine WL.v (Val.lenSl rfl Try.underlying23 rfl) ?_ -- d15
    refine WL.yes rfl rfl rfl hb17 ?_
    refine WL.v (Val.leq rfl rfl rfl) ?_ -- d16
    refine WL.v (Val.pickT rfl rfl hb17 rfl) ?_
    refine WL.forget rfl ?_; refine WL.forget rfl ?_; refine WL.forget rfl ?_; refine WL.forget rfl ?_
    exact HK17
  refine WL.nil ?_
  refine Ends.next ?_
  refine CW.cond rfl (fun hc0 => ?_) (fun hc0 => ?_)
  · -- yes
    simp only [Bool.and_eq_true, decide_eq_true_eq] at hc0
    have hlt : k < l.length := by omega
    have hlt' : k < m.length := by omega
    have hi : l.length - 1 - k < l.length := by omega
    have hi' : m.length - 1 - k < m.length := by omega
    rw [cmpR_step l m k hlt hlt'] at heq
    obtain ⟨ad, rfl, hce⟩ := h.at_ hi
    obtain ⟨ad', rfl, hce'⟩ := h'.at_ hi'
    have hsz := hb.size
    refine CW.skip ?_
    refine Ends.next ?_
    refine CW.seq ?_
    refine CW.block ?_
    refine CW.seq ?_
    refine CW.draw (Below w.heap.size w) hb.drew ?_
    refine WH.take 0 rfl rfl (Val.move rfl rfl) ?_ -- d20
    refine WH.take 1 rfl rfl (Val.move rfl rfl) ?_ -- d21
    refine WH.take 2 rfl rfl (Val.lenSl rfl Try.underlying23 rfl) ?_ -- d22
    refine WH.take 3 rfl rfl (Val.move rfl rfl) ?_ -- d23
    refine WH.take 4 rfl rfl (Val.subt rfl rfl rfl ((l.length - 1 - k : Nat) : Int) (i64_eq (by omega) (by omega))) ?_ -- d24
    refine WH.take 5 rfl rfl (Val.indexAddr rfl ty23 rfl rfl (by omega) (by omega)) ?_ -- d25
    refine WH.take 6 rfl rfl (Val.load rfl ty23.plain rfl (fun _ hw => below_cell hw hce)) ?_ -- d26
    refine WH.take 8 rfl rfl (Val.move rfl rfl) ?_ -- d28
    refine WH.take 9 rfl rfl (Val.move rfl rfl) ?_ -- d29
    refine WH.take 10 rfl rfl (Val.lenSl rfl Try.underlying23 rfl) ?_ -- d30
    refine WH.take 11 rfl rfl (Val.move rfl rfl) ?_ -- d31
    refine WH.take 12 rfl rfl (Val.subt rfl rfl rfl ((m.length - 1 - k : Nat) : Int) (i64_eq (by omega) (by omega))) ?_ -- d32
    refine WH.take 13 rfl rfl (Val.indexAddr rfl ty23 rfl rfl (by omega) (by omega)) ?_ -- d33
    refine WH.take 14 rfl rfl (Val.load rfl ty23.plain rfl (fun _ hw => below_cell hw hce')) ?_ -- d34
    refine WH.step 7 rfl ?_ -- d27
    refine WL.call bodied62 rfl rfl (low62 _ _ (by have := hsl _ (List.getElem_mem hi); omega)) ?_
    rintro _ w2 ⟨rfl, hb2⟩
    have hb2' : Below w.heap.size w w2 := hb.drew.trans (hb2.mono (by simp; omega))
    refine WH.back hb2' ?_
    refine WH.step 15 rfl ?_ -- d35
    refine WL.call bodied62 rfl rfl (low62 _ _ (by have := hsm _ (List.getElem_mem hi'); omega)) ?_
    rintro _ w3 ⟨rfl, hb3⟩
    have hb3' : Below w.heap.size w w3 := hb2'.trans (hb3.mono (by have := hb2.size; simp at this; omega))
    refine WH.back hb3' ?_
    refine WH.take 16 rfl rfl (Val.assign rfl rfl) ?_ -- d6
    refine WH.take 17 rfl rfl (Val.assign rfl rfl) ?_ -- d7
    refine WH.done ?_
    refine Ends.next ?_
    refine CW.seq ?_
    refine CW.seq ?_
    refine CW.region ?_
    refine WL.v (Val.move rfl rfl) ?_ -- d36
    refine WL.v (Val.move rfl rfl) ?_ -- d37
    refine WL.v (Val.lssS rfl rfl rfl) ?_ -- d38
    refine WL.nil ?_
    refine Ends.next ?_
    refine CW.cond rfl (fun hc1 => ?_) (fun hc1 => ?_)
    · -- yes
      have hlss : Op.bytesLess (bytes (lowS l[l.length - 1 - k])) (bytes (lowS m[m.length - 1 - k])) = true := hc1
      rw [less_cmp, decide_eq_true_eq] at hlss
      rw [hlss, if_neg (by decide)] at heq
      refine CW.seq ?_
      refine CW.region ?_
      refine WL.v (Val.assign rfl rfl) ?_ -- d4
      refine WL.nil ?_
      refine Ends.next ?_
      refine CW.ret ?_
      refine Ends.seqr ?_
      refine Ends.blkr ?_
      refine Ends.seqr ?_
      refine Ends.seqr ?_
      refine Ends.blkr ?_
      refine Ends.seqr ?_
      exact Ends.ret1 rfl rfl ⟨by rw [heq], hb3'⟩
    · -- no
      have hlss : Op.bytesLess (bytes (lowS l[l.length - 1 - k])) (bytes (lowS m[m.length - 1 - k])) = false := hc1
      rw [less_cmp, decide_eq_false_iff_not] at hlss
      refine CW.skip ?_
      refine Ends.next ?_
      refine CW.seq ?_
      refine CW.region ?_
      refine WL.v (Val.move rfl rfl) ?_ -- d39
      refine WL.v (Val.move rfl rfl) ?_ -- d40
      refine WL.v (Val.gtrS rfl rfl rfl) ?_ -- d41
      refine WL.nil ?_
      refine Ends.next ?_
      refine CW.cond rfl (fun hc2 => ?_) (fun hc2 => ?_)
      · -- yes
        have hne : lowS l[l.length - 1 - k] ≠ lowS m[m.length - 1 - k] := by
          simp only [Bool.not_eq_true', Bool.or_eq_false_iff, decide_eq_false_iff_not] at hc2
          exact hc2.2
        have h1 : cmpB (bytes (lowS l[l.length - 1 - k])) (bytes (lowS m[m.length - 1 - k])) = 1 := by
          rcases cmpB_val (bytes (lowS l[l.length - 1 - k])) (bytes (lowS m[m.length - 1 - k])) with h1 | h1 | h1
          · exact absurd h1 hlss
          · exact absurd (bytes_inj (cmpB_eq h1)) hne
          · exact h1
        rw [h1, if_neg (by decide)] at heq
        refine CW.seq ?_
        refine CW.region ?_
        refine WL.v (Val.assign rfl rfl) ?_ -- d4
        refine WL.nil ?_
        refine Ends.next ?_
        refine CW.ret ?_
        refine Ends.blkr ?_
        refine Ends.seqr ?_
        refine Ends.seqr ?_
        refine Ends.blkr ?_
        refine Ends.seqr ?_
        exact Ends.ret1 rfl rfl ⟨by rw [heq], hb3'⟩
      · -- no
        have h0 : lowS l[l.length - 1 - k] = lowS m[m.length - 1 - k] := by
          have hl' : Op.bytesLess (lowS l[l.length - 1 - k]).data.toList (lowS m[m.length - 1 - k]).data.toList = false := hc1
          rw [hl'] at hc2
          simpa using hc2
        rw [h0, cmpB_refl, if_pos rfl] at heq
        refine CW.skip ?_
        refine Ends.blkn ?_
        refine Ends.next ?_
        refine CW.region ?_
        refine WL.v (Val.move rfl rfl) ?_ -- d18
        refine WL.v (Val.add rfl rfl rfl _ (IntWalk.i64_in _ (by omega))) ?_ -- d19
        refine WL.v (Val.assign rfl rfl) ?_ -- d5
        refine WL.nil ?_
        exact Ends.round (k + 1) (by omega) ⟨rfl, rfl, rfl, trivial⟩ ⟨by omega, heq, hb3'⟩
  · -- no
    have hkm : k = min l.length m.length := by simp only [Bool.and_eq_false_iff, decide_eq_false_iff_not] at hc0; omega
    rw [cmpR_end l m k hkm] at heq
    refine CW.exit ?_
    refine Ends.seqx ?_
    refine Ends.seqx ?_
    refine Ends.blke ?_
    refine Ends.next ?_
    refine CW.seq ?_
    refine CW.block ?_
    refine CW.seq ?_
    refine CW.region ?_
    refine WL.v (Val.move rfl rfl) ?_ -- d43
    refine WL.v (Val.lenSl rfl Try.underlying23 rfl) ?_ -- d44
    refine WL.v (Val.move rfl rfl) ?_ -- d45
    refine WL.v (Val.lenSl rfl Try.underlying23 rfl) ?_ -- d46
    refine WL.v (Val.lss rfl rfl rfl) ?_ -- d47
    refine WL.v (Val.assign rfl rfl) ?_ -- d42
    refine WL.nil ?_
    refine Ends.next ?_
    refine CW.condD rfl (fun hc3 => ?_) (fun hc3 => ?_)
    · -- yes
      refine CW.seq ?_
      refine CW.region ?_
      refine WL.v (Val.assign rfl rfl) ?_ -- d4
      refine WL.nil ?_
      refine Ends.next ?_
      refine CW.ret ?_
      refine Ends.blkr ?_
      refine Ends.seqr ?_
      exact Ends.ret1 rfl rfl ⟨by rw [heq, if_pos (by omega)], hb⟩
    · -- no
      refine CW.seq ?_
      refine CW.region ?_
      refine WL.v (Val.move rfl rfl) ?_ -- d49
      refine WL.v (Val.lenSl rfl Try.underlying23 rfl) ?_ -- d50
      refine WL.v (Val.move rfl rfl) ?_ -- d51
      refine WL.v (Val.lenSl rfl Try.underlying23 rfl) ?_ -- d52
      refine WL.v (Val.gtr rfl rfl rfl) ?_ -- d53
      refine WL.v (Val.assign rfl rfl) ?_ -- d48
      refine WL.nil ?_
      refine Ends.next ?_
      refine CW.condD rfl (fun hc4 => ?_) (fun hc4 => ?_)
      · -- yes
        refine CW.seq ?_
        refine CW.region ?_
        refine WL.v (Val.assign rfl rfl) ?_ -- d4
        refine WL.nil ?_
        refine Ends.next ?_
        refine CW.ret ?_
        refine Ends.blkr ?_
        refine Ends.seqr ?_
        exact Ends.ret1 rfl rfl ⟨by rw [heq, if_neg (by omega), if_pos (by omega)], hb⟩
      · -- no
        refine CW.skip ?_
        refine Ends.blkn ?_
        refine Ends.next ?_
        refine CW.seq ?_
        refine CW.region ?_
        refine WL.v (Val.assign rfl rfl) ?_ -- d4
        refine WL.nil ?_
        refine Ends.next ?_
        refine CW.ret ?_
        exact Ends.ret1 rfl rfl ⟨by rw [heq, if_neg (by omega), if_neg (by omega)], hb⟩
-- hook not used: draw5
-- signet/signetref3.Same
theorem same48 (v u : Value) (l m : List ByteArray) (w : World) (h : Nm w v l) (h' : Nm w u m) (ol : OkN l) (om : OkN m) :
    Runs Try.prog 48 #[v, u] w fun r w' => r = .bool (decide (l.map lowS = m.map lowS)) ∧ Below w.heap.size w w' := by
  obtain ⟨hl, hsl⟩ := ol
  obtain ⟨hm, hsm⟩ := om
  obtain ⟨A, c, hv, -⟩ := id h
  rw [List.length_map] at hv
  subst hv
  obtain ⟨A', c', hv, -⟩ := id h'
  rw [List.length_map] at hv
  subst hv
  refine enter (N := 28) (args := [_, _]) Try.func48 rfl rfl (Nat.le_of_ble_eq_true rfl) ?_
  refine CW.seq ?_
  refine CW.region ?_
  refine WL.v (Val.assign rfl rfl) ?_ -- d4
  refine WL.nil ?_
  refine Ends.next ?_
  refine CW.seq ?_
  refine CW.seq ?_
  refine CW.region ?_
  refine WL.v (Val.move rfl rfl) ?_ -- d6
  refine WL.v (Val.lenSl rfl Try.underlying23 rfl) ?_ -- d7
  refine WL.v (Val.move rfl rfl) ?_ -- d8
  refine WL.v (Val.lenSl rfl Try.underlying23 rfl) ?_ -- d9
  refine WL.v (Val.neqI rfl rfl rfl) ?_ -- d10
  refine WL.nil ?_
  refine Ends.next ?_
  refine CW.condD rfl (fun hc0 => ?_) (fun hc0 => ?_)
  · -- yes
    have hres : l.map lowS ≠ m.map lowS := fun hh => by have := congrArg List.length hh; simp at this; omega
    refine CW.seq ?_
    refine CW.region ?_
    refine WL.v (Val.assign rfl rfl) ?_ -- d4
    refine WL.nil ?_
    refine Ends.next ?_
    refine CW.ret ?_
    refine Ends.seqr ?_
    exact Ends.ret1 rfl rfl ⟨by rw [decide_eq_false hres], Below.refl _ _⟩
  · -- no
    have hlm : l.length = m.length := by omega
    refine CW.skip ?_
    refine Ends.next ?_
    refine CW.seq ?_
    refine CW.seq ?_
    refine CW.region ?_
    refine WL.v (Val.assign rfl rfl) ?_ -- d5
    refine WL.nil ?_
    refine Ends.next ?_
    refine CW.block ?_
    refine CW.loop (α := Nat) (fun k => [(0, .slice A l.length c), (1, .slice A' m.length c'), (5, .int .i64 k)]) (fun k w1 => k ≤ l.length ∧ (l.take k).map lowS = (m.take k).map lowS ∧ Below w.heap.size w w1) (fun k => l.length - k) 0 ⟨rfl, rfl, rfl, trivial⟩ ⟨Nat.zero_le _, by simp, Below.refl _ _⟩ ?_
    rintro k w1 ⟨hk, heq, hb⟩
    refine CW.seq ?_
    refine CW.seq ?_
    refine CW.region ?_
    refine WL.v (Val.move rfl rfl) ?_ -- d11
    refine WL.v (Val.move rfl rfl) ?_ -- d12
    refine WL.v (Val.lenSl rfl Try.underlying23 rfl) ?_ -- d13
    refine WL.v (Val.lss rfl rfl rfl) ?_ -- d14
    refine WL.nil ?_
    refine Ends.next ?_
    refine CW.condD rfl (fun hc1 => ?_) (fun hc1 => ?_)
    · -- yes
      have hi : k < l.length := by omega
      have hi' : k < m.length := by omega
      obtain ⟨ad, rfl, hce⟩ := h.at_ hi
      obtain ⟨ad', rfl, hce'⟩ := h'.at_ hi'
      have hsz := hb.size
      refine CW.skip ?_
      refine Ends.next ?_
      refine CW.seq ?_
      refine CW.block ?_
      refine CW.seq ?_
      refine CW.draw (Below w.heap.size w) hb.drew ?_
      refine WH.take 0 rfl rfl (Val.move rfl rfl) ?_ -- d17
      refine WH.take 1 rfl rfl (Val.move rfl rfl) ?_ -- d18
      refine WH.take 2 rfl rfl (Val.indexAddr rfl ty23 rfl rfl (by omega) (by omega)) ?_ -- d19
      refine WH.take 3 rfl rfl (Val.load rfl ty23.plain rfl (fun _ hw => below_cell hw hce)) ?_ -- d20
      refine WH.take 5 rfl rfl (Val.move rfl rfl) ?_ -- d22
      refine WH.take 6 rfl rfl (Val.move rfl rfl) ?_ -- d23
      refine WH.take 7 rfl rfl (Val.indexAddr rfl ty23 rfl rfl (by omega) (by omega)) ?_ -- d24
      refine WH.take 8 rfl rfl (Val.load rfl ty23.plain rfl (fun _ hw => below_cell hw hce')) ?_ -- d25
      refine WH.step 4 rfl ?_ -- d21
      refine WL.call bodied62 rfl rfl (low62 _ _ (by have := hsl _ (List.getElem_mem hi); omega)) ?_
      rintro _ w2 ⟨rfl, hb2⟩
      have hb2' : Below w.heap.size w w2 := hb.drew.trans (hb2.mono (by simp; omega))
      refine WH.back hb2' ?_
      refine WH.step 9 rfl ?_ -- d26
      refine WL.call bodied62 rfl rfl (low62 _ _ (by have := hsm _ (List.getElem_mem hi'); omega)) ?_
      rintro _ w3 ⟨rfl, hb3⟩
      have hb3' : Below w.heap.size w w3 := hb2'.trans (hb3.mono (by have := hb2.size; simp at this; omega))
      refine WH.back hb3' ?_
      refine WH.take 10 rfl rfl (Val.neqS rfl rfl rfl) ?_ -- d27
      refine WH.done ?_
      refine Ends.next ?_
      refine CW.condD rfl (fun hc2 => ?_) (fun hc2 => ?_)
      · -- yes
        have hres : l.map lowS ≠ m.map lowS := fun hh => by
          have h1 : (l.map lowS)[k]? = (m.map lowS)[k]? := by rw [hh]
          simp [hi, hi'] at h1
          exact hc2 h1
        refine CW.seq ?_
        refine CW.region ?_
        refine WL.v (Val.assign rfl rfl) ?_ -- d4
        refine WL.nil ?_
        refine Ends.next ?_
        refine CW.ret ?_
        refine Ends.blkr ?_
        refine Ends.seqr ?_
        refine Ends.seqr ?_
        refine Ends.blkr ?_
        refine Ends.seqr ?_
        exact Ends.ret1 rfl rfl ⟨by rw [decide_eq_false hres], hb3'⟩
      · -- no
        have hke := Decidable.not_not.1 hc2
        refine CW.skip ?_
        refine Ends.blkn ?_
        refine Ends.next ?_
        refine CW.region ?_
        refine WL.v (Val.move rfl rfl) ?_ -- d15
        refine WL.v (Val.add rfl rfl rfl _ (IntWalk.i64_in _ (by omega))) ?_ -- d16
        refine WL.v (Val.assign rfl rfl) ?_ -- d5
        refine WL.nil ?_
        exact Ends.round (k + 1) (by omega) ⟨rfl, rfl, rfl, trivial⟩ ⟨hi, by rw [List.take_succ_eq_append_getElem hi, List.take_succ_eq_append_getElem hi', List.map_append, List.map_append, heq]; simpa using hke, hb3'⟩
    · -- no
      have hkl : k = l.length := by omega
      have hres : l.map lowS = m.map lowS := by rw [hkl, List.take_length, hlm, List.take_length] at heq; exact heq
      refine CW.exit ?_
      refine Ends.seqx ?_
      refine Ends.seqx ?_
      refine Ends.blke ?_
      refine Ends.next ?_
      refine CW.seq ?_
      refine CW.region ?_
      refine WL.v (Val.assign rfl rfl) ?_ -- d4
      refine WL.nil ?_
      refine Ends.next ?_
      refine CW.ret ?_
      exact Ends.ret1 rfl rfl ⟨by rw [decide_eq_true hres], hb⟩
end Go.Proofs.Ytjdgckamjgldmaa
